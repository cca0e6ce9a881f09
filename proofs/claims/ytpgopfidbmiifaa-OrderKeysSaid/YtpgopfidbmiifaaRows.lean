/-
  No cell of these rows narrows 'for every input' (looked for: loops, veiled, ifaces, maps, wideKeys, modest, calm, conditions, laid).
  DERIVED. THE GIVEN ROWS OF THIS SEAT. 5 by the template 'for every input the law returns true; each argument reads behind the call as it read before'; 0 by the template 'total and deterministic' (their statements: YtpgopfidbmiifaaTotals.lean).
  GIVEN WITH THE SEED: the statements are not yours to turn. If you find one false, say at which input.
  Laid BY PROGRAM, IN A SANDBOX (cutbox-rows.mjs): the forced cells as the released guide's own fill.sh prints them over the translation a818d6a88f8a45f8… (all of the seat's roots in one cut). By AI agents, Wed Nov 11 2026. No macro, syntax, notation, axiom, sorry.
-/
import Derived.Test.YtpgopfidbmiifaaChecked
import GoSem.Claim
import GoSem.ClaimJoined
import GoSem.ClaimMapViews
import Derived.JoinedTies
import Derived.KernelRfl
namespace Go.Proofs.Ytpgopfidbmiifaa
/- THE CELL 'sum', in the pinned program and in every row, IS THE sha256 OF THE DUMP (.gsa) THAT YtpgopfidbmiifaaProg.lean LOADS. Nothing in Lean hashes anything: it is a label: what it is worth is what the hold of that sum in a sandbox is worth. -/
noncomputable def Try.pinned : Pinned := { name := "ytpgopfidbmiifaa", sum := "a818d6a88f8a45f884ab6a81d6497e068e5116a45beca56c3551204716c27306", checked := Try.checked }
namespace Rows
def none {H : Type} : Left H := { results := [], args := [] }

/-- 'taluslaw05.OrderFloats': WHATEVER THE INPUT: true; the input reads as it did. -/
def orderFloatsSpec : ChangeSpec := { name := "orderFloats", fn := fun _ => fun
  | [d1, d2] => { results := [.lit (.bool true)], args := [d1, d2] }
  | _ => none }
def orderFloatsRow : OpenClaim := { program := "ytpgopfidbmiifaa", sum := "a818d6a88f8a45f884ab6a81d6497e068e5116a45beca56c3551204716c27306", func := "talus/taluslaw05.OrderFloats", spec := "orderFloats", inPlace := ["math.Float64frombits", "math.Float64bits"], apart := false }
def OrderFloatsSaid : Prop := orderFloatsRow.holds Try.pinned (OpenSpec.ofChange orderFloatsSpec)

/-- ITS FALSE NEIGHBOUR: 'it returns false'. Refute it at one input. -/
def orderFloatsWrong : ChangeSpec := { name := "orderFloats", fn := fun _ => fun
  | [d1, d2] => { results := [.lit (.bool false)], args := [d1, d2] }
  | _ => none }
def OrderFloatsWrongFalsely : Prop := orderFloatsRow.holds Try.pinned (OpenSpec.ofChange orderFloatsWrong)

/-- 'taluslaw05.OrderTells': WHATEVER THE INPUT: true; the input reads as it did. -/
def orderTellsSpec : ChangeSpec := { name := "orderTells", fn := fun _ => fun
  | [d1, d2] => { results := [.lit (.bool true)], args := [d1, d2] }
  | _ => none }
def orderTellsRow : OpenClaim := { program := "ytpgopfidbmiifaa", sum := "a818d6a88f8a45f884ab6a81d6497e068e5116a45beca56c3551204716c27306", func := "talus/taluslaw05.OrderTells", spec := "orderTells", inPlace := ["math.Float64frombits", "math.Float64bits"], apart := false }
def OrderTellsSaid : Prop := orderTellsRow.holds Try.pinned (OpenSpec.ofChange orderTellsSpec)

/-- ITS FALSE NEIGHBOUR: 'it returns false'. Refute it at one input. -/
def orderTellsWrong : ChangeSpec := { name := "orderTells", fn := fun _ => fun
  | [d1, d2] => { results := [.lit (.bool false)], args := [d1, d2] }
  | _ => none }
def OrderTellsWrongFalsely : Prop := orderTellsRow.holds Try.pinned (OpenSpec.ofChange orderTellsWrong)

/-- 'taluslaw05.OrderSteps': WHATEVER THE INPUT: true; the input reads as it did. -/
def orderStepsSpec : ChangeSpec := { name := "orderSteps", fn := fun _ => fun
  | [d] => { results := [.lit (.bool true)], args := [d] }
  | _ => none }
def orderStepsRow : OpenClaim := { program := "ytpgopfidbmiifaa", sum := "a818d6a88f8a45f884ab6a81d6497e068e5116a45beca56c3551204716c27306", func := "talus/taluslaw05.OrderSteps", spec := "orderSteps", inPlace := ["math.Float64frombits", "math.Float64bits"], apart := false }
def OrderStepsSaid : Prop := orderStepsRow.holds Try.pinned (OpenSpec.ofChange orderStepsSpec)

/-- ITS FALSE NEIGHBOUR: 'it returns false'. Refute it at one input. -/
def orderStepsWrong : ChangeSpec := { name := "orderSteps", fn := fun _ => fun
  | [d] => { results := [.lit (.bool false)], args := [d] }
  | _ => none }
def OrderStepsWrongFalsely : Prop := orderStepsRow.holds Try.pinned (OpenSpec.ofChange orderStepsWrong)

/-- 'taluslaw05.OrderBacks': WHATEVER THE INPUT: true; the input reads as it did. -/
def orderBacksSpec : ChangeSpec := { name := "orderBacks", fn := fun _ => fun
  | [d1, d2] => { results := [.lit (.bool true)], args := [d1, d2] }
  | _ => none }
def orderBacksRow : OpenClaim := { program := "ytpgopfidbmiifaa", sum := "a818d6a88f8a45f884ab6a81d6497e068e5116a45beca56c3551204716c27306", func := "talus/taluslaw05.OrderBacks", spec := "orderBacks", inPlace := ["math.Float64bits", "math.Float64frombits", "internal/bytealg.IndexByteString"], apart := false }
def OrderBacksSaid : Prop := orderBacksRow.holds Try.pinned (OpenSpec.ofChange orderBacksSpec)

/-- ITS FALSE NEIGHBOUR: 'it returns false'. Refute it at one input. -/
def orderBacksWrong : ChangeSpec := { name := "orderBacks", fn := fun _ => fun
  | [d1, d2] => { results := [.lit (.bool false)], args := [d1, d2] }
  | _ => none }
def OrderBacksWrongFalsely : Prop := orderBacksRow.holds Try.pinned (OpenSpec.ofChange orderBacksWrong)

/-- 'taluslaw05.OrderKeys': WHATEVER THE INPUT: true; the input reads as it did. -/
def orderKeysSpec : ChangeSpec := { name := "orderKeys", fn := fun _ => fun
  | [d1, d2] => { results := [.lit (.bool true)], args := [d1, d2] }
  | _ => none }
def orderKeysRow : OpenClaim := { program := "ytpgopfidbmiifaa", sum := "a818d6a88f8a45f884ab6a81d6497e068e5116a45beca56c3551204716c27306", func := "talus/taluslaw05.OrderKeys", spec := "orderKeys", inPlace := ["math.Float64frombits", "math.Float64bits", "internal/bytealg.IndexByteString"], apart := false }
def OrderKeysSaid : Prop := orderKeysRow.holds Try.pinned (OpenSpec.ofChange orderKeysSpec)

/-- ITS FALSE NEIGHBOUR: 'it returns false'. Refute it at one input. -/
def orderKeysWrong : ChangeSpec := { name := "orderKeys", fn := fun _ => fun
  | [d1, d2] => { results := [.lit (.bool false)], args := [d1, d2] }
  | _ => none }
def OrderKeysWrongFalsely : Prop := orderKeysRow.holds Try.pinned (OpenSpec.ofChange orderKeysWrong)

/- THE SECOND FORM. 'bulk': how many values and letters a reading holds, each counted each time it is reached (what is shared counts as often as it is met; a slice's spare places count too). A statement '..UptoSaid' is the law's where the arguments, and the package variables that the reading takes, are together of bulk at most 1048576: NARROWER than '..Said'. Prove '..Said' where nothing that the law and all that it calls make is longer than what came in: it says more and counts as full. Else prove '..UptoSaid'. A law counts once. -/
mutual
def uptoBulk {H : Type} : DataW H → Nat
  | .lit (.string bytes) => bytes.length + 1
  | .lit _ => 1
  | .nil => 1
  | .ptr d => uptoBulk d + 1
  | .slice elems spare => uptoBulkAll elems + uptoBulkAll spare + 1
  | .agg parts => uptoBulkAll parts + 1
  | .iface _ d => uptoBulk d + 1
  | .map entries => uptoBulkEntries entries + 1
  | .held _ => 1
def uptoBulkAll {H : Type} : List (DataW H) → Nat
  | [] => 0
  | d :: r => uptoBulk d + uptoBulkAll r
def uptoBulkEntries {H : Type} : List (Lit × DataW H) → Nat
  | [] => 0
  | x :: r => uptoBulkEntry x + uptoBulkEntries r
def uptoBulkEntry {H : Type} : Lit × DataW H → Nat
  | (.string bytes, d) => bytes.length + uptoBulk d + 1
  | (_, d) => uptoBulk d + 1
 end
def uptoSmall : (H : Type) → List (DataW H) → Bool := fun _ ds => decide (uptoBulkAll ds ≤ 1048576)
def OpenSpec.upto (s : _root_.Go.ChangeSpec) : _root_.Go.OpenSpec := { _root_.Go.OpenSpec.ofChange s with cond := some uptoSmall }

/-- 'taluslaw05.OrderFloats', WHERE WHAT IT READS IS OF BULK AT MOST 1048576: true; the input reads as it did. -/
def orderFloatsUptoRow : OpenClaim := { program := "ytpgopfidbmiifaa", sum := "a818d6a88f8a45f884ab6a81d6497e068e5116a45beca56c3551204716c27306", func := "talus/taluslaw05.OrderFloats", spec := "orderFloats", inPlace := ["math.Float64frombits", "math.Float64bits"], apart := false, narrowed := true }
def OrderFloatsUptoSaid : Prop := orderFloatsUptoRow.holds Try.pinned (OpenSpec.upto orderFloatsSpec)

/-- 'taluslaw05.OrderTells', WHERE WHAT IT READS IS OF BULK AT MOST 1048576: true; the input reads as it did. -/
def orderTellsUptoRow : OpenClaim := { program := "ytpgopfidbmiifaa", sum := "a818d6a88f8a45f884ab6a81d6497e068e5116a45beca56c3551204716c27306", func := "talus/taluslaw05.OrderTells", spec := "orderTells", inPlace := ["math.Float64frombits", "math.Float64bits"], apart := false, narrowed := true }
def OrderTellsUptoSaid : Prop := orderTellsUptoRow.holds Try.pinned (OpenSpec.upto orderTellsSpec)

/-- 'taluslaw05.OrderSteps', WHERE WHAT IT READS IS OF BULK AT MOST 1048576: true; the input reads as it did. -/
def orderStepsUptoRow : OpenClaim := { program := "ytpgopfidbmiifaa", sum := "a818d6a88f8a45f884ab6a81d6497e068e5116a45beca56c3551204716c27306", func := "talus/taluslaw05.OrderSteps", spec := "orderSteps", inPlace := ["math.Float64frombits", "math.Float64bits"], apart := false, narrowed := true }
def OrderStepsUptoSaid : Prop := orderStepsUptoRow.holds Try.pinned (OpenSpec.upto orderStepsSpec)

/-- 'taluslaw05.OrderBacks', WHERE WHAT IT READS IS OF BULK AT MOST 1048576: true; the input reads as it did. -/
def orderBacksUptoRow : OpenClaim := { program := "ytpgopfidbmiifaa", sum := "a818d6a88f8a45f884ab6a81d6497e068e5116a45beca56c3551204716c27306", func := "talus/taluslaw05.OrderBacks", spec := "orderBacks", inPlace := ["math.Float64bits", "math.Float64frombits", "internal/bytealg.IndexByteString"], apart := false, narrowed := true }
def OrderBacksUptoSaid : Prop := orderBacksUptoRow.holds Try.pinned (OpenSpec.upto orderBacksSpec)

/-- 'taluslaw05.OrderKeys', WHERE WHAT IT READS IS OF BULK AT MOST 1048576: true; the input reads as it did. -/
def orderKeysUptoRow : OpenClaim := { program := "ytpgopfidbmiifaa", sum := "a818d6a88f8a45f884ab6a81d6497e068e5116a45beca56c3551204716c27306", func := "talus/taluslaw05.OrderKeys", spec := "orderKeys", inPlace := ["math.Float64frombits", "math.Float64bits", "internal/bytealg.IndexByteString"], apart := false, narrowed := true }
def OrderKeysUptoSaid : Prop := orderKeysUptoRow.holds Try.pinned (OpenSpec.upto orderKeysSpec)

end Rows
end Go.Proofs.Ytpgopfidbmiifaa
