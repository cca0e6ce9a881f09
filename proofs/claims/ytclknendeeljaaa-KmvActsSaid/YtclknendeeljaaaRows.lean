/-
  No cell of these rows narrows 'for every input' (looked for: loops, veiled, ifaces, maps, wideKeys, modest, calm, conditions, laid).
  DERIVED. THE GIVEN ROWS OF THIS SEAT. 9 by the template 'for every input the law returns true; each argument reads behind the call as it read before'; 0 by the template 'total and deterministic' (their statements: YtclknendeeljaaaTotals.lean).
  GIVEN WITH THE SEED: the statements are not yours to turn. If you find one false, say at which input.
  Laid BY PROGRAM, IN A SANDBOX (cutbox-rows.mjs): the forced cells as the released guide's own fill.sh prints them over the translation 1a61e1877aed0f85… (all of the seat's roots in one cut). By AI agents, Wed Nov 11 2026. No macro, syntax, notation, axiom, sorry.
-/
import Derived.Test.YtclknendeeljaaaChecked
import GoSem.Claim
import GoSem.ClaimJoined
import GoSem.ClaimMapViews
import Derived.JoinedTies
import Derived.KernelRfl
namespace Go.Proofs.Ytclknendeeljaaa
/- THE CELL 'sum', in the pinned program and in every row, IS THE sha256 OF THE DUMP (.gsa) THAT YtclknendeeljaaaProg.lean LOADS. Nothing in Lean hashes anything: it is a label: what it is worth is what the hold of that sum in a sandbox is worth. -/
noncomputable def Try.pinned : Pinned := { name := "ytclknendeeljaaa", sum := "1a61e1877aed0f85be3e74c9af3d07d55905caf098d149fcc1ba4277a53e776d", checked := Try.checked }
namespace Rows
def none {H : Type} : Left H := { results := [], args := [] }

/-- 'taluslaw06.KmvFew': WHATEVER THE INPUT: true; the input reads as it did. -/
def kmvFewSpec : ChangeSpec := { name := "kmvFew", fn := fun _ => fun
  | [d1, d2] => { results := [.lit (.bool true)], args := [d1, d2] }
  | _ => none }
def kmvFewRow : OpenClaim := { program := "ytclknendeeljaaa", sum := "1a61e1877aed0f85be3e74c9af3d07d55905caf098d149fcc1ba4277a53e776d", func := "talus/taluslaw06.KmvFew", spec := "kmvFew", inPlace := ["slices.overlaps[uint64]"], unfollowed := true, recurses := true, named := ["math/bits.divideError", "math/bits.overflowError"], apart := false }
def KmvFewSaid : Prop := kmvFewRow.holds Try.pinned (OpenSpec.ofChange kmvFewSpec)

/-- ITS FALSE NEIGHBOUR: 'it returns false'. Refute it at one input. -/
def kmvFewWrong : ChangeSpec := { name := "kmvFew", fn := fun _ => fun
  | [d1, d2] => { results := [.lit (.bool false)], args := [d1, d2] }
  | _ => none }
def KmvFewWrongFalsely : Prop := kmvFewRow.holds Try.pinned (OpenSpec.ofChange kmvFewWrong)

/-- 'taluslaw06.KmvOrder': WHATEVER THE INPUT: true; the input reads as it did. -/
def kmvOrderSpec : ChangeSpec := { name := "kmvOrder", fn := fun _ => fun
  | [d1, d2, d3] => { results := [.lit (.bool true)], args := [d1, d2, d3] }
  | _ => none }
def kmvOrderRow : OpenClaim := { program := "ytclknendeeljaaa", sum := "1a61e1877aed0f85be3e74c9af3d07d55905caf098d149fcc1ba4277a53e776d", func := "talus/taluslaw06.KmvOrder", spec := "kmvOrder", inPlace := ["slices.overlaps[uint64]"], unfollowed := true, recurses := true, named := ["math/bits.divideError", "math/bits.overflowError"], apart := false }
def KmvOrderSaid : Prop := kmvOrderRow.holds Try.pinned (OpenSpec.ofChange kmvOrderSpec)

/-- ITS FALSE NEIGHBOUR: 'it returns false'. Refute it at one input. -/
def kmvOrderWrong : ChangeSpec := { name := "kmvOrder", fn := fun _ => fun
  | [d1, d2, d3] => { results := [.lit (.bool false)], args := [d1, d2, d3] }
  | _ => none }
def KmvOrderWrongFalsely : Prop := kmvOrderRow.holds Try.pinned (OpenSpec.ofChange kmvOrderWrong)

/-- 'taluslaw06.KmvActs': WHATEVER THE INPUT: true; the input reads as it did. -/
def kmvActsSpec : ChangeSpec := { name := "kmvActs", fn := fun _ => fun
  | [d1, d2] => { results := [.lit (.bool true)], args := [d1, d2] }
  | _ => none }
def kmvActsRow : OpenClaim := { program := "ytclknendeeljaaa", sum := "1a61e1877aed0f85be3e74c9af3d07d55905caf098d149fcc1ba4277a53e776d", func := "talus/taluslaw06.KmvActs", spec := "kmvActs", inPlace := ["slices.overlaps[uint64]"], unfollowed := true, recurses := true, named := ["math/bits.divideError", "math/bits.overflowError"], apart := false }
def KmvActsSaid : Prop := kmvActsRow.holds Try.pinned (OpenSpec.ofChange kmvActsSpec)

/-- ITS FALSE NEIGHBOUR: 'it returns false'. Refute it at one input. -/
def kmvActsWrong : ChangeSpec := { name := "kmvActs", fn := fun _ => fun
  | [d1, d2] => { results := [.lit (.bool false)], args := [d1, d2] }
  | _ => none }
def KmvActsWrongFalsely : Prop := kmvActsRow.holds Try.pinned (OpenSpec.ofChange kmvActsWrong)

/-- 'taluslaw06.KmvNone': WHATEVER THE INPUT: true; the input reads as it did. -/
def kmvNoneSpec : ChangeSpec := { name := "kmvNone", fn := fun _ => fun
  | [d1, d2] => { results := [.lit (.bool true)], args := [d1, d2] }
  | _ => none }
def kmvNoneRow : OpenClaim := { program := "ytclknendeeljaaa", sum := "1a61e1877aed0f85be3e74c9af3d07d55905caf098d149fcc1ba4277a53e776d", func := "talus/taluslaw06.KmvNone", spec := "kmvNone", inPlace := ["slices.overlaps[uint64]"], unfollowed := true, recurses := true, named := ["math/bits.divideError", "math/bits.overflowError"], apart := false }
def KmvNoneSaid : Prop := kmvNoneRow.holds Try.pinned (OpenSpec.ofChange kmvNoneSpec)

/-- ITS FALSE NEIGHBOUR: 'it returns false'. Refute it at one input. -/
def kmvNoneWrong : ChangeSpec := { name := "kmvNone", fn := fun _ => fun
  | [d1, d2] => { results := [.lit (.bool false)], args := [d1, d2] }
  | _ => none }
def KmvNoneWrongFalsely : Prop := kmvNoneRow.holds Try.pinned (OpenSpec.ofChange kmvNoneWrong)

/-- 'taluslaw06.KmvMerges': WHATEVER THE INPUT: true; the input reads as it did. -/
def kmvMergesSpec : ChangeSpec := { name := "kmvMerges", fn := fun _ => fun
  | [d1, d2, d3] => { results := [.lit (.bool true)], args := [d1, d2, d3] }
  | _ => none }
def kmvMergesRow : OpenClaim := { program := "ytclknendeeljaaa", sum := "1a61e1877aed0f85be3e74c9af3d07d55905caf098d149fcc1ba4277a53e776d", func := "talus/taluslaw06.KmvMerges", spec := "kmvMerges", inPlace := ["slices.overlaps[uint64]"], unfollowed := true, recurses := true, named := ["math/bits.divideError", "math/bits.overflowError"], apart := false }
def KmvMergesSaid : Prop := kmvMergesRow.holds Try.pinned (OpenSpec.ofChange kmvMergesSpec)

/-- ITS FALSE NEIGHBOUR: 'it returns false'. Refute it at one input. -/
def kmvMergesWrong : ChangeSpec := { name := "kmvMerges", fn := fun _ => fun
  | [d1, d2, d3] => { results := [.lit (.bool false)], args := [d1, d2, d3] }
  | _ => none }
def KmvMergesWrongFalsely : Prop := kmvMergesRow.holds Try.pinned (OpenSpec.ofChange kmvMergesWrong)

/-- 'taluslaw06.KmvBack': WHATEVER THE INPUT: true; the input reads as it did. -/
def kmvBackSpec : ChangeSpec := { name := "kmvBack", fn := fun _ => fun
  | [d1, d2, d3] => { results := [.lit (.bool true)], args := [d1, d2, d3] }
  | _ => none }
def kmvBackRow : OpenClaim := { program := "ytclknendeeljaaa", sum := "1a61e1877aed0f85be3e74c9af3d07d55905caf098d149fcc1ba4277a53e776d", func := "talus/taluslaw06.KmvBack", spec := "kmvBack", inPlace := ["slices.overlaps[uint64]"], unfollowed := true, recurses := true, named := ["math/bits.divideError", "math/bits.overflowError"], apart := false }
def KmvBackSaid : Prop := kmvBackRow.holds Try.pinned (OpenSpec.ofChange kmvBackSpec)

/-- ITS FALSE NEIGHBOUR: 'it returns false'. Refute it at one input. -/
def kmvBackWrong : ChangeSpec := { name := "kmvBack", fn := fun _ => fun
  | [d1, d2, d3] => { results := [.lit (.bool false)], args := [d1, d2, d3] }
  | _ => none }
def KmvBackWrongFalsely : Prop := kmvBackRow.holds Try.pinned (OpenSpec.ofChange kmvBackWrong)

/-- 'taluslaw09.ValueCmps': WHATEVER THE INPUT: true; the input reads as it did. -/
def valueCmpsSpec : ChangeSpec := { name := "valueCmps", fn := fun _ => fun
  | [d1, d2, d3] => { results := [.lit (.bool true)], args := [d1, d2, d3] }
  | _ => none }
def valueCmpsRow : OpenClaim := { program := "ytclknendeeljaaa", sum := "1a61e1877aed0f85be3e74c9af3d07d55905caf098d149fcc1ba4277a53e776d", func := "talus/taluslaw09.ValueCmps", spec := "valueCmps", inPlace := ["math.Float64frombits", "internal/bytealg.abigen_runtime_cmpstring"], unfollowed := true, recurses := true, apart := false }
def ValueCmpsSaid : Prop := valueCmpsRow.holds Try.pinned (OpenSpec.ofChange valueCmpsSpec)

/-- ITS FALSE NEIGHBOUR: 'it returns false'. Refute it at one input. -/
def valueCmpsWrong : ChangeSpec := { name := "valueCmps", fn := fun _ => fun
  | [d1, d2, d3] => { results := [.lit (.bool false)], args := [d1, d2, d3] }
  | _ => none }
def ValueCmpsWrongFalsely : Prop := valueCmpsRow.holds Try.pinned (OpenSpec.ofChange valueCmpsWrong)

/-- 'taluslaw09.ValueLogic': WHATEVER THE INPUT: true; the input reads as it did. -/
def valueLogicSpec : ChangeSpec := { name := "valueLogic", fn := fun _ => fun
  | [d1, d2] => { results := [.lit (.bool true)], args := [d1, d2] }
  | _ => none }
def valueLogicRow : OpenClaim := { program := "ytclknendeeljaaa", sum := "1a61e1877aed0f85be3e74c9af3d07d55905caf098d149fcc1ba4277a53e776d", func := "talus/taluslaw09.ValueLogic", spec := "valueLogic", inPlace := ["math.Float64frombits", "internal/bytealg.abigen_runtime_cmpstring"], unfollowed := true, recurses := true, apart := false }
def ValueLogicSaid : Prop := valueLogicRow.holds Try.pinned (OpenSpec.ofChange valueLogicSpec)

/-- ITS FALSE NEIGHBOUR: 'it returns false'. Refute it at one input. -/
def valueLogicWrong : ChangeSpec := { name := "valueLogic", fn := fun _ => fun
  | [d1, d2] => { results := [.lit (.bool false)], args := [d1, d2] }
  | _ => none }
def ValueLogicWrongFalsely : Prop := valueLogicRow.holds Try.pinned (OpenSpec.ofChange valueLogicWrong)

/-- 'taluslaw09.ValueBytes': WHATEVER THE INPUT: true; the input reads as it did. -/
def valueBytesSpec : ChangeSpec := { name := "valueBytes", fn := fun _ => fun
  | [d1, d2] => { results := [.lit (.bool true)], args := [d1, d2] }
  | _ => none }
def valueBytesRow : OpenClaim := { program := "ytclknendeeljaaa", sum := "1a61e1877aed0f85be3e74c9af3d07d55905caf098d149fcc1ba4277a53e776d", func := "talus/taluslaw09.ValueBytes", spec := "valueBytes", inPlace := ["math.Float64frombits", "internal/bytealg.abigen_runtime_cmpstring"], unfollowed := true, recurses := true, apart := false }
def ValueBytesSaid : Prop := valueBytesRow.holds Try.pinned (OpenSpec.ofChange valueBytesSpec)

/-- ITS FALSE NEIGHBOUR: 'it returns false'. Refute it at one input. -/
def valueBytesWrong : ChangeSpec := { name := "valueBytes", fn := fun _ => fun
  | [d1, d2] => { results := [.lit (.bool false)], args := [d1, d2] }
  | _ => none }
def ValueBytesWrongFalsely : Prop := valueBytesRow.holds Try.pinned (OpenSpec.ofChange valueBytesWrong)

/- THE SECOND FORM. 'bulk': how many values and letters a reading holds, each counted each time it is reached (what is shared counts as often as it is met; a slice's spare places count too). A statement '..UptoSaid' is the law's where the arguments, and the package variables that the reading takes, are together of bulk at most 1048576: NARROWER than '..Said'. Prove '..Said' where nothing that the law and all that it calls make is longer than what came in: it says more and counts as full. Else prove '..UptoSaid'. A law counts once. -/
mutual
def uptoBulk {H : Type} : DataW H → Nat
  | .lit (.string bytes) => bytes.length + 1
  | .lit _ => 1
  | .nil => 1
  | .ptr d => uptoBulk d + 1
  | .slice elems spare => uptoBulkAll elems + uptoBulkAll spare + 1
  | .agg parts => uptoBulkAll parts + 1
  | .iface _ d => uptoBulk d + 1
  | .map entries => uptoBulkEntries entries + 1
  | .held _ => 1
def uptoBulkAll {H : Type} : List (DataW H) → Nat
  | [] => 0
  | d :: r => uptoBulk d + uptoBulkAll r
def uptoBulkEntries {H : Type} : List (Lit × DataW H) → Nat
  | [] => 0
  | x :: r => uptoBulkEntry x + uptoBulkEntries r
def uptoBulkEntry {H : Type} : Lit × DataW H → Nat
  | (.string bytes, d) => bytes.length + uptoBulk d + 1
  | (_, d) => uptoBulk d + 1
 end
def uptoSmall : (H : Type) → List (DataW H) → Bool := fun _ ds => decide (uptoBulkAll ds ≤ 1048576)
def OpenSpec.upto (s : _root_.Go.ChangeSpec) : _root_.Go.OpenSpec := { _root_.Go.OpenSpec.ofChange s with cond := some uptoSmall }

/-- 'taluslaw06.KmvFew', WHERE WHAT IT READS IS OF BULK AT MOST 1048576: true; the input reads as it did. -/
def kmvFewUptoRow : OpenClaim := { program := "ytclknendeeljaaa", sum := "1a61e1877aed0f85be3e74c9af3d07d55905caf098d149fcc1ba4277a53e776d", func := "talus/taluslaw06.KmvFew", spec := "kmvFew", inPlace := ["slices.overlaps[uint64]"], unfollowed := true, recurses := true, named := ["math/bits.divideError", "math/bits.overflowError"], apart := false, narrowed := true }
def KmvFewUptoSaid : Prop := kmvFewUptoRow.holds Try.pinned (OpenSpec.upto kmvFewSpec)

/-- 'taluslaw06.KmvOrder', WHERE WHAT IT READS IS OF BULK AT MOST 1048576: true; the input reads as it did. -/
def kmvOrderUptoRow : OpenClaim := { program := "ytclknendeeljaaa", sum := "1a61e1877aed0f85be3e74c9af3d07d55905caf098d149fcc1ba4277a53e776d", func := "talus/taluslaw06.KmvOrder", spec := "kmvOrder", inPlace := ["slices.overlaps[uint64]"], unfollowed := true, recurses := true, named := ["math/bits.divideError", "math/bits.overflowError"], apart := false, narrowed := true }
def KmvOrderUptoSaid : Prop := kmvOrderUptoRow.holds Try.pinned (OpenSpec.upto kmvOrderSpec)

/-- 'taluslaw06.KmvActs', WHERE WHAT IT READS IS OF BULK AT MOST 1048576: true; the input reads as it did. -/
def kmvActsUptoRow : OpenClaim := { program := "ytclknendeeljaaa", sum := "1a61e1877aed0f85be3e74c9af3d07d55905caf098d149fcc1ba4277a53e776d", func := "talus/taluslaw06.KmvActs", spec := "kmvActs", inPlace := ["slices.overlaps[uint64]"], unfollowed := true, recurses := true, named := ["math/bits.divideError", "math/bits.overflowError"], apart := false, narrowed := true }
def KmvActsUptoSaid : Prop := kmvActsUptoRow.holds Try.pinned (OpenSpec.upto kmvActsSpec)

/-- 'taluslaw06.KmvNone', WHERE WHAT IT READS IS OF BULK AT MOST 1048576: true; the input reads as it did. -/
def kmvNoneUptoRow : OpenClaim := { program := "ytclknendeeljaaa", sum := "1a61e1877aed0f85be3e74c9af3d07d55905caf098d149fcc1ba4277a53e776d", func := "talus/taluslaw06.KmvNone", spec := "kmvNone", inPlace := ["slices.overlaps[uint64]"], unfollowed := true, recurses := true, named := ["math/bits.divideError", "math/bits.overflowError"], apart := false, narrowed := true }
def KmvNoneUptoSaid : Prop := kmvNoneUptoRow.holds Try.pinned (OpenSpec.upto kmvNoneSpec)

/-- 'taluslaw06.KmvMerges', WHERE WHAT IT READS IS OF BULK AT MOST 1048576: true; the input reads as it did. -/
def kmvMergesUptoRow : OpenClaim := { program := "ytclknendeeljaaa", sum := "1a61e1877aed0f85be3e74c9af3d07d55905caf098d149fcc1ba4277a53e776d", func := "talus/taluslaw06.KmvMerges", spec := "kmvMerges", inPlace := ["slices.overlaps[uint64]"], unfollowed := true, recurses := true, named := ["math/bits.divideError", "math/bits.overflowError"], apart := false, narrowed := true }
def KmvMergesUptoSaid : Prop := kmvMergesUptoRow.holds Try.pinned (OpenSpec.upto kmvMergesSpec)

/-- 'taluslaw06.KmvBack', WHERE WHAT IT READS IS OF BULK AT MOST 1048576: true; the input reads as it did. -/
def kmvBackUptoRow : OpenClaim := { program := "ytclknendeeljaaa", sum := "1a61e1877aed0f85be3e74c9af3d07d55905caf098d149fcc1ba4277a53e776d", func := "talus/taluslaw06.KmvBack", spec := "kmvBack", inPlace := ["slices.overlaps[uint64]"], unfollowed := true, recurses := true, named := ["math/bits.divideError", "math/bits.overflowError"], apart := false, narrowed := true }
def KmvBackUptoSaid : Prop := kmvBackUptoRow.holds Try.pinned (OpenSpec.upto kmvBackSpec)

/-- 'taluslaw09.ValueCmps', WHERE WHAT IT READS IS OF BULK AT MOST 1048576: true; the input reads as it did. -/
def valueCmpsUptoRow : OpenClaim := { program := "ytclknendeeljaaa", sum := "1a61e1877aed0f85be3e74c9af3d07d55905caf098d149fcc1ba4277a53e776d", func := "talus/taluslaw09.ValueCmps", spec := "valueCmps", inPlace := ["math.Float64frombits", "internal/bytealg.abigen_runtime_cmpstring"], unfollowed := true, recurses := true, apart := false, narrowed := true }
def ValueCmpsUptoSaid : Prop := valueCmpsUptoRow.holds Try.pinned (OpenSpec.upto valueCmpsSpec)

/-- 'taluslaw09.ValueLogic', WHERE WHAT IT READS IS OF BULK AT MOST 1048576: true; the input reads as it did. -/
def valueLogicUptoRow : OpenClaim := { program := "ytclknendeeljaaa", sum := "1a61e1877aed0f85be3e74c9af3d07d55905caf098d149fcc1ba4277a53e776d", func := "talus/taluslaw09.ValueLogic", spec := "valueLogic", inPlace := ["math.Float64frombits", "internal/bytealg.abigen_runtime_cmpstring"], unfollowed := true, recurses := true, apart := false, narrowed := true }
def ValueLogicUptoSaid : Prop := valueLogicUptoRow.holds Try.pinned (OpenSpec.upto valueLogicSpec)

/-- 'taluslaw09.ValueBytes', WHERE WHAT IT READS IS OF BULK AT MOST 1048576: true; the input reads as it did. -/
def valueBytesUptoRow : OpenClaim := { program := "ytclknendeeljaaa", sum := "1a61e1877aed0f85be3e74c9af3d07d55905caf098d149fcc1ba4277a53e776d", func := "talus/taluslaw09.ValueBytes", spec := "valueBytes", inPlace := ["math.Float64frombits", "internal/bytealg.abigen_runtime_cmpstring"], unfollowed := true, recurses := true, apart := false, narrowed := true }
def ValueBytesUptoSaid : Prop := valueBytesUptoRow.holds Try.pinned (OpenSpec.upto valueBytesSpec)

end Rows
end Go.Proofs.Ytclknendeeljaaa
