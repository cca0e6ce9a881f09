/-
  No cell of these rows narrows 'for every input' (looked for: loops, veiled, ifaces, maps, wideKeys, modest, calm, conditions, laid).
  DERIVED. THE GIVEN ROWS OF THIS SEAT. 3 by the template 'for every input the law returns true; each argument reads behind the call as it read before'; 0 by the template 'total and deterministic' (their statements: YtdehjgpdcdjhjaaTotals.lean).
  GIVEN WITH THE SEED: the statements are not yours to turn. If you find one false, say at which input.
  Laid BY PROGRAM, IN A SANDBOX (cutbox-rows.mjs): the forced cells as the released guide's own fill.sh prints them over the translation 5b6d804090b2742a… (all of the seat's roots in one cut). By AI agents, Wed Nov 11 2026. No macro, syntax, notation, axiom, sorry.
-/
import Derived.Test.YtdehjgpdcdjhjaaChecked
import GoSem.Claim
import GoSem.ClaimJoined
import GoSem.ClaimMapViews
import Derived.JoinedTies
import Derived.KernelRfl
namespace Go.Proofs.Ytdehjgpdcdjhjaa
/- THE CELL 'sum', in the pinned program and in every row, IS THE sha256 OF THE DUMP (.gsa) THAT YtdehjgpdcdjhjaaProg.lean LOADS. Nothing in Lean hashes anything: it is a label: what it is worth is what the hold of that sum in a sandbox is worth. -/
noncomputable def Try.pinned : Pinned := { name := "ytdehjgpdcdjhjaa", sum := "5b6d804090b2742ad82782ba2dc11ffdb1626193594b34322649e638fa556908", checked := Try.checked }
namespace Rows
def none {H : Type} : Left H := { results := [], args := [] }

/-- 'taluslaw12.SegmentMakes': WHATEVER THE INPUT: true; the input reads as it did. -/
def segmentMakesSpec : ChangeSpec := { name := "segmentMakes", fn := fun _ => fun
  | [d1, d2, d3] => { results := [.lit (.bool true)], args := [d1, d2, d3] }
  | _ => none }
def segmentMakesRow : OpenClaim := { program := "ytdehjgpdcdjhjaa", sum := "5b6d804090b2742ad82782ba2dc11ffdb1626193594b34322649e638fa556908", func := "talus/taluslaw12.SegmentMakes", spec := "segmentMakes", inPlace := ["math.Float64frombits", "internal/bytealg.abigen_runtime_cmpstring"], unfollowed := true, recurses := true, plainKeys := false, apart := false }
def SegmentMakesSaid : Prop := segmentMakesRow.holds Try.pinned (OpenSpec.ofChange segmentMakesSpec)

/-- ITS FALSE NEIGHBOUR: 'it returns false'. Refute it at one input. -/
def segmentMakesWrong : ChangeSpec := { name := "segmentMakes", fn := fun _ => fun
  | [d1, d2, d3] => { results := [.lit (.bool false)], args := [d1, d2, d3] }
  | _ => none }
def SegmentMakesWrongFalsely : Prop := segmentMakesRow.holds Try.pinned (OpenSpec.ofChange segmentMakesWrong)

/-- 'taluslaw12.SegmentAlike': WHATEVER THE INPUT: true; the input reads as it did. -/
def segmentAlikeSpec : ChangeSpec := { name := "segmentAlike", fn := fun _ => fun
  | [d1, d2] => { results := [.lit (.bool true)], args := [d1, d2] }
  | _ => none }
def segmentAlikeRow : OpenClaim := { program := "ytdehjgpdcdjhjaa", sum := "5b6d804090b2742ad82782ba2dc11ffdb1626193594b34322649e638fa556908", func := "talus/taluslaw12.SegmentAlike", spec := "segmentAlike", inPlace := ["math.Float64frombits", "internal/bytealg.abigen_runtime_cmpstring"], unfollowed := true, recurses := true, plainKeys := false, apart := false }
def SegmentAlikeSaid : Prop := segmentAlikeRow.holds Try.pinned (OpenSpec.ofChange segmentAlikeSpec)

/-- ITS FALSE NEIGHBOUR: 'it returns false'. Refute it at one input. -/
def segmentAlikeWrong : ChangeSpec := { name := "segmentAlike", fn := fun _ => fun
  | [d1, d2] => { results := [.lit (.bool false)], args := [d1, d2] }
  | _ => none }
def SegmentAlikeWrongFalsely : Prop := segmentAlikeRow.holds Try.pinned (OpenSpec.ofChange segmentAlikeWrong)

/-- 'taluslaw12.SegmentZones': WHATEVER THE INPUT: true; the input reads as it did. -/
def segmentZonesSpec : ChangeSpec := { name := "segmentZones", fn := fun _ => fun
  | [d1, d2, d3] => { results := [.lit (.bool true)], args := [d1, d2, d3] }
  | _ => none }
def segmentZonesRow : OpenClaim := { program := "ytdehjgpdcdjhjaa", sum := "5b6d804090b2742ad82782ba2dc11ffdb1626193594b34322649e638fa556908", func := "talus/taluslaw12.SegmentZones", spec := "segmentZones", inPlace := ["math.Float64frombits", "internal/bytealg.abigen_runtime_cmpstring"], unfollowed := true, recurses := true, plainKeys := false, apart := false }
def SegmentZonesSaid : Prop := segmentZonesRow.holds Try.pinned (OpenSpec.ofChange segmentZonesSpec)

/-- ITS FALSE NEIGHBOUR: 'it returns false'. Refute it at one input. -/
def segmentZonesWrong : ChangeSpec := { name := "segmentZones", fn := fun _ => fun
  | [d1, d2, d3] => { results := [.lit (.bool false)], args := [d1, d2, d3] }
  | _ => none }
def SegmentZonesWrongFalsely : Prop := segmentZonesRow.holds Try.pinned (OpenSpec.ofChange segmentZonesWrong)

/- THE SECOND FORM. 'bulk': how many values and letters a reading holds, each counted each time it is reached (what is shared counts as often as it is met; a slice's spare places count too). A statement '..UptoSaid' is the law's where the arguments, and the package variables that the reading takes, are together of bulk at most 1048576: NARROWER than '..Said'. Prove '..Said' where nothing that the law and all that it calls make is longer than what came in: it says more and counts as full. Else prove '..UptoSaid'. A law counts once. -/
mutual
def uptoBulk {H : Type} : DataW H → Nat
  | .lit (.string bytes) => bytes.length + 1
  | .lit _ => 1
  | .nil => 1
  | .ptr d => uptoBulk d + 1
  | .slice elems spare => uptoBulkAll elems + uptoBulkAll spare + 1
  | .agg parts => uptoBulkAll parts + 1
  | .iface _ d => uptoBulk d + 1
  | .map entries => uptoBulkEntries entries + 1
  | .held _ => 1
def uptoBulkAll {H : Type} : List (DataW H) → Nat
  | [] => 0
  | d :: r => uptoBulk d + uptoBulkAll r
def uptoBulkEntries {H : Type} : List (Lit × DataW H) → Nat
  | [] => 0
  | x :: r => uptoBulkEntry x + uptoBulkEntries r
def uptoBulkEntry {H : Type} : Lit × DataW H → Nat
  | (.string bytes, d) => bytes.length + uptoBulk d + 1
  | (_, d) => uptoBulk d + 1
 end
def uptoSmall : (H : Type) → List (DataW H) → Bool := fun _ ds => decide (uptoBulkAll ds ≤ 1048576)
def OpenSpec.upto (s : _root_.Go.ChangeSpec) : _root_.Go.OpenSpec := { _root_.Go.OpenSpec.ofChange s with cond := some uptoSmall }

/-- 'taluslaw12.SegmentMakes', WHERE WHAT IT READS IS OF BULK AT MOST 1048576: true; the input reads as it did. -/
def segmentMakesUptoRow : OpenClaim := { program := "ytdehjgpdcdjhjaa", sum := "5b6d804090b2742ad82782ba2dc11ffdb1626193594b34322649e638fa556908", func := "talus/taluslaw12.SegmentMakes", spec := "segmentMakes", inPlace := ["math.Float64frombits", "internal/bytealg.abigen_runtime_cmpstring"], unfollowed := true, recurses := true, plainKeys := false, apart := false, narrowed := true }
def SegmentMakesUptoSaid : Prop := segmentMakesUptoRow.holds Try.pinned (OpenSpec.upto segmentMakesSpec)

/-- 'taluslaw12.SegmentAlike', WHERE WHAT IT READS IS OF BULK AT MOST 1048576: true; the input reads as it did. -/
def segmentAlikeUptoRow : OpenClaim := { program := "ytdehjgpdcdjhjaa", sum := "5b6d804090b2742ad82782ba2dc11ffdb1626193594b34322649e638fa556908", func := "talus/taluslaw12.SegmentAlike", spec := "segmentAlike", inPlace := ["math.Float64frombits", "internal/bytealg.abigen_runtime_cmpstring"], unfollowed := true, recurses := true, plainKeys := false, apart := false, narrowed := true }
def SegmentAlikeUptoSaid : Prop := segmentAlikeUptoRow.holds Try.pinned (OpenSpec.upto segmentAlikeSpec)

/-- 'taluslaw12.SegmentZones', WHERE WHAT IT READS IS OF BULK AT MOST 1048576: true; the input reads as it did. -/
def segmentZonesUptoRow : OpenClaim := { program := "ytdehjgpdcdjhjaa", sum := "5b6d804090b2742ad82782ba2dc11ffdb1626193594b34322649e638fa556908", func := "talus/taluslaw12.SegmentZones", spec := "segmentZones", inPlace := ["math.Float64frombits", "internal/bytealg.abigen_runtime_cmpstring"], unfollowed := true, recurses := true, plainKeys := false, apart := false, narrowed := true }
def SegmentZonesUptoSaid : Prop := segmentZonesUptoRow.holds Try.pinned (OpenSpec.upto segmentZonesSpec)

end Rows
end Go.Proofs.Ytdehjgpdcdjhjaa
