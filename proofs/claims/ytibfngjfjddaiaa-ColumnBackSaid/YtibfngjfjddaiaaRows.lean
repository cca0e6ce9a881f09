/-
  No cell of these rows narrows 'for every input' (looked for: loops, veiled, ifaces, maps, wideKeys, modest, calm, conditions, laid).
  DERIVED. THE GIVEN ROWS OF THIS SEAT. 10 by the template 'for every input the law returns true; each argument reads behind the call as it read before'; 0 by the template 'total and deterministic' (their statements: YtibfngjfjddaiaaTotals.lean).
  GIVEN WITH THE SEED: the statements are not yours to turn. If you find one false, say at which input.
  Laid BY PROGRAM, IN A SANDBOX (cutbox-rows.mjs): the forced cells as the released guide's own fill.sh prints them over the translation 8af4ca64ffb13bf3… (all of the seat's roots in one cut). By AI agents, Wed Nov 11 2026. No macro, syntax, notation, axiom, sorry.
-/
import Derived.Test.YtibfngjfjddaiaaChecked
import GoSem.Claim
import GoSem.ClaimJoined
import GoSem.ClaimMapViews
import Derived.JoinedTies
import Derived.KernelRfl
namespace Go.Proofs.Ytibfngjfjddaiaa
/- THE CELL 'sum', in the pinned program and in every row, IS THE sha256 OF THE DUMP (.gsa) THAT YtibfngjfjddaiaaProg.lean LOADS. Nothing in Lean hashes anything: it is a label: what it is worth is what the hold of that sum in a sandbox is worth. -/
noncomputable def Try.pinned : Pinned := { name := "ytibfngjfjddaiaa", sum := "8af4ca64ffb13bf37dab8133fe78f457c26b58bdf8ab2507e5ff31f22d650dde", checked := Try.checked }
namespace Rows
def none {H : Type} : Left H := { results := [], args := [] }

/-- 'taluslaw10.DictBack': WHATEVER THE INPUT: true; the input reads as it did. -/
def dictBackSpec : ChangeSpec := { name := "dictBack", fn := fun _ => fun
  | [d1, d2] => { results := [.lit (.bool true)], args := [d1, d2] }
  | _ => none }
def dictBackRow : OpenClaim := { program := "ytibfngjfjddaiaa", sum := "8af4ca64ffb13bf37dab8133fe78f457c26b58bdf8ab2507e5ff31f22d650dde", func := "talus/taluslaw10.DictBack", spec := "dictBack", inPlace := ["math.Float64frombits"], plainKeys := false, apart := false }
def DictBackSaid : Prop := dictBackRow.holds Try.pinned (OpenSpec.ofChange dictBackSpec)

/-- ITS FALSE NEIGHBOUR: 'it returns false'. Refute it at one input. -/
def dictBackWrong : ChangeSpec := { name := "dictBack", fn := fun _ => fun
  | [d1, d2] => { results := [.lit (.bool false)], args := [d1, d2] }
  | _ => none }
def DictBackWrongFalsely : Prop := dictBackRow.holds Try.pinned (OpenSpec.ofChange dictBackWrong)

/-- 'taluslaw10.DictRoom': WHATEVER THE INPUT: true; the input reads as it did. -/
def dictRoomSpec : ChangeSpec := { name := "dictRoom", fn := fun _ => fun
  | [d1, d2] => { results := [.lit (.bool true)], args := [d1, d2] }
  | _ => none }
def dictRoomRow : OpenClaim := { program := "ytibfngjfjddaiaa", sum := "8af4ca64ffb13bf37dab8133fe78f457c26b58bdf8ab2507e5ff31f22d650dde", func := "talus/taluslaw10.DictRoom", spec := "dictRoom", inPlace := ["math.Float64frombits"], plainKeys := false, apart := false }
def DictRoomSaid : Prop := dictRoomRow.holds Try.pinned (OpenSpec.ofChange dictRoomSpec)

/-- ITS FALSE NEIGHBOUR: 'it returns false'. Refute it at one input. -/
def dictRoomWrong : ChangeSpec := { name := "dictRoom", fn := fun _ => fun
  | [d1, d2] => { results := [.lit (.bool false)], args := [d1, d2] }
  | _ => none }
def DictRoomWrongFalsely : Prop := dictRoomRow.holds Try.pinned (OpenSpec.ofChange dictRoomWrong)

/-- 'taluslaw10.DictCopies': WHATEVER THE INPUT: true; the input reads as it did. -/
def dictCopiesSpec : ChangeSpec := { name := "dictCopies", fn := fun _ => fun
  | [d1, d2, d3] => { results := [.lit (.bool true)], args := [d1, d2, d3] }
  | _ => none }
def dictCopiesRow : OpenClaim := { program := "ytibfngjfjddaiaa", sum := "8af4ca64ffb13bf37dab8133fe78f457c26b58bdf8ab2507e5ff31f22d650dde", func := "talus/taluslaw10.DictCopies", spec := "dictCopies", inPlace := ["math.Float64frombits"], plainKeys := false, apart := false }
def DictCopiesSaid : Prop := dictCopiesRow.holds Try.pinned (OpenSpec.ofChange dictCopiesSpec)

/-- ITS FALSE NEIGHBOUR: 'it returns false'. Refute it at one input. -/
def dictCopiesWrong : ChangeSpec := { name := "dictCopies", fn := fun _ => fun
  | [d1, d2, d3] => { results := [.lit (.bool false)], args := [d1, d2, d3] }
  | _ => none }
def DictCopiesWrongFalsely : Prop := dictCopiesRow.holds Try.pinned (OpenSpec.ofChange dictCopiesWrong)

/-- 'taluslaw10.DictActs': WHATEVER THE INPUT: true; the input reads as it did. -/
def dictActsSpec : ChangeSpec := { name := "dictActs", fn := fun _ => fun
  | [d1, d2, d3] => { results := [.lit (.bool true)], args := [d1, d2, d3] }
  | _ => none }
def dictActsRow : OpenClaim := { program := "ytibfngjfjddaiaa", sum := "8af4ca64ffb13bf37dab8133fe78f457c26b58bdf8ab2507e5ff31f22d650dde", func := "talus/taluslaw10.DictActs", spec := "dictActs", inPlace := ["math.Float64frombits"], plainKeys := false, apart := false }
def DictActsSaid : Prop := dictActsRow.holds Try.pinned (OpenSpec.ofChange dictActsSpec)

/-- ITS FALSE NEIGHBOUR: 'it returns false'. Refute it at one input. -/
def dictActsWrong : ChangeSpec := { name := "dictActs", fn := fun _ => fun
  | [d1, d2, d3] => { results := [.lit (.bool false)], args := [d1, d2, d3] }
  | _ => none }
def DictActsWrongFalsely : Prop := dictActsRow.holds Try.pinned (OpenSpec.ofChange dictActsWrong)

/-- 'taluslaw10.DictNone': WHATEVER THE INPUT: true; the input reads as it did. -/
def dictNoneSpec : ChangeSpec := { name := "dictNone", fn := fun _ => fun
  | [d1, d2] => { results := [.lit (.bool true)], args := [d1, d2] }
  | _ => none }
def dictNoneRow : OpenClaim := { program := "ytibfngjfjddaiaa", sum := "8af4ca64ffb13bf37dab8133fe78f457c26b58bdf8ab2507e5ff31f22d650dde", func := "talus/taluslaw10.DictNone", spec := "dictNone", inPlace := ["math.Float64frombits"], plainKeys := false, apart := false }
def DictNoneSaid : Prop := dictNoneRow.holds Try.pinned (OpenSpec.ofChange dictNoneSpec)

/-- ITS FALSE NEIGHBOUR: 'it returns false'. Refute it at one input. -/
def dictNoneWrong : ChangeSpec := { name := "dictNone", fn := fun _ => fun
  | [d1, d2] => { results := [.lit (.bool false)], args := [d1, d2] }
  | _ => none }
def DictNoneWrongFalsely : Prop := dictNoneRow.holds Try.pinned (OpenSpec.ofChange dictNoneWrong)

/-- 'taluslaw11.ColumnBytes': WHATEVER THE INPUT: true; the input reads as it did. -/
def columnBytesSpec : ChangeSpec := { name := "columnBytes", fn := fun _ => fun
  | [d1, d2] => { results := [.lit (.bool true)], args := [d1, d2] }
  | _ => none }
def columnBytesRow : OpenClaim := { program := "ytibfngjfjddaiaa", sum := "8af4ca64ffb13bf37dab8133fe78f457c26b58bdf8ab2507e5ff31f22d650dde", func := "talus/taluslaw11.ColumnBytes", spec := "columnBytes", unfollowed := true, recurses := true, plainKeys := false, apart := false }
def ColumnBytesSaid : Prop := columnBytesRow.holds Try.pinned (OpenSpec.ofChange columnBytesSpec)

/-- ITS FALSE NEIGHBOUR: 'it returns false'. Refute it at one input. -/
def columnBytesWrong : ChangeSpec := { name := "columnBytes", fn := fun _ => fun
  | [d1, d2] => { results := [.lit (.bool false)], args := [d1, d2] }
  | _ => none }
def ColumnBytesWrongFalsely : Prop := columnBytesRow.holds Try.pinned (OpenSpec.ofChange columnBytesWrong)

/-- 'taluslaw11.ColumnJoins': WHATEVER THE INPUT: true; the input reads as it did. -/
def columnJoinsSpec : ChangeSpec := { name := "columnJoins", fn := fun _ => fun
  | [d] => { results := [.lit (.bool true)], args := [d] }
  | _ => none }
def columnJoinsRow : OpenClaim := { program := "ytibfngjfjddaiaa", sum := "8af4ca64ffb13bf37dab8133fe78f457c26b58bdf8ab2507e5ff31f22d650dde", func := "talus/taluslaw11.ColumnJoins", spec := "columnJoins", unfollowed := true, recurses := true, plainKeys := false, apart := false }
def ColumnJoinsSaid : Prop := columnJoinsRow.holds Try.pinned (OpenSpec.ofChange columnJoinsSpec)

/-- ITS FALSE NEIGHBOUR: 'it returns false'. Refute it at one input. -/
def columnJoinsWrong : ChangeSpec := { name := "columnJoins", fn := fun _ => fun
  | [d] => { results := [.lit (.bool false)], args := [d] }
  | _ => none }
def ColumnJoinsWrongFalsely : Prop := columnJoinsRow.holds Try.pinned (OpenSpec.ofChange columnJoinsWrong)

/-- 'taluslaw11.ColumnBack': WHATEVER THE INPUT: true; the input reads as it did. -/
def columnBackSpec : ChangeSpec := { name := "columnBack", fn := fun _ => fun
  | [d1, d2] => { results := [.lit (.bool true)], args := [d1, d2] }
  | _ => none }
def columnBackRow : OpenClaim := { program := "ytibfngjfjddaiaa", sum := "8af4ca64ffb13bf37dab8133fe78f457c26b58bdf8ab2507e5ff31f22d650dde", func := "talus/taluslaw11.ColumnBack", spec := "columnBack", unfollowed := true, recurses := true, plainKeys := false, apart := false }
def ColumnBackSaid : Prop := columnBackRow.holds Try.pinned (OpenSpec.ofChange columnBackSpec)

/-- ITS FALSE NEIGHBOUR: 'it returns false'. Refute it at one input. -/
def columnBackWrong : ChangeSpec := { name := "columnBack", fn := fun _ => fun
  | [d1, d2] => { results := [.lit (.bool false)], args := [d1, d2] }
  | _ => none }
def ColumnBackWrongFalsely : Prop := columnBackRow.holds Try.pinned (OpenSpec.ofChange columnBackWrong)

/-- 'taluslaw11.ColumnRanges': WHATEVER THE INPUT: true; the input reads as it did. -/
def columnRangesSpec : ChangeSpec := { name := "columnRanges", fn := fun _ => fun
  | [d] => { results := [.lit (.bool true)], args := [d] }
  | _ => none }
def columnRangesRow : OpenClaim := { program := "ytibfngjfjddaiaa", sum := "8af4ca64ffb13bf37dab8133fe78f457c26b58bdf8ab2507e5ff31f22d650dde", func := "talus/taluslaw11.ColumnRanges", spec := "columnRanges", unfollowed := true, recurses := true, plainKeys := false, apart := false }
def ColumnRangesSaid : Prop := columnRangesRow.holds Try.pinned (OpenSpec.ofChange columnRangesSpec)

/-- ITS FALSE NEIGHBOUR: 'it returns false'. Refute it at one input. -/
def columnRangesWrong : ChangeSpec := { name := "columnRanges", fn := fun _ => fun
  | [d] => { results := [.lit (.bool false)], args := [d] }
  | _ => none }
def ColumnRangesWrongFalsely : Prop := columnRangesRow.holds Try.pinned (OpenSpec.ofChange columnRangesWrong)

/-- 'taluslaw11.ColumnPicks': WHATEVER THE INPUT: true; the input reads as it did. -/
def columnPicksSpec : ChangeSpec := { name := "columnPicks", fn := fun _ => fun
  | [d1, d2, d3] => { results := [.lit (.bool true)], args := [d1, d2, d3] }
  | _ => none }
def columnPicksRow : OpenClaim := { program := "ytibfngjfjddaiaa", sum := "8af4ca64ffb13bf37dab8133fe78f457c26b58bdf8ab2507e5ff31f22d650dde", func := "talus/taluslaw11.ColumnPicks", spec := "columnPicks", unfollowed := true, recurses := true, plainKeys := false, apart := false }
def ColumnPicksSaid : Prop := columnPicksRow.holds Try.pinned (OpenSpec.ofChange columnPicksSpec)

/-- ITS FALSE NEIGHBOUR: 'it returns false'. Refute it at one input. -/
def columnPicksWrong : ChangeSpec := { name := "columnPicks", fn := fun _ => fun
  | [d1, d2, d3] => { results := [.lit (.bool false)], args := [d1, d2, d3] }
  | _ => none }
def ColumnPicksWrongFalsely : Prop := columnPicksRow.holds Try.pinned (OpenSpec.ofChange columnPicksWrong)

/- THE SECOND FORM. 'bulk': how many values and letters a reading holds, each counted each time it is reached (what is shared counts as often as it is met; a slice's spare places count too). A statement '..UptoSaid' is the law's where the arguments, and the package variables that the reading takes, are together of bulk at most 1048576: NARROWER than '..Said'. Prove '..Said' where nothing that the law and all that it calls make is longer than what came in: it says more and counts as full. Else prove '..UptoSaid'. A law counts once. -/
mutual
def uptoBulk {H : Type} : DataW H → Nat
  | .lit (.string bytes) => bytes.length + 1
  | .lit _ => 1
  | .nil => 1
  | .ptr d => uptoBulk d + 1
  | .slice elems spare => uptoBulkAll elems + uptoBulkAll spare + 1
  | .agg parts => uptoBulkAll parts + 1
  | .iface _ d => uptoBulk d + 1
  | .map entries => uptoBulkEntries entries + 1
  | .held _ => 1
def uptoBulkAll {H : Type} : List (DataW H) → Nat
  | [] => 0
  | d :: r => uptoBulk d + uptoBulkAll r
def uptoBulkEntries {H : Type} : List (Lit × DataW H) → Nat
  | [] => 0
  | x :: r => uptoBulkEntry x + uptoBulkEntries r
def uptoBulkEntry {H : Type} : Lit × DataW H → Nat
  | (.string bytes, d) => bytes.length + uptoBulk d + 1
  | (_, d) => uptoBulk d + 1
 end
def uptoSmall : (H : Type) → List (DataW H) → Bool := fun _ ds => decide (uptoBulkAll ds ≤ 1048576)
def OpenSpec.upto (s : _root_.Go.ChangeSpec) : _root_.Go.OpenSpec := { _root_.Go.OpenSpec.ofChange s with cond := some uptoSmall }

/-- 'taluslaw10.DictBack', WHERE WHAT IT READS IS OF BULK AT MOST 1048576: true; the input reads as it did. -/
def dictBackUptoRow : OpenClaim := { program := "ytibfngjfjddaiaa", sum := "8af4ca64ffb13bf37dab8133fe78f457c26b58bdf8ab2507e5ff31f22d650dde", func := "talus/taluslaw10.DictBack", spec := "dictBack", inPlace := ["math.Float64frombits"], plainKeys := false, apart := false, narrowed := true }
def DictBackUptoSaid : Prop := dictBackUptoRow.holds Try.pinned (OpenSpec.upto dictBackSpec)

/-- 'taluslaw10.DictRoom', WHERE WHAT IT READS IS OF BULK AT MOST 1048576: true; the input reads as it did. -/
def dictRoomUptoRow : OpenClaim := { program := "ytibfngjfjddaiaa", sum := "8af4ca64ffb13bf37dab8133fe78f457c26b58bdf8ab2507e5ff31f22d650dde", func := "talus/taluslaw10.DictRoom", spec := "dictRoom", inPlace := ["math.Float64frombits"], plainKeys := false, apart := false, narrowed := true }
def DictRoomUptoSaid : Prop := dictRoomUptoRow.holds Try.pinned (OpenSpec.upto dictRoomSpec)

/-- 'taluslaw10.DictCopies', WHERE WHAT IT READS IS OF BULK AT MOST 1048576: true; the input reads as it did. -/
def dictCopiesUptoRow : OpenClaim := { program := "ytibfngjfjddaiaa", sum := "8af4ca64ffb13bf37dab8133fe78f457c26b58bdf8ab2507e5ff31f22d650dde", func := "talus/taluslaw10.DictCopies", spec := "dictCopies", inPlace := ["math.Float64frombits"], plainKeys := false, apart := false, narrowed := true }
def DictCopiesUptoSaid : Prop := dictCopiesUptoRow.holds Try.pinned (OpenSpec.upto dictCopiesSpec)

/-- 'taluslaw10.DictActs', WHERE WHAT IT READS IS OF BULK AT MOST 1048576: true; the input reads as it did. -/
def dictActsUptoRow : OpenClaim := { program := "ytibfngjfjddaiaa", sum := "8af4ca64ffb13bf37dab8133fe78f457c26b58bdf8ab2507e5ff31f22d650dde", func := "talus/taluslaw10.DictActs", spec := "dictActs", inPlace := ["math.Float64frombits"], plainKeys := false, apart := false, narrowed := true }
def DictActsUptoSaid : Prop := dictActsUptoRow.holds Try.pinned (OpenSpec.upto dictActsSpec)

/-- 'taluslaw10.DictNone', WHERE WHAT IT READS IS OF BULK AT MOST 1048576: true; the input reads as it did. -/
def dictNoneUptoRow : OpenClaim := { program := "ytibfngjfjddaiaa", sum := "8af4ca64ffb13bf37dab8133fe78f457c26b58bdf8ab2507e5ff31f22d650dde", func := "talus/taluslaw10.DictNone", spec := "dictNone", inPlace := ["math.Float64frombits"], plainKeys := false, apart := false, narrowed := true }
def DictNoneUptoSaid : Prop := dictNoneUptoRow.holds Try.pinned (OpenSpec.upto dictNoneSpec)

/-- 'taluslaw11.ColumnBytes', WHERE WHAT IT READS IS OF BULK AT MOST 1048576: true; the input reads as it did. -/
def columnBytesUptoRow : OpenClaim := { program := "ytibfngjfjddaiaa", sum := "8af4ca64ffb13bf37dab8133fe78f457c26b58bdf8ab2507e5ff31f22d650dde", func := "talus/taluslaw11.ColumnBytes", spec := "columnBytes", unfollowed := true, recurses := true, plainKeys := false, apart := false, narrowed := true }
def ColumnBytesUptoSaid : Prop := columnBytesUptoRow.holds Try.pinned (OpenSpec.upto columnBytesSpec)

/-- 'taluslaw11.ColumnJoins', WHERE WHAT IT READS IS OF BULK AT MOST 1048576: true; the input reads as it did. -/
def columnJoinsUptoRow : OpenClaim := { program := "ytibfngjfjddaiaa", sum := "8af4ca64ffb13bf37dab8133fe78f457c26b58bdf8ab2507e5ff31f22d650dde", func := "talus/taluslaw11.ColumnJoins", spec := "columnJoins", unfollowed := true, recurses := true, plainKeys := false, apart := false, narrowed := true }
def ColumnJoinsUptoSaid : Prop := columnJoinsUptoRow.holds Try.pinned (OpenSpec.upto columnJoinsSpec)

/-- 'taluslaw11.ColumnBack', WHERE WHAT IT READS IS OF BULK AT MOST 1048576: true; the input reads as it did. -/
def columnBackUptoRow : OpenClaim := { program := "ytibfngjfjddaiaa", sum := "8af4ca64ffb13bf37dab8133fe78f457c26b58bdf8ab2507e5ff31f22d650dde", func := "talus/taluslaw11.ColumnBack", spec := "columnBack", unfollowed := true, recurses := true, plainKeys := false, apart := false, narrowed := true }
def ColumnBackUptoSaid : Prop := columnBackUptoRow.holds Try.pinned (OpenSpec.upto columnBackSpec)

/-- 'taluslaw11.ColumnRanges', WHERE WHAT IT READS IS OF BULK AT MOST 1048576: true; the input reads as it did. -/
def columnRangesUptoRow : OpenClaim := { program := "ytibfngjfjddaiaa", sum := "8af4ca64ffb13bf37dab8133fe78f457c26b58bdf8ab2507e5ff31f22d650dde", func := "talus/taluslaw11.ColumnRanges", spec := "columnRanges", unfollowed := true, recurses := true, plainKeys := false, apart := false, narrowed := true }
def ColumnRangesUptoSaid : Prop := columnRangesUptoRow.holds Try.pinned (OpenSpec.upto columnRangesSpec)

/-- 'taluslaw11.ColumnPicks', WHERE WHAT IT READS IS OF BULK AT MOST 1048576: true; the input reads as it did. -/
def columnPicksUptoRow : OpenClaim := { program := "ytibfngjfjddaiaa", sum := "8af4ca64ffb13bf37dab8133fe78f457c26b58bdf8ab2507e5ff31f22d650dde", func := "talus/taluslaw11.ColumnPicks", spec := "columnPicks", unfollowed := true, recurses := true, plainKeys := false, apart := false, narrowed := true }
def ColumnPicksUptoSaid : Prop := columnPicksUptoRow.holds Try.pinned (OpenSpec.upto columnPicksSpec)

end Rows
end Go.Proofs.Ytibfngjfjddaiaa
