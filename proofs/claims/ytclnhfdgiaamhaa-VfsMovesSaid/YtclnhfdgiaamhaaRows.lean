/-
  No cell of these rows narrows 'for every input' (looked for: loops, veiled, ifaces, maps, wideKeys, modest, calm, conditions, laid).
  DERIVED. THE GIVEN ROWS OF THIS SEAT. 11 by the template 'for every input the law returns true; each argument reads behind the call as it read before'; 0 by the template 'total and deterministic' (their statements: YtclnhfdgiaamhaaTotals.lean).
  GIVEN WITH THE SEED: the statements are not yours to turn. If you find one false, say at which input.
  Laid BY PROGRAM, IN A SANDBOX (cutbox-rows.mjs): the forced cells as the released guide's own fill.sh prints them over the translation 86e7649dbc7d29ec… (all of the seat's roots in one cut). By AI agents, Wed Nov 11 2026. No macro, syntax, notation, axiom, sorry.
-/
import Derived.Test.YtclnhfdgiaamhaaChecked
import GoSem.Claim
import GoSem.ClaimJoined
import GoSem.ClaimMapViews
import Derived.JoinedTies
import Derived.KernelRfl
namespace Go.Proofs.Ytclnhfdgiaamhaa
/- THE CELL 'sum', in the pinned program and in every row, IS THE sha256 OF THE DUMP (.gsa) THAT YtclnhfdgiaamhaaProg.lean LOADS. Nothing in Lean hashes anything: it is a label: what it is worth is what the hold of that sum in a sandbox is worth. -/
noncomputable def Try.pinned : Pinned := { name := "ytclnhfdgiaamhaa", sum := "86e7649dbc7d29ecf50c2899617447307cb6cef81db9d18a0ec19581f1b3bdf4", checked := Try.checked }
namespace Rows
def none {H : Type} : Left H := { results := [], args := [] }

/-- 'taluslaw13.RecordScans': WHATEVER THE INPUT: true; the input reads as it did. -/
def recordScansSpec : ChangeSpec := { name := "recordScans", fn := fun _ => fun
  | [d1, d2] => { results := [.lit (.bool true)], args := [d1, d2] }
  | _ => none }
def recordScansRow : OpenClaim := { program := "ytclnhfdgiaamhaa", sum := "86e7649dbc7d29ecf50c2899617447307cb6cef81db9d18a0ec19581f1b3bdf4", func := "talus/taluslaw13.RecordScans", spec := "recordScans", inPlace := ["math.Float64frombits"], unfollowed := true, recurses := true, apart := false }
def RecordScansSaid : Prop := recordScansRow.holds Try.pinned (OpenSpec.ofChange recordScansSpec)

/-- ITS FALSE NEIGHBOUR: 'it returns false'. Refute it at one input. -/
def recordScansWrong : ChangeSpec := { name := "recordScans", fn := fun _ => fun
  | [d1, d2] => { results := [.lit (.bool false)], args := [d1, d2] }
  | _ => none }
def RecordScansWrongFalsely : Prop := recordScansRow.holds Try.pinned (OpenSpec.ofChange recordScansWrong)

/-- 'taluslaw13.RecordBytes': WHATEVER THE INPUT: true; the input reads as it did. -/
def recordBytesSpec : ChangeSpec := { name := "recordBytes", fn := fun _ => fun
  | [d1, d2] => { results := [.lit (.bool true)], args := [d1, d2] }
  | _ => none }
def recordBytesRow : OpenClaim := { program := "ytclnhfdgiaamhaa", sum := "86e7649dbc7d29ecf50c2899617447307cb6cef81db9d18a0ec19581f1b3bdf4", func := "talus/taluslaw13.RecordBytes", spec := "recordBytes", inPlace := ["math.Float64frombits"], unfollowed := true, recurses := true, apart := false }
def RecordBytesSaid : Prop := recordBytesRow.holds Try.pinned (OpenSpec.ofChange recordBytesSpec)

/-- ITS FALSE NEIGHBOUR: 'it returns false'. Refute it at one input. -/
def recordBytesWrong : ChangeSpec := { name := "recordBytes", fn := fun _ => fun
  | [d1, d2] => { results := [.lit (.bool false)], args := [d1, d2] }
  | _ => none }
def RecordBytesWrongFalsely : Prop := recordBytesRow.holds Try.pinned (OpenSpec.ofChange recordBytesWrong)

/-- 'taluslaw13.RecordCuts': WHATEVER THE INPUT: true; the input reads as it did. -/
def recordCutsSpec : ChangeSpec := { name := "recordCuts", fn := fun _ => fun
  | [d1, d2, d3] => { results := [.lit (.bool true)], args := [d1, d2, d3] }
  | _ => none }
def recordCutsRow : OpenClaim := { program := "ytclnhfdgiaamhaa", sum := "86e7649dbc7d29ecf50c2899617447307cb6cef81db9d18a0ec19581f1b3bdf4", func := "talus/taluslaw13.RecordCuts", spec := "recordCuts", inPlace := ["math.Float64frombits"], unfollowed := true, recurses := true, apart := false }
def RecordCutsSaid : Prop := recordCutsRow.holds Try.pinned (OpenSpec.ofChange recordCutsSpec)

/-- ITS FALSE NEIGHBOUR: 'it returns false'. Refute it at one input. -/
def recordCutsWrong : ChangeSpec := { name := "recordCuts", fn := fun _ => fun
  | [d1, d2, d3] => { results := [.lit (.bool false)], args := [d1, d2, d3] }
  | _ => none }
def RecordCutsWrongFalsely : Prop := recordCutsRow.holds Try.pinned (OpenSpec.ofChange recordCutsWrong)

/-- 'taluslaw13.RecordBack': WHATEVER THE INPUT: true; the input reads as it did. -/
def recordBackSpec : ChangeSpec := { name := "recordBack", fn := fun _ => fun
  | [d] => { results := [.lit (.bool true)], args := [d] }
  | _ => none }
def recordBackRow : OpenClaim := { program := "ytclnhfdgiaamhaa", sum := "86e7649dbc7d29ecf50c2899617447307cb6cef81db9d18a0ec19581f1b3bdf4", func := "talus/taluslaw13.RecordBack", spec := "recordBack", inPlace := ["math.Float64frombits"], unfollowed := true, recurses := true, apart := false }
def RecordBackSaid : Prop := recordBackRow.holds Try.pinned (OpenSpec.ofChange recordBackSpec)

/-- ITS FALSE NEIGHBOUR: 'it returns false'. Refute it at one input. -/
def recordBackWrong : ChangeSpec := { name := "recordBack", fn := fun _ => fun
  | [d] => { results := [.lit (.bool false)], args := [d] }
  | _ => none }
def RecordBackWrongFalsely : Prop := recordBackRow.holds Try.pinned (OpenSpec.ofChange recordBackWrong)

/-- 'taluslaw13.RecordNext': WHATEVER THE INPUT: true; the input reads as it did. -/
def recordNextSpec : ChangeSpec := { name := "recordNext", fn := fun _ => fun
  | [d1, d2, d3] => { results := [.lit (.bool true)], args := [d1, d2, d3] }
  | _ => none }
def recordNextRow : OpenClaim := { program := "ytclnhfdgiaamhaa", sum := "86e7649dbc7d29ecf50c2899617447307cb6cef81db9d18a0ec19581f1b3bdf4", func := "talus/taluslaw13.RecordNext", spec := "recordNext", inPlace := ["math.Float64frombits"], unfollowed := true, recurses := true, apart := false }
def RecordNextSaid : Prop := recordNextRow.holds Try.pinned (OpenSpec.ofChange recordNextSpec)

/-- ITS FALSE NEIGHBOUR: 'it returns false'. Refute it at one input. -/
def recordNextWrong : ChangeSpec := { name := "recordNext", fn := fun _ => fun
  | [d1, d2, d3] => { results := [.lit (.bool false)], args := [d1, d2, d3] }
  | _ => none }
def RecordNextWrongFalsely : Prop := recordNextRow.holds Try.pinned (OpenSpec.ofChange recordNextWrong)

/-- 'taluslaw01.VfsNames': WHATEVER THE INPUT: true; the input reads as it did. -/
def vfsNamesSpec : ChangeSpec := { name := "vfsNames", fn := fun _ => fun
  | [d] => { results := [.lit (.bool true)], args := [d] }
  | _ => none }
def vfsNamesRow : OpenClaim := { program := "ytclnhfdgiaamhaa", sum := "86e7649dbc7d29ecf50c2899617447307cb6cef81db9d18a0ec19581f1b3bdf4", func := "talus/taluslaw01.VfsNames", spec := "vfsNames", unfollowed := true, recurses := true, apart := false }
def VfsNamesSaid : Prop := vfsNamesRow.holds Try.pinned (OpenSpec.ofChange vfsNamesSpec)

/-- ITS FALSE NEIGHBOUR: 'it returns false'. Refute it at one input. -/
def vfsNamesWrong : ChangeSpec := { name := "vfsNames", fn := fun _ => fun
  | [d] => { results := [.lit (.bool false)], args := [d] }
  | _ => none }
def VfsNamesWrongFalsely : Prop := vfsNamesRow.holds Try.pinned (OpenSpec.ofChange vfsNamesWrong)

/-- 'taluslaw01.VfsKeeps': WHATEVER THE INPUT: true; the input reads as it did. -/
def vfsKeepsSpec : ChangeSpec := { name := "vfsKeeps", fn := fun _ => fun
  | [d1, d2, d3] => { results := [.lit (.bool true)], args := [d1, d2, d3] }
  | _ => none }
def vfsKeepsRow : OpenClaim := { program := "ytclnhfdgiaamhaa", sum := "86e7649dbc7d29ecf50c2899617447307cb6cef81db9d18a0ec19581f1b3bdf4", func := "talus/taluslaw01.VfsKeeps", spec := "vfsKeeps", unfollowed := true, recurses := true, apart := false }
def VfsKeepsSaid : Prop := vfsKeepsRow.holds Try.pinned (OpenSpec.ofChange vfsKeepsSpec)

/-- ITS FALSE NEIGHBOUR: 'it returns false'. Refute it at one input. -/
def vfsKeepsWrong : ChangeSpec := { name := "vfsKeeps", fn := fun _ => fun
  | [d1, d2, d3] => { results := [.lit (.bool false)], args := [d1, d2, d3] }
  | _ => none }
def VfsKeepsWrongFalsely : Prop := vfsKeepsRow.holds Try.pinned (OpenSpec.ofChange vfsKeepsWrong)

/-- 'taluslaw01.VfsMoves': WHATEVER THE INPUT: true; the input reads as it did. -/
def vfsMovesSpec : ChangeSpec := { name := "vfsMoves", fn := fun _ => fun
  | [d1, d2, d3] => { results := [.lit (.bool true)], args := [d1, d2, d3] }
  | _ => none }
def vfsMovesRow : OpenClaim := { program := "ytclnhfdgiaamhaa", sum := "86e7649dbc7d29ecf50c2899617447307cb6cef81db9d18a0ec19581f1b3bdf4", func := "talus/taluslaw01.VfsMoves", spec := "vfsMoves", unfollowed := true, recurses := true, apart := false }
def VfsMovesSaid : Prop := vfsMovesRow.holds Try.pinned (OpenSpec.ofChange vfsMovesSpec)

/-- ITS FALSE NEIGHBOUR: 'it returns false'. Refute it at one input. -/
def vfsMovesWrong : ChangeSpec := { name := "vfsMoves", fn := fun _ => fun
  | [d1, d2, d3] => { results := [.lit (.bool false)], args := [d1, d2, d3] }
  | _ => none }
def VfsMovesWrongFalsely : Prop := vfsMovesRow.holds Try.pinned (OpenSpec.ofChange vfsMovesWrong)

/-- 'taluslaw01.VfsApart': WHATEVER THE INPUT: true; the input reads as it did. -/
def vfsApartSpec : ChangeSpec := { name := "vfsApart", fn := fun _ => fun
  | [d1, d2, d3] => { results := [.lit (.bool true)], args := [d1, d2, d3] }
  | _ => none }
def vfsApartRow : OpenClaim := { program := "ytclnhfdgiaamhaa", sum := "86e7649dbc7d29ecf50c2899617447307cb6cef81db9d18a0ec19581f1b3bdf4", func := "talus/taluslaw01.VfsApart", spec := "vfsApart", unfollowed := true, recurses := true, apart := false }
def VfsApartSaid : Prop := vfsApartRow.holds Try.pinned (OpenSpec.ofChange vfsApartSpec)

/-- ITS FALSE NEIGHBOUR: 'it returns false'. Refute it at one input. -/
def vfsApartWrong : ChangeSpec := { name := "vfsApart", fn := fun _ => fun
  | [d1, d2, d3] => { results := [.lit (.bool false)], args := [d1, d2, d3] }
  | _ => none }
def VfsApartWrongFalsely : Prop := vfsApartRow.holds Try.pinned (OpenSpec.ofChange vfsApartWrong)

/-- 'taluslaw01.VfsActs': WHATEVER THE INPUT: true; the input reads as it did. -/
def vfsActsSpec : ChangeSpec := { name := "vfsActs", fn := fun _ => fun
  | [d] => { results := [.lit (.bool true)], args := [d] }
  | _ => none }
def vfsActsRow : OpenClaim := { program := "ytclnhfdgiaamhaa", sum := "86e7649dbc7d29ecf50c2899617447307cb6cef81db9d18a0ec19581f1b3bdf4", func := "talus/taluslaw01.VfsActs", spec := "vfsActs", unfollowed := true, recurses := true, apart := false }
def VfsActsSaid : Prop := vfsActsRow.holds Try.pinned (OpenSpec.ofChange vfsActsSpec)

/-- ITS FALSE NEIGHBOUR: 'it returns false'. Refute it at one input. -/
def vfsActsWrong : ChangeSpec := { name := "vfsActs", fn := fun _ => fun
  | [d] => { results := [.lit (.bool false)], args := [d] }
  | _ => none }
def VfsActsWrongFalsely : Prop := vfsActsRow.holds Try.pinned (OpenSpec.ofChange vfsActsWrong)

/-- 'taluslaw01.VfsNone': WHATEVER THE INPUT: true; the input reads as it did. -/
def vfsNoneSpec : ChangeSpec := { name := "vfsNone", fn := fun _ => fun
  | [d] => { results := [.lit (.bool true)], args := [d] }
  | _ => none }
def vfsNoneRow : OpenClaim := { program := "ytclnhfdgiaamhaa", sum := "86e7649dbc7d29ecf50c2899617447307cb6cef81db9d18a0ec19581f1b3bdf4", func := "talus/taluslaw01.VfsNone", spec := "vfsNone", unfollowed := true, recurses := true, apart := false }
def VfsNoneSaid : Prop := vfsNoneRow.holds Try.pinned (OpenSpec.ofChange vfsNoneSpec)

/-- ITS FALSE NEIGHBOUR: 'it returns false'. Refute it at one input. -/
def vfsNoneWrong : ChangeSpec := { name := "vfsNone", fn := fun _ => fun
  | [d] => { results := [.lit (.bool false)], args := [d] }
  | _ => none }
def VfsNoneWrongFalsely : Prop := vfsNoneRow.holds Try.pinned (OpenSpec.ofChange vfsNoneWrong)

/- THE SECOND FORM. 'bulk': how many values and letters a reading holds, each counted each time it is reached (what is shared counts as often as it is met; a slice's spare places count too). A statement '..UptoSaid' is the law's where the arguments, and the package variables that the reading takes, are together of bulk at most 1048576: NARROWER than '..Said'. Prove '..Said' where nothing that the law and all that it calls make is longer than what came in: it says more and counts as full. Else prove '..UptoSaid'. A law counts once. -/
mutual
def uptoBulk {H : Type} : DataW H → Nat
  | .lit (.string bytes) => bytes.length + 1
  | .lit _ => 1
  | .nil => 1
  | .ptr d => uptoBulk d + 1
  | .slice elems spare => uptoBulkAll elems + uptoBulkAll spare + 1
  | .agg parts => uptoBulkAll parts + 1
  | .iface _ d => uptoBulk d + 1
  | .map entries => uptoBulkEntries entries + 1
  | .held _ => 1
def uptoBulkAll {H : Type} : List (DataW H) → Nat
  | [] => 0
  | d :: r => uptoBulk d + uptoBulkAll r
def uptoBulkEntries {H : Type} : List (Lit × DataW H) → Nat
  | [] => 0
  | x :: r => uptoBulkEntry x + uptoBulkEntries r
def uptoBulkEntry {H : Type} : Lit × DataW H → Nat
  | (.string bytes, d) => bytes.length + uptoBulk d + 1
  | (_, d) => uptoBulk d + 1
 end
def uptoSmall : (H : Type) → List (DataW H) → Bool := fun _ ds => decide (uptoBulkAll ds ≤ 1048576)
def OpenSpec.upto (s : _root_.Go.ChangeSpec) : _root_.Go.OpenSpec := { _root_.Go.OpenSpec.ofChange s with cond := some uptoSmall }

/-- 'taluslaw13.RecordScans', WHERE WHAT IT READS IS OF BULK AT MOST 1048576: true; the input reads as it did. -/
def recordScansUptoRow : OpenClaim := { program := "ytclnhfdgiaamhaa", sum := "86e7649dbc7d29ecf50c2899617447307cb6cef81db9d18a0ec19581f1b3bdf4", func := "talus/taluslaw13.RecordScans", spec := "recordScans", inPlace := ["math.Float64frombits"], unfollowed := true, recurses := true, apart := false, narrowed := true }
def RecordScansUptoSaid : Prop := recordScansUptoRow.holds Try.pinned (OpenSpec.upto recordScansSpec)

/-- 'taluslaw13.RecordBytes', WHERE WHAT IT READS IS OF BULK AT MOST 1048576: true; the input reads as it did. -/
def recordBytesUptoRow : OpenClaim := { program := "ytclnhfdgiaamhaa", sum := "86e7649dbc7d29ecf50c2899617447307cb6cef81db9d18a0ec19581f1b3bdf4", func := "talus/taluslaw13.RecordBytes", spec := "recordBytes", inPlace := ["math.Float64frombits"], unfollowed := true, recurses := true, apart := false, narrowed := true }
def RecordBytesUptoSaid : Prop := recordBytesUptoRow.holds Try.pinned (OpenSpec.upto recordBytesSpec)

/-- 'taluslaw13.RecordCuts', WHERE WHAT IT READS IS OF BULK AT MOST 1048576: true; the input reads as it did. -/
def recordCutsUptoRow : OpenClaim := { program := "ytclnhfdgiaamhaa", sum := "86e7649dbc7d29ecf50c2899617447307cb6cef81db9d18a0ec19581f1b3bdf4", func := "talus/taluslaw13.RecordCuts", spec := "recordCuts", inPlace := ["math.Float64frombits"], unfollowed := true, recurses := true, apart := false, narrowed := true }
def RecordCutsUptoSaid : Prop := recordCutsUptoRow.holds Try.pinned (OpenSpec.upto recordCutsSpec)

/-- 'taluslaw13.RecordBack', WHERE WHAT IT READS IS OF BULK AT MOST 1048576: true; the input reads as it did. -/
def recordBackUptoRow : OpenClaim := { program := "ytclnhfdgiaamhaa", sum := "86e7649dbc7d29ecf50c2899617447307cb6cef81db9d18a0ec19581f1b3bdf4", func := "talus/taluslaw13.RecordBack", spec := "recordBack", inPlace := ["math.Float64frombits"], unfollowed := true, recurses := true, apart := false, narrowed := true }
def RecordBackUptoSaid : Prop := recordBackUptoRow.holds Try.pinned (OpenSpec.upto recordBackSpec)

/-- 'taluslaw13.RecordNext', WHERE WHAT IT READS IS OF BULK AT MOST 1048576: true; the input reads as it did. -/
def recordNextUptoRow : OpenClaim := { program := "ytclnhfdgiaamhaa", sum := "86e7649dbc7d29ecf50c2899617447307cb6cef81db9d18a0ec19581f1b3bdf4", func := "talus/taluslaw13.RecordNext", spec := "recordNext", inPlace := ["math.Float64frombits"], unfollowed := true, recurses := true, apart := false, narrowed := true }
def RecordNextUptoSaid : Prop := recordNextUptoRow.holds Try.pinned (OpenSpec.upto recordNextSpec)

/-- 'taluslaw01.VfsNames', WHERE WHAT IT READS IS OF BULK AT MOST 1048576: true; the input reads as it did. -/
def vfsNamesUptoRow : OpenClaim := { program := "ytclnhfdgiaamhaa", sum := "86e7649dbc7d29ecf50c2899617447307cb6cef81db9d18a0ec19581f1b3bdf4", func := "talus/taluslaw01.VfsNames", spec := "vfsNames", unfollowed := true, recurses := true, apart := false, narrowed := true }
def VfsNamesUptoSaid : Prop := vfsNamesUptoRow.holds Try.pinned (OpenSpec.upto vfsNamesSpec)

/-- 'taluslaw01.VfsKeeps', WHERE WHAT IT READS IS OF BULK AT MOST 1048576: true; the input reads as it did. -/
def vfsKeepsUptoRow : OpenClaim := { program := "ytclnhfdgiaamhaa", sum := "86e7649dbc7d29ecf50c2899617447307cb6cef81db9d18a0ec19581f1b3bdf4", func := "talus/taluslaw01.VfsKeeps", spec := "vfsKeeps", unfollowed := true, recurses := true, apart := false, narrowed := true }
def VfsKeepsUptoSaid : Prop := vfsKeepsUptoRow.holds Try.pinned (OpenSpec.upto vfsKeepsSpec)

/-- 'taluslaw01.VfsMoves', WHERE WHAT IT READS IS OF BULK AT MOST 1048576: true; the input reads as it did. -/
def vfsMovesUptoRow : OpenClaim := { program := "ytclnhfdgiaamhaa", sum := "86e7649dbc7d29ecf50c2899617447307cb6cef81db9d18a0ec19581f1b3bdf4", func := "talus/taluslaw01.VfsMoves", spec := "vfsMoves", unfollowed := true, recurses := true, apart := false, narrowed := true }
def VfsMovesUptoSaid : Prop := vfsMovesUptoRow.holds Try.pinned (OpenSpec.upto vfsMovesSpec)

/-- 'taluslaw01.VfsApart', WHERE WHAT IT READS IS OF BULK AT MOST 1048576: true; the input reads as it did. -/
def vfsApartUptoRow : OpenClaim := { program := "ytclnhfdgiaamhaa", sum := "86e7649dbc7d29ecf50c2899617447307cb6cef81db9d18a0ec19581f1b3bdf4", func := "talus/taluslaw01.VfsApart", spec := "vfsApart", unfollowed := true, recurses := true, apart := false, narrowed := true }
def VfsApartUptoSaid : Prop := vfsApartUptoRow.holds Try.pinned (OpenSpec.upto vfsApartSpec)

/-- 'taluslaw01.VfsActs', WHERE WHAT IT READS IS OF BULK AT MOST 1048576: true; the input reads as it did. -/
def vfsActsUptoRow : OpenClaim := { program := "ytclnhfdgiaamhaa", sum := "86e7649dbc7d29ecf50c2899617447307cb6cef81db9d18a0ec19581f1b3bdf4", func := "talus/taluslaw01.VfsActs", spec := "vfsActs", unfollowed := true, recurses := true, apart := false, narrowed := true }
def VfsActsUptoSaid : Prop := vfsActsUptoRow.holds Try.pinned (OpenSpec.upto vfsActsSpec)

/-- 'taluslaw01.VfsNone', WHERE WHAT IT READS IS OF BULK AT MOST 1048576: true; the input reads as it did. -/
def vfsNoneUptoRow : OpenClaim := { program := "ytclnhfdgiaamhaa", sum := "86e7649dbc7d29ecf50c2899617447307cb6cef81db9d18a0ec19581f1b3bdf4", func := "talus/taluslaw01.VfsNone", spec := "vfsNone", unfollowed := true, recurses := true, apart := false, narrowed := true }
def VfsNoneUptoSaid : Prop := vfsNoneUptoRow.holds Try.pinned (OpenSpec.upto vfsNoneSpec)

end Rows
end Go.Proofs.Ytclnhfdgiaamhaa
