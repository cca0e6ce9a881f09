/-
  No cell of these rows narrows 'for every input' (looked for: loops, veiled, ifaces, maps, wideKeys, modest, calm, conditions, laid).
  DERIVED. THE GIVEN ROWS OF THIS SEAT. 12 by the template 'for every input the law returns true; each argument reads behind the call as it read before'; 0 by the template 'total and deterministic' (their statements: YteapfdmjcgnjbaaTotals.lean).
  GIVEN WITH THE SEED: the statements are not yours to turn. If you find one false, say at which input.
  Laid BY PROGRAM, IN A SANDBOX (cutbox-rows.mjs): the forced cells as the released guide's own fill.sh prints them over the translation 8d34577394c83b4e… (all of the seat's roots in one cut). By AI agents, Wed Nov 11 2026. No macro, syntax, notation, axiom, sorry.
-/
import Derived.Test.YteapfdmjcgnjbaaChecked
import GoSem.Claim
import GoSem.ClaimJoined
import GoSem.ClaimMapViews
import Derived.JoinedTies
import Derived.KernelRfl
namespace Go.Proofs.Yteapfdmjcgnjbaa
/- THE CELL 'sum', in the pinned program and in every row, IS THE sha256 OF THE DUMP (.gsa) THAT YteapfdmjcgnjbaaProg.lean LOADS. Nothing in Lean hashes anything: it is a label: what it is worth is what the hold of that sum in a sandbox is worth. -/
noncomputable def Try.pinned : Pinned := { name := "yteapfdmjcgnjbaa", sum := "8d34577394c83b4ee2fa97a0bcb2f3593b7ea239c91588c42df66818651e656e", checked := Try.checked }
namespace Rows
def none {H : Type} : Left H := { results := [], args := [] }

/-- 'taluslaw02.CodecShort': WHATEVER THE INPUT: true; the input reads as it did. -/
def codecShortSpec : ChangeSpec := { name := "codecShort", fn := fun _ => fun
  | [d] => { results := [.lit (.bool true)], args := [d] }
  | _ => none }
def codecShortRow : OpenClaim := { program := "yteapfdmjcgnjbaa", sum := "8d34577394c83b4ee2fa97a0bcb2f3593b7ea239c91588c42df66818651e656e", func := "talus/taluslaw02.CodecShort", spec := "codecShort", apart := false }
def CodecShortSaid : Prop := codecShortRow.holds Try.pinned (OpenSpec.ofChange codecShortSpec)

/-- ITS FALSE NEIGHBOUR: 'it returns false'. Refute it at one input. -/
def codecShortWrong : ChangeSpec := { name := "codecShort", fn := fun _ => fun
  | [d] => { results := [.lit (.bool false)], args := [d] }
  | _ => none }
def CodecShortWrongFalsely : Prop := codecShortRow.holds Try.pinned (OpenSpec.ofChange codecShortWrong)

/-- 'taluslaw02.CodecNumbers': WHATEVER THE INPUT: true; the input reads as it did. -/
def codecNumbersSpec : ChangeSpec := { name := "codecNumbers", fn := fun _ => fun
  | [d1, d2, d3] => { results := [.lit (.bool true)], args := [d1, d2, d3] }
  | _ => none }
def codecNumbersRow : OpenClaim := { program := "yteapfdmjcgnjbaa", sum := "8d34577394c83b4ee2fa97a0bcb2f3593b7ea239c91588c42df66818651e656e", func := "talus/taluslaw02.CodecNumbers", spec := "codecNumbers", apart := false }
def CodecNumbersSaid : Prop := codecNumbersRow.holds Try.pinned (OpenSpec.ofChange codecNumbersSpec)

/-- ITS FALSE NEIGHBOUR: 'it returns false'. Refute it at one input. -/
def codecNumbersWrong : ChangeSpec := { name := "codecNumbers", fn := fun _ => fun
  | [d1, d2, d3] => { results := [.lit (.bool false)], args := [d1, d2, d3] }
  | _ => none }
def CodecNumbersWrongFalsely : Prop := codecNumbersRow.holds Try.pinned (OpenSpec.ofChange codecNumbersWrong)

/-- 'taluslaw02.CodecTells': WHATEVER THE INPUT: true; the input reads as it did. -/
def codecTellsSpec : ChangeSpec := { name := "codecTells", fn := fun _ => fun
  | [d1, d2, d3] => { results := [.lit (.bool true)], args := [d1, d2, d3] }
  | _ => none }
def codecTellsRow : OpenClaim := { program := "yteapfdmjcgnjbaa", sum := "8d34577394c83b4ee2fa97a0bcb2f3593b7ea239c91588c42df66818651e656e", func := "talus/taluslaw02.CodecTells", spec := "codecTells", apart := false }
def CodecTellsSaid : Prop := codecTellsRow.holds Try.pinned (OpenSpec.ofChange codecTellsSpec)

/-- ITS FALSE NEIGHBOUR: 'it returns false'. Refute it at one input. -/
def codecTellsWrong : ChangeSpec := { name := "codecTells", fn := fun _ => fun
  | [d1, d2, d3] => { results := [.lit (.bool false)], args := [d1, d2, d3] }
  | _ => none }
def CodecTellsWrongFalsely : Prop := codecTellsRow.holds Try.pinned (OpenSpec.ofChange codecTellsWrong)

/-- 'taluslaw02.CodecPacks': WHATEVER THE INPUT: true; the input reads as it did. -/
def codecPacksSpec : ChangeSpec := { name := "codecPacks", fn := fun _ => fun
  | [d1, d2, d3] => { results := [.lit (.bool true)], args := [d1, d2, d3] }
  | _ => none }
def codecPacksRow : OpenClaim := { program := "yteapfdmjcgnjbaa", sum := "8d34577394c83b4ee2fa97a0bcb2f3593b7ea239c91588c42df66818651e656e", func := "talus/taluslaw02.CodecPacks", spec := "codecPacks", unfollowed := true, recurses := true, apart := false }
def CodecPacksSaid : Prop := codecPacksRow.holds Try.pinned (OpenSpec.ofChange codecPacksSpec)

/-- ITS FALSE NEIGHBOUR: 'it returns false'. Refute it at one input. -/
def codecPacksWrong : ChangeSpec := { name := "codecPacks", fn := fun _ => fun
  | [d1, d2, d3] => { results := [.lit (.bool false)], args := [d1, d2, d3] }
  | _ => none }
def CodecPacksWrongFalsely : Prop := codecPacksRow.holds Try.pinned (OpenSpec.ofChange codecPacksWrong)

/-- 'taluslaw02.CodecWidths': WHATEVER THE INPUT: true; the input reads as it did. -/
def codecWidthsSpec : ChangeSpec := { name := "codecWidths", fn := fun _ => fun
  | [d1, d2] => { results := [.lit (.bool true)], args := [d1, d2] }
  | _ => none }
def codecWidthsRow : OpenClaim := { program := "yteapfdmjcgnjbaa", sum := "8d34577394c83b4ee2fa97a0bcb2f3593b7ea239c91588c42df66818651e656e", func := "talus/taluslaw02.CodecWidths", spec := "codecWidths", unfollowed := true, recurses := true, apart := false }
def CodecWidthsSaid : Prop := codecWidthsRow.holds Try.pinned (OpenSpec.ofChange codecWidthsSpec)

/-- ITS FALSE NEIGHBOUR: 'it returns false'. Refute it at one input. -/
def codecWidthsWrong : ChangeSpec := { name := "codecWidths", fn := fun _ => fun
  | [d1, d2] => { results := [.lit (.bool false)], args := [d1, d2] }
  | _ => none }
def CodecWidthsWrongFalsely : Prop := codecWidthsRow.holds Try.pinned (OpenSpec.ofChange codecWidthsWrong)

/-- 'taluslaw02.CodecRuns': WHATEVER THE INPUT: true; the input reads as it did. -/
def codecRunsSpec : ChangeSpec := { name := "codecRuns", fn := fun _ => fun
  | [d1, d2] => { results := [.lit (.bool true)], args := [d1, d2] }
  | _ => none }
def codecRunsRow : OpenClaim := { program := "yteapfdmjcgnjbaa", sum := "8d34577394c83b4ee2fa97a0bcb2f3593b7ea239c91588c42df66818651e656e", func := "talus/taluslaw02.CodecRuns", spec := "codecRuns", unfollowed := true, recurses := true, apart := false }
def CodecRunsSaid : Prop := codecRunsRow.holds Try.pinned (OpenSpec.ofChange codecRunsSpec)

/-- ITS FALSE NEIGHBOUR: 'it returns false'. Refute it at one input. -/
def codecRunsWrong : ChangeSpec := { name := "codecRuns", fn := fun _ => fun
  | [d1, d2] => { results := [.lit (.bool false)], args := [d1, d2] }
  | _ => none }
def CodecRunsWrongFalsely : Prop := codecRunsRow.holds Try.pinned (OpenSpec.ofChange codecRunsWrong)

/-- 'taluslaw02.CodecBack': WHATEVER THE INPUT: true; the input reads as it did. -/
def codecBackSpec : ChangeSpec := { name := "codecBack", fn := fun _ => fun
  | [d1, d2, d3] => { results := [.lit (.bool true)], args := [d1, d2, d3] }
  | _ => none }
def codecBackRow : OpenClaim := { program := "yteapfdmjcgnjbaa", sum := "8d34577394c83b4ee2fa97a0bcb2f3593b7ea239c91588c42df66818651e656e", func := "talus/taluslaw02.CodecBack", spec := "codecBack", unfollowed := true, recurses := true, apart := false }
def CodecBackSaid : Prop := codecBackRow.holds Try.pinned (OpenSpec.ofChange codecBackSpec)

/-- ITS FALSE NEIGHBOUR: 'it returns false'. Refute it at one input. -/
def codecBackWrong : ChangeSpec := { name := "codecBack", fn := fun _ => fun
  | [d1, d2, d3] => { results := [.lit (.bool false)], args := [d1, d2, d3] }
  | _ => none }
def CodecBackWrongFalsely : Prop := codecBackRow.holds Try.pinned (OpenSpec.ofChange codecBackWrong)

/-- 'taluslaw03.FieldDivides': WHATEVER THE INPUT: true; the input reads as it did. -/
def fieldDividesSpec : ChangeSpec := { name := "fieldDivides", fn := fun _ => fun
  | [d1, d2, d3] => { results := [.lit (.bool true)], args := [d1, d2, d3] }
  | _ => none }
def fieldDividesRow : OpenClaim := { program := "yteapfdmjcgnjbaa", sum := "8d34577394c83b4ee2fa97a0bcb2f3593b7ea239c91588c42df66818651e656e", func := "talus/taluslaw03.FieldDivides", spec := "fieldDivides", unfollowed := true, recurses := true, named := ["math/bits.divideError", "math/bits.overflowError"], apart := false }
def FieldDividesSaid : Prop := fieldDividesRow.holds Try.pinned (OpenSpec.ofChange fieldDividesSpec)

/-- ITS FALSE NEIGHBOUR: 'it returns false'. Refute it at one input. -/
def fieldDividesWrong : ChangeSpec := { name := "fieldDivides", fn := fun _ => fun
  | [d1, d2, d3] => { results := [.lit (.bool false)], args := [d1, d2, d3] }
  | _ => none }
def FieldDividesWrongFalsely : Prop := fieldDividesRow.holds Try.pinned (OpenSpec.ofChange fieldDividesWrong)

/-- 'taluslaw03.FieldQuotients': WHATEVER THE INPUT: true; the input reads as it did. -/
def fieldQuotientsSpec : ChangeSpec := { name := "fieldQuotients", fn := fun _ => fun
  | [d1, d2, d3] => { results := [.lit (.bool true)], args := [d1, d2, d3] }
  | _ => none }
def fieldQuotientsRow : OpenClaim := { program := "yteapfdmjcgnjbaa", sum := "8d34577394c83b4ee2fa97a0bcb2f3593b7ea239c91588c42df66818651e656e", func := "talus/taluslaw03.FieldQuotients", spec := "fieldQuotients", unfollowed := true, recurses := true, named := ["math/bits.divideError", "math/bits.overflowError"], apart := false }
def FieldQuotientsSaid : Prop := fieldQuotientsRow.holds Try.pinned (OpenSpec.ofChange fieldQuotientsSpec)

/-- ITS FALSE NEIGHBOUR: 'it returns false'. Refute it at one input. -/
def fieldQuotientsWrong : ChangeSpec := { name := "fieldQuotients", fn := fun _ => fun
  | [d1, d2, d3] => { results := [.lit (.bool false)], args := [d1, d2, d3] }
  | _ => none }
def FieldQuotientsWrongFalsely : Prop := fieldQuotientsRow.holds Try.pinned (OpenSpec.ofChange fieldQuotientsWrong)

/-- 'taluslaw03.FieldHashes': WHATEVER THE INPUT: true; the input reads as it did. -/
def fieldHashesSpec : ChangeSpec := { name := "fieldHashes", fn := fun _ => fun
  | [d1, d2, d3] => { results := [.lit (.bool true)], args := [d1, d2, d3] }
  | _ => none }
def fieldHashesRow : OpenClaim := { program := "yteapfdmjcgnjbaa", sum := "8d34577394c83b4ee2fa97a0bcb2f3593b7ea239c91588c42df66818651e656e", func := "talus/taluslaw03.FieldHashes", spec := "fieldHashes", unfollowed := true, recurses := true, named := ["math/bits.divideError", "math/bits.overflowError"], apart := false }
def FieldHashesSaid : Prop := fieldHashesRow.holds Try.pinned (OpenSpec.ofChange fieldHashesSpec)

/-- ITS FALSE NEIGHBOUR: 'it returns false'. Refute it at one input. -/
def fieldHashesWrong : ChangeSpec := { name := "fieldHashes", fn := fun _ => fun
  | [d1, d2, d3] => { results := [.lit (.bool false)], args := [d1, d2, d3] }
  | _ => none }
def FieldHashesWrongFalsely : Prop := fieldHashesRow.holds Try.pinned (OpenSpec.ofChange fieldHashesWrong)

/-- 'taluslaw03.FieldSums': WHATEVER THE INPUT: true; the input reads as it did. -/
def fieldSumsSpec : ChangeSpec := { name := "fieldSums", fn := fun _ => fun
  | [d1, d2] => { results := [.lit (.bool true)], args := [d1, d2] }
  | _ => none }
def fieldSumsRow : OpenClaim := { program := "yteapfdmjcgnjbaa", sum := "8d34577394c83b4ee2fa97a0bcb2f3593b7ea239c91588c42df66818651e656e", func := "talus/taluslaw03.FieldSums", spec := "fieldSums", unfollowed := true, recurses := true, named := ["math/bits.divideError", "math/bits.overflowError"], apart := false }
def FieldSumsSaid : Prop := fieldSumsRow.holds Try.pinned (OpenSpec.ofChange fieldSumsSpec)

/-- ITS FALSE NEIGHBOUR: 'it returns false'. Refute it at one input. -/
def fieldSumsWrong : ChangeSpec := { name := "fieldSums", fn := fun _ => fun
  | [d1, d2] => { results := [.lit (.bool false)], args := [d1, d2] }
  | _ => none }
def FieldSumsWrongFalsely : Prop := fieldSumsRow.holds Try.pinned (OpenSpec.ofChange fieldSumsWrong)

/-- 'taluslaw03.FieldRules': WHATEVER THE INPUT: true; the input reads as it did. -/
def fieldRulesSpec : ChangeSpec := { name := "fieldRules", fn := fun _ => fun
  | [d1, d2, d3] => { results := [.lit (.bool true)], args := [d1, d2, d3] }
  | _ => none }
def fieldRulesRow : OpenClaim := { program := "yteapfdmjcgnjbaa", sum := "8d34577394c83b4ee2fa97a0bcb2f3593b7ea239c91588c42df66818651e656e", func := "talus/taluslaw03.FieldRules", spec := "fieldRules", unfollowed := true, recurses := true, named := ["math/bits.divideError", "math/bits.overflowError"], apart := false }
def FieldRulesSaid : Prop := fieldRulesRow.holds Try.pinned (OpenSpec.ofChange fieldRulesSpec)

/-- ITS FALSE NEIGHBOUR: 'it returns false'. Refute it at one input. -/
def fieldRulesWrong : ChangeSpec := { name := "fieldRules", fn := fun _ => fun
  | [d1, d2, d3] => { results := [.lit (.bool false)], args := [d1, d2, d3] }
  | _ => none }
def FieldRulesWrongFalsely : Prop := fieldRulesRow.holds Try.pinned (OpenSpec.ofChange fieldRulesWrong)

/- THE SECOND FORM. 'bulk': how many values and letters a reading holds, each counted each time it is reached (what is shared counts as often as it is met; a slice's spare places count too). A statement '..UptoSaid' is the law's where the arguments, and the package variables that the reading takes, are together of bulk at most 1048576: NARROWER than '..Said'. Prove '..Said' where nothing that the law and all that it calls make is longer than what came in: it says more and counts as full. Else prove '..UptoSaid'. A law counts once. -/
mutual
def uptoBulk {H : Type} : DataW H → Nat
  | .lit (.string bytes) => bytes.length + 1
  | .lit _ => 1
  | .nil => 1
  | .ptr d => uptoBulk d + 1
  | .slice elems spare => uptoBulkAll elems + uptoBulkAll spare + 1
  | .agg parts => uptoBulkAll parts + 1
  | .iface _ d => uptoBulk d + 1
  | .map entries => uptoBulkEntries entries + 1
  | .held _ => 1
def uptoBulkAll {H : Type} : List (DataW H) → Nat
  | [] => 0
  | d :: r => uptoBulk d + uptoBulkAll r
def uptoBulkEntries {H : Type} : List (Lit × DataW H) → Nat
  | [] => 0
  | x :: r => uptoBulkEntry x + uptoBulkEntries r
def uptoBulkEntry {H : Type} : Lit × DataW H → Nat
  | (.string bytes, d) => bytes.length + uptoBulk d + 1
  | (_, d) => uptoBulk d + 1
 end
def uptoSmall : (H : Type) → List (DataW H) → Bool := fun _ ds => decide (uptoBulkAll ds ≤ 1048576)
def OpenSpec.upto (s : _root_.Go.ChangeSpec) : _root_.Go.OpenSpec := { _root_.Go.OpenSpec.ofChange s with cond := some uptoSmall }

/-- 'taluslaw02.CodecShort', WHERE WHAT IT READS IS OF BULK AT MOST 1048576: true; the input reads as it did. -/
def codecShortUptoRow : OpenClaim := { program := "yteapfdmjcgnjbaa", sum := "8d34577394c83b4ee2fa97a0bcb2f3593b7ea239c91588c42df66818651e656e", func := "talus/taluslaw02.CodecShort", spec := "codecShort", apart := false, narrowed := true }
def CodecShortUptoSaid : Prop := codecShortUptoRow.holds Try.pinned (OpenSpec.upto codecShortSpec)

/-- 'taluslaw02.CodecNumbers', WHERE WHAT IT READS IS OF BULK AT MOST 1048576: true; the input reads as it did. -/
def codecNumbersUptoRow : OpenClaim := { program := "yteapfdmjcgnjbaa", sum := "8d34577394c83b4ee2fa97a0bcb2f3593b7ea239c91588c42df66818651e656e", func := "talus/taluslaw02.CodecNumbers", spec := "codecNumbers", apart := false, narrowed := true }
def CodecNumbersUptoSaid : Prop := codecNumbersUptoRow.holds Try.pinned (OpenSpec.upto codecNumbersSpec)

/-- 'taluslaw02.CodecTells', WHERE WHAT IT READS IS OF BULK AT MOST 1048576: true; the input reads as it did. -/
def codecTellsUptoRow : OpenClaim := { program := "yteapfdmjcgnjbaa", sum := "8d34577394c83b4ee2fa97a0bcb2f3593b7ea239c91588c42df66818651e656e", func := "talus/taluslaw02.CodecTells", spec := "codecTells", apart := false, narrowed := true }
def CodecTellsUptoSaid : Prop := codecTellsUptoRow.holds Try.pinned (OpenSpec.upto codecTellsSpec)

/-- 'taluslaw02.CodecPacks', WHERE WHAT IT READS IS OF BULK AT MOST 1048576: true; the input reads as it did. -/
def codecPacksUptoRow : OpenClaim := { program := "yteapfdmjcgnjbaa", sum := "8d34577394c83b4ee2fa97a0bcb2f3593b7ea239c91588c42df66818651e656e", func := "talus/taluslaw02.CodecPacks", spec := "codecPacks", unfollowed := true, recurses := true, apart := false, narrowed := true }
def CodecPacksUptoSaid : Prop := codecPacksUptoRow.holds Try.pinned (OpenSpec.upto codecPacksSpec)

/-- 'taluslaw02.CodecWidths', WHERE WHAT IT READS IS OF BULK AT MOST 1048576: true; the input reads as it did. -/
def codecWidthsUptoRow : OpenClaim := { program := "yteapfdmjcgnjbaa", sum := "8d34577394c83b4ee2fa97a0bcb2f3593b7ea239c91588c42df66818651e656e", func := "talus/taluslaw02.CodecWidths", spec := "codecWidths", unfollowed := true, recurses := true, apart := false, narrowed := true }
def CodecWidthsUptoSaid : Prop := codecWidthsUptoRow.holds Try.pinned (OpenSpec.upto codecWidthsSpec)

/-- 'taluslaw02.CodecRuns', WHERE WHAT IT READS IS OF BULK AT MOST 1048576: true; the input reads as it did. -/
def codecRunsUptoRow : OpenClaim := { program := "yteapfdmjcgnjbaa", sum := "8d34577394c83b4ee2fa97a0bcb2f3593b7ea239c91588c42df66818651e656e", func := "talus/taluslaw02.CodecRuns", spec := "codecRuns", unfollowed := true, recurses := true, apart := false, narrowed := true }
def CodecRunsUptoSaid : Prop := codecRunsUptoRow.holds Try.pinned (OpenSpec.upto codecRunsSpec)

/-- 'taluslaw02.CodecBack', WHERE WHAT IT READS IS OF BULK AT MOST 1048576: true; the input reads as it did. -/
def codecBackUptoRow : OpenClaim := { program := "yteapfdmjcgnjbaa", sum := "8d34577394c83b4ee2fa97a0bcb2f3593b7ea239c91588c42df66818651e656e", func := "talus/taluslaw02.CodecBack", spec := "codecBack", unfollowed := true, recurses := true, apart := false, narrowed := true }
def CodecBackUptoSaid : Prop := codecBackUptoRow.holds Try.pinned (OpenSpec.upto codecBackSpec)

/-- 'taluslaw03.FieldDivides', WHERE WHAT IT READS IS OF BULK AT MOST 1048576: true; the input reads as it did. -/
def fieldDividesUptoRow : OpenClaim := { program := "yteapfdmjcgnjbaa", sum := "8d34577394c83b4ee2fa97a0bcb2f3593b7ea239c91588c42df66818651e656e", func := "talus/taluslaw03.FieldDivides", spec := "fieldDivides", unfollowed := true, recurses := true, named := ["math/bits.divideError", "math/bits.overflowError"], apart := false, narrowed := true }
def FieldDividesUptoSaid : Prop := fieldDividesUptoRow.holds Try.pinned (OpenSpec.upto fieldDividesSpec)

/-- 'taluslaw03.FieldQuotients', WHERE WHAT IT READS IS OF BULK AT MOST 1048576: true; the input reads as it did. -/
def fieldQuotientsUptoRow : OpenClaim := { program := "yteapfdmjcgnjbaa", sum := "8d34577394c83b4ee2fa97a0bcb2f3593b7ea239c91588c42df66818651e656e", func := "talus/taluslaw03.FieldQuotients", spec := "fieldQuotients", unfollowed := true, recurses := true, named := ["math/bits.divideError", "math/bits.overflowError"], apart := false, narrowed := true }
def FieldQuotientsUptoSaid : Prop := fieldQuotientsUptoRow.holds Try.pinned (OpenSpec.upto fieldQuotientsSpec)

/-- 'taluslaw03.FieldHashes', WHERE WHAT IT READS IS OF BULK AT MOST 1048576: true; the input reads as it did. -/
def fieldHashesUptoRow : OpenClaim := { program := "yteapfdmjcgnjbaa", sum := "8d34577394c83b4ee2fa97a0bcb2f3593b7ea239c91588c42df66818651e656e", func := "talus/taluslaw03.FieldHashes", spec := "fieldHashes", unfollowed := true, recurses := true, named := ["math/bits.divideError", "math/bits.overflowError"], apart := false, narrowed := true }
def FieldHashesUptoSaid : Prop := fieldHashesUptoRow.holds Try.pinned (OpenSpec.upto fieldHashesSpec)

/-- 'taluslaw03.FieldSums', WHERE WHAT IT READS IS OF BULK AT MOST 1048576: true; the input reads as it did. -/
def fieldSumsUptoRow : OpenClaim := { program := "yteapfdmjcgnjbaa", sum := "8d34577394c83b4ee2fa97a0bcb2f3593b7ea239c91588c42df66818651e656e", func := "talus/taluslaw03.FieldSums", spec := "fieldSums", unfollowed := true, recurses := true, named := ["math/bits.divideError", "math/bits.overflowError"], apart := false, narrowed := true }
def FieldSumsUptoSaid : Prop := fieldSumsUptoRow.holds Try.pinned (OpenSpec.upto fieldSumsSpec)

/-- 'taluslaw03.FieldRules', WHERE WHAT IT READS IS OF BULK AT MOST 1048576: true; the input reads as it did. -/
def fieldRulesUptoRow : OpenClaim := { program := "yteapfdmjcgnjbaa", sum := "8d34577394c83b4ee2fa97a0bcb2f3593b7ea239c91588c42df66818651e656e", func := "talus/taluslaw03.FieldRules", spec := "fieldRules", unfollowed := true, recurses := true, named := ["math/bits.divideError", "math/bits.overflowError"], apart := false, narrowed := true }
def FieldRulesUptoSaid : Prop := fieldRulesUptoRow.holds Try.pinned (OpenSpec.upto fieldRulesSpec)

end Rows
end Go.Proofs.Yteapfdmjcgnjbaa
