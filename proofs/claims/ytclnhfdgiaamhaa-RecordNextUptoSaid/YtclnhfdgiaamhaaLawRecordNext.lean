/- The law RecordNext: whatever the input, it answers true, and the input reads as it did. -/
import Derived.Test.YtclnhfdgiaamhaaRows
import Derived.Test.YtclnhfdgiaamhaaYrz
import Derived.Test.YtclnhfdgiaamhaaKz
import Derived.Test.YtclnhfdgiaamhaaMj
import Derived.Test.YtclnhfdgiaamhaaMp
import Derived.JoinedCond
import Derived.WalkKit
import Derived.ProofKit
import Derived.OpenShut
import Derived.ShutString
import Derived.ChangeOld
import Derived.Below
import Derived.SizedLaws
namespace Go.Proofs.Ytclnhfdgiaamhaa.recordNext
open Go.ChangeShapes Go.WideShapes Go.ChangeAt Go.RowKit Go.Proofs.Ytclnhfdgiaamhaa.K
open Go.ChangeMaps (open_string shut_string)
set_option linter.unusedVariables false
set_option linter.unusedSimpArgs false
theorem laidOut : laidOutB Try.prog = true := by kernel_rfl
theorem own : ownKnob Try.prog.godebug = none := by kernel_rfl
set_option maxRecDepth 100000 in
theorem lifted (os : Os) (started : os.Started) (H : Type) (enc : TypeId × Value → H) (F : Stop.Interp) :
    ReturnsInHanded {} Try.checked os 7 .any ((Rows.OpenSpec.upto Rows.recordNextSpec).pre6 enc Try.prog Try.f7 Rows.recordNextUptoRow.domain false) (((Rows.OpenSpec.upto Rows.recordNextSpec).at F).post enc Try.prog Try.f7 false true false false) := by
  refine returnsInHanded_of_cond (C := Try.checked) (s := (Rows.OpenSpec.upto Rows.recordNextSpec)) (k := Rows.uptoSmall) rfl own started (by kernel_rfl) Try.func7
    (OpenSpec.witness (enc := enc) (C := Try.checked) (s := (Rows.OpenSpec.upto Rows.recordNextSpec)) (k := Rows.uptoSmall) rfl false ⟨#[], #[.slice none 0 0, .agg #[.int .i64 0, .string .empty, .slice none 0 0, .string .empty, .string .empty, .slice none 0 0, .slice none 0 0, .string .empty, .slice none 0 0], .slice none 0 0], []⟩ 8 (by kernel_rfl) (by kernel_rfl) (by kernel_rfl)
      (x := ([.nil, .agg [.lit (.int .i64 0), .agg [.lit (.string []), .nil], .agg [.lit (.string []), .lit (.string []), .nil, .nil], .lit (.string []), .nil], .nil], [], [])) (by kernel_rfl) rfl (by kernel_rfl)) ?_
  intro W base args ds gs before hval0 hW hcnd hk _
  have hb : Rows.uptoBulkAll (ds ++ gs) ≤ 1048576 := of_decide_eq_true hk
  show Calls Try.prog 7 args W fun e W' => ∃ v, e = .returned v ∧ Rows.recordNextSpec.post enc Try.prog Try.f7 false true false false W args v W'
  have hval : ∀ (j : Nat) t v, Try.f7.params[j]? = some t → args[j]? = some v → Value.okWide Try.prog W .any base t v := hval0
  replace hW : DataW.Whole enc Try.prog Try.f7.params.toList Rows.recordNextSpec.vars false W args.toList ds gs before := hW
  have hW' := hW
  obtain ⟨p, q, hA0, hV, rfl, hfz, hnd⟩ := hW
  have hA : DataW.TrodAll enc Try.prog W 0 (fun _ => true) true Try.f7.params.toList args.toList ds p := hA0
  rw [Try.params7] at hA hval
  obtain ⟨v0, vs0, d0, ds0, p0, q0, hargs, rfl, rfl, h0, r0⟩ := trodAll_cons hA
  obtain ⟨v1, vs1, d1, ds1, p1, q1, rfl, rfl, rfl, h1, r1⟩ := trodAll_cons r0
  obtain ⟨v2, vs2, d2, ds2, p2, q2, rfl, rfl, rfl, h2, r2⟩ := trodAll_cons r1
  obtain ⟨rfl, rfl, rfl⟩ := trodAll_nil r2
  obtain rfl : args = #[v0, v1, v2] := by cases args; simp_all
  obtain ⟨rfl, rfl⟩ := trodVars_none hV
  have k0 := h0
  have lt0 : ∀ x ∈ p0, x.block < W.heap.size := by obtain ⟨m, hm⟩ := k0; exact DataW.trod_lt m _ _ _ hm
  obtain ⟨b0, len0, cap0, rfl⟩ := okWide_slice Try.underlying25 (hval 0 25 v0 rfl rfl)
  obtain ⟨fuel0, hf0⟩ := h0
  obtain ⟨⟨A1, c2, l3⟩, e0, ⟨g4, g5, g6, g7⟩⟩ := (openb_slice Try.underlying25 (by kernel_rfl) (openb_struct Try.underlying43 (openbF_cons rfl (openb_i64 Try.underlying3 (by kernel_rfl)) (openbF_cons rfl (openb_struct Try.underlying36 (openbF_cons rfl (openb_str Try.underlying9 (by kernel_rfl)) (openbF_cons rfl (openb_slice Try.underlying34 (by kernel_rfl) (openb_struct Try.underlying96 (openbF_cons rfl (openb_str Try.underlying9 (by kernel_rfl)) (openbF_cons rfl (openb_i64 Try.underlying3 (by kernel_rfl)) openbF_nil)))) openbF_nil))) (openbF_cons rfl (openb_struct Try.underlying40 (openbF_cons rfl (openb_str Try.underlying9 (by kernel_rfl)) (openbF_cons rfl (openb_str Try.underlying9 (by kernel_rfl)) (openbF_cons rfl (openb_texts Try.underlying37 (by kernel_rfl) Try.underlying9 (by kernel_rfl)) (openbF_cons rfl (openb_slice Try.underlying38 (by kernel_rfl) (openb_struct Try.underlying104 (openbF_cons rfl (openb_i64 Try.underlying3 (by kernel_rfl)) (openbF_cons rfl (openb_str Try.underlying9 (by kernel_rfl)) openbF_nil)))) openbF_nil))))) (openbF_cons rfl (openb_str Try.underlying9 (by kernel_rfl)) (openbF_cons rfl (openb_slice Try.underlying41 (by kernel_rfl) (openb_slice Try.underlying105 (by kernel_rfl) (openb_struct Try.underlying107 (openbF_cons rfl (openb_i64 Try.underlying3 (by kernel_rfl)) (openbF_cons rfl (openb_i64 Try.underlying3 (by kernel_rfl)) (openbF_cons rfl (openb_str Try.underlying9 (by kernel_rfl)) openbF_nil)))))) openbF_nil))))))).opn hf0 (Nat.le_trans (part_leB (by simp)) hb)
  simp only [Value.cells, List.cons.injEq, and_true] at e0
  obtain ⟨rfl, rfl, rfl⟩ : b0 = A1 ∧ len0 = l3.length ∧ cap0 = c2 := by simpa using e0
  have k1 := h1
  have lt1 : ∀ x ∈ p1, x.block < W.heap.size := by obtain ⟨m, hm⟩ := k1; exact DataW.trod_lt m _ _ _ hm
  obtain ⟨x1, rfl, z1⟩ := okWide_struct Try.underlying43 (hval 1 43 v1 rfl rfl)
  obtain ⟨fuel1, hf1⟩ := h1
  obtain ⟨⟨u8, ⟨u10, ⟨A12, c13, l14⟩, _⟩, ⟨u19, u21, ⟨A23, c24, l25⟩, ⟨A30, c31, l32⟩, _⟩, u37, ⟨A39, c40, l41⟩, _⟩, e1, ⟨g9, ⟨g11, ⟨g15, g16, g17, g18⟩, _⟩, ⟨g20, g22, ⟨g26, g27, g28, g29⟩, ⟨g33, g34, g35, g36⟩, _⟩, g38, ⟨g42, g43, g44, g45⟩, _⟩⟩ := (openb_struct Try.underlying43 (openbF_cons rfl (openb_i64 Try.underlying3 (by kernel_rfl)) (openbF_cons rfl (openb_struct Try.underlying36 (openbF_cons rfl (openb_str Try.underlying9 (by kernel_rfl)) (openbF_cons rfl (openb_slice Try.underlying34 (by kernel_rfl) (openb_struct Try.underlying96 (openbF_cons rfl (openb_str Try.underlying9 (by kernel_rfl)) (openbF_cons rfl (openb_i64 Try.underlying3 (by kernel_rfl)) openbF_nil)))) openbF_nil))) (openbF_cons rfl (openb_struct Try.underlying40 (openbF_cons rfl (openb_str Try.underlying9 (by kernel_rfl)) (openbF_cons rfl (openb_str Try.underlying9 (by kernel_rfl)) (openbF_cons rfl (openb_texts Try.underlying37 (by kernel_rfl) Try.underlying9 (by kernel_rfl)) (openbF_cons rfl (openb_slice Try.underlying38 (by kernel_rfl) (openb_struct Try.underlying104 (openbF_cons rfl (openb_i64 Try.underlying3 (by kernel_rfl)) (openbF_cons rfl (openb_str Try.underlying9 (by kernel_rfl)) openbF_nil)))) openbF_nil))))) (openbF_cons rfl (openb_str Try.underlying9 (by kernel_rfl)) (openbF_cons rfl (openb_slice Try.underlying41 (by kernel_rfl) (openb_slice Try.underlying105 (by kernel_rfl) (openb_struct Try.underlying107 (openbF_cons rfl (openb_i64 Try.underlying3 (by kernel_rfl)) (openbF_cons rfl (openb_i64 Try.underlying3 (by kernel_rfl)) (openbF_cons rfl (openb_str Try.underlying9 (by kernel_rfl)) openbF_nil)))))) openbF_nil)))))).opn hf1 (Nat.le_trans (part_leB (by simp)) hb)
  obtain rfl : x1 = (_ : List Value).toArray := Array.toList_inj.1 e1
  have k2 := h2
  have lt2 : ∀ x ∈ p2, x.block < W.heap.size := by obtain ⟨m, hm⟩ := k2; exact DataW.trod_lt m _ _ _ hm
  obtain ⟨b2, len2, cap2, rfl⟩ := okWide_slice Try.underlying22 (hval 2 22 v2 rfl rfl)
  obtain ⟨fuel2, hf2⟩ := h2
  obtain ⟨⟨A46, c47, l48⟩, e2, ⟨g49, g50, g51⟩⟩ := (openb_bytes Try.underlying22 (by kernel_rfl) Try.underlying5 (by kernel_rfl)).opn hf2 (Nat.le_trans (part_leB (by simp)) hb)
  simp only [Value.cells, List.cons.injEq, and_true] at e2
  obtain ⟨rfl, rfl, rfl⟩ : b2 = A46 ∧ len2 = l48.length ∧ cap2 = c47 := by simpa using e2
  clear hA0 hval0
  refine (FnV.below (law_RecordNext b0 cap0 l3 u8 u10 A12 c13 l14 u19 u21 A23 c24 l25 A30 c31 l32 u37 A39 c40 l41 b2 cap2 l48 W g4 g5 g6 g7 g9 g11 g15 g16 g17 g18 g20 g22 g26 g27 g28 g29 g33 g34 g35 g36 g38 g42 g43 g44 g45 g49 g50 g51)).mono fun e W' ⟨he, bel⟩ => ?_
  subst he
  exact ⟨_, rfl, _, _, _, [], _, [], hW', trodAll_mk1 (shut_bool Try.underlying4 _), (trodAll_cons_mk (Below.trod laidOut (by kernel_rfl) (of_decide_eq_true (by kernel_rfl)) k0 bel lt0) (trodAll_cons_mk (Below.trod laidOut (by kernel_rfl) (of_decide_eq_true (by kernel_rfl)) k1 bel lt1) (trodAll_cons_mk (Below.trod laidOut (by kernel_rfl) (of_decide_eq_true (by kernel_rfl)) k2 bel lt2) trodAll_mk0))), rfl, bel.frame _, fun h => by cases h⟩
theorem over : Rows.RecordNextUptoSaid :=
  OpenClaim.holds_of_cond 7 Try.f7 rfl rfl rfl rfl rfl rfl rfl ⟨rfl, rfl, rfl, rfl, rfl⟩ rfl rfl rfl rfl rfl (by kernel_rfl) Try.func7 (by kernel_rfl)
    (of_decide_eq_true (by kernel_rfl)) (by unfold Func.isWrapper; first | (rw [if_pos (by decide +kernel)]; kernel_rfl) | (rw [if_neg (by decide +kernel)]; exact ⟨rfl, rfl⟩))
    (fun os started H enc _ F => lifted os started H enc F)
#print axioms over
end Go.Proofs.Ytclnhfdgiaamhaa.recordNext
namespace Go.Proofs.Ytclnhfdgiaamhaa
/-- The row, under a short name, for the claim. -/
theorem recordNext_holds : Rows.RecordNextUptoSaid := recordNext.over
end Go.Proofs.Ytclnhfdgiaamhaa
