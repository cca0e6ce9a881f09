/- The law RecordCuts: whatever the input, it answers true, and the input reads as it did. -/
import Derived.Test.YtclnhfdgiaamhaaRows
import Derived.Test.YtclnhfdgiaamhaaYrcut
import Derived.Test.YtclnhfdgiaamhaaKz
import Derived.Test.YtclnhfdgiaamhaaMj
import Derived.Test.YtclnhfdgiaamhaaMp
import Derived.JoinedCond
import Derived.WalkKit
import Derived.ProofKit
import Derived.OpenShut
import Derived.ShutString
import Derived.ChangeOld
import Derived.Below
import Derived.SizedLaws
namespace Go.Proofs.Ytclnhfdgiaamhaa.recordCuts
open Go.ChangeShapes Go.WideShapes Go.ChangeAt Go.RowKit Go.Proofs.Ytclnhfdgiaamhaa.K
open Go.ChangeMaps (open_string shut_string)
set_option linter.unusedVariables false
set_option linter.unusedSimpArgs false
theorem laidOut : laidOutB Try.prog = true := by kernel_rfl
theorem own : ownKnob Try.prog.godebug = none := by kernel_rfl
set_option maxRecDepth 100000 in
theorem lifted (os : Os) (started : os.Started) (H : Type) (enc : TypeId × Value → H) (F : Stop.Interp) :
    ReturnsInHanded {} Try.checked os 5 .any ((Rows.OpenSpec.upto Rows.recordCutsSpec).pre6 enc Try.prog Try.f5 Rows.recordCutsUptoRow.domain false) (((Rows.OpenSpec.upto Rows.recordCutsSpec).at F).post enc Try.prog Try.f5 false true false false) := by
  refine returnsInHanded_of_cond (C := Try.checked) (s := (Rows.OpenSpec.upto Rows.recordCutsSpec)) (k := Rows.uptoSmall) rfl own started (by kernel_rfl) Try.func5
    (OpenSpec.witness (enc := enc) (C := Try.checked) (s := (Rows.OpenSpec.upto Rows.recordCutsSpec)) (k := Rows.uptoSmall) rfl false ⟨#[], #[.slice none 0 0, .int .u64 0, .int .u64 0], []⟩ 8 (by kernel_rfl) (by kernel_rfl) (by kernel_rfl)
      (x := ([.nil, .lit (.int .u64 0), .lit (.int .u64 0)], [], [])) (by kernel_rfl) rfl (by kernel_rfl)) ?_
  intro W base args ds gs before hval0 hW hcnd hk _
  have hb : Rows.uptoBulkAll (ds ++ gs) ≤ 1048576 := of_decide_eq_true hk
  show Calls Try.prog 5 args W fun e W' => ∃ v, e = .returned v ∧ Rows.recordCutsSpec.post enc Try.prog Try.f5 false true false false W args v W'
  have hval : ∀ (j : Nat) t v, Try.f5.params[j]? = some t → args[j]? = some v → Value.okWide Try.prog W .any base t v := hval0
  replace hW : DataW.Whole enc Try.prog Try.f5.params.toList Rows.recordCutsSpec.vars false W args.toList ds gs before := hW
  have hW' := hW
  obtain ⟨p, q, hA0, hV, rfl, hfz, hnd⟩ := hW
  have hA : DataW.TrodAll enc Try.prog W 0 (fun _ => true) true Try.f5.params.toList args.toList ds p := hA0
  rw [Try.params5] at hA hval
  obtain ⟨v0, vs0, d0, ds0, p0, q0, hargs, rfl, rfl, h0, r0⟩ := trodAll_cons hA
  obtain ⟨v1, vs1, d1, ds1, p1, q1, rfl, rfl, rfl, h1, r1⟩ := trodAll_cons r0
  obtain ⟨v2, vs2, d2, ds2, p2, q2, rfl, rfl, rfl, h2, r2⟩ := trodAll_cons r1
  obtain ⟨rfl, rfl, rfl⟩ := trodAll_nil r2
  obtain rfl : args = #[v0, v1, v2] := by cases args; simp_all
  obtain ⟨rfl, rfl⟩ := trodVars_none hV
  have k0 := h0
  have lt0 : ∀ x ∈ p0, x.block < W.heap.size := by obtain ⟨m, hm⟩ := k0; exact DataW.trod_lt m _ _ _ hm
  obtain ⟨b0, len0, cap0, rfl⟩ := okWide_slice Try.underlying25 (hval 0 25 v0 rfl rfl)
  obtain ⟨fuel0, hf0⟩ := h0
  obtain ⟨⟨A1, c2, l3⟩, e0, ⟨g4, g5, g6, g7⟩⟩ := (openb_slice Try.underlying25 (by kernel_rfl) (openb_struct Try.underlying43 (openbF_cons rfl (openb_i64 Try.underlying3 (by kernel_rfl)) (openbF_cons rfl (openb_struct Try.underlying36 (openbF_cons rfl (openb_str Try.underlying9 (by kernel_rfl)) (openbF_cons rfl (openb_slice Try.underlying34 (by kernel_rfl) (openb_struct Try.underlying96 (openbF_cons rfl (openb_str Try.underlying9 (by kernel_rfl)) (openbF_cons rfl (openb_i64 Try.underlying3 (by kernel_rfl)) openbF_nil)))) openbF_nil))) (openbF_cons rfl (openb_struct Try.underlying40 (openbF_cons rfl (openb_str Try.underlying9 (by kernel_rfl)) (openbF_cons rfl (openb_str Try.underlying9 (by kernel_rfl)) (openbF_cons rfl (openb_texts Try.underlying37 (by kernel_rfl) Try.underlying9 (by kernel_rfl)) (openbF_cons rfl (openb_slice Try.underlying38 (by kernel_rfl) (openb_struct Try.underlying104 (openbF_cons rfl (openb_i64 Try.underlying3 (by kernel_rfl)) (openbF_cons rfl (openb_str Try.underlying9 (by kernel_rfl)) openbF_nil)))) openbF_nil))))) (openbF_cons rfl (openb_str Try.underlying9 (by kernel_rfl)) (openbF_cons rfl (openb_slice Try.underlying41 (by kernel_rfl) (openb_slice Try.underlying105 (by kernel_rfl) (openb_struct Try.underlying107 (openbF_cons rfl (openb_i64 Try.underlying3 (by kernel_rfl)) (openbF_cons rfl (openb_i64 Try.underlying3 (by kernel_rfl)) (openbF_cons rfl (openb_str Try.underlying9 (by kernel_rfl)) openbF_nil)))))) openbF_nil))))))).opn hf0 (Nat.le_trans (part_leB (by simp)) hb)
  simp only [Value.cells, List.cons.injEq, and_true] at e0
  obtain ⟨rfl, rfl, rfl⟩ : b0 = A1 ∧ len0 = l3.length ∧ cap0 = c2 := by simpa using e0
  obtain ⟨a1, rfl, rfl, rfl, w1⟩ := open_int Try.underlying23 (hval 1 23 v1 rfl rfl) h1
  have b1 : 0 ≤ a1 ∧ a1 < 18446744073709551616 := by have := w1; simp [Lit.wf, IntKind.min, IntKind.max, IntKind.signed, IntKind.bits] at this; omega
  obtain ⟨n1, rfl⟩ : ∃ n : Nat, a1 = (n : Int) := ⟨a1.toNat, (Int.toNat_of_nonneg b1.1).symm⟩
  obtain ⟨a2, rfl, rfl, rfl, w2⟩ := open_int Try.underlying59 (hval 2 59 v2 rfl rfl) h2
  have b2 : 0 ≤ a2 ∧ a2 < 18446744073709551616 := by have := w2; simp [Lit.wf, IntKind.min, IntKind.max, IntKind.signed, IntKind.bits] at this; omega
  obtain ⟨n2, rfl⟩ : ∃ n : Nat, a2 = (n : Int) := ⟨a2.toNat, (Int.toNat_of_nonneg b2.1).symm⟩
  clear hA0 hval0
  refine (FnV.below (law_RecordCuts b0 cap0 l3 n1 n2 W g4 g5 g6 g7 (by have := b1; omega) (by have := b2; omega))).mono fun e W' ⟨he, bel⟩ => ?_
  subst he
  exact ⟨_, rfl, _, _, _, [], _, [], hW', trodAll_mk1 (shut_bool Try.underlying4 _), (trodAll_cons_mk (Below.trod laidOut (by kernel_rfl) (of_decide_eq_true (by kernel_rfl)) k0 bel lt0) (trodAll_cons_mk (shut_int Try.underlying23 w1) (trodAll_cons_mk (shut_int Try.underlying59 w2) trodAll_mk0))), rfl, bel.frame _, fun h => by cases h⟩
theorem over : Rows.RecordCutsUptoSaid :=
  OpenClaim.holds_of_cond 5 Try.f5 rfl rfl rfl rfl rfl rfl rfl ⟨rfl, rfl, rfl, rfl, rfl⟩ rfl rfl rfl rfl rfl (by kernel_rfl) Try.func5 (by kernel_rfl)
    (of_decide_eq_true (by kernel_rfl)) (by unfold Func.isWrapper; first | (rw [if_pos (by decide +kernel)]; kernel_rfl) | (rw [if_neg (by decide +kernel)]; exact ⟨rfl, rfl⟩))
    (fun os started H enc _ F => lifted os started H enc F)
#print axioms over
end Go.Proofs.Ytclnhfdgiaamhaa.recordCuts
namespace Go.Proofs.Ytclnhfdgiaamhaa
/-- The row, under a short name, for the claim. -/
theorem recordCuts_holds : Rows.RecordCutsUptoSaid := recordCuts.over
end Go.Proofs.Ytclnhfdgiaamhaa
