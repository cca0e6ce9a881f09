/- The law SegmentMakes: whatever the input, it answers true, and the input reads as it did. -/
import Derived.Test.YtdehjgpdcdjhjaaRows
import Derived.Test.YtdehjgpdcdjhjaaYgu
import Derived.Test.YtdehjgpdcdjhjaaKz
import Derived.Test.YtdehjgpdcdjhjaaMj
import Derived.Test.YtdehjgpdcdjhjaaMo
import Derived.WalkKit
import Derived.ProofKit
import Derived.OpenShut
import Derived.ShutString
import Derived.ChangeOld
import Derived.Below
import Derived.SizedLaws
namespace Go.Proofs.Ytdehjgpdcdjhjaa.segmentMakes
open Go.ChangeShapes Go.WideShapes Go.ChangeAt Go.RowKit Go.Proofs.Ytdehjgpdcdjhjaa.K
open Go.ChangeMaps (open_string shut_string)
set_option linter.unusedVariables false
set_option linter.unusedSimpArgs false
theorem laidOut : laidOutB Try.prog = true := by kernel_rfl
theorem own : ownKnob Try.prog.godebug = none := by kernel_rfl
set_option maxRecDepth 100000 in
theorem lifted (os : Os) (started : os.Started) (H : Type) (enc : TypeId × Value → H) :
    ReturnsInHanded {} Try.checked os 3 .any (Rows.segmentMakesSpec.pre6 enc Try.prog Try.f3 Rows.segmentMakesRow.domain false) (Rows.segmentMakesSpec.post enc Try.prog Try.f3 false true false false) := by
  refine returnsInHanded_of_change_sized (C := Try.checked) own started (by kernel_rfl) Try.func3
    (ChangeSpec.witness6 (enc := enc) (C := Try.checked) false ⟨#[], #[.slice none 0 0, .slice none 0 0, .slice none 0 0], []⟩ 8 (by kernel_rfl) (by kernel_rfl) (by kernel_rfl) (by kernel_rfl)) ?_
  intro W base args ds gs before hval0 hW hcnd hsz0 _
  have hsz : (DataW.weightsEach Try.prog (Try.f3.params.toList ++ Rows.segmentMakesSpec.plain.varTypes Try.prog) (ds ++ gs)).all (· ≤ reachBytes) = true := hsz0
  have hval : ∀ (j : Nat) t v, Try.f3.params[j]? = some t → args[j]? = some v → Value.okWide Try.prog W .any base t v := hval0
  have hW' := hW
  obtain ⟨p, q, hA0, hV, rfl, hfz, hnd⟩ := hW
  have hA : DataW.TrodAll enc Try.prog W 0 (fun _ => true) true Try.f3.params.toList args.toList ds p := hA0
  rw [Try.params3] at hA hval hsz
  obtain ⟨v0, vs0, d0, ds0, p0, q0, hargs, rfl, rfl, h0, r0⟩ := trodAll_cons hA
  obtain ⟨v1, vs1, d1, ds1, p1, q1, rfl, rfl, rfl, h1, r1⟩ := trodAll_cons r0
  obtain ⟨v2, vs2, d2, ds2, p2, q2, rfl, rfl, rfl, h2, r2⟩ := trodAll_cons r1
  obtain ⟨rfl, rfl, rfl⟩ := trodAll_nil r2
  obtain rfl : args = #[v0, v1, v2] := by cases args; simp_all
  obtain ⟨rfl, rfl⟩ := trodVars_none hV
  have k0 := h0
  have lt0 : ∀ x ∈ p0, x.block < W.heap.size := by obtain ⟨m, hm⟩ := k0; exact DataW.trod_lt m _ _ _ hm
  obtain ⟨b0, len0, cap0, rfl⟩ := okWide_slice Try.underlying22 (hval 0 22 v0 rfl rfl)
  obtain ⟨fuel0, hf0⟩ := h0
  obtain ⟨⟨A1, c2, l3⟩, e0, ⟨g4, g5, g6, g7⟩⟩ := (openw_ints Try.underlying22 (by kernel_rfl : Try.prog.bytesOf 3 = 8) (by kernel_rfl) Try.underlying3 (by kernel_rfl)).opn hf0 (fun n hn => of_decide_eq_true (List.all_eq_true.1 hsz _ (DataW.weights_mem_each (j := 0) (t := 22) rfl rfl _ hn)))
  simp only [Value.cells, List.cons.injEq, and_true] at e0
  obtain ⟨rfl, rfl, rfl⟩ : b0 = A1 ∧ len0 = l3.length ∧ cap0 = c2 := by simpa using e0
  have k1 := h1
  have lt1 : ∀ x ∈ p1, x.block < W.heap.size := by obtain ⟨m, hm⟩ := k1; exact DataW.trod_lt m _ _ _ hm
  obtain ⟨b1, len1, cap1, rfl⟩ := okWide_slice Try.underlying23 (hval 1 23 v1 rfl rfl)
  obtain ⟨fuel1, hf1⟩ := h1
  obtain ⟨⟨A8, c9, l10⟩, e1, ⟨g11, g12, g13, g14⟩⟩ := (openw_slice Try.underlying23 (by kernel_rfl : Try.prog.bytesOf 53 = 24) (by kernel_rfl) (openw_slice Try.underlying53 (by kernel_rfl : Try.prog.bytesOf 62 = 32) (by kernel_rfl) (openw_struct Try.underlying62 (openwF_cons rfl (openw_i64 Try.underlying3 (by kernel_rfl)) (openwF_cons rfl (openw_i64 Try.underlying3 (by kernel_rfl)) (openwF_cons rfl (openw_str Try.underlying9 (by kernel_rfl)) openwF_nil)))))).opn hf1 (fun n hn => of_decide_eq_true (List.all_eq_true.1 hsz _ (DataW.weights_mem_each (j := 1) (t := 23) rfl rfl _ hn)))
  simp only [Value.cells, List.cons.injEq, and_true] at e1
  obtain ⟨rfl, rfl, rfl⟩ : b1 = A8 ∧ len1 = l10.length ∧ cap1 = c9 := by simpa using e1
  have k2 := h2
  have lt2 : ∀ x ∈ p2, x.block < W.heap.size := by obtain ⟨m, hm⟩ := k2; exact DataW.trod_lt m _ _ _ hm
  obtain ⟨b2, len2, cap2, rfl⟩ := okWide_slice Try.underlying23 (hval 2 23 v2 rfl rfl)
  obtain ⟨fuel2, hf2⟩ := h2
  obtain ⟨⟨A15, c16, l17⟩, e2, ⟨g18, g19, g20, g21⟩⟩ := (openw_slice Try.underlying23 (by kernel_rfl : Try.prog.bytesOf 53 = 24) (by kernel_rfl) (openw_slice Try.underlying53 (by kernel_rfl : Try.prog.bytesOf 62 = 32) (by kernel_rfl) (openw_struct Try.underlying62 (openwF_cons rfl (openw_i64 Try.underlying3 (by kernel_rfl)) (openwF_cons rfl (openw_i64 Try.underlying3 (by kernel_rfl)) (openwF_cons rfl (openw_str Try.underlying9 (by kernel_rfl)) openwF_nil)))))).opn hf2 (fun n hn => of_decide_eq_true (List.all_eq_true.1 hsz _ (DataW.weights_mem_each (j := 2) (t := 23) rfl rfl _ hn)))
  simp only [Value.cells, List.cons.injEq, and_true] at e2
  obtain ⟨rfl, rfl, rfl⟩ : b2 = A15 ∧ len2 = l17.length ∧ cap2 = c16 := by simpa using e2
  clear hA0 hval0 hsz0 hsz
  refine (FnV.below (law_SegmentMakes b0 cap0 l3 b1 cap1 l10 b2 cap2 l17 W g4 g5 g6 g7 g11 g12 g13 g14 g18 g19 g20 g21)).mono fun e W' ⟨he, bel⟩ => ?_
  subst he
  exact ⟨_, rfl, _, _, _, [], _, [], hW', trodAll_mk1 (shut_bool Try.underlying4 _), (trodAll_cons_mk (Below.trod laidOut (by kernel_rfl) (of_decide_eq_true (by kernel_rfl)) k0 bel lt0) (trodAll_cons_mk (Below.trod laidOut (by kernel_rfl) (of_decide_eq_true (by kernel_rfl)) k1 bel lt1) (trodAll_cons_mk (Below.trod laidOut (by kernel_rfl) (of_decide_eq_true (by kernel_rfl)) k2 bel lt2) trodAll_mk0))), rfl, bel.frame _, fun h => by cases h⟩
theorem over : Rows.segmentMakesRow.holds Try.pinned (OpenSpec.ofChange Rows.segmentMakesSpec) :=
  OpenClaim.holds_of_wide 3 Try.f3 rfl rfl rfl rfl rfl rfl rfl ⟨rfl, rfl, rfl, rfl, rfl⟩ rfl rfl rfl rfl rfl (by kernel_rfl) Try.func3 (by kernel_rfl)
    (of_decide_eq_true (by kernel_rfl)) (by unfold Func.isWrapper; first | (rw [if_pos (by decide +kernel)]; kernel_rfl) | (rw [if_neg (by decide +kernel)]; exact ⟨rfl, rfl⟩))
    (fun os started H enc _ => lifted os started H enc)
theorem proved : Rows.SegmentMakesSaid := over
#print axioms proved
end Go.Proofs.Ytdehjgpdcdjhjaa.segmentMakes
namespace Go.Proofs.Ytdehjgpdcdjhjaa
/-- The row, under a short name, for the claim. -/
theorem segmentMakes_holds : Rows.SegmentMakesSaid := segmentMakes.proved
end Go.Proofs.Ytdehjgpdcdjhjaa
