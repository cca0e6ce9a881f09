/- The law SegmentAlike: whatever the input, it answers true, and the input reads as it did. -/
import Derived.Test.YtdehjgpdcdjhjaaRows
import Derived.Test.YtdehjgpdcdjhjaaYhd
import Derived.Test.YtdehjgpdcdjhjaaKz
import Derived.Test.YtdehjgpdcdjhjaaMj
import Derived.Test.YtdehjgpdcdjhjaaMo
import Derived.WalkKit
import Derived.ProofKit
import Derived.OpenShut
import Derived.ShutString
import Derived.ChangeOld
import Derived.Below
import Derived.SizedLaws
namespace Go.Proofs.Ytdehjgpdcdjhjaa.segmentAlike
open Go.ChangeShapes Go.WideShapes Go.ChangeAt Go.RowKit Go.Proofs.Ytdehjgpdcdjhjaa.K
open Go.ChangeMaps (open_string shut_string)
set_option linter.unusedVariables false
set_option linter.unusedSimpArgs false
theorem laidOut : laidOutB Try.prog = true := by kernel_rfl
theorem own : ownKnob Try.prog.godebug = none := by kernel_rfl
set_option maxRecDepth 100000 in
theorem lifted (os : Os) (started : os.Started) (H : Type) (enc : TypeId × Value → H) :
    ReturnsInHanded {} Try.checked os 4 .any (Rows.segmentAlikeSpec.pre6 enc Try.prog Try.f4 Rows.segmentAlikeRow.domain false) (Rows.segmentAlikeSpec.post enc Try.prog Try.f4 false true false false) := by
  refine returnsInHanded_of_change_sized (C := Try.checked) own started (by kernel_rfl) Try.func4
    (ChangeSpec.witness6 (enc := enc) (C := Try.checked) false ⟨#[], #[.slice none 0 0, .slice none 0 0], []⟩ 8 (by kernel_rfl) (by kernel_rfl) (by kernel_rfl) (by kernel_rfl)) ?_
  intro W base args ds gs before hval0 hW hcnd hsz0 _
  have hsz : (DataW.weightsEach Try.prog (Try.f4.params.toList ++ Rows.segmentAlikeSpec.plain.varTypes Try.prog) (ds ++ gs)).all (· ≤ reachBytes) = true := hsz0
  have hval : ∀ (j : Nat) t v, Try.f4.params[j]? = some t → args[j]? = some v → Value.okWide Try.prog W .any base t v := hval0
  have hW' := hW
  obtain ⟨p, q, hA0, hV, rfl, hfz, hnd⟩ := hW
  have hA : DataW.TrodAll enc Try.prog W 0 (fun _ => true) true Try.f4.params.toList args.toList ds p := hA0
  rw [Try.params4] at hA hval hsz
  obtain ⟨v0, vs0, d0, ds0, p0, q0, hargs, rfl, rfl, h0, r0⟩ := trodAll_cons hA
  obtain ⟨v1, vs1, d1, ds1, p1, q1, rfl, rfl, rfl, h1, r1⟩ := trodAll_cons r0
  obtain ⟨rfl, rfl, rfl⟩ := trodAll_nil r1
  obtain rfl : args = #[v0, v1] := by cases args; simp_all
  obtain ⟨rfl, rfl⟩ := trodVars_none hV
  have k0 := h0
  have lt0 : ∀ x ∈ p0, x.block < W.heap.size := by obtain ⟨m, hm⟩ := k0; exact DataW.trod_lt m _ _ _ hm
  obtain ⟨b0, len0, cap0, rfl⟩ := okWide_slice Try.underlying22 (hval 0 22 v0 rfl rfl)
  obtain ⟨fuel0, hf0⟩ := h0
  obtain ⟨⟨A1, c2, l3⟩, e0, ⟨g4, g5, g6, g7⟩⟩ := (openw_ints Try.underlying22 (by kernel_rfl : Try.prog.bytesOf 3 = 8) (by kernel_rfl) Try.underlying3 (by kernel_rfl)).opn hf0 (fun n hn => of_decide_eq_true (List.all_eq_true.1 hsz _ (DataW.weights_mem_each (j := 0) (t := 22) rfl rfl _ hn)))
  simp only [Value.cells, List.cons.injEq, and_true] at e0
  obtain ⟨rfl, rfl, rfl⟩ : b0 = A1 ∧ len0 = l3.length ∧ cap0 = c2 := by simpa using e0
  have k1 := h1
  have lt1 : ∀ x ∈ p1, x.block < W.heap.size := by obtain ⟨m, hm⟩ := k1; exact DataW.trod_lt m _ _ _ hm
  obtain ⟨b1, len1, cap1, rfl⟩ := okWide_slice Try.underlying23 (hval 1 23 v1 rfl rfl)
  obtain ⟨fuel1, hf1⟩ := h1
  obtain ⟨⟨A8, c9, l10⟩, e1, ⟨g11, g12, g13, g14⟩⟩ := (openw_slice Try.underlying23 (by kernel_rfl : Try.prog.bytesOf 53 = 24) (by kernel_rfl) (openw_slice Try.underlying53 (by kernel_rfl : Try.prog.bytesOf 62 = 32) (by kernel_rfl) (openw_struct Try.underlying62 (openwF_cons rfl (openw_i64 Try.underlying3 (by kernel_rfl)) (openwF_cons rfl (openw_i64 Try.underlying3 (by kernel_rfl)) (openwF_cons rfl (openw_str Try.underlying9 (by kernel_rfl)) openwF_nil)))))).opn hf1 (fun n hn => of_decide_eq_true (List.all_eq_true.1 hsz _ (DataW.weights_mem_each (j := 1) (t := 23) rfl rfl _ hn)))
  simp only [Value.cells, List.cons.injEq, and_true] at e1
  obtain ⟨rfl, rfl, rfl⟩ : b1 = A8 ∧ len1 = l10.length ∧ cap1 = c9 := by simpa using e1
  clear hA0 hval0 hsz0 hsz
  refine (FnV.below (law_SegmentAlike b0 cap0 l3 b1 cap1 l10 W g4 g5 g6 g7 g11 g12 g13 g14)).mono fun e W' ⟨he, bel⟩ => ?_
  subst he
  exact ⟨_, rfl, _, _, _, [], _, [], hW', trodAll_mk1 (shut_bool Try.underlying4 _), (trodAll_cons_mk (Below.trod laidOut (by kernel_rfl) (of_decide_eq_true (by kernel_rfl)) k0 bel lt0) (trodAll_cons_mk (Below.trod laidOut (by kernel_rfl) (of_decide_eq_true (by kernel_rfl)) k1 bel lt1) trodAll_mk0)), rfl, bel.frame _, fun h => by cases h⟩
theorem over : Rows.segmentAlikeRow.holds Try.pinned (OpenSpec.ofChange Rows.segmentAlikeSpec) :=
  OpenClaim.holds_of_wide 4 Try.f4 rfl rfl rfl rfl rfl rfl rfl ⟨rfl, rfl, rfl, rfl, rfl⟩ rfl rfl rfl rfl rfl (by kernel_rfl) Try.func4 (by kernel_rfl)
    (of_decide_eq_true (by kernel_rfl)) (by unfold Func.isWrapper; first | (rw [if_pos (by decide +kernel)]; kernel_rfl) | (rw [if_neg (by decide +kernel)]; exact ⟨rfl, rfl⟩))
    (fun os started H enc _ => lifted os started H enc)
theorem proved : Rows.SegmentAlikeSaid := over
#print axioms proved
end Go.Proofs.Ytdehjgpdcdjhjaa.segmentAlike
namespace Go.Proofs.Ytdehjgpdcdjhjaa
/-- The row, under a short name, for the claim. -/
theorem segmentAlike_holds : Rows.SegmentAlikeSaid := segmentAlike.proved
end Go.Proofs.Ytdehjgpdcdjhjaa
