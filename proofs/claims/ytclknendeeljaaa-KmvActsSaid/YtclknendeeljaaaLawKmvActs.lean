/- The law KmvActs: whatever the input, it answers true, and the input reads as it did. -/
import Derived.Test.YtclknendeeljaaaRows
import Derived.Test.YtclknendeeljaaaYkr
import Derived.Test.YtclknendeeljaaaKz
import Derived.WalkKit
import Derived.ProofKit
import Derived.OpenShut
import Derived.ShutString
import Derived.ChangeOld
import Derived.Below
import Derived.SizedLaws
namespace Go.Proofs.Ytclknendeeljaaa.kmvActs
open Go.ChangeShapes Go.WideShapes Go.ChangeAt Go.RowKit Go.Proofs.Ytclknendeeljaaa.K
open Go.ChangeMaps (open_string shut_string)
set_option linter.unusedVariables false
set_option linter.unusedSimpArgs false
theorem laidOut : laidOutB Try.prog = true := by kernel_rfl
theorem own : ownKnob Try.prog.godebug = none := by kernel_rfl
set_option maxRecDepth 100000 in
theorem lifted (os : Os) (started : os.Started) (H : Type) (enc : TypeId × Value → H) :
    ReturnsInHanded {} Try.checked os 5 .any (Rows.kmvActsSpec.pre6 enc Try.prog Try.f5 Rows.kmvActsRow.domain false) (Rows.kmvActsSpec.post enc Try.prog Try.f5 false true false false) := by
  refine returnsInHanded_of_change_sized (C := Try.checked) own started (by kernel_rfl) Try.func5
    (ChangeSpec.witness6 (enc := enc) (C := Try.checked) false ⟨#[], #[.agg #[.int .i64 0, .slice none 0 0, .int .i64 0, .int .i64 0], .slice none 0 0], []⟩ 8 (by kernel_rfl) (by kernel_rfl) (by kernel_rfl) (by kernel_rfl)) ?_
  intro W base args ds gs before hval0 hW hcnd hsz0 _
  have hsz : (DataW.weightsEach Try.prog (Try.f5.params.toList ++ Rows.kmvActsSpec.plain.varTypes Try.prog) (ds ++ gs)).all (· ≤ reachBytes) = true := hsz0
  have hval : ∀ (j : Nat) t v, Try.f5.params[j]? = some t → args[j]? = some v → Value.okWide Try.prog W .any base t v := hval0
  have hW' := hW
  obtain ⟨p, q, hA0, hV, rfl, hfz, hnd⟩ := hW
  have hA : DataW.TrodAll enc Try.prog W 0 (fun _ => true) true Try.f5.params.toList args.toList ds p := hA0
  rw [Try.params5] at hA hval hsz
  obtain ⟨v0, vs0, d0, ds0, p0, q0, hargs, rfl, rfl, h0, r0⟩ := trodAll_cons hA
  obtain ⟨v1, vs1, d1, ds1, p1, q1, rfl, rfl, rfl, h1, r1⟩ := trodAll_cons r0
  obtain ⟨rfl, rfl, rfl⟩ := trodAll_nil r1
  obtain rfl : args = #[v0, v1] := by cases args; simp_all
  obtain ⟨rfl, rfl⟩ := trodVars_none hV
  have k0 := h0
  have lt0 : ∀ x ∈ p0, x.block < W.heap.size := by obtain ⟨m, hm⟩ := k0; exact DataW.trod_lt m _ _ _ hm
  obtain ⟨x0, rfl, z0⟩ := okWide_struct Try.underlying24 (hval 0 24 v0 rfl rfl)
  obtain ⟨fuel0, hf0⟩ := h0
  obtain ⟨⟨a1, ⟨A3, c4, l5⟩, a10, a12, _⟩, e0, ⟨g2, ⟨g6, g7, g8, g9⟩, g11, g13, _⟩⟩ := (opens_struct Try.underlying24 (opensF_cons rfl (opens_i64 Try.underlying3 (by kernel_rfl)) (opensF_cons rfl (opens_slice Try.underlying22 (by kernel_rfl) (opens_struct Try.underlying81 (opensF_cons rfl (opens_u64 Try.underlying30 (by kernel_rfl)) (opensF_cons rfl (opens_u64 Try.underlying30 (by kernel_rfl)) opensF_nil)))) (opensF_cons rfl (opens_i64 Try.underlying3 (by kernel_rfl)) (opensF_cons rfl (opens_i64 Try.underlying3 (by kernel_rfl)) opensF_nil))))).opn hf0
  obtain rfl : x0 = (_ : List Value).toArray := Array.toList_inj.1 e0
  have k1 := h1
  have lt1 : ∀ x ∈ p1, x.block < W.heap.size := by obtain ⟨m, hm⟩ := k1; exact DataW.trod_lt m _ _ _ hm
  obtain ⟨b1, len1, cap1, rfl⟩ := okWide_slice Try.underlying46 (hval 1 46 v1 rfl rfl)
  obtain ⟨fuel1, hf1⟩ := h1
  obtain ⟨⟨A14, c15, l16⟩, e1, ⟨g17, g18, g19, g20⟩⟩ := (opens_slice Try.underlying46 (by kernel_rfl) (opens_struct Try.underlying50 (opensF_cons rfl (opens_i64 Try.underlying3 (by kernel_rfl)) (opensF_cons rfl (opens_u64 Try.underlying30 (by kernel_rfl)) opensF_nil)))).opn hf1
  simp only [Value.cells, List.cons.injEq, and_true] at e1
  obtain ⟨rfl, rfl, rfl⟩ : b1 = A14 ∧ len1 = l16.length ∧ cap1 = c15 := by simpa using e1
  clear hA0 hval0 hsz0 hsz
  refine (FnV.below (law_KmvActs a1 A3 c4 l5 a10 a12 b1 cap1 l16 W g2 g6 g7 g8 g9 g11 g13 g17 g18 g19 g20)).mono fun e W' ⟨he, bel⟩ => ?_
  subst he
  exact ⟨_, rfl, _, _, _, [], _, [], hW', trodAll_mk1 (shut_bool Try.underlying4 _), (trodAll_cons_mk (Below.trod laidOut (by kernel_rfl) (of_decide_eq_true (by kernel_rfl)) k0 bel lt0) (trodAll_cons_mk (Below.trod laidOut (by kernel_rfl) (of_decide_eq_true (by kernel_rfl)) k1 bel lt1) trodAll_mk0)), rfl, bel.frame _, fun h => by cases h⟩
theorem over : Rows.kmvActsRow.holds Try.pinned (OpenSpec.ofChange Rows.kmvActsSpec) :=
  OpenClaim.holds_of_wide 5 Try.f5 rfl rfl rfl rfl rfl rfl rfl ⟨rfl, rfl, rfl, rfl, rfl⟩ rfl rfl rfl rfl rfl (by kernel_rfl) Try.func5 (by kernel_rfl)
    (of_decide_eq_true (by kernel_rfl)) (by unfold Func.isWrapper; first | (rw [if_pos (by decide +kernel)]; kernel_rfl) | (rw [if_neg (by decide +kernel)]; exact ⟨rfl, rfl⟩))
    (fun os started H enc _ => lifted os started H enc)
theorem proved : Rows.KmvActsSaid := over
#print axioms proved
end Go.Proofs.Ytclknendeeljaaa.kmvActs
namespace Go.Proofs.Ytclknendeeljaaa
/-- The row, under a short name, for the claim. -/
theorem kmvActs_holds : Rows.KmvActsSaid := kmvActs.proved
end Go.Proofs.Ytclknendeeljaaa
