/- The law ValueCmps: whatever the input, it answers true, and the input reads as it did. -/
import Derived.Test.YtclknendeeljaaaRows
import Derived.Test.YtclknendeeljaaaVlive
import Derived.WalkKit
import Derived.ProofKit
import Derived.OpenShut
import Derived.ShutString
import Derived.ChangeOld
import Derived.Below
import Derived.SizedLaws
namespace Go.Proofs.Ytclknendeeljaaa.valueCmps
open Go.ChangeShapes Go.WideShapes Go.ChangeAt Go.RowKit Go.Proofs.Ytclknendeeljaaa.K
open Go.ChangeMaps (open_string shut_string)
set_option linter.unusedVariables false
theorem laidOut : laidOutB Try.prog = true := by kernel_rfl
theorem own : ownKnob Try.prog.godebug = none := by kernel_rfl
theorem wf_i64 {n : Int} (h : (Lit.int .i64 n).wf = true) : -9223372036854775808 ≤ n ∧ n ≤ 9223372036854775807 := by
  simp [Lit.wf, IntKind.min, IntKind.max, IntKind.signed, IntKind.bits] at h; omega
set_option maxRecDepth 100000 in
theorem lifted (os : Os) (started : os.Started) (H : Type) (enc : TypeId × Value → H) :
    ReturnsInHanded {} Try.checked os 9 .any (Rows.valueCmpsSpec.pre6 enc Try.prog Try.f9 Rows.valueCmpsRow.domain false) (Rows.valueCmpsSpec.post enc Try.prog Try.f9 false true false false) := by
  refine returnsInHanded_of_change_sized (C := Try.checked) own started (by kernel_rfl) Try.func9
    (ChangeSpec.witness6 (enc := enc) (C := Try.checked) false ⟨#[], #[.agg #[.int .i64 0, .int .i64 0, .string ⟨#[]⟩], .agg #[.int .i64 0, .int .i64 0, .string ⟨#[]⟩], .agg #[.int .i64 0, .int .i64 0, .string ⟨#[]⟩]], []⟩ 8 (by kernel_rfl) (by kernel_rfl) (by kernel_rfl) (by kernel_rfl)) ?_
  intro W base args ds gs before hval0 hW hcnd hsz0 _
  have hsz : (DataW.weightsEach Try.prog (Try.f9.params.toList ++ Rows.valueCmpsSpec.plain.varTypes Try.prog) (ds ++ gs)).all (· ≤ reachBytes) = true := hsz0
  have hval : ∀ (j : Nat) t v, Try.f9.params[j]? = some t → args[j]? = some v → Value.okWide Try.prog W .any base t v := hval0
  have hW' := hW
  obtain ⟨p, q, hA0, hV, rfl, hfz, hnd⟩ := hW
  have hA : DataW.TrodAll enc Try.prog W 0 (fun _ => true) true Try.f9.params.toList args.toList ds p := hA0
  rw [Try.params9] at hA hval hsz
  obtain ⟨v0, vs0, d0, ds0, p0, q0, hargs, rfl, rfl, h0, r0⟩ := trodAll_cons hA
  obtain ⟨v1, vs1, d1, ds1, p1, q1, rfl, rfl, rfl, h1, r1⟩ := trodAll_cons r0
  obtain ⟨v2, vs2, d2, ds2, p2, q2, rfl, rfl, rfl, h2, r2⟩ := trodAll_cons r1
  obtain ⟨rfl, rfl, rfl⟩ := trodAll_nil r2
  obtain rfl : args = #[v0, v1, v2] := by cases args; simp_all
  obtain ⟨rfl, rfl⟩ := trodVars_none hV
  obtain ⟨x0, rfl, z0⟩ := okWide_struct Try.underlying64 (hval 0 64 v0 rfl rfl)
  have k0 := h0
  have lt0 : ∀ x ∈ p0, x.block < W.heap.size := by obtain ⟨m, hm⟩ := k0; exact DataW.trod_lt m _ _ _ hm
  obtain ⟨g0, rfl, hV0⟩ : ∃ g : Vk, x0 = #[.int .i64 g.k, .int .i64 g.n, .string g.s] ∧ WV g := by
    obtain ⟨fuel, hf⟩ := h0
    obtain ⟨k, n, s, hcs, hw⟩ := open_v3 (ti := 3) (ts := 9) Try.underlying64 rfl rfl rfl rfl rfl rfl rfl Try.underlying3 Try.underlying9 (by kernel_rfl) (by kernel_rfl) (by kernel_rfl) hf
    exact ⟨⟨k, n, s⟩, Array.toList_inj.1 hcs, by have := wf_i64 hw.2.1; exact ⟨this.1, Int.lt_of_le_of_lt this.2 (by decide)⟩⟩
  obtain ⟨x1, rfl, z1⟩ := okWide_struct Try.underlying64 (hval 1 64 v1 rfl rfl)
  have k1 := h1
  have lt1 : ∀ x ∈ p1, x.block < W.heap.size := by obtain ⟨m, hm⟩ := k1; exact DataW.trod_lt m _ _ _ hm
  obtain ⟨g1, rfl, hV1⟩ : ∃ g : Vk, x1 = #[.int .i64 g.k, .int .i64 g.n, .string g.s] ∧ WV g := by
    obtain ⟨fuel, hf⟩ := h1
    obtain ⟨k, n, s, hcs, hw⟩ := open_v3 (ti := 3) (ts := 9) Try.underlying64 rfl rfl rfl rfl rfl rfl rfl Try.underlying3 Try.underlying9 (by kernel_rfl) (by kernel_rfl) (by kernel_rfl) hf
    exact ⟨⟨k, n, s⟩, Array.toList_inj.1 hcs, by have := wf_i64 hw.2.1; exact ⟨this.1, Int.lt_of_le_of_lt this.2 (by decide)⟩⟩
  obtain ⟨x2, rfl, z2⟩ := okWide_struct Try.underlying64 (hval 2 64 v2 rfl rfl)
  have k2 := h2
  have lt2 : ∀ x ∈ p2, x.block < W.heap.size := by obtain ⟨m, hm⟩ := k2; exact DataW.trod_lt m _ _ _ hm
  obtain ⟨g2, rfl, hV2⟩ : ∃ g : Vk, x2 = #[.int .i64 g.k, .int .i64 g.n, .string g.s] ∧ WV g := by
    obtain ⟨fuel, hf⟩ := h2
    obtain ⟨k, n, s, hcs, hw⟩ := open_v3 (ti := 3) (ts := 9) Try.underlying64 rfl rfl rfl rfl rfl rfl rfl Try.underlying3 Try.underlying9 (by kernel_rfl) (by kernel_rfl) (by kernel_rfl) hf
    exact ⟨⟨k, n, s⟩, Array.toList_inj.1 hcs, by have := wf_i64 hw.2.1; exact ⟨this.1, Int.lt_of_le_of_lt this.2 (by decide)⟩⟩
  clear hA0 hval0 hsz0 hsz
  refine (FnV.below (law_ValueCmps g0 g1 g2 hV0 hV1 hV2 W )).mono fun e W' ⟨he, bel⟩ => ?_
  subst he
  exact ⟨_, rfl, _, _, _, [], _, [], hW', trodAll_mk1 (shut_bool Try.underlying4 _), (trodAll_cons_mk (Below.trod laidOut (by kernel_rfl) (of_decide_eq_true (by kernel_rfl)) k0 bel lt0) (trodAll_cons_mk (Below.trod laidOut (by kernel_rfl) (of_decide_eq_true (by kernel_rfl)) k1 bel lt1) (trodAll_cons_mk (Below.trod laidOut (by kernel_rfl) (of_decide_eq_true (by kernel_rfl)) k2 bel lt2) trodAll_mk0))), rfl, bel.frame _, fun h => by cases h⟩
theorem over : Rows.valueCmpsRow.holds Try.pinned (OpenSpec.ofChange Rows.valueCmpsSpec) :=
  OpenClaim.holds_of_wide 9 Try.f9 rfl rfl rfl rfl rfl rfl rfl ⟨rfl, rfl, rfl, rfl, rfl⟩ rfl rfl rfl rfl rfl (by kernel_rfl) Try.func9 (by kernel_rfl)
    (of_decide_eq_true (by kernel_rfl)) (by unfold Func.isWrapper; first | (rw [if_pos (by decide +kernel)]; kernel_rfl) | (rw [if_neg (by decide +kernel)]; exact ⟨rfl, rfl⟩))
    (fun os started H enc _ => lifted os started H enc)
theorem proved : Rows.ValueCmpsSaid := over
#print axioms proved
end Go.Proofs.Ytclknendeeljaaa.valueCmps
namespace Go.Proofs.Ytclknendeeljaaa
/-- The row, under a short name, for the claim. -/
theorem valueCmps_holds : Rows.ValueCmpsSaid := valueCmps.proved
end Go.Proofs.Ytclknendeeljaaa
