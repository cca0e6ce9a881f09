/- The law DictCopies: whatever the input, it answers true, and the input reads as it did. -/
import Derived.Test.YtibfngjfjddaiaaRows
import Derived.Test.YtibfngjfjddaiaaDclaw
import Derived.WalkKit
import Derived.ProofKit
import Derived.OpenShut
import Derived.ShutString
import Derived.ChangeOld
import Derived.Below
import Derived.SizedLaws
namespace Go.Proofs.Ytibfngjfjddaiaa.dictCopies
open Go.ChangeShapes Go.WideShapes Go.ChangeAt Go.RowKit Go.Proofs.Ytibfngjfjddaiaa.K
open Go.ChangeMaps (open_string shut_string)
set_option linter.unusedVariables false
theorem laidOut : laidOutB Try.prog = true := by kernel_rfl
theorem own : ownKnob Try.prog.godebug = none := by kernel_rfl
theorem wf_i64 {n : Int} (h : (Lit.int .i64 n).wf = true) : -9223372036854775808 ≤ n ∧ n ≤ 9223372036854775807 := by
  simp [Lit.wf, IntKind.min, IntKind.max, IntKind.signed, IntKind.bits] at h; omega
set_option maxRecDepth 100000 in
theorem lifted (os : Os) (started : os.Started) (H : Type) (enc : TypeId × Value → H) :
    ReturnsInHanded {} Try.checked os 5 .any (Rows.dictCopiesSpec.pre6 enc Try.prog Try.f5 Rows.dictCopiesRow.domain false) (Rows.dictCopiesSpec.post enc Try.prog Try.f5 false true false false) := by
  refine returnsInHanded_of_change_sized (C := Try.checked) own started (by kernel_rfl) Try.func5
    (ChangeSpec.witness6 (enc := enc) (C := Try.checked) false ⟨#[], #[.int .i64 0, .slice none 0 0, .slice none 0 0], []⟩ 8 (by kernel_rfl) (by kernel_rfl) (by kernel_rfl) (by kernel_rfl)) ?_
  intro W base args ds gs before hval0 hW hcnd hsz0 _
  have hsz : (DataW.weightsEach Try.prog (Try.f5.params.toList ++ Rows.dictCopiesSpec.plain.varTypes Try.prog) (ds ++ gs)).all (· ≤ reachBytes) = true := hsz0
  have hval : ∀ (j : Nat) t v, Try.f5.params[j]? = some t → args[j]? = some v → Value.okWide Try.prog W .any base t v := hval0
  have hW' := hW
  obtain ⟨p, q, hA0, hV, rfl, hfz, hnd⟩ := hW
  have hA : DataW.TrodAll enc Try.prog W 0 (fun _ => true) true Try.f5.params.toList args.toList ds p := hA0
  rw [Try.params5] at hA hval hsz
  obtain ⟨v0, vs0, d0, ds0, p0, q0, hargs, rfl, rfl, h0, r0⟩ := trodAll_cons hA
  obtain ⟨v1, vs1, d1, ds1, p1, q1, rfl, rfl, rfl, h1, r1⟩ := trodAll_cons r0
  obtain ⟨v2, vs2, d2, ds2, p2, q2, rfl, rfl, rfl, h2, r2⟩ := trodAll_cons r1
  obtain ⟨rfl, rfl, rfl⟩ := trodAll_nil r2
  obtain rfl : args = #[v0, v1, v2] := by cases args; simp_all
  obtain ⟨rfl, rfl⟩ := trodVars_none hV
  obtain ⟨a0, rfl, rfl, rfl, w0⟩ := open_int Try.underlying3 (hval 0 3 v0 rfl rfl) h0
  obtain ⟨b1, len1, cap1, rfl⟩ := okWide_slice Try.underlying22 (hval 1 22 v1 rfl rfl)
  have y1 : len1 * 32 ≤ 140737488351232 := sized_any hsz (j := 1) (t := 22) rfl rfl Try.underlying22 (by kernel_rfl) h1
  have k1 := h1
  have lt1 : ∀ x ∈ p1, x.block < W.heap.size := by obtain ⟨m, hm⟩ := k1; exact DataW.trod_lt m _ _ _ hm
  obtain ⟨A1, c1, l1, e1, m1, hR1⟩ : ∃ (A : Option Addr) (c : Nat) (l : List Vk), Value.slice b1 len1 cap1 = .slice A l.length c ∧ l.length ≤ maxLen ∧ Reads W A (flat l) := by
    obtain ⟨fuel, hf⟩ := h1
    obtain ⟨A, c, l, hcs, hm, hr, _⟩ := open_v3s Try.underlying22 (by kernel_rfl) (fun n cs' y hy => open_v3 (ti := 3) (ts := 9) Try.underlying27 rfl rfl rfl rfl rfl rfl rfl Try.underlying3 Try.underlying9 (by kernel_rfl) (by kernel_rfl) (by kernel_rfl) hy) hf
    simp only [Value.cells, List.cons.injEq, and_true] at hcs
    refine ⟨A, c, l.map fun p => ⟨p.1, p.2.1, p.2.2⟩, by rw [hcs, List.length_map], by simpa using hm, ?_⟩
    have : flat (l.map fun p => (⟨p.1, p.2.1, p.2.2⟩ : Vk)) = l.flatMap fun p => [.int .i64 p.1, .int .i64 p.2.1, .string p.2.2] := by simp [flat, List.flatMap_map]
    rw [this]; exact hr
  obtain ⟨rfl, rfl, rfl⟩ : b1 = A1 ∧ len1 = l1.length ∧ cap1 = c1 := by simpa using e1
  obtain ⟨b2, len2, cap2, rfl⟩ := okWide_slice Try.underlying22 (hval 2 22 v2 rfl rfl)
  have y2 : len2 * 32 ≤ 140737488351232 := sized_any hsz (j := 2) (t := 22) rfl rfl Try.underlying22 (by kernel_rfl) h2
  have k2 := h2
  have lt2 : ∀ x ∈ p2, x.block < W.heap.size := by obtain ⟨m, hm⟩ := k2; exact DataW.trod_lt m _ _ _ hm
  obtain ⟨A2, c2, l2, e2, m2, hR2⟩ : ∃ (A : Option Addr) (c : Nat) (l : List Vk), Value.slice b2 len2 cap2 = .slice A l.length c ∧ l.length ≤ maxLen ∧ Reads W A (flat l) := by
    obtain ⟨fuel, hf⟩ := h2
    obtain ⟨A, c, l, hcs, hm, hr, _⟩ := open_v3s Try.underlying22 (by kernel_rfl) (fun n cs' y hy => open_v3 (ti := 3) (ts := 9) Try.underlying27 rfl rfl rfl rfl rfl rfl rfl Try.underlying3 Try.underlying9 (by kernel_rfl) (by kernel_rfl) (by kernel_rfl) hy) hf
    simp only [Value.cells, List.cons.injEq, and_true] at hcs
    refine ⟨A, c, l.map fun p => ⟨p.1, p.2.1, p.2.2⟩, by rw [hcs, List.length_map], by simpa using hm, ?_⟩
    have : flat (l.map fun p => (⟨p.1, p.2.1, p.2.2⟩ : Vk)) = l.flatMap fun p => [.int .i64 p.1, .int .i64 p.2.1, .string p.2.2] := by simp [flat, List.flatMap_map]
    rw [this]; exact hr
  obtain ⟨rfl, rfl, rfl⟩ : b2 = A2 ∧ len2 = l2.length ∧ cap2 = c2 := by simpa using e2
  clear hA0 hval0 hsz0 hsz
  refine (FnV.below (law_DictCopies a0 b1 cap1 l1 b2 cap2 l2  W hR1 (by have := y1; omega) hR2 (by have := y2; omega))).mono fun e W' ⟨he, bel⟩ => ?_
  subst he
  exact ⟨_, rfl, _, _, _, [], _, [], hW', trodAll_mk1 (shut_bool Try.underlying4 _), (trodAll_cons_mk (shut_int Try.underlying3 w0) (trodAll_cons_mk (Below.trod laidOut (by kernel_rfl) (of_decide_eq_true (by kernel_rfl)) k1 bel lt1) (trodAll_cons_mk (Below.trod laidOut (by kernel_rfl) (of_decide_eq_true (by kernel_rfl)) k2 bel lt2) trodAll_mk0))), rfl, bel.frame _, fun h => by cases h⟩
theorem over : Rows.dictCopiesRow.holds Try.pinned (OpenSpec.ofChange Rows.dictCopiesSpec) :=
  OpenClaim.holds_of_wide 5 Try.f5 rfl rfl rfl rfl rfl rfl rfl ⟨rfl, rfl, rfl, rfl, rfl⟩ rfl rfl rfl rfl rfl (by kernel_rfl) Try.func5 (by kernel_rfl)
    (of_decide_eq_true (by kernel_rfl)) (by unfold Func.isWrapper; first | (rw [if_pos (by decide +kernel)]; kernel_rfl) | (rw [if_neg (by decide +kernel)]; exact ⟨rfl, rfl⟩))
    (fun os started H enc _ => lifted os started H enc)
theorem proved : Rows.DictCopiesSaid := over
#print axioms proved
end Go.Proofs.Ytibfngjfjddaiaa.dictCopies
namespace Go.Proofs.Ytibfngjfjddaiaa
/-- The row, under a short name, for the claim. -/
theorem dictCopies_holds : Rows.DictCopiesSaid := dictCopies.proved
end Go.Proofs.Ytibfngjfjddaiaa
