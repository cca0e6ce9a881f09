/-
  The pure law of FieldSums: sums, products and powers are the document's. No conditions.
-/
import Derived.Test.YtkmhknfdoofieaaTlField
import Derived.Test.YtkmhknfdoofieaaPFieldSumsx7
namespace Go.Proofs.Ytkmhknfdoofieaa.Pure
open Go.RowKit Go.Proofs.Ytkmhknfdoofieaa.PFieldSums Go.Proofs.YtkmhknfdoofieaaW.PrintWords Go.Proofs.YtkmhknfdoofieaaW.PrintLast Go.Proofs.YtkmhknfdoofieaaW.PrintMore Go.Proofs.Ytkmhknfdoofieaa.Tl
namespace FieldSumsL
theorem Of_f {a : Nat} (h : a < 18446744073709551616) : field_Of.f (a : Int) = some ((a % PP : Nat) : Int) := by
  unfold field_Of.f
  rw [and_m61 (by omega) (by omega), u64_in _ (by omega) (by omega), PP_is]
  by_cases c : (a : Int) % 2305843009213693952 + (a : Int) / 2305843009213693952 ≥ 2305843009213693951
  · rw [if_pos c, u64_in _ (by omega) (by omega)]
    congr 1
    omega
  · rw [if_neg c]
    congr 1
    omega
theorem Mul64_f {a b : Nat} (ha : a < 18446744073709551616) (hb : b < 18446744073709551616) : bits_Mul64.f (a : Int) (b : Int) = some (((a * b / 18446744073709551616 : Nat) : Int), ((a * b % 18446744073709551616 : Nat) : Int)) := by
  unfold bits_Mul64.f
  rw [and_m32 (x := (a : Int)) (by omega) (by omega), and_m32 (x := (b : Int)) (by omega) (by omega)]
  obtain ⟨p, q, r, s, e1, e2, e3, e4, hab, hp, hq, hr, hs⟩ := mul64_parts (a : Int) (b : Int) (by omega) (by omega) (by omega) (by omega)
  rw [e1, e2, e3, e4]
  rw [u64_in p (by omega) (by omega), u64_in q (by omega) (by omega), u64_in r (by omega) (by omega), u64_in s (by omega) (by omega)]
  rw [u64_in (q + s / 4294967296) (by omega) (by omega), and_m32 (by omega) (by omega)]
  rw [u64_in ((q + s / 4294967296) % 4294967296 + r) (by omega) (by omega), u64_in (p + (q + s / 4294967296) / 4294967296) (by omega) (by omega)]
  have hc : ((a * b : Nat) : Int) = p * 18446744073709551616 + (q + r) * 4294967296 + s := by rw [← hab]; simp
  generalize a * b = c at hc ⊢
  have hc' : (a : Int) * (b : Int) = (c : Int) := by rw [hab, hc]
  rw [hc', u64_mod, u64_mod]
  congr 1
  refine Prod.ext ?_ ?_ <;> dsimp only <;> omega
theorem fold_f {c : Nat} (h : c < 5316911983139663487003542222693990401) : field_Mul_1.f ((c / 18446744073709551616 : Nat) : Int) ((c % 18446744073709551616 : Nat) : Int) = some ((c / 2305843009213693952 % PP + c % 2305843009213693952 : Nat) : Int) := by
  unfold field_Mul_1.f
  rw [u64_in _ (by omega) (by omega), or_add (k := .u64) rfl 3 _ _ (by omega) (by simp) (by simp only [IntKind.bits, Int.reducePow]; omega) (by omega) (by simp only [Int.reducePow]; omega) (by simp only [IntKind.bits, Int.reducePow]; omega)]
  rw [show ((c / 18446744073709551616 : Nat) : Int) * 8 + ((c % 18446744073709551616 : Nat) : Int) / 2305843009213693952 = ((c / 2305843009213693952 : Nat) : Int) from by omega, Of_f (by omega), Option.bind_some, and_m61 (by omega) (by omega)]
  have hp : c / 2305843009213693952 % PP < 2305843009213693951 := Nat.mod_lt _ (by decide)
  generalize c / 2305843009213693952 % PP = d at hp ⊢
  rw [u64_in _ (by omega) (by omega)]
  congr 1
  omega
theorem Mul_f {a b : Nat} (ha : a < 18446744073709551616) (hb : b < 18446744073709551616) : field_Mul.f (a : Int) (b : Int) = some ((a * b % PP : Nat) : Int) := by
  unfold field_Mul.f
  have hp : ∀ x, x % PP < 2305843009213693951 := fun x => Nat.mod_lt _ (by decide)
  have h1 := hp a
  have h2 := hp b
  rw [Of_f ha, Option.bind_some, Of_f hb, Option.bind_some, Mul64_f (by omega) (by omega), Option.bind_some, fold_f (mulmod_lt a b), Option.bind_some, Of_f (by have := hp (a % PP * (b % PP) / 2305843009213693952); omega), Option.bind_some]
  congr 2
  rw [Nat.mod_add_mod, fold61, ← Nat.mul_mod]
theorem Add_f {a b : Nat} (ha : a < 18446744073709551616) (hb : b < 18446744073709551616) : field_Add.f (a : Int) (b : Int) = some (((a + b) % PP : Nat) : Int) := by
  unfold field_Add.f
  have hp : ∀ x, x % PP < 2305843009213693951 := fun x => Nat.mod_lt _ (by decide)
  have h1 := hp a
  have h2 := hp b
  rw [Of_f ha, Option.bind_some, Of_f hb, Option.bind_some, u64_in _ (by omega) (by omega), show ((a % PP : Nat) : Int) + ((b % PP : Nat) : Int) = ((a % PP + b % PP : Nat) : Int) from by simp, Of_f (by omega), Option.bind_some]
  congr 2
  rw [← Nat.add_mod]
theorem rOf_f {a : Nat} : talusref03_Of.f (a : Int) = some ((a % PP : Nat) : Int) := by
  unfold talusref03_Of.f
  rw [Int.tmod_eq_emod_of_nonneg (by omega)]
  rfl
theorem rAdd_f {a b : Nat} : talusref03_Add.f (a : Int) (b : Int) = some (((a + b) % PP : Nat) : Int) := by
  unfold talusref03_Add.f
  have hp : ∀ x, x % PP < 2305843009213693951 := fun x => Nat.mod_lt _ (by decide)
  have h1 := hp a
  have h2 := hp b
  rw [rOf_f, Option.bind_some, rOf_f, Option.bind_some, u64_in _ (by omega) (by omega), Int.tmod_eq_emod_of_nonneg (by omega), show ((a % PP : Nat) : Int) + ((b % PP : Nat) : Int) = ((a % PP + b % PP : Nat) : Int) from by simp, Nat.add_mod]
  rfl
theorem rMul_l0 : ∀ (k a b s : Nat), b < 2 ^ k → a < PP → s < PP → b < 18446744073709551616 → talusref03_Mul.l0 (k + 1) (a : Int) (b : Int) (s : Int) = some (((s + a * b) % PP : Nat) : Int)
  | k, a, 0, s, _, _, hs, _ => by
    simp only [talusref03_Mul.l0]
    rw [if_neg (by omega), Nat.mul_zero, Nat.add_zero, Nat.mod_eq_of_lt hs]
  | 0, a, b + 1, s, hb, _, _, _ => by simp at hb
  | k + 1, a, b + 1, s, hb, ha, hs, hb' => by
    have hp : ∀ x, x % PP < PP := fun x => Nat.mod_lt _ (by decide)
    have hb2 : (b + 1) / 2 < 2 ^ k := by rw [Nat.div_lt_iff_lt_mul (by decide), ← Nat.pow_succ]; exact hb
    rw [talusref03_Mul.l0.eq_def]
    simp only []
    rw [if_pos (by omega), and_one (by omega) (by omega), rAdd_f, rAdd_f, Option.bind_some, Option.bind_some, Option.bind_some, show (((b + 1 : Nat) : Int) / 2) = (((b + 1) / 2 : Nat) : Int) from by omega]
    have e : (a + a) % PP * ((b + 1) / 2) % PP = a * (2 * ((b + 1) / 2)) % PP := by
      rw [Nat.mod_mul_mod, ← Nat.two_mul, Nat.mul_comm 2 a, Nat.mul_assoc]
    by_cases c : (((b + 1 : Nat) : Int) % 2) = 1
    · rw [if_pos c, rMul_l0 k _ _ _ hb2 (hp _) (hp _) (by omega)]
      congr 2
      rw [Nat.mod_add_mod, Nat.add_mod, e, ← Nat.add_mod]
      congr 1
      rw [show b + 1 = 2 * ((b + 1) / 2) + 1 from by omega, Nat.mul_add a]
      rw [show (2 * ((b + 1) / 2) + 1) / 2 = (b + 1) / 2 from by omega]
      omega
    · rw [if_neg c, rMul_l0 k _ _ _ hb2 (hp _) hs (by omega)]
      congr 2
      rw [Nat.add_mod, e, ← Nat.add_mod]
      congr 2
      rw [show 2 * ((b + 1) / 2) = b + 1 from by omega]
theorem rMul_f {k a b : Nat} (hk : 70 ≤ k) : talusref03_Mul.f k (a : Int) (b : Int) = some ((a * b % PP : Nat) : Int) := by
  have hp : ∀ x, x % PP < PP := fun x => Nat.mod_lt _ (by decide)
  have hp' : ∀ x, x % PP < 2305843009213693951 := hp
  refine at_rounds (talusref03_Mul.mono _ _) hk ?_
  unfold talusref03_Mul.f
  have h2 := hp' b
  rw [rOf_f, Option.bind_some, rOf_f, Option.bind_some, show (0 : Int) = ((0 : Nat) : Int) from rfl, rMul_l0 69 _ _ 0 (by simp only [Nat.reducePow]; omega) (hp _) (by decide) (by omega), Nat.zero_add, ← Nat.mul_mod]
theorem lives_at {k : Nat} (h : 100 ≤ k) : taluslaw03_lives.f k = some true := by
  have h1 : field_Inverse.f k 2 = some (1152921504606846976, true) := at_rounds (field_Inverse.mono 2) (show 8 ≤ k by omega) (by decide +kernel)
  have h2 : field_MulDiv.f k 9223372036854775808 6 3 = some (0, false) := at_rounds (field_MulDiv.mono _ _ _) (show 16 ≤ k by omega) (by decide +kernel)
  have h3 : field_MulDiv.f k 9223372036854775808 6 8 = some (6917529027641081856, true) := at_rounds (field_MulDiv.mono _ _ _) (show 16 ≤ k by omega) (by decide +kernel)
  have h4 : field_Mul.f 1152921504606846976 2 = some 1 := by decide +kernel
  have h5 : field_Hash.f 1 5 2305843009213693950 = some 4 := by decide +kernel
  unfold taluslaw03_lives.f
  rw [h1, Option.bind_some, h2, Option.bind_some, h3, Option.bind_some, h4, Option.bind_some, if_pos rfl, if_pos rfl, if_pos rfl, h5, Option.bind_some, if_pos rfl, if_neg (by decide), if_pos rfl]
  rfl
theorem Pow_both : ∀ (n k p x : Nat), k < 2 ^ n → p < 18446744073709551616 → x < 18446744073709551616 → k < 18446744073709551616 →
    ∃ r, field_Pow.l0 (n + 1) (x : Int) (k : Int) (p : Int) = some r ∧ talusref03_Pow.l0 (n + 71) (x : Int) (k : Int) (p : Int) = some r
  | n, 0, p, x, _, _, _, _ => ⟨_, by simp only [field_Pow.l0]; rw [if_pos (by omega)], by rw [show n + 71 = (n + 70) + 1 from rfl, talusref03_Pow.l0.eq_def]; simp only []; rw [if_neg (by omega)]⟩
  | 0, k + 1, p, x, hk, _, _, _ => by simp at hk
  | n + 1, k + 1, p, x, hk, hp, hx, hk' => by
    have hP : ∀ y, y % PP < 18446744073709551616 := fun y => Nat.lt_trans (Nat.mod_lt y (by decide : 0 < PP)) (by decide)
    have hk2 : (k + 1) / 2 < 2 ^ n := by rw [Nat.div_lt_iff_lt_mul (by decide), ← Nat.pow_succ]; exact hk
    rw [field_Pow.l0.eq_def, show n + 1 + 71 = (n + 71) + 1 from by omega, talusref03_Pow.l0.eq_def]
    simp only []
    rw [if_neg (show ¬ ((k + 1 : Nat) : Int) = 0 by omega), if_pos (show ((k + 1 : Nat) : Int) > 0 by omega), and_one (by omega) (by omega), Mul_f hp hx, Mul_f hx hx, rMul_f (by omega), rMul_f (by omega)]
    simp only [Option.bind_some]
    rw [show (((k + 1 : Nat) : Int) / 2) = (((k + 1) / 2 : Nat) : Int) from by omega]
    by_cases c : (((k + 1 : Nat) : Int) % 2) = 1
    · rw [if_pos c, if_pos c]
      exact Pow_both n _ _ _ hk2 (hP _) (hP _) (by omega)
    · rw [if_neg c, if_neg c]
      exact Pow_both n _ _ _ hk2 hp (hP _) (by omega)
end FieldSumsL
theorem FieldSums : taluslaw03_FieldSums.Pure := by
  intro a b ha hb
  obtain ⟨h0, h1⟩ := wf_u64 ha
  obtain ⟨g0, g1⟩ := wf_u64 hb
  obtain ⟨a, rfl⟩ := Int.eq_ofNat_of_zero_le h0
  obtain ⟨b, rfl⟩ := Int.eq_ofNat_of_zero_le g0
  have ha : a < 18446744073709551616 := by omega
  have hb : b < 18446744073709551616 := by omega
  obtain ⟨r, e1, e2⟩ := FieldSumsL.Pow_both 64 b 1 a (by simpa using hb) (by decide) ha hb
  have e1' : field_Pow.f 200 (a : Int) (b : Int) = some r := at_rounds (field_Pow.mono _ _) (show 65 ≤ 200 by decide) (by unfold field_Pow.f; exact e1)
  have e2' : talusref03_Pow.f 200 (a : Int) (b : Int) = some r := at_rounds (talusref03_Pow.mono _ _) (show 135 ≤ 200 by decide) (by unfold talusref03_Pow.f; exact e2)
  refine ⟨200, ?_⟩
  unfold taluslaw03_FieldSums.f field_Good.f
  rw [Option.bind_some, if_pos (by simp), FieldSumsL.Of_f ha, Option.bind_some, FieldSumsL.rOf_f, Option.bind_some, if_pos rfl, FieldSumsL.Add_f ha hb, Option.bind_some, FieldSumsL.rAdd_f, Option.bind_some, if_pos rfl, FieldSumsL.Mul_f ha hb, Option.bind_some, FieldSumsL.rMul_f (by omega), Option.bind_some, if_pos rfl, e1', Option.bind_some, e2', Option.bind_some, if_pos rfl, FieldSumsL.lives_at (by omega), Option.bind_some]
end Go.Proofs.Ytkmhknfdoofieaa.Pure
