/-
  The pure law of FieldRules: sums and products are those of a field. No conditions.
-/
import Derived.Test.YtkmhknfdoofieaaTlPrime
import Derived.Test.YtkmhknfdoofieaaPFieldRulesx6
namespace Go.Proofs.Ytkmhknfdoofieaa.Pure
open Go.RowKit Go.Proofs.Ytkmhknfdoofieaa.PFieldRules Go.Proofs.YtkmhknfdoofieaaW.PrintWords Go.Proofs.YtkmhknfdoofieaaW.PrintLast Go.Proofs.YtkmhknfdoofieaaW.PrintMore Go.Proofs.Ytkmhknfdoofieaa.Tl
set_option linter.unusedVariables false
namespace FieldRulesL
theorem Of_f {a : Nat} (h : a < 18446744073709551616) : field_Of.f (a : Int) = some ((a % PP : Nat) : Int) := by
  unfold field_Of.f
  rw [and_m61 (by omega) (by omega), u64_in _ (by omega) (by omega), PP_is]
  by_cases c : (a : Int) % 2305843009213693952 + (a : Int) / 2305843009213693952 ≥ 2305843009213693951
  · rw [if_pos c, u64_in _ (by omega) (by omega)]
    congr 1
    omega
  · rw [if_neg c]
    congr 1
    omega
theorem Mul64_f {a b : Nat} (ha : a < 18446744073709551616) (hb : b < 18446744073709551616) : bits_Mul64.f (a : Int) (b : Int) = some (((a * b / 18446744073709551616 : Nat) : Int), ((a * b % 18446744073709551616 : Nat) : Int)) := by
  unfold bits_Mul64.f
  rw [and_m32 (x := (a : Int)) (by omega) (by omega), and_m32 (x := (b : Int)) (by omega) (by omega)]
  obtain ⟨p, q, r, s, e1, e2, e3, e4, hab, hp, hq, hr, hs⟩ := mul64_parts (a : Int) (b : Int) (by omega) (by omega) (by omega) (by omega)
  rw [e1, e2, e3, e4]
  rw [u64_in p (by omega) (by omega), u64_in q (by omega) (by omega), u64_in r (by omega) (by omega), u64_in s (by omega) (by omega)]
  rw [u64_in (q + s / 4294967296) (by omega) (by omega), and_m32 (by omega) (by omega)]
  rw [u64_in ((q + s / 4294967296) % 4294967296 + r) (by omega) (by omega), u64_in (p + (q + s / 4294967296) / 4294967296) (by omega) (by omega)]
  have hc : ((a * b : Nat) : Int) = p * 18446744073709551616 + (q + r) * 4294967296 + s := by rw [← hab]; simp
  generalize a * b = c at hc ⊢
  have hc' : (a : Int) * (b : Int) = (c : Int) := by rw [hab, hc]
  rw [hc', u64_mod, u64_mod]
  congr 1
  refine Prod.ext ?_ ?_ <;> dsimp only <;> omega
theorem fold_f {c : Nat} (h : c < 5316911983139663487003542222693990401) : field_Mul_1.f ((c / 18446744073709551616 : Nat) : Int) ((c % 18446744073709551616 : Nat) : Int) = some ((c / 2305843009213693952 % PP + c % 2305843009213693952 : Nat) : Int) := by
  unfold field_Mul_1.f
  rw [u64_in _ (by omega) (by omega), or_add (k := .u64) rfl 3 _ _ (by omega) (by simp) (by simp only [IntKind.bits, Int.reducePow]; omega) (by omega) (by simp only [Int.reducePow]; omega) (by simp only [IntKind.bits, Int.reducePow]; omega)]
  rw [show ((c / 18446744073709551616 : Nat) : Int) * 8 + ((c % 18446744073709551616 : Nat) : Int) / 2305843009213693952 = ((c / 2305843009213693952 : Nat) : Int) from by omega, Of_f (by omega), Option.bind_some, and_m61 (by omega) (by omega)]
  have hp : c / 2305843009213693952 % PP < 2305843009213693951 := Nat.mod_lt _ (by decide)
  generalize c / 2305843009213693952 % PP = d at hp ⊢
  rw [u64_in _ (by omega) (by omega)]
  congr 1
  omega
theorem Mul_f {a b : Nat} (ha : a < 18446744073709551616) (hb : b < 18446744073709551616) : field_Mul.f (a : Int) (b : Int) = some ((a * b % PP : Nat) : Int) := by
  unfold field_Mul.f
  have hp : ∀ x, x % PP < 2305843009213693951 := fun x => Nat.mod_lt _ (by decide)
  have h1 := hp a
  have h2 := hp b
  rw [Of_f ha, Option.bind_some, Of_f hb, Option.bind_some, Mul64_f (by omega) (by omega), Option.bind_some, fold_f (mulmod_lt a b), Option.bind_some, Of_f (by have := hp (a % PP * (b % PP) / 2305843009213693952); omega), Option.bind_some]
  congr 2
  rw [Nat.mod_add_mod, fold61, ← Nat.mul_mod]
theorem Add_f {a b : Nat} (ha : a < 18446744073709551616) (hb : b < 18446744073709551616) : field_Add.f (a : Int) (b : Int) = some (((a + b) % PP : Nat) : Int) := by
  unfold field_Add.f
  have hp : ∀ x, x % PP < 2305843009213693951 := fun x => Nat.mod_lt _ (by decide)
  have h1 := hp a
  have h2 := hp b
  rw [Of_f ha, Option.bind_some, Of_f hb, Option.bind_some, u64_in _ (by omega) (by omega), show ((a % PP : Nat) : Int) + ((b % PP : Nat) : Int) = ((a % PP + b % PP : Nat) : Int) from by simp, Of_f (by omega), Option.bind_some]
  congr 2
  rw [← Nat.add_mod]
theorem inv_l0 : ∀ (s r u v a k : Nat), s < k → s < 2305843009213693951 → r ≤ 2305843009213693951 → u < 2305843009213693951 → v < 2305843009213693951 → a < 2305843009213693951 → u * a % PP = r % PP → v * a % PP = s % PP →
    ∃ x : Nat, field_Inverse.l0 k (r : Int) (s : Int) (u : Int) (v : Int) = some ((x : Int), true) ∧ x < 2305843009213693951 ∧ x * a % PP = Nat.gcd r s % PP := by
  intro s
  induction s using Nat.strongRecOn with
  | _ s ih =>
    intro r u v a k hk hs hr hu hv ha h1 h2
    obtain ⟨k, rfl⟩ : ∃ m, k = m + 1 := ⟨k - 1, by omega⟩
    by_cases h0 : s = 0
    · subst h0
      exact ⟨u, by simp only [field_Inverse.l0]; rw [if_neg (by omega)], hu, by rw [Nat.gcd_zero_right]; exact h1⟩
    · have hq : r / s ≤ r := Nat.div_le_self r s
      have hqs : r / s * s ≤ r := Nat.div_mul_le_self r s
      have hrs : r / s * s + r % s = r := by rw [Nat.mul_comm]; exact Nat.div_add_mod r s
      have hlt : r % s < s := Nat.mod_lt _ (by omega)
      have ht : r / s * v % PP < 2305843009213693951 := Nat.mod_lt _ (by decide)
      have e1 : IntKind.u64.wrap (Int.tdiv (r : Int) (s : Int)) = ((r / s : Nat) : Int) := by
        have e0 : Int.tdiv (r : Int) (s : Int) = ((r / s : Nat) : Int) := by rw [Int.tdiv_eq_ediv_of_nonneg (by omega)]; rfl
        rw [e0]
        generalize r / s = c at hq ⊢
        rw [u64_in _ (by omega) (by omega)]
      have e2 : IntKind.u64.wrap (2305843009213693951 - ((r / s * v % PP : Nat) : Int)) = ((2305843009213693951 - r / s * v % PP : Nat) : Int) := by
        rw [u64_in _ (by omega) (by omega)]; omega
      have e3 : IntKind.u64.wrap ((r : Int) - IntKind.u64.wrap (((r / s : Nat) : Int) * (s : Int))) = ((r % s : Nat) : Int) := by
        have hc : ((r / s : Nat) : Int) * (s : Int) = ((r / s * s : Nat) : Int) := by simp
        rw [hc]
        generalize r / s * s = c at hqs hrs
        rw [u64_in (c : Int) (by omega) (by omega)]
        generalize r % s = d at hrs ⊢
        rw [u64_in _ (by omega) (by omega)]; omega
      have inv : (u + (2305843009213693951 - r / s * v % PP)) % PP * a % PP = r % s % PP := by
        have k1 : ((u + (2305843009213693951 - r / s * v % PP)) % PP + r / s * v) % PP = u % PP := by
          rw [PP_is] at ht ⊢
          omega
        have k2 : ((u + (2305843009213693951 - r / s * v % PP)) % PP + r / s * v) * a % PP = r % PP := by rw [Nat.mul_mod, k1, ← Nat.mul_mod]; exact h1
        have k3 : r / s * v * a % PP = r / s * s % PP := by rw [Nat.mul_assoc, Nat.mul_mod, h2, ← Nat.mul_mod]
        generalize (u + (2305843009213693951 - r / s * v % PP)) % PP = w at k2 ⊢
        rw [Nat.add_mul] at k2
        generalize r / s * v * a = b at k2 k3
        generalize r / s * s = c at hrs k3
        generalize w * a = d at k2 ⊢
        rw [PP_is] at k2 k3 ⊢
        omega
      obtain ⟨x, hx, hx1, hx2⟩ := ih (r % s) hlt s v ((u + (2305843009213693951 - r / s * v % PP)) % PP) a k (by omega) (by omega) (by omega) hv (Nat.mod_lt _ (by decide)) ha h2 inv
      refine ⟨x, ?_, hx1, ?_⟩
      · simp only [field_Inverse.l0]
        rw [if_pos (by omega), if_neg (by omega), e1, Mul_f (by omega) (by omega), Option.bind_some, e2, Add_f (by omega) (by omega), Option.bind_some, e3]
        exact hx
      · rw [hx2, Nat.gcd_comm r s, Nat.gcd_rec s r, Nat.gcd_comm]
theorem Inv_f {a k : Nat} (ha : a < 18446744073709551616) (hk : 2305843009213693951 < k) :
    (a % PP = 0 ∧ field_Inverse.f k (a : Int) = some (0, false)) ∨ (a % PP ≠ 0 ∧ ∃ x : Nat, field_Inverse.f k (a : Int) = some ((x : Int), true) ∧ x < 2305843009213693951 ∧ x * a % PP = 1) := by
  have hlt : a % PP < 2305843009213693951 := Nat.mod_lt _ (by decide)
  unfold field_Inverse.f
  rw [Of_f ha, Option.bind_some, Option.bind_some]
  by_cases h : a % PP = 0
  · exact .inl ⟨h, by rw [if_pos (by omega)]⟩
  · refine .inr ⟨h, ?_⟩
    obtain ⟨x, h1, h2, h3⟩ := inv_l0 (a % PP) 2305843009213693951 0 1 (a % PP) k (by omega) hlt (by decide) (by decide) (by decide) hlt (by rw [Nat.zero_mul]; decide) (by rw [Nat.one_mul])
    refine ⟨x, by rw [if_neg (by omega)]; exact h1, h2, ?_⟩
    rw [Nat.mul_mod_mod, Nat.gcd_comm, cop_prime (by omega) hlt] at h3
    exact h3
theorem Pow_l0 : ∀ (n k p x : Nat), k < 2 ^ n → p < 2305843009213693951 → x < 18446744073709551616 → k < 18446744073709551616 → field_Pow.l0 (n + 1) (x : Int) (k : Int) (p : Int) = some ((p * x ^ k % PP : Nat) : Int)
  | n, 0, p, x, _, hp, _, _ => by
    simp only [field_Pow.l0]
    rw [if_pos (by omega), Nat.pow_zero, Nat.mul_one, Nat.mod_eq_of_lt (by rw [PP_is]; exact hp)]
  | 0, k + 1, p, x, hk, _, _, _ => by simp at hk
  | n + 1, k + 1, p, x, hk, hp, hx, hk' => by
    have hP : ∀ y, y % PP < 2305843009213693951 := fun y => Nat.mod_lt y (by decide : 0 < PP)
    have hk2 : (k + 1) / 2 < 2 ^ n := by rw [Nat.div_lt_iff_lt_mul (by decide), ← Nat.pow_succ]; exact hk
    have hxx := hP (x * x)
    have e : (x * x % PP) ^ ((k + 1) / 2) % PP = x ^ (2 * ((k + 1) / 2)) % PP := by rw [← Nat.pow_mod, Nat.pow_mul, Nat.pow_two]
    rw [field_Pow.l0.eq_def]
    simp only []
    rw [if_neg (show ¬ ((k + 1 : Nat) : Int) = 0 by omega), and_one (by omega) (by omega), Mul_f (by omega) hx, Mul_f hx hx]
    simp only [Option.bind_some]
    rw [show (((k + 1 : Nat) : Int) / 2) = (((k + 1) / 2 : Nat) : Int) from by omega]
    by_cases c : (((k + 1 : Nat) : Int) % 2) = 1
    · rw [if_pos c, Pow_l0 n _ _ _ hk2 (hP _) (by omega) (by omega)]
      congr 2
      rw [Nat.mul_mod, e, ← Nat.mul_mod, Nat.mod_mul_mod, Nat.mul_assoc, Nat.mul_comm x, ← Nat.pow_succ]
      congr 3; omega
    · rw [if_neg c, Pow_l0 n _ _ _ hk2 hp (by omega) (by omega)]
      congr 2
      rw [Nat.mul_mod, e, ← Nat.mul_mod]
      congr 3; omega
theorem Pow_f {k n x : Nat} (hk : 70 ≤ k) (hn : n < 18446744073709551616) (hx : x < 18446744073709551616) : field_Pow.f k (x : Int) (n : Int) = some ((x ^ n % PP : Nat) : Int) := by
  refine at_rounds (field_Pow.mono _ _) (show 65 ≤ k by omega) ?_
  unfold field_Pow.f
  have := Pow_l0 64 n 1 x (by simpa using hn) (by decide) hx hn
  rw [Nat.one_mul] at this
  exact this
theorem lives_at {k : Nat} (h : 100 ≤ k) : taluslaw03_lives.f k = some true := by
  have h1 : field_Inverse.f k 2 = some (1152921504606846976, true) := at_rounds (field_Inverse.mono 2) (show 8 ≤ k by omega) (by decide +kernel)
  have h2 : field_MulDiv.f k 9223372036854775808 6 3 = some (0, false) := at_rounds (field_MulDiv.mono _ _ _) (show 16 ≤ k by omega) (by decide +kernel)
  have h3 : field_MulDiv.f k 9223372036854775808 6 8 = some (6917529027641081856, true) := at_rounds (field_MulDiv.mono _ _ _) (show 16 ≤ k by omega) (by decide +kernel)
  have h4 : field_Mul.f 1152921504606846976 2 = some 1 := by decide +kernel
  have h5 : field_Hash.f 1 5 2305843009213693950 = some 4 := by decide +kernel
  unfold taluslaw03_lives.f
  rw [h1, Option.bind_some, h2, Option.bind_some, h3, Option.bind_some, h4, Option.bind_some, if_pos rfl, if_pos rfl, if_pos rfl, h5, Option.bind_some, if_pos rfl, if_neg (by decide), if_pos rfl]
  rfl
theorem j1_yes {a b c k : Nat} (ha : a < 18446744073709551616) (hb : b < 18446744073709551616) (hc : c < 18446744073709551616) (hk : 200 ≤ k) : taluslaw03_FieldRules.j1 (k + 1) (a : Int) (b : Int) (c : Int) false = some true := by
  have hP : ∀ y, y % PP < 2305843009213693951 := fun y => Nat.mod_lt y (by decide : 0 < PP)
  have h1 := hP (a ^ (b % 1000))
  have h2 := hP (a ^ (c % 1000))
  have h3 := hP (b * c)
  simp only [taluslaw03_FieldRules.j1, Bool.false_eq_true, if_false]
  rw [Int.tmod_eq_emod_of_nonneg (by omega), Int.tmod_eq_emod_of_nonneg (by omega), show (b : Int) % 1000 = ((b % 1000 : Nat) : Int) from by omega, show (c : Int) % 1000 = ((c % 1000 : Nat) : Int) from by omega, u64_in _ (by omega) (by omega), show ((b % 1000 : Nat) : Int) + ((c % 1000 : Nat) : Int) = ((b % 1000 + c % 1000 : Nat) : Int) from by omega,
    Pow_f (by omega) (by omega) ha, Option.bind_some, Pow_f (by omega) (by omega) ha, Option.bind_some, Pow_f (by omega) (by omega) ha, Option.bind_some, Mul_f (by omega) (by omega), Option.bind_some, if_pos (by rw [Nat.pow_add, ← Nat.mul_mod]), Mul_f hb hc, Option.bind_some]
  unfold field_Good.f
  rw [Option.bind_some, if_pos (decide_eq_true (by omega)), lives_at (by omega), Option.bind_some]
end FieldRulesL
theorem FieldRules : taluslaw03_FieldRules.Pure := by
  intro a b c ha hb hc
  obtain ⟨h0, h1⟩ := wf_u64 ha
  obtain ⟨g0, g1⟩ := wf_u64 hb
  obtain ⟨f0, f1⟩ := wf_u64 hc
  obtain ⟨a, rfl⟩ := Int.eq_ofNat_of_zero_le h0
  obtain ⟨b, rfl⟩ := Int.eq_ofNat_of_zero_le g0
  obtain ⟨c, rfl⟩ := Int.eq_ofNat_of_zero_le f0
  have ha : a < 18446744073709551616 := by omega
  have hb : b < 18446744073709551616 := by omega
  have hc : c < 18446744073709551616 := by omega
  have hP : ∀ y, y % PP < 18446744073709551616 := fun y => Nat.lt_trans (Nat.mod_lt y (by decide : 0 < PP)) (by decide)
  obtain ⟨K, hK⟩ : ∃ K : Nat, 2305843009213694951 < K := ⟨_, Nat.lt_succ_self _⟩
  refine ⟨K + 1, ?_⟩
  unfold taluslaw03_FieldRules.f
  rw [FieldRulesL.Add_f hb hc, Option.bind_some, FieldRulesL.Mul_f ha (hP _), Option.bind_some, FieldRulesL.Mul_f ha hb, Option.bind_some, FieldRulesL.Mul_f ha hc, Option.bind_some, FieldRulesL.Add_f (hP _) (hP _), Option.bind_some, if_pos (by congr 1; rw [Nat.mul_mod_mod, Nat.mul_add, Nat.add_mod]), FieldRulesL.Mul_f hb hc, Option.bind_some, FieldRulesL.Mul_f ha (hP _), Option.bind_some, Option.bind_some, FieldRulesL.Mul_f (hP _) hc, Option.bind_some]
  rw [show (((a * (b * c % PP) % PP : Nat) : Int) != ((a * b % PP * c % PP : Nat) : Int)) = false from by rw [Nat.mul_mod_mod, Nat.mod_mul_mod, Nat.mul_assoc]; simp]
  simp only [taluslaw03_FieldRules.j0, Bool.false_eq_true, if_false]
  obtain ⟨K, rfl⟩ : ∃ m, K = m + 1 := ⟨K - 1, by omega⟩
  rcases FieldRulesL.Inv_f ha (k := K + 1) (by omega) with ⟨e, hi⟩ | ⟨e, x, hi, hx, hm⟩
  · rw [hi, Option.bind_some, FieldRulesL.Of_f ha, Option.bind_some, e, if_neg (by decide), if_neg (by decide)]
    exact FieldRulesL.j1_yes ha hb hc (by omega)
  · rw [hi, Option.bind_some, FieldRulesL.Of_f ha, Option.bind_some, if_neg (by
      have : (((a % PP : Nat) : Int) != 0) = true := by simpa using (by omega : ¬ ((a % PP : Nat) : Int) = 0)
      rw [this]; exact (by decide : ¬ ((true != true) = true))), if_pos rfl, FieldRulesL.Mul_f ha (by omega), Option.bind_some, Nat.mul_comm, hm]
    exact FieldRulesL.j1_yes ha hb hc (by omega)
end Go.Proofs.Ytkmhknfdoofieaa.Pure
