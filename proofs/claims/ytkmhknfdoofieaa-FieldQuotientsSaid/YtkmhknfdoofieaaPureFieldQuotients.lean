/-
  The pure law of FieldQuotients: a product of two small numbers, divided, is what / says. No conditions.
-/
import Derived.Test.YtkmhknfdoofieaaTlField
import Derived.Test.YtkmhknfdoofieaaPFieldQuotientsx4
namespace Go.Proofs.Ytkmhknfdoofieaa.Pure
open Go.RowKit Go.Proofs.Ytkmhknfdoofieaa.PFieldQuotients Go.Proofs.YtkmhknfdoofieaaW.PrintWords Go.Proofs.YtkmhknfdoofieaaW.PrintLast Go.Proofs.YtkmhknfdoofieaaW.PrintMore Go.Proofs.Ytkmhknfdoofieaa.Tl
namespace FieldQuotientsL
theorem Of_f {a : Nat} (h : a < 18446744073709551616) : field_Of.f (a : Int) = some ((a % PP : Nat) : Int) := by
  unfold field_Of.f
  rw [and_m61 (by omega) (by omega), u64_in _ (by omega) (by omega), PP_is]
  by_cases c : (a : Int) % 2305843009213693952 + (a : Int) / 2305843009213693952 ≥ 2305843009213693951
  · rw [if_pos c, u64_in _ (by omega) (by omega)]
    congr 1
    omega
  · rw [if_neg c]
    congr 1
    omega
theorem Mul64_f {a b : Nat} (ha : a < 18446744073709551616) (hb : b < 18446744073709551616) : bits_Mul64.f (a : Int) (b : Int) = some (((a * b / 18446744073709551616 : Nat) : Int), ((a * b % 18446744073709551616 : Nat) : Int)) := by
  unfold bits_Mul64.f
  rw [and_m32 (x := (a : Int)) (by omega) (by omega), and_m32 (x := (b : Int)) (by omega) (by omega)]
  obtain ⟨p, q, r, s, e1, e2, e3, e4, hab, hp, hq, hr, hs⟩ := mul64_parts (a : Int) (b : Int) (by omega) (by omega) (by omega) (by omega)
  rw [e1, e2, e3, e4]
  rw [u64_in p (by omega) (by omega), u64_in q (by omega) (by omega), u64_in r (by omega) (by omega), u64_in s (by omega) (by omega)]
  rw [u64_in (q + s / 4294967296) (by omega) (by omega), and_m32 (by omega) (by omega)]
  rw [u64_in ((q + s / 4294967296) % 4294967296 + r) (by omega) (by omega), u64_in (p + (q + s / 4294967296) / 4294967296) (by omega) (by omega)]
  have hc : ((a * b : Nat) : Int) = p * 18446744073709551616 + (q + r) * 4294967296 + s := by rw [← hab]; simp
  generalize a * b = c at hc ⊢
  have hc' : (a : Int) * (b : Int) = (c : Int) := by rw [hab, hc]
  rw [hc', u64_mod, u64_mod]
  congr 1
  refine Prod.ext ?_ ?_ <;> dsimp only <;> omega
theorem fold_f {c : Nat} (h : c < 5316911983139663487003542222693990401) : field_Mul_1.f ((c / 18446744073709551616 : Nat) : Int) ((c % 18446744073709551616 : Nat) : Int) = some ((c / 2305843009213693952 % PP + c % 2305843009213693952 : Nat) : Int) := by
  unfold field_Mul_1.f
  rw [u64_in _ (by omega) (by omega), or_add (k := .u64) rfl 3 _ _ (by omega) (by simp) (by simp only [IntKind.bits, Int.reducePow]; omega) (by omega) (by simp only [Int.reducePow]; omega) (by simp only [IntKind.bits, Int.reducePow]; omega)]
  rw [show ((c / 18446744073709551616 : Nat) : Int) * 8 + ((c % 18446744073709551616 : Nat) : Int) / 2305843009213693952 = ((c / 2305843009213693952 : Nat) : Int) from by omega, Of_f (by omega), Option.bind_some, and_m61 (by omega) (by omega)]
  have hp : c / 2305843009213693952 % PP < 2305843009213693951 := Nat.mod_lt _ (by decide)
  generalize c / 2305843009213693952 % PP = d at hp ⊢
  rw [u64_in _ (by omega) (by omega)]
  congr 1
  omega
theorem Mul_f {a b : Nat} (ha : a < 18446744073709551616) (hb : b < 18446744073709551616) : field_Mul.f (a : Int) (b : Int) = some ((a * b % PP : Nat) : Int) := by
  unfold field_Mul.f
  have hp : ∀ x, x % PP < 2305843009213693951 := fun x => Nat.mod_lt _ (by decide)
  have h1 := hp a
  have h2 := hp b
  rw [Of_f ha, Option.bind_some, Of_f hb, Option.bind_some, Mul64_f (by omega) (by omega), Option.bind_some, fold_f (mulmod_lt a b), Option.bind_some, Of_f (by have := hp (a % PP * (b % PP) / 2305843009213693952); omega), Option.bind_some]
  congr 2
  rw [Nat.mod_add_mod, fold61, ← Nat.mul_mod]
theorem Add_f {a b : Nat} (ha : a < 18446744073709551616) (hb : b < 18446744073709551616) : field_Add.f (a : Int) (b : Int) = some (((a + b) % PP : Nat) : Int) := by
  unfold field_Add.f
  have hp : ∀ x, x % PP < 2305843009213693951 := fun x => Nat.mod_lt _ (by decide)
  have h1 := hp a
  have h2 := hp b
  rw [Of_f ha, Option.bind_some, Of_f hb, Option.bind_some, u64_in _ (by omega) (by omega), show ((a % PP : Nat) : Int) + ((b % PP : Nat) : Int) = ((a % PP + b % PP : Nat) : Int) from by simp, Of_f (by omega), Option.bind_some]
  congr 2
  rw [← Nat.add_mod]
theorem lives_at {k : Nat} (h : 100 ≤ k) : taluslaw03_lives.f k = some true := by
  have h1 : field_Inverse.f k 2 = some (1152921504606846976, true) := at_rounds (field_Inverse.mono 2) (show 8 ≤ k by omega) (by decide +kernel)
  have h2 : field_MulDiv.f k 9223372036854775808 6 3 = some (0, false) := at_rounds (field_MulDiv.mono _ _ _) (show 16 ≤ k by omega) (by decide +kernel)
  have h3 : field_MulDiv.f k 9223372036854775808 6 8 = some (6917529027641081856, true) := at_rounds (field_MulDiv.mono _ _ _) (show 16 ≤ k by omega) (by decide +kernel)
  have h4 : field_Mul.f 1152921504606846976 2 = some 1 := by decide +kernel
  have h5 : field_Hash.f 1 5 2305843009213693950 = some 4 := by decide +kernel
  unfold taluslaw03_lives.f
  rw [h1, Option.bind_some, h2, Option.bind_some, h3, Option.bind_some, h4, Option.bind_some, if_pos rfl, if_pos rfl, if_pos rfl, h5, Option.bind_some, if_pos rfl, if_neg (by decide), if_pos rfl]
  rfl
end FieldQuotientsL
theorem FieldQuotients : taluslaw03_FieldQuotients.Pure := by
  intro a b c ha hb hc
  obtain ⟨h0, h1⟩ := wf_u64 ha
  obtain ⟨g0, g1⟩ := wf_u64 hb
  obtain ⟨f0, f1⟩ := wf_u64 hc
  obtain ⟨a, rfl⟩ := Int.eq_ofNat_of_zero_le h0
  obtain ⟨b, rfl⟩ := Int.eq_ofNat_of_zero_le g0
  obtain ⟨c, rfl⟩ := Int.eq_ofNat_of_zero_le f0
  refine ⟨100, ?_⟩
  unfold taluslaw03_FieldQuotients.f
  rw [Int.tmod_eq_emod_of_nonneg (by omega), Int.tmod_eq_emod_of_nonneg (by omega)]
  rw [show (a : Int) % 2147483648 = ((a % 2147483648 : Nat) : Int) from by omega, show (b : Int) % 2147483648 = ((b % 2147483648 : Nat) : Int) from by omega]
  have hab : a % 2147483648 * (b % 2147483648) ≤ 2147483647 * 2147483647 := Nat.mul_le_mul (by omega) (by omega)
  have hm := FieldQuotientsL.Mul64_f (a := a % 2147483648) (b := b % 2147483648) (by omega) (by omega)
  rw [show ((a % 2147483648 : Nat) : Int) * ((b % 2147483648 : Nat) : Int) = ((a % 2147483648 * (b % 2147483648) : Nat) : Int) from by simp]
  generalize a % 2147483648 * (b % 2147483648) = p at hab hm ⊢
  rw [u64_in (p : Int) (by omega) (by omega)]
  unfold field_MulDiv.f
  rw [hm, Option.bind_some, show p / 18446744073709551616 = 0 from by omega, show p % 18446744073709551616 = p from by omega]
  by_cases hc0 : c = 0
  · subst hc0
    rw [if_pos (by simp), Option.bind_some, if_pos (by simp), if_neg (by simp), if_pos rfl, FieldQuotientsL.lives_at (by omega), Option.bind_some]
  · unfold bits_Div64.f
    rw [if_neg (by simp; omega)]
    dsimp only
    rw [if_neg (by omega), if_neg (by omega), if_pos (by simp), Option.bind_some, Option.bind_some, if_neg (by omega), if_pos rfl, if_pos rfl, FieldQuotientsL.lives_at (by omega), Option.bind_some]
end Go.Proofs.Ytkmhknfdoofieaa.Pure
