/-
  The pure law of OrderFloats: Cmp says what < of floats says. No conditions.
-/
import Derived.Test.YtpgopfidbmiifaaTlFloat
import Derived.Test.YtpgopfidbmiifaaPOrderFloatsx5
namespace Go.Proofs.Ytpgopfidbmiifaa.Pure
open Go.RowKit Go.Proofs.Ytpgopfidbmiifaa.POrderFloats Go.Proofs.YtpgopfidbmiifaaW.PrintWords Go.Proofs.YtpgopfidbmiifaaW.PrintLast Go.Proofs.YtpgopfidbmiifaaW.PrintMore Go.Proofs.Ytpgopfidbmiifaa.Tl
namespace OrderFloatsL
/-- The bits of an int. -/
def ub (a : Int) : Nat := (IntKind.u64.wrap a).toNat
theorem ub_lt (a : Int) : ub a < 18446744073709551616 := by unfold ub; rw [u64_mod]; omega
theorem ub_is (a : Int) : (ub a : Int) = a % 18446744073709551616 := by unfold ub; rw [u64_mod]; omega
theorem isN0 : ¬ isN 0 := by decide
theorem sv0 : sv 0 = 0 := by decide
theorem sv_zero {x : Nat} : sv x = 0 ↔ rg x = 0 := by unfold sv; split <;> omega
theorem float_f (a : Int) : order_float.f a = some (ub a) := rfl
theorem Canon_f (a : Int) : order_Canon.f a = some (if isN (ub a) then 9221120237041090560 else if rg (ub a) = 0 then 0 else a) := by
  unfold order_Canon.f
  rw [float_f, Option.bind_some, self_is, eq_is]
  by_cases h : isN (ub a)
  · rw [if_pos (decide_eq_true h), if_pos h]
  · rw [if_neg (by simp [h]), if_neg h]
    by_cases h0 : rg (ub a) = 0
    · rw [if_pos (by simp only [h, isN0, not_false_eq_true, true_and, sv0]; simpa using sv_zero.2 h0), if_pos h0]
    · rw [if_neg (by simp only [h, isN0, not_false_eq_true, true_and, sv0]; simpa using fun e => h0 (sv_zero.1 e)), if_neg h0]
/-- Cmp, of bits. -/
def cmpS (x y : Nat) : Int := if isN x then (if isN y then 0 else 1) else if isN y then -1 else if sv x < sv y then -1 else if sv y < sv x then 1 else 0
theorem Cmp_f {k : Nat} (a b : Int) (hk : 2 ≤ k) : order_Cmp.f k a b = some (cmpS (ub a) (ub b)) := by
  obtain ⟨k, rfl⟩ : ∃ m, k = m + 1 := ⟨k - 1, by omega⟩
  unfold order_Cmp.f cmpS
  rw [float_f, Option.bind_some, float_f, Option.bind_some, lt_is, gt_is, eq_is, self_is, self_is]
  simp only [order_Cmp.j0, self_is, decide_eq_true_eq]
  by_cases hx : isN (ub a)
  · by_cases hy : isN (ub b)
    · simp [hx, hy]
    · simp [hx, hy]
  · by_cases hy : isN (ub b)
    · simp [hx, hy]
    · by_cases c : sv (ub a) < sv (ub b)
      · simp [hx, hy, c]
      · by_cases d : sv (ub b) < sv (ub a)
        · simp [hx, hy, c, d]
        · have e : sv (ub a) = sv (ub b) := by omega
          simp [hx, hy, e]
theorem lives_at {k : Nat} (h : 100 ≤ k) : taluslaw05_lives.f k = some true := by
  have h1 : order_Canon.f (-9223372036854775808) = some 0 := by decide +kernel
  have h2 : order_Key.f 0 = some 9223372036854775808 := by decide +kernel
  have h3 : order_Print.f k 4607182418800017408 = some ⟨#[48, 102, 51, 102, 102, 48, 48, 48, 48, 48, 48, 48, 48, 48, 48, 48, 48, 48]⟩ := at_rounds (order_Print.mono _) (show 24 ≤ k by omega) (by decide +kernel)
  have h4 : order_Cmp.f k 9221120237041090561 9218868437227405312 = some 1 := at_rounds (order_Cmp.mono _ _) (show 4 ≤ k by omega) (by decide +kernel)
  unfold taluslaw05_lives.f
  rw [h1, Option.bind_some, if_pos rfl, h2, Option.bind_some, if_pos rfl, h3, Option.bind_some, if_pos (by decide +kernel), h4, Option.bind_some]
  rfl
theorem j0_yes {k x y : Nat} (hk : 100 ≤ k) (b : Bool) (hb : b = true ↔ (isN x ∨ isN y)) : taluslaw05_OrderFloats.j0 (k + 1) x y (cmpS x y) b = some true := by
  simp only [taluslaw05_OrderFloats.j0, self_is, lt_is, gt_is, eq_is, lives_at hk, Option.bind_some]
  unfold cmpS
  by_cases hx : isN x
  · obtain rfl : b = true := hb.2 (.inl hx)
    by_cases hy : isN y <;> simp [hx, hy]
  · by_cases hy : isN y
    · obtain rfl : b = true := hb.2 (.inr hy)
      simp [hx, hy]
    · have hbf : b = false := by cases b <;> simp_all
      subst hbf
      by_cases c : sv x < sv y
      · have d : ¬ sv y < sv x := by omega
        have e : ¬ sv x = sv y := by omega
        simp [hx, hy, c, d, e]
      · by_cases d : sv y < sv x
        · have e : ¬ sv x = sv y := by omega
          simp [hx, hy, c, d, e]
        · have e : sv x = sv y := by omega
          simp [hx, hy, e]
end OrderFloatsL
theorem OrderFloats : taluslaw05_OrderFloats.Pure := by
  intro a b _ _
  refine ⟨101, ?_⟩
  unfold taluslaw05_OrderFloats.f
  rw [OrderFloatsL.Cmp_f a b (by omega), Option.bind_some, self_is, self_is]
  change (if decide (isN (OrderFloatsL.ub a)) = true then taluslaw05_OrderFloats.j0 101 (OrderFloatsL.ub a) (OrderFloatsL.ub b) _ true else taluslaw05_OrderFloats.j0 101 (OrderFloatsL.ub a) (OrderFloatsL.ub b) _ (decide (isN (OrderFloatsL.ub b)))) = some true
  by_cases h : isN (OrderFloatsL.ub a)
  · rw [if_pos (decide_eq_true h)]
    exact OrderFloatsL.j0_yes (by omega) true (by simp [h])
  · rw [if_neg (by simp [h])]
    exact OrderFloatsL.j0_yes (by omega) _ (by simp [h])
end Go.Proofs.Ytpgopfidbmiifaa.Pure
