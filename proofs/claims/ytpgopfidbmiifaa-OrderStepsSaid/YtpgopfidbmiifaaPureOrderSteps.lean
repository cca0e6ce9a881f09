/-
  The pure law of OrderSteps: the key behind a float's is that of the next greater float. No conditions.
-/
import Derived.Test.YtpgopfidbmiifaaTlFloat
import Derived.Test.YtpgopfidbmiifaaPOrderStepsx6
namespace Go.Proofs.Ytpgopfidbmiifaa.Pure
open Go.RowKit Go.Proofs.Ytpgopfidbmiifaa.POrderSteps Go.Proofs.YtpgopfidbmiifaaW.PrintWords Go.Proofs.YtpgopfidbmiifaaW.PrintLast Go.Proofs.YtpgopfidbmiifaaW.PrintMore Go.Proofs.Ytpgopfidbmiifaa.Tl
namespace OrderStepsL
/-- The bits of an int. -/
def ub (a : Int) : Nat := (IntKind.u64.wrap a).toNat
theorem ub_lt (a : Int) : ub a < 18446744073709551616 := by unfold ub; rw [u64_mod]; omega
theorem ub_is (a : Int) : (ub a : Int) = a % 18446744073709551616 := by unfold ub; rw [u64_mod]; omega
theorem isN0 : ¬ isN 0 := by decide
theorem sv0 : sv 0 = 0 := by decide
theorem sv_zero {x : Nat} : sv x = 0 ↔ rg x = 0 := by unfold sv; split <;> omega
theorem float_f (a : Int) : order_float.f a = some (ub a) := rfl
theorem Canon_f (a : Int) : order_Canon.f a = some (if isN (ub a) then 9221120237041090560 else if rg (ub a) = 0 then 0 else a) := by
  unfold order_Canon.f
  rw [float_f, Option.bind_some, self_is, eq_is]
  by_cases h : isN (ub a)
  · rw [if_pos (decide_eq_true h), if_pos h]
  · rw [if_neg (by simp [h]), if_neg h]
    by_cases h0 : rg (ub a) = 0
    · rw [if_pos (by simp only [h, isN0, not_false_eq_true, true_and, sv0]; simpa using sv_zero.2 h0), if_pos h0]
    · rw [if_neg (by simp only [h, isN0, not_false_eq_true, true_and, sv0]; simpa using fun e => h0 (sv_zero.1 e)), if_neg h0]
/-- Cmp, of bits. -/
def cmpS (x y : Nat) : Int := if isN x then (if isN y then 0 else 1) else if isN y then -1 else if sv x < sv y then -1 else if sv y < sv x then 1 else 0
theorem Cmp_f {k : Nat} (a b : Int) (hk : 2 ≤ k) : order_Cmp.f k a b = some (cmpS (ub a) (ub b)) := by
  obtain ⟨k, rfl⟩ : ∃ m, k = m + 1 := ⟨k - 1, by omega⟩
  unfold order_Cmp.f cmpS
  rw [float_f, Option.bind_some, float_f, Option.bind_some, lt_is, gt_is, eq_is, self_is, self_is]
  simp only [order_Cmp.j0, self_is, decide_eq_true_eq]
  by_cases hx : isN (ub a)
  · by_cases hy : isN (ub b)
    · simp [hx, hy]
    · simp [hx, hy]
  · by_cases hy : isN (ub b)
    · simp [hx, hy]
    · by_cases c : sv (ub a) < sv (ub b)
      · simp [hx, hy, c]
      · by_cases d : sv (ub b) < sv (ub a)
        · simp [hx, hy, c, d]
        · have e : sv (ub a) = sv (ub b) := by omega
          simp [hx, hy, e]
theorem lives_at {k : Nat} (h : 100 ≤ k) : taluslaw05_lives.f k = some true := by
  have h1 : order_Canon.f (-9223372036854775808) = some 0 := by decide +kernel
  have h2 : order_Key.f 0 = some 9223372036854775808 := by decide +kernel
  have h3 : order_Print.f k 4607182418800017408 = some ⟨#[48, 102, 51, 102, 102, 48, 48, 48, 48, 48, 48, 48, 48, 48, 48, 48, 48, 48]⟩ := at_rounds (order_Print.mono _) (show 24 ≤ k by omega) (by decide +kernel)
  have h4 : order_Cmp.f k 9221120237041090561 9218868437227405312 = some 1 := at_rounds (order_Cmp.mono _ _) (show 4 ≤ k by omega) (by decide +kernel)
  unfold taluslaw05_lives.f
  rw [h1, Option.bind_some, if_pos rfl, h2, Option.bind_some, if_pos rfl, h3, Option.bind_some, if_pos (by decide +kernel), h4, Option.bind_some]
  rfl
/-- The good float that is alike, of bits. -/
def canS (a : Int) : Int := if isN (ub a) then 9221120237041090560 else if rg (ub a) = 0 then 0 else a
theorem ub_can (a : Int) : ub (canS a) = if isN (ub a) then 9221120237041090560 else if rg (ub a) = 0 then 0 else ub a := by
  unfold canS
  by_cases h : isN (ub a)
  · rw [if_pos h, if_pos h]; decide
  · rw [if_neg h, if_neg h]
    by_cases h0 : rg (ub a) = 0
    · rw [if_pos h0, if_pos h0]; decide
    · rw [if_neg h0, if_neg h0]
theorem isN_nan : isN 9221120237041090560 := by decide
theorem isN_can (a : Int) : isN (ub (canS a)) ↔ isN (ub a) := by
  rw [ub_can]
  by_cases h : isN (ub a)
  · rw [if_pos h]; simp [h, isN_nan]
  · rw [if_neg h]
    by_cases h0 : rg (ub a) = 0
    · rw [if_pos h0]; simp [h, isN0]
    · rw [if_neg h0]
/-- The key, of bits. -/
def keyS (x : Nat) : Nat := if isN x then 18446744073709551615 else if rg x = 0 then 9223372036854775808 else if sg x = true then 18446744073709551615 - x else x + 9223372036854775808
theorem split_sg {x : Nat} (h : x < 18446744073709551616) : (sg x = true ∧ x = 9223372036854775808 + rg x) ∨ (sg x = false ∧ x = rg x) := by
  unfold sg rg
  by_cases c : x < 9223372036854775808
  · right
    refine ⟨?_, by omega⟩
    rw [show x / 9223372036854775808 = 0 from by omega]; rfl
  · left
    refine ⟨?_, by omega⟩
    rw [show x / 9223372036854775808 = 1 from by omega]; rfl
theorem Key_f (a : Int) : order_Key.f a = some ((keyS (ub a) : Nat) : Int) := by
  unfold order_Key.f keyS
  rw [Canon_f, Option.bind_some]
  change ((order_float.f (canS a)).bind _) = _
  rw [float_f, Option.bind_some, self_is, lt_is]
  have hu := ub_lt a
  rw [ub_can]
  by_cases h : isN (ub a)
  · rw [if_pos h, if_pos (decide_eq_true isN_nan), if_pos h]
    rfl
  · rw [if_neg h, if_neg h]
    by_cases h0 : rg (ub a) = 0
    · rw [if_pos h0, if_neg (by decide), if_neg (by decide), if_pos h0]
      decide
    · rw [if_neg h0, if_neg h0, if_neg (by simp [h])]
      rcases split_sg hu with ⟨s, e⟩ | ⟨s, e⟩
      · have hneg : sv (ub a) < 0 := by unfold sv; rw [if_pos s]; omega
        rw [if_pos (by simp [h, isN0, sv0, hneg]), if_pos s, not_u64 hu]
      · have hpos : ¬ sv (ub a) < 0 := by unfold sv; rw [if_neg (by simp [s])]; omega
        rw [if_neg (by simp [h, isN0, sv0, hpos]), if_neg (by simp [s])]
        have hr : rg (ub a) < 9223372036854775808 := by unfold rg; omega
        rw [bor_comm, or_add (k := .u64) rfl 63 _ _ (by decide) (by decide) (by decide) (by omega) (by omega) (by simp only [IntKind.bits, Int.reducePow]; omega)]
        congr 1
        omega
theorem Good_f (a : Int) : order_Good.f a = some (canS a == a) := by
  unfold order_Good.f
  rw [Canon_f, Option.bind_some]
  rfl
theorem Nan_f (a : Int) : order_Nan.f a = some (decide (isN (ub a))) := by
  unfold order_Nan.f
  rw [float_f, Option.bind_some, self_is]
/-- The int of bits. -/
def iw (x : Nat) : Int := if x < 9223372036854775808 then (x : Int) else (x : Int) - 18446744073709551616
theorem ub_iw {x : Nat} (h : x < 18446744073709551616) : ub (iw x) = x := by
  unfold ub iw; rw [u64_mod]; split <;> omega
theorem iw_wrap {x : Nat} (h : x < 18446744073709551616) : wrap64 (x : Int) = iw x := by unfold wrap64 iw; split <;> omega
/-- The float of a key, of bits. -/
def backS (k : Nat) : Nat := if k < 9223372036854775808 then 18446744073709551615 - k else k - 9223372036854775808
theorem Back_f {q k : Nat} (hk : k < 18446744073709551616) (hq : 2 ≤ q) : order_Back.f q (k : Int) = some (if k = 18446744073709551615 then 9221120237041090560 else if isN (backS k) then 0 else if canS (iw (backS k)) = iw (backS k) then iw (backS k) else 0) := by
  obtain ⟨q, rfl⟩ : ∃ m, q = m + 1 := ⟨q - 1, by omega⟩
  unfold order_Back.f
  by_cases h : k = 18446744073709551615
  · rw [if_pos (by omega), if_pos h]
  · rw [if_neg (by omega), if_neg h]
    have hb : backS k < 18446744073709551616 := by unfold backS; split <;> omega
    have tail : ∀ (x : Nat), x = backS k → order_Back.j0 (q + 1) (x : Int) = some (if isN (backS k) then 0 else if canS (iw (backS k)) = iw (backS k) then iw (backS k) else 0) := by
      intro x hx
      subst hx
      simp only [order_Back.j0]
      rw [iw_wrap hb, Nan_f, Option.bind_some, ub_iw hb]
      by_cases n : isN (backS k)
      · rw [if_pos (decide_eq_true n), if_pos n]
      · rw [if_neg (by simp [n]), if_neg n, Good_f, Option.bind_some]
        by_cases g : canS (iw (backS k)) = iw (backS k)
        · rw [if_pos (by simpa using g), if_pos g]
        · rw [if_neg (by simpa using g), if_neg g]
    by_cases c : k < 9223372036854775808
    · rw [if_pos (by rw [and_top hk, if_pos c]), not_u64 hk]
      exact tail _ (by unfold backS; rw [if_pos c])
    · rw [if_neg (by rw [and_top hk, if_neg c]; decide), andNot_top hk]
      exact tail _ (by unfold backS; rw [if_neg c]; omega)
theorem canS_good {y : Nat} (hy : y < 18446744073709551616) (hn : ¬ isN y) (h0 : rg y ≠ 0) : canS (iw y) = iw y := by
  unfold canS; rw [ub_iw hy, if_neg hn, if_neg h0]
/-- What lies behind the key of a number that is no NaN and not the greatest. -/
theorem step {k : Nat} (a : Int) (hn : ¬ isN (ub a)) (hi : ub a ≠ 9218868437227405312) (hk : 200 ≤ k) : taluslaw05_OrderSteps.j0 (k + 1) a ((keyS (ub a) : Nat) : Int) false = some true := by
  have hu := ub_lt a
  have hrl : rg (ub a) < 9223372036854775808 := by unfold rg; omega
  have hnr : rg (ub a) ≤ 9218868437227405312 := by unfold isN at hn; omega
  have hcan : ub (canS a) = if rg (ub a) = 0 then 0 else ub a := by rw [ub_can, if_neg hn]
  have hCanon : order_Canon.f a = some (canS a) := Canon_f a
  obtain ⟨x, hx⟩ : ∃ x, ub a = x := ⟨_, rfl⟩
  rw [hx] at hn hi hu hrl hnr hcan ⊢
  -- the float behind it is y
  have fin : ∀ y : Nat, y < 18446744073709551616 → ¬ isN y → rg y ≠ 0 → backS (keyS x + 1) = y → keyS y = keyS x + 1 → keyS x + 1 < 18446744073709551615 → sv x < sv y → taluslaw05_OrderSteps.j0 (k + 1) a ((keyS x : Nat) : Int) false = some true := by
    intro y hy hny h0 hb hkey hlt hsv
    simp only [taluslaw05_OrderSteps.j0, Bool.false_eq_true, if_false]
    rw [show ((keyS x : Nat) : Int) + 1 = ((keyS x + 1 : Nat) : Int) from rfl, u64_wrap_lt (by omega), Back_f (by omega) (by omega), if_neg (by omega), hb, if_neg hny, if_pos (canS_good hy hny h0), Option.bind_some, Good_f, Option.bind_some, if_pos (by simpa using canS_good hy hny h0), hCanon, Option.bind_some, Key_f, Option.bind_some, ub_iw hy, hkey, if_pos rfl]
    change (if (FloatKind.f64.format.order (ub (canS a)) (ub (iw y)) == some Ordering.lt) = true then _ else _) = _
    have hs : sv (ub (canS a)) < sv y := by
      rw [hcan]
      by_cases z : rg x = 0
      · rw [if_pos z, sv0]; rw [sv_zero.2 z] at hsv; exact hsv
      · rw [if_neg z]; exact hsv
    have hnc : ¬ isN (ub (canS a)) := by
      rw [hcan]
      by_cases z : rg x = 0
      · rw [if_pos z]; exact isN0
      · rw [if_neg z]; exact hn
    rw [ub_iw hy, lt_is, if_pos (by simp [hnc, hny, hs]), Cmp_f _ _ (by omega), Option.bind_some, hx, ub_iw hy]
    have hc : cmpS x y = -1 := by unfold cmpS; rw [if_neg hn, if_neg hny, if_pos hsv]
    rw [hc, if_pos (by decide), lives_at (by omega), Option.bind_some]
  have hkx : keyS x = if rg x = 0 then 9223372036854775808 else if sg x = true then 18446744073709551615 - x else x + 9223372036854775808 := by unfold keyS; rw [if_neg hn]
  by_cases z : rg x = 0
  · rw [if_pos z] at hkx
    refine fin 1 (by decide) (by decide) (by decide) (by rw [hkx]; decide) (by rw [hkx]; decide) (by rw [hkx]; decide) ?_
    rw [sv_zero.2 z]; decide
  · rw [if_neg z] at hkx
    rcases split_sg hu with ⟨s, e⟩ | ⟨s, e⟩
    · rw [if_pos s] at hkx
      have hxs : sv x = -(rg x : Int) := by unfold sv; rw [if_pos s]
      by_cases one : rg x = 1
      · -- behind the least of those below 0
        have hk1 : keyS x = 9223372036854775806 := by omega
        simp only [taluslaw05_OrderSteps.j0, Bool.false_eq_true, if_false]
        rw [hk1, show ((9223372036854775806 : Nat) : Int) + 1 = ((9223372036854775807 : Nat) : Int) from rfl, u64_wrap_lt (by decide), Back_f (by decide) (by omega), if_neg (by decide), if_neg (by decide), if_neg (by decide), Option.bind_some, Good_f, Option.bind_some, if_pos (by decide), hCanon, Option.bind_some, Key_f, Option.bind_some, if_neg (by decide), if_pos rfl, lives_at (by omega), Option.bind_some]
      · obtain ⟨r, hr⟩ : ∃ r, rg x = r + 2 := ⟨rg x - 2, by omega⟩
        have ry : rg (9223372036854775808 + (r + 1)) = r + 1 := by unfold rg; omega
        have sy : sg (9223372036854775808 + (r + 1)) = true := by
          rcases split_sg (x := 9223372036854775808 + (r + 1)) (by omega) with ⟨q, _⟩ | ⟨_, q⟩
          · exact q
          · omega
        have ny : ¬ isN (9223372036854775808 + (r + 1)) := by unfold isN; omega
        refine fin (9223372036854775808 + (r + 1)) (by omega) ny (by omega) ?_ ?_ (by omega) ?_
        · unfold backS; rw [if_pos (by omega)]; omega
        · have e1 : keyS (9223372036854775808 + (r + 1)) = 18446744073709551615 - (9223372036854775808 + (r + 1)) := by unfold keyS; rw [if_neg ny, if_neg (by omega), if_pos sy]
          omega
        · rw [hxs]; unfold sv; rw [if_pos sy]; omega
    · rw [if_neg (by simp [s])] at hkx
      have hxs : sv x = (rg x : Int) := by unfold sv; rw [if_neg (by simp [s])]
      have ry : rg (x + 1) = x + 1 := by unfold rg; omega
      have sy : sg (x + 1) = false := by
        rcases split_sg (x := x + 1) (by omega) with ⟨_, q⟩ | ⟨q, _⟩
        · omega
        · exact q
      have ny : ¬ isN (x + 1) := by unfold isN; omega
      refine fin (x + 1) (by omega) ny (by omega) ?_ ?_ (by omega) ?_
      · have e1 : backS (keyS x + 1) = keyS x + 1 - 9223372036854775808 := by unfold backS; rw [if_neg (by omega)]
        omega
      · have e1 : keyS (x + 1) = x + 1 + 9223372036854775808 := by unfold keyS; rw [if_neg ny, if_neg (by omega), if_neg (by simp [sy])]
        omega
      · rw [hxs]; unfold sv; rw [if_neg (by simp [sy])]; omega
end OrderStepsL
theorem OrderSteps : taluslaw05_OrderSteps.Pure := by
  intro a ha
  refine ⟨300, ?_⟩
  unfold taluslaw05_OrderSteps.f
  rw [OrderStepsL.Key_f, Option.bind_some, OrderStepsL.Nan_f, Option.bind_some]
  have yes : ∀ t, taluslaw05_OrderSteps.j0 300 a t true = some true := by
    intro t
    simp only [taluslaw05_OrderSteps.j0, if_true]
    rw [OrderStepsL.lives_at (by omega), Option.bind_some]
  by_cases hn : isN (OrderStepsL.ub a)
  · rw [if_pos (decide_eq_true hn)]; exact yes _
  · rw [if_neg (by simp [hn])]
    by_cases hi : a = 9218868437227405312
    · rw [if_pos hi]; exact yes _
    · rw [if_neg hi, OrderStepsL.Canon_f, Option.bind_some]
      obtain ⟨h0, h1⟩ := wf_i64 ha
      have hu := OrderStepsL.ub_is a
      by_cases hm : (if isN (OrderStepsL.ub a) then (9221120237041090560 : Int) else if rg (OrderStepsL.ub a) = 0 then 0 else a) = -1
      · rw [hm]; exact yes _
      · rw [show ((if isN (OrderStepsL.ub a) then (9221120237041090560 : Int) else if rg (OrderStepsL.ub a) = 0 then 0 else a) == -1) = false from by simpa using hm]
        exact OrderStepsL.step a hn (by omega) (by omega)
end Go.Proofs.Ytpgopfidbmiifaa.Pure
