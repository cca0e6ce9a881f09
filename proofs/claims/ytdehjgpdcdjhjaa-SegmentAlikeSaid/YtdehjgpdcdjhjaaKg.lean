/- A framework of our own for walks over the model: Kg. -/
/-
  Plain facts on the order of floats of 64 bits: it is that of their signed lower bits. No program in sight.
-/
import Derived.Test.YtdehjgpdcdjhjaaKf
import Ieee.Arith
namespace Go.Proofs.Ytdehjgpdcdjhjaa.K
open Go Go.RowKit
set_option linter.unusedVariables false
set_option linter.unusedSimpArgs false

/-- The lower 63 bits; the sign bit; is it a NaN; the signed number that stands as the float does. -/
def rg (x : Nat) : Nat := x % 9223372036854775808
def sg (x : Nat) : Bool := x / 9223372036854775808 % 2 == 1
def isN (x : Nat) : Prop := 9218868437227405312 < rg x
instance (x : Nat) : Decidable (isN x) := inferInstanceAs (Decidable (_ < _))
def sv (x : Nat) : Int := if sg x = true then -(rg x : Int) else (rg x : Int)
/-- The number at a rung, in units of the least place. -/
def mg (r : Nat) : Nat := if r < 4503599627370496 then r else (4503599627370496 + r % 4503599627370496) * 2 ^ (r / 4503599627370496 - 1)

theorem mg_lt_next (r : Nat) : mg r < 4503599627370496 * 2 ^ (r / 4503599627370496) := by
  unfold mg
  by_cases h : r < 4503599627370496
  · rw [if_pos h, Nat.div_eq_of_lt h]; omega
  · rw [if_neg h]
    obtain ⟨e, he⟩ : ∃ e, r / 4503599627370496 = e + 1 := ⟨r / 4503599627370496 - 1, by omega⟩
    rw [he, Nat.add_sub_cancel, Nat.pow_succ, show 4503599627370496 * (2 ^ e * 2) = 9007199254740992 * 2 ^ e from by omega]
    exact Nat.mul_lt_mul_of_pos_right (by omega) (Nat.two_pow_pos _)
theorem mg_ge (r : Nat) (h : ¬ r < 4503599627370496) : 4503599627370496 * 2 ^ (r / 4503599627370496 - 1) ≤ mg r := by
  unfold mg
  rw [if_neg h]
  exact Nat.mul_le_mul_right _ (by omega)
theorem mg_mono {r s : Nat} (h : r < s) : mg r < mg s := by
  by_cases he : r / 4503599627370496 = s / 4503599627370496
  · unfold mg
    by_cases hr : r < 4503599627370496
    · rw [if_pos hr, if_pos (by omega)]; exact h
    · rw [if_neg hr, if_neg (by omega), he]
      exact Nat.mul_lt_mul_of_pos_right (by omega) (Nat.two_pow_pos _)
  · have hlt : r / 4503599627370496 < s / 4503599627370496 := by omega
    refine Nat.lt_of_lt_of_le (mg_lt_next r) (Nat.le_trans ?_ (mg_ge s (by omega)))
    exact Nat.mul_le_mul_left _ (Nat.pow_le_pow_right (by decide) (by omega))
theorem mg_zero {r : Nat} : mg r = 0 ↔ r = 0 := by
  constructor
  · intro h
    by_cases h0 : r = 0
    · exact h0
    · have := mg_mono (show 0 < r by omega)
      omega
  · rintro rfl; rfl

theorem cmp_int (a b : Int) : compare a b = if a < b then Ordering.lt else if a = b then Ordering.eq else Ordering.gt := rfl
/-- Signed numbers stand as what is strictly greater in size does. -/
theorem cmp_signed (s t : Bool) (a b : Nat) (A B : Nat) (h1 : a < b ↔ A < B) (h2 : b < a ↔ B < A) (h0 : a = 0 ↔ A = 0) (h0' : b = 0 ↔ B = 0) :
    compare (if s = true then -(a : Int) else (a : Int)) (if t = true then -(b : Int) else (b : Int)) = compare (if s = true then -(A : Int) else (A : Int)) (if t = true then -(B : Int) else (B : Int)) := by
  rw [cmp_int, cmp_int]
  cases s <;> cases t <;> simp only [Bool.false_eq_true, if_false, if_true]
  · by_cases c : a < b
    · rw [if_pos (by omega), if_pos (by have := h1.1 c; omega)]
    · by_cases d : b < a
      · rw [if_neg (by omega), if_neg (by omega), if_neg (by have := h2.1 d; omega), if_neg (by have := h2.1 d; omega)]
      · have e : ¬ A < B := fun h => c (h1.2 h)
        have f : ¬ B < A := fun h => d (h2.2 h)
        rw [if_neg (by omega), if_pos (by omega), if_neg (by omega), if_pos (by omega)]
  · by_cases c : a = 0 ∧ b = 0
    · have := h0.1 c.1
      have := h0'.1 c.2
      rw [if_neg (by omega), if_pos (by omega), if_neg (by omega), if_pos (by omega)]
    · have : ¬ (A = 0 ∧ B = 0) := fun h => c ⟨h0.2 h.1, h0'.2 h.2⟩
      rw [if_neg (by omega), if_neg (by omega), if_neg (by omega), if_neg (by omega)]
  · by_cases c : a = 0 ∧ b = 0
    · have := h0.1 c.1
      have := h0'.1 c.2
      rw [if_neg (by omega), if_pos (by omega), if_neg (by omega), if_pos (by omega)]
    · have : ¬ (A = 0 ∧ B = 0) := fun h => c ⟨h0.2 h.1, h0'.2 h.2⟩
      rw [if_pos (by omega), if_pos (by omega)]
  · by_cases c : a < b
    · rw [if_neg (by omega), if_neg (by omega), if_neg (by have := h1.1 c; omega), if_neg (by have := h1.1 c; omega)]
    · by_cases d : b < a
      · rw [if_pos (by omega), if_pos (by have := h2.1 d; omega)]
      · have e : ¬ A < B := fun h => c (h1.2 h)
        have f : ¬ B < A := fun h => d (h2.2 h)
        rw [if_neg (by omega), if_pos (by omega), if_neg (by omega), if_pos (by omega)]

theorem sw_is : Ieee.double.signWeight = 9223372036854775808 := by decide
theorem bn_is : Ieee.double.binade = 4503599627370496 := by decide
theorem ir_is : Ieee.double.infRung = 9218868437227405312 := by decide
theorem lp_is : Ieee.double.leastPlace = -1074 := by decide

theorem read_is (x : Nat) : Ieee.double.read x = if rg x < 4503599627370496 then .number (sg x) (rg x) (-1074) else if rg x < 9218868437227405312 then .number (sg x) (4503599627370496 + rg x % 4503599627370496) (-1074 + ((rg x / 4503599627370496 - 1 : Nat) : Int)) else if rg x = 9218868437227405312 then .infinity (sg x) else .nan (sg x) (rg x - 9218868437227405312) := by
  unfold Ieee.Format.read
  simp only [sw_is, bn_is, ir_is, lp_is]
  rfl

/-- What a number that is finite reads as: its size at its place. -/
theorem read_fin {x : Nat} (h : rg x < 9218868437227405312) : ∃ (m e : Nat), Ieee.double.read x = .number (sg x) m (-1074 + (e : Int)) ∧ m * 2 ^ e = mg (rg x) := by
  rw [read_is]
  by_cases c : rg x < 4503599627370496
  · exact ⟨rg x, 0, by rw [if_pos c]; rfl, by unfold mg; rw [if_pos c]; simp⟩
  · exact ⟨_, _, by rw [if_neg c, if_pos h], by unfold mg; rw [if_neg c]⟩

theorem signed_is (s : Bool) (m k : Nat) : Ieee.signed s m k = if s = true then -((m * 2 ^ k : Nat) : Int) else ((m * 2 ^ k : Nat) : Int) := by
  unfold Ieee.signed
  rw [Nat.shiftLeft_eq]

theorem ord_none_left {x y : Nat} (h : isN x) : FloatKind.f64.format.order x y = none := by
  unfold isN at h
  show (Ieee.double.read x).order (Ieee.double.read y) = none
  rw [read_is x, if_neg (by omega), if_neg (by omega), if_neg (by omega)]
  rfl
theorem ord_none_right {x y : Nat} (h : isN y) : FloatKind.f64.format.order x y = none := by
  unfold isN at h
  show (Ieee.double.read x).order (Ieee.double.read y) = none
  rw [read_is y, if_neg (by omega), if_neg (by omega), if_neg (by omega)]
  cases Ieee.double.read x <;> rfl

theorem ord_num {x y : Nat} (hx : ¬ isN x) (hy : ¬ isN y) : FloatKind.f64.format.order x y = some (compare (sv x) (sv y)) := by
  unfold isN at hx hy
  show (Ieee.double.read x).order (Ieee.double.read y) = _
  by_cases fx : rg x < 9218868437227405312
  · obtain ⟨m, e, rx, vx⟩ := read_fin fx
    by_cases fy : rg y < 9218868437227405312
    · obtain ⟨n, f, ry, vy⟩ := read_fin fy
      rw [rx, ry]
      show some (compare (Ieee.signed (sg x) m (-1074 + (e : Int) - min (-1074 + (e : Int)) (-1074 + (f : Int))).toNat) (Ieee.signed (sg y) n (-1074 + (f : Int) - min (-1074 + (e : Int)) (-1074 + (f : Int))).toNat)) = _
      rw [signed_is, signed_is, show (-1074 + (e : Int) - min (-1074 + (e : Int)) (-1074 + (f : Int))).toNat = e - f from by omega, show (-1074 + (f : Int) - min (-1074 + (e : Int)) (-1074 + (f : Int))).toNat = f - e from by omega]
      unfold sv
      congr 1
      have key : ∀ p q : Nat, (p * 2 ^ (e - f) < q * 2 ^ (f - e)) ↔ p * 2 ^ e < q * 2 ^ f := by
        intro p q
        have hmin := Nat.two_pow_pos (min e f)
        have a1 : 2 ^ e = 2 ^ (e - f) * 2 ^ (min e f) := by rw [← Nat.pow_add]; congr 1; omega
        have a2 : 2 ^ f = 2 ^ (f - e) * 2 ^ (min e f) := by rw [← Nat.pow_add]; congr 1; omega
        rw [a1, a2, ← Nat.mul_assoc, ← Nat.mul_assoc]
        exact (Nat.mul_lt_mul_right hmin).symm
      have key' : ∀ p q : Nat, (q * 2 ^ (f - e) < p * 2 ^ (e - f)) ↔ q * 2 ^ f < p * 2 ^ e := by
        intro p q
        have hmin := Nat.two_pow_pos (min e f)
        have a1 : 2 ^ e = 2 ^ (e - f) * 2 ^ (min e f) := by rw [← Nat.pow_add]; congr 1; omega
        have a2 : 2 ^ f = 2 ^ (f - e) * 2 ^ (min e f) := by rw [← Nat.pow_add]; congr 1; omega
        rw [a1, a2, ← Nat.mul_assoc, ← Nat.mul_assoc]
        exact (Nat.mul_lt_mul_right hmin).symm
      have mono : ∀ r s, mg r < mg s ↔ r < s := by
        intro r s
        refine ⟨fun h => ?_, mg_mono⟩
        rcases Nat.lt_trichotomy r s with c | c | c
        · exact c
        · subst c; omega
        · have := mg_mono c; omega
      have zero : ∀ (p k : Nat), p * 2 ^ k = 0 ↔ p = 0 := by
        intro p k
        have := Nat.two_pow_pos k
        rw [Nat.mul_eq_zero]; omega
      refine cmp_signed _ _ _ _ _ _ ?_ ?_ ?_ ?_
      · rw [key, vx, vy, mono]
      · rw [key', vx, vy, mono]
      · rw [zero, ← zero m e, vx, mg_zero]
      · rw [zero, ← zero n f, vy, mg_zero]
    · have ey : rg y = 9218868437227405312 := by omega
      have ry : Ieee.double.read y = .infinity (sg y) := by rw [read_is, if_neg (by omega), if_neg (by omega), if_pos ey]
      rw [rx, ry]
      unfold sv
      rw [ey, cmp_int]
      show some (if sg y = true then Ordering.gt else Ordering.lt) = _
      cases sg x <;> cases sg y <;> simp only [Bool.false_eq_true, if_false, if_true] <;> refine congrArg some ?_
      · rw [if_pos (by omega)]
      · rw [if_neg (by omega), if_neg (by omega)]
      · rw [if_pos (by omega)]
      · rw [if_neg (by omega), if_neg (by omega)]
  · have ex : rg x = 9218868437227405312 := by omega
    have rx : Ieee.double.read x = .infinity (sg x) := by rw [read_is, if_neg (by omega), if_neg (by omega), if_pos ex]
    rw [rx]
    by_cases fy : rg y < 9218868437227405312
    · obtain ⟨n, f, ry, vy⟩ := read_fin fy
      rw [ry]
      unfold sv
      rw [ex, cmp_int]
      show some (if sg x = true then Ordering.lt else Ordering.gt) = _
      cases sg x <;> cases sg y <;> simp only [Bool.false_eq_true, if_false, if_true] <;> refine congrArg some ?_
      · rw [if_neg (by omega), if_neg (by omega)]
      · rw [if_neg (by omega), if_neg (by omega)]
      · rw [if_pos (by omega)]
      · rw [if_pos (by omega)]
    · have ey : rg y = 9218868437227405312 := by omega
      have ry : Ieee.double.read y = .infinity (sg y) := by rw [read_is, if_neg (by omega), if_neg (by omega), if_pos ey]
      rw [ry]
      unfold sv
      rw [ex, ey, cmp_int]
      cases sg x <;> cases sg y <;> rfl

/-- The tests, one by one. -/
theorem lt_is (x y : Nat) : (FloatKind.f64.format.order x y == some Ordering.lt) = decide (¬ isN x ∧ ¬ isN y ∧ sv x < sv y) := by
  by_cases hx : isN x
  · rw [ord_none_left hx]; simp [hx]
  · by_cases hy : isN y
    · rw [ord_none_right hy]; simp [hy]
    · rw [ord_num hx hy, cmp_int]
      by_cases c : sv x < sv y
      · simp [hx, hy, c]
      · by_cases d : sv x = sv y <;> simp [hx, hy, c, d]
theorem gt_is (x y : Nat) : (FloatKind.f64.format.order x y == some Ordering.gt) = decide (¬ isN x ∧ ¬ isN y ∧ sv y < sv x) := by
  by_cases hx : isN x
  · rw [ord_none_left hx]; simp [hx]
  · by_cases hy : isN y
    · rw [ord_none_right hy]; simp [hy]
    · rw [ord_num hx hy, cmp_int]
      by_cases c : sv x < sv y
      · have : ¬ sv y < sv x := by omega
        simp [hx, hy, c, this]
      · by_cases d : sv x = sv y
        · simp [hx, hy, d]
        · have : sv y < sv x := by omega
          simp [hx, hy, c, d, this]
theorem eq_is (x y : Nat) : (FloatKind.f64.format.order x y == some Ordering.eq) = decide (¬ isN x ∧ ¬ isN y ∧ sv x = sv y) := by
  by_cases hx : isN x
  · rw [ord_none_left hx]; simp [hx]
  · by_cases hy : isN y
    · rw [ord_none_right hy]; simp [hy]
    · rw [ord_num hx hy, cmp_int]
      by_cases c : sv x < sv y
      · have : ¬ sv x = sv y := by omega
        simp [hx, hy, c, this]
      · by_cases d : sv x = sv y <;> simp [hx, hy, c, d]
theorem self_is (x : Nat) : (FloatKind.f64.format.order x x != some Ordering.eq) = decide (isN x) := by
  show (!(FloatKind.f64.format.order x x == some Ordering.eq)) = _
  rw [eq_is]
  by_cases h : isN x <;> simp [h]

end Go.Proofs.Ytdehjgpdcdjhjaa.K
