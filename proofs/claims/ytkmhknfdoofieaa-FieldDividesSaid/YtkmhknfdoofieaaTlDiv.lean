/-
  Plain facts for long division: the length of a number in bits, one half step of Knuth's division, a division bit by bit. No program in sight.
-/
import Derived.Test.YtkmhknfdoofieaaTlField
namespace Go.Proofs.Ytkmhknfdoofieaa.Tl
open Go.RowKit Go.Proofs.YtkmhknfdoofieaaW.PrintWords Go.Proofs.YtkmhknfdoofieaaW.PrintLast Go.Proofs.YtkmhknfdoofieaaW.PrintMore
set_option linter.unusedVariables false

/-- n is the length of a in bits. -/
def isLen (a n : Nat) : Prop := 1 ≤ n ∧ 2 ^ (n - 1) ≤ a ∧ a < 2 ^ n
theorem isLen_shift {a c n : Nat} (h : isLen (a / 2 ^ c) n) : isLen a (n + c) := by
  obtain ⟨h1, h2, h3⟩ := h
  have hp := Nat.two_pow_pos c
  refine ⟨by omega, ?_, ?_⟩
  · rw [show n + c - 1 = (n - 1) + c from by omega, Nat.pow_add]
    exact (Nat.le_div_iff_mul_le hp).1 h2
  · rw [Nat.pow_add]
    exact (Nat.div_lt_iff_lt_mul hp).1 h3
def lenTab : ByteArray := ⟨#[0, 1, 2, 2, 3, 3, 3, 3, 4, 4, 4, 4, 4, 4, 4, 4, 5, 5, 5, 5, 5, 5, 5, 5, 5, 5, 5, 5, 5, 5, 5, 5, 6, 6, 6, 6, 6, 6, 6, 6, 6, 6, 6, 6, 6, 6, 6, 6, 6, 6, 6, 6, 6, 6, 6, 6, 6, 6, 6, 6, 6, 6, 6, 6, 7, 7, 7, 7, 7, 7, 7, 7, 7, 7, 7, 7, 7, 7, 7, 7, 7, 7, 7, 7, 7, 7, 7, 7, 7, 7, 7, 7, 7, 7, 7, 7, 7, 7, 7, 7, 7, 7, 7, 7, 7, 7, 7, 7, 7, 7, 7, 7, 7, 7, 7, 7, 7, 7, 7, 7, 7, 7, 7, 7, 7, 7, 7, 7, 8, 8, 8, 8, 8, 8, 8, 8, 8, 8, 8, 8, 8, 8, 8, 8, 8, 8, 8, 8, 8, 8, 8, 8, 8, 8, 8, 8, 8, 8, 8, 8, 8, 8, 8, 8, 8, 8, 8, 8, 8, 8, 8, 8, 8, 8, 8, 8, 8, 8, 8, 8, 8, 8, 8, 8, 8, 8, 8, 8, 8, 8, 8, 8, 8, 8, 8, 8, 8, 8, 8, 8, 8, 8, 8, 8, 8, 8, 8, 8, 8, 8, 8, 8, 8, 8, 8, 8, 8, 8, 8, 8, 8, 8, 8, 8, 8, 8, 8, 8, 8, 8, 8, 8, 8, 8, 8, 8, 8, 8, 8, 8, 8, 8, 8, 8, 8, 8, 8, 8, 8, 8, 8, 8, 8, 8, 8, 8]⟩
theorem tab_all : ((List.range 256).all fun i => i == 0 || (decide (1 ≤ (bt lenTab (i : Int)).toNat) && decide (2 ^ ((bt lenTab (i : Int)).toNat - 1) ≤ i) && decide (i < 2 ^ (bt lenTab (i : Int)).toNat) && decide (0 ≤ bt lenTab (i : Int)) && decide (bt lenTab (i : Int) ≤ 8))) = true := by decide +kernel
theorem tab_len {i : Nat} (h0 : 0 < i) (h : i < 256) : ∃ t : Nat, bt lenTab (i : Int) = (t : Int) ∧ t ≤ 8 ∧ isLen i t := by
  have h1 := List.all_eq_true.1 tab_all i (List.mem_range.2 h)
  have hb : (i == 0) = false := by simp; omega
  rw [hb, Bool.false_or] at h1
  simp only [Bool.and_eq_true, decide_eq_true_eq] at h1
  obtain ⟨⟨⟨⟨a, b⟩, c⟩, d⟩, e⟩ := h1
  obtain ⟨t, ht⟩ := Int.eq_ofNat_of_zero_le d
  rw [ht] at a b c e
  simp only [Int.toNat_natCast] at a b c
  exact ⟨t, ht, by omega, a, b, c⟩

/-- One half step: the guess q1 goes down to the digit. What holds of a guess; when it is the digit; when it isn't. -/
def Guess (y1 y0 u n1 q1 rh : Nat) : Prop := q1 * y1 + rh = u ∧ (u * 4294967296 + n1) / (y1 * 4294967296 + y0) ≤ q1 ∧ q1 ≤ 4294967297
section
variable {y1 y0 u n1 q1 rh : Nat}
theorem digit_lt (hu : u < y1 * 4294967296 + y0) (hn : n1 < 4294967296) : (u * 4294967296 + n1) / (y1 * 4294967296 + y0) < 4294967296 := by
  rw [Nat.div_lt_iff_lt_mul (by omega)]
  omega
theorem guess_first (hy : 2147483648 ≤ y1) (hy0 : y0 < 4294967296) (hu : u < y1 * 4294967296 + y0) (hn : n1 < 4294967296) : Guess y1 y0 u n1 (u / y1) (u % y1) := by
  refine ⟨by rw [Nat.mul_comm]; exact Nat.div_add_mod u y1, ?_, ?_⟩
  · -- the divisor without its low half is smaller
    rw [Nat.le_div_iff_mul_le (by omega)]
    have h1 : (u * 4294967296 + n1) / (y1 * 4294967296 + y0) * (y1 * 4294967296 + y0) ≤ u * 4294967296 + n1 := Nat.div_mul_le_self _ _
    generalize (u * 4294967296 + n1) / (y1 * 4294967296 + y0) = q at h1 ⊢
    rw [Nat.mul_add, ← Nat.mul_assoc] at h1
    generalize q * y1 = p at h1 ⊢
    generalize q * y0 = r at h1
    omega
  · have h2 : u / y1 < 4294967298 := by
      rw [Nat.div_lt_iff_lt_mul (by omega)]
      omega
    omega
/-- The test says no: it is the digit. -/
theorem guess_done (hy : 0 < y1) (h : Guess y1 y0 u n1 q1 rh) (hno : q1 * y0 ≤ rh * 4294967296 + n1) : q1 = (u * 4294967296 + n1) / (y1 * 4294967296 + y0) := by
  obtain ⟨h1, h2, _⟩ := h
  refine Nat.le_antisymm ?_ h2
  rw [Nat.le_div_iff_mul_le (by omega), Nat.mul_add, ← Nat.mul_assoc]
  generalize q1 * y1 = p at h1 ⊢
  generalize q1 * y0 = r at hno ⊢
  omega
/-- The test says yes: one less is still no less than the digit. -/
theorem guess_down (hy : 2147483648 ≤ y1) (hu : u < y1 * 4294967296 + y0) (hn : n1 < 4294967296) (h : Guess y1 y0 u n1 q1 rh) (hyes : 4294967296 ≤ q1 ∨ rh * 4294967296 + n1 < q1 * y0) : 0 < q1 ∧ Guess y1 y0 u n1 (q1 - 1) (rh + y1) := by
  have hq := digit_lt hu hn
  obtain ⟨h1, h2, h3⟩ := h
  have hpos : 0 < q1 := by
    rcases hyes with h | h
    · omega
    · rcases Nat.eq_zero_or_pos q1 with z | z
      · subst z; simp at h
      · exact z
  obtain ⟨p, rfl⟩ : ∃ p, q1 = p + 1 := ⟨q1 - 1, by omega⟩
  refine ⟨by omega, by rw [Nat.add_sub_cancel, ← h1, Nat.add_mul]; omega, ?_, by omega⟩
  rcases hyes with h | h
  · omega
  · have hne : (u * 4294967296 + n1) / (y1 * 4294967296 + y0) ≠ p + 1 := by
      intro e
      have h4 : (u * 4294967296 + n1) / (y1 * 4294967296 + y0) * (y1 * 4294967296 + y0) ≤ u * 4294967296 + n1 := Nat.div_mul_le_self _ _
      rw [e, Nat.mul_add, ← Nat.mul_assoc] at h4
      generalize (p + 1) * y1 = a at h1 h4
      generalize (p + 1) * y0 = b at h h4
      omega
    omega
/-- The rest has more than its half: it is the digit. -/
theorem guess_rest (hy : 2147483648 ≤ y1) (hy0 : y0 < 4294967296) (h : Guess y1 y0 u n1 q1 rh) (hq : q1 ≤ 4294967296) (hr : 4294967296 ≤ rh) : q1 = (u * 4294967296 + n1) / (y1 * 4294967296 + y0) := by
  refine guess_done (by omega) h ?_
  have : q1 * y0 ≤ 4294967296 * 4294967295 := Nat.mul_le_mul hq (by omega)
  omega
end
/-- Two digits are the quotient. -/
theorem two_digits (V n0 Y : Nat) (hY : 0 < Y) : (V * 4294967296 + n0) / Y = V / Y * 4294967296 + (V % Y * 4294967296 + n0) / Y := by
  have e : V * 4294967296 + n0 = (V % Y * 4294967296 + n0) + Y * (V / Y * 4294967296) := by
    have := Nat.div_add_mod V Y
    rw [← Nat.mul_assoc]
    generalize Y * (V / Y) = a at this ⊢
    omega
  rw [e, Nat.add_mul_div_left _ _ hY, Nat.add_comm]

/-- A division bit by bit: one step. -/
theorem bit_step {N q r c k : Nat} (h : N / 2 ^ (k + 1) = q * c + r) (hr : r < c) : (2 * r + N / 2 ^ k % 2 ≥ c → N / 2 ^ k = (2 * q + 1) * c + (2 * r + N / 2 ^ k % 2 - c) ∧ 2 * r + N / 2 ^ k % 2 - c < c) ∧ (2 * r + N / 2 ^ k % 2 < c → N / 2 ^ k = 2 * q * c + (2 * r + N / 2 ^ k % 2)) := by
  have e : N / 2 ^ k / 2 = q * c + r := by rw [Nat.div_div_eq_div_mul, ← Nat.pow_succ]; exact h
  generalize N / 2 ^ k = M at e ⊢
  constructor
  · intro hge
    rw [Nat.add_mul, Nat.mul_assoc, Nat.one_mul]
    generalize q * c = p at e ⊢
    omega
  · intro hlt
    rw [Nat.mul_assoc]
    generalize q * c = p at e ⊢
    omega

end Go.Proofs.Ytkmhknfdoofieaa.Tl
