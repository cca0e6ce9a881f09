/- A framework of our own for walks over the model: Fb. -/
import Derived.Test.YtclknendeeljaaaDoorFa
import Derived.Test.YtclknendeeljaaaDoorKg
namespace Go.Proofs.YtclknendeeljaaaDoor.K
open Go Go.RowKit
set_option linter.unusedVariables false
set_option linter.unusedSimpArgs false
/-! ### Long division: the length of a number in bits, one half step of Knuth's division, a division bit by bit -/
/-- n is the length of a in bits. -/
def isLen (a n : Nat) : Prop := 1 ≤ n ∧ 2 ^ (n - 1) ≤ a ∧ a < 2 ^ n
def lenN (a : Nat) : Nat := if a = 0 then 0 else Nat.log2 a + 1
theorem isLen_shift {a c n : Nat} (h : isLen (a / 2 ^ c) n) : isLen a (n + c) := by
  obtain ⟨h1, h2, h3⟩ := h
  have hp := Nat.two_pow_pos c
  refine ⟨by omega, ?_, ?_⟩
  · rw [show n + c - 1 = (n - 1) + c from by omega, Nat.pow_add]
    exact (Nat.le_div_iff_mul_le hp).1 h2
  · rw [Nat.pow_add]
    exact (Nat.div_lt_iff_lt_mul hp).1 h3
theorem isLen_pos {a n : Nat} (h : isLen a n) : 0 < a := Nat.lt_of_lt_of_le (Nat.two_pow_pos _) h.2.1
theorem isLen_lenN {a : Nat} (h : 0 < a) : isLen a (lenN a) := by
  unfold lenN
  rw [if_neg (by omega)]
  exact ⟨by omega, by simpa using Nat.log2_self_le (by omega), Nat.lt_log2_self⟩
theorem isLen_le {a b n m : Nat} (h : isLen a n) (h2 : isLen b m) (hab : a ≤ b) : n ≤ m := by
  rcases Nat.lt_or_ge m n with hlt | hge
  · have := Nat.pow_le_pow_right (show 0 < 2 by decide) (show m ≤ n - 1 by omega)
    have := h.2.1; have := h2.2.2; omega
  · exact hge
theorem isLen_eq {a n : Nat} (h : isLen a n) : n = lenN a :=
  Nat.le_antisymm (isLen_le h (isLen_lenN (isLen_pos h)) (Nat.le_refl _)) (isLen_le (isLen_lenN (isLen_pos h)) h (Nat.le_refl _))
def lenTab : ByteArray := ⟨#[0, 1, 2, 2, 3, 3, 3, 3, 4, 4, 4, 4, 4, 4, 4, 4, 5, 5, 5, 5, 5, 5, 5, 5, 5, 5, 5, 5, 5, 5, 5, 5, 6, 6, 6, 6, 6, 6, 6, 6, 6, 6, 6, 6, 6, 6, 6, 6, 6, 6, 6, 6, 6, 6, 6, 6, 6, 6, 6, 6, 6, 6, 6, 6, 7, 7, 7, 7, 7, 7, 7, 7, 7, 7, 7, 7, 7, 7, 7, 7, 7, 7, 7, 7, 7, 7, 7, 7, 7, 7, 7, 7, 7, 7, 7, 7, 7, 7, 7, 7, 7, 7, 7, 7, 7, 7, 7, 7, 7, 7, 7, 7, 7, 7, 7, 7, 7, 7, 7, 7, 7, 7, 7, 7, 7, 7, 7, 7, 8, 8, 8, 8, 8, 8, 8, 8, 8, 8, 8, 8, 8, 8, 8, 8, 8, 8, 8, 8, 8, 8, 8, 8, 8, 8, 8, 8, 8, 8, 8, 8, 8, 8, 8, 8, 8, 8, 8, 8, 8, 8, 8, 8, 8, 8, 8, 8, 8, 8, 8, 8, 8, 8, 8, 8, 8, 8, 8, 8, 8, 8, 8, 8, 8, 8, 8, 8, 8, 8, 8, 8, 8, 8, 8, 8, 8, 8, 8, 8, 8, 8, 8, 8, 8, 8, 8, 8, 8, 8, 8, 8, 8, 8, 8, 8, 8, 8, 8, 8, 8, 8, 8, 8, 8, 8, 8, 8, 8, 8, 8, 8, 8, 8, 8, 8, 8, 8, 8, 8, 8, 8, 8, 8, 8, 8, 8, 8]⟩
theorem tab_all : ((List.range 256).all fun i => bt lenTab i == lenN i) = true := by decide +kernel
theorem tab_len {i : Nat} (h : i < 256) : bt lenTab i = lenN i := by
  have h1 := List.all_eq_true.1 tab_all i (List.mem_range.2 h)
  simpa using h1
theorem lenN_shift {a c : Nat} (h : 0 < a / 2 ^ c) : lenN a = lenN (a / 2 ^ c) + c := (isLen_eq (isLen_shift (isLen_lenN h))).symm
theorem lenN_le {a n : Nat} (h : a < 2 ^ n) : lenN a ≤ n := by
  rcases Nat.eq_zero_or_pos a with h0 | h0
  · subst h0; simp [lenN]
  · have := isLen_lenN h0
    rcases Nat.lt_or_ge n (lenN a) with hlt | hge
    · have h2 := Nat.pow_le_pow_right (show 0 < 2 by decide) (show n ≤ lenN a - 1 by omega)
      have := this.2.1; omega
    · exact hge
/-- One half step: the guess q1 goes down to the digit. What holds of a guess; when it is the digit; when it isn't. -/
def Guess (y1 y0 u n1 q1 rh : Nat) : Prop := q1 * y1 + rh = u ∧ (u * 4294967296 + n1) / (y1 * 4294967296 + y0) ≤ q1 ∧ q1 ≤ 4294967297
section
variable {y1 y0 u n1 q1 rh : Nat}
theorem digit_lt (hu : u < y1 * 4294967296 + y0) (hn : n1 < 4294967296) : (u * 4294967296 + n1) / (y1 * 4294967296 + y0) < 4294967296 := by
  rw [Nat.div_lt_iff_lt_mul (by omega)]
  omega
theorem guess_first (hy : 2147483648 ≤ y1) (hy0 : y0 < 4294967296) (hu : u < y1 * 4294967296 + y0) (hn : n1 < 4294967296) : Guess y1 y0 u n1 (u / y1) (u % y1) := by
  refine ⟨by rw [Nat.mul_comm]; exact Nat.div_add_mod u y1, ?_, ?_⟩
  · rw [Nat.le_div_iff_mul_le (by omega)]
    have h1 : (u * 4294967296 + n1) / (y1 * 4294967296 + y0) * (y1 * 4294967296 + y0) ≤ u * 4294967296 + n1 := Nat.div_mul_le_self _ _
    generalize (u * 4294967296 + n1) / (y1 * 4294967296 + y0) = q at h1 ⊢
    rw [Nat.mul_add, ← Nat.mul_assoc] at h1
    generalize q * y1 = p at h1 ⊢
    generalize q * y0 = r at h1
    omega
  · have h2 : u / y1 < 4294967298 := by
      rw [Nat.div_lt_iff_lt_mul (by omega)]
      omega
    omega
/-- The test says no: it is the digit. -/
theorem guess_done (hy : 0 < y1) (h : Guess y1 y0 u n1 q1 rh) (hno : q1 * y0 ≤ rh * 4294967296 + n1) : q1 = (u * 4294967296 + n1) / (y1 * 4294967296 + y0) := by
  obtain ⟨h1, h2, _⟩ := h
  refine Nat.le_antisymm ?_ h2
  rw [Nat.le_div_iff_mul_le (by omega), Nat.mul_add, ← Nat.mul_assoc]
  generalize q1 * y1 = p at h1 ⊢
  generalize q1 * y0 = r at hno ⊢
  omega
/-- The test says yes: one less is still no less than the digit. -/
theorem guess_down (hy : 2147483648 ≤ y1) (hu : u < y1 * 4294967296 + y0) (hn : n1 < 4294967296) (h : Guess y1 y0 u n1 q1 rh) (hyes : 4294967296 ≤ q1 ∨ rh * 4294967296 + n1 < q1 * y0) : 0 < q1 ∧ Guess y1 y0 u n1 (q1 - 1) (rh + y1) := by
  have hq := digit_lt hu hn
  obtain ⟨h1, h2, h3⟩ := h
  have hpos : 0 < q1 := by
    rcases hyes with h | h
    · omega
    · rcases Nat.eq_zero_or_pos q1 with z | z
      · subst z; simp at h
      · exact z
  obtain ⟨p, rfl⟩ : ∃ p, q1 = p + 1 := ⟨q1 - 1, by omega⟩
  refine ⟨by omega, by rw [Nat.add_sub_cancel, ← h1, Nat.add_mul]; omega, ?_, by omega⟩
  rcases hyes with h | h
  · omega
  · have hne : (u * 4294967296 + n1) / (y1 * 4294967296 + y0) ≠ p + 1 := by
      intro e
      have h4 : (u * 4294967296 + n1) / (y1 * 4294967296 + y0) * (y1 * 4294967296 + y0) ≤ u * 4294967296 + n1 := Nat.div_mul_le_self _ _
      rw [e, Nat.mul_add, ← Nat.mul_assoc] at h4
      generalize (p + 1) * y1 = a at h1 h4
      generalize (p + 1) * y0 = b at h h4
      omega
    omega
/-- The rest has more than its half: it is the digit. -/
theorem guess_rest (hy : 2147483648 ≤ y1) (hy0 : y0 < 4294967296) (h : Guess y1 y0 u n1 q1 rh) (hq : q1 ≤ 4294967296) (hr : 4294967296 ≤ rh) : q1 = (u * 4294967296 + n1) / (y1 * 4294967296 + y0) := by
  refine guess_done (by omega) h ?_
  have : q1 * y0 ≤ 4294967296 * 4294967295 := Nat.mul_le_mul hq (by omega)
  omega
end
/-- Two digits are the quotient. -/
theorem two_digits (V n0 Y : Nat) (hY : 0 < Y) : (V * 4294967296 + n0) / Y = V / Y * 4294967296 + (V % Y * 4294967296 + n0) / Y := by
  have e : V * 4294967296 + n0 = (V % Y * 4294967296 + n0) + Y * (V / Y * 4294967296) := by
    have := Nat.div_add_mod V Y
    rw [← Nat.mul_assoc]
    generalize Y * (V / Y) = a at this ⊢
    omega
  rw [e, Nat.add_mul_div_left _ _ hY, Nat.add_comm]
theorem two_digits_mod (V n0 Y : Nat) (hY : 0 < Y) : (V * 4294967296 + n0) % Y = (V % Y * 4294967296 + n0) % Y := by
  have e : V * 4294967296 + n0 = (V % Y * 4294967296 + n0) + Y * (V / Y * 4294967296) := by
    have := Nat.div_add_mod V Y
    rw [← Nat.mul_assoc]
    generalize Y * (V / Y) = a at this ⊢
    omega
  rw [e, Nat.add_mul_mod_self_left]
/-- The whole number of two halves, moved up: three parts. -/
theorem whole3 {hi lo c s : Nat} : (hi * 18446744073709551616 + lo) / c = (((hi * 2 ^ s + lo * 2 ^ s / 18446744073709551616) * 4294967296 + lo * 2 ^ s % 18446744073709551616 / 4294967296) * 4294967296 + lo * 2 ^ s % 18446744073709551616 % 4294967296) / (c * 2 ^ s) := by
  have hps := Nat.two_pow_pos s
  rw [← Nat.mul_div_mul_right _ _ hps, Nat.add_mul, Nat.mul_assoc, Nat.mul_comm 18446744073709551616, ← Nat.mul_assoc]
  refine congrArg (fun z => z / (c * 2 ^ s)) ?_
  generalize lo * 2 ^ s = a
  generalize hi * 2 ^ s = b
  omega
theorem whole3_mod {hi lo c s : Nat} : (hi * 18446744073709551616 + lo) % c = (((hi * 2 ^ s + lo * 2 ^ s / 18446744073709551616) * 4294967296 + lo * 2 ^ s % 18446744073709551616 / 4294967296) * 4294967296 + lo * 2 ^ s % 18446744073709551616 % 4294967296) % (c * 2 ^ s) / 2 ^ s := by
  have hps := Nat.two_pow_pos s
  have : (((hi * 2 ^ s + lo * 2 ^ s / 18446744073709551616) * 4294967296 + lo * 2 ^ s % 18446744073709551616 / 4294967296) * 4294967296 + lo * 2 ^ s % 18446744073709551616 % 4294967296) = (hi * 18446744073709551616 + lo) * 2 ^ s := by
    rw [Nat.add_mul (hi * 18446744073709551616), Nat.mul_assoc hi, Nat.mul_comm 18446744073709551616, ← Nat.mul_assoc hi]
    generalize lo * 2 ^ s = a
    generalize hi * 2 ^ s = b
    omega
  rw [this, Nat.mul_mod_mul_right, Nat.mul_div_cancel _ hps]
theorem up_lt {hi lo c s : Nat} (hlt : hi < c) (hlo : lo < 18446744073709551616) : hi * 2 ^ s + lo * 2 ^ s / 18446744073709551616 < c * 2 ^ s := by
  have hps := Nat.two_pow_pos s
  have h3 : (hi + 1) * 2 ^ s ≤ c * 2 ^ s := Nat.mul_le_mul_right _ hlt
  have hls : lo * 2 ^ s / 18446744073709551616 < 2 ^ s := by
    rw [Nat.div_lt_iff_lt_mul (by decide), Nat.mul_comm (2 ^ s)]
    exact Nat.mul_lt_mul_of_pos_right hlo hps
  rw [Nat.add_mul, Nat.one_mul] at h3
  omega
/-! ### Operations on numbers without a sign, as natural numbers -/
theorem wN {n : Nat} (h : n < 18446744073709551616) : IntKind.u64.wrap (n : Int) = (n : Int) := w_u64 (by omega) (by omega)
theorem wMod (n : Nat) : IntKind.u64.wrap (n : Int) = ((n % 18446744073709551616 : Nat) : Int) := by rw [wu64_mod]; omega
theorem quoN {a b : Nat} (ha : a < 18446744073709551616) : IntKind.u64.wrap ((a : Int).tdiv (b : Int)) = ((a / b : Nat) : Int) := by
  rw [Int.tdiv_eq_ediv_of_nonneg (by omega), ← Int.natCast_ediv]
  exact wN (Nat.lt_of_le_of_lt (Nat.div_le_self _ _) ha)
theorem remN (a b : Nat) : (a : Int).tmod (b : Int) = ((a % b : Nat) : Int) := by
  rw [Int.tmod_eq_emod_of_nonneg (by omega), ← Int.natCast_emod]
theorem mulN {a b : Nat} (h : a * b < 18446744073709551616) : IntKind.u64.wrap ((a : Int) * (b : Int)) = ((a * b : Nat) : Int) := by
  rw [← Int.natCast_mul]; exact wN h
theorem mulW (a b : Nat) : IntKind.u64.wrap ((a : Int) * (b : Int)) = ((a * b % 18446744073709551616 : Nat) : Int) := by
  rw [← Int.natCast_mul]; exact wMod _
theorem addN {a b : Nat} (h : a + b < 18446744073709551616) : IntKind.u64.wrap ((a : Int) + (b : Int)) = ((a + b : Nat) : Int) := by
  rw [← Int.natCast_add]; exact wN h
theorem addW (a b : Nat) : IntKind.u64.wrap ((a : Int) + (b : Int)) = (((a + b) % 18446744073709551616 : Nat) : Int) := by
  rw [← Int.natCast_add]; exact wMod _
theorem subN {a b : Nat} (h : b ≤ a) (ha : a < 18446744073709551616) : IntKind.u64.wrap ((a : Int) - (b : Int)) = ((a - b : Nat) : Int) := by
  rw [← Int.natCast_sub h]; exact wN (by omega)
theorem shlW {a s : Nat} (hs : s ≤ 64) : IntKind.u64.wrap ((a : Int) * 2 ^ (min (s : Int).toNat IntKind.u64.bits)) = ((a * 2 ^ s % 18446744073709551616 : Nat) : Int) := by
  rw [Int.toNat_natCast, Nat.min_eq_left (by simpa [IntKind.bits] using hs), show (a : Int) * 2 ^ s = ((a * 2 ^ s : Nat) : Int) by simp]
  exact wMod _
theorem shrN {a s : Nat} (hs : s ≤ 64) : (a : Int).fdiv (2 ^ (min (s : Int).toNat IntKind.u64.bits)) = ((a / 2 ^ s : Nat) : Int) := by
  rw [Int.toNat_natCast, Nat.min_eq_left (by simpa [IntKind.bits] using hs), Int.fdiv_eq_ediv_of_nonneg _ (by exact_mod_cast Nat.zero_le _)]
  simp
theorem shrUp {lo s : Nat} (hs : s ≤ 63) : (lo : Int).fdiv (2 ^ (min (64 - (s : Int)).toNat IntKind.u64.bits)) = ((lo * 2 ^ s / 18446744073709551616 : Nat) : Int) := by
  have hps := Nat.two_pow_pos s
  have := shrN (a := lo) (s := 64 - s) (by omega)
  rw [show ((64 - s : Nat) : Int) = 64 - (s : Int) by omega] at this
  rw [this]
  congr 1
  rw [show (18446744073709551616 : Nat) = 2 ^ (64 - s) * 2 ^ s from by rw [← Nat.pow_add, show 64 - s + s = 64 from by omega]]
  exact (Nat.mul_div_mul_right _ _ hps).symm
theorem un21 {U n1 Y q : Nat} (hq : q = (U * 4294967296 + n1) / Y) (h0 : 0 < Y) (hY : Y < 18446744073709551616) : IntKind.u64.wrap ((((U * 4294967296 % 18446744073709551616 + n1) % 18446744073709551616 : Nat) : Int) - ((q * Y % 18446744073709551616 : Nat) : Int)) = (((U * 4294967296 + n1) % Y : Nat) : Int) := by
  have hr := Nat.mod_lt (U * 4294967296 + n1) h0
  have hqr := Nat.div_add_mod (U * 4294967296 + n1) Y
  rw [← hq, Nat.mul_comm] at hqr
  have key : ∀ p r : Nat, r < Y → p + r = U * 4294967296 + n1 → IntKind.u64.wrap ((((U * 4294967296 % 18446744073709551616 + n1) % 18446744073709551616 : Nat) : Int) - ((p % 18446744073709551616 : Nat) : Int)) = (r : Int) := by
    intro p r h1 h2
    rw [wu64_mod]
    omega
  exact key _ _ hr hqr
theorem norm64 {c : Nat} (h0 : 0 < c) (hc : c < 18446744073709551616) : 64 - lenN c ≤ 63 ∧ 9223372036854775808 ≤ c * 2 ^ (64 - lenN c) ∧ c * 2 ^ (64 - lenN c) < 18446744073709551616 := by
  obtain ⟨h1, h2, h3⟩ := isLen_lenN h0
  have hl := lenN_le (a := c) (n := 64) hc
  generalize lenN c = n at *
  refine ⟨by omega, ?_, ?_⟩
  · have := Nat.mul_le_mul_right (2 ^ (64 - n)) h2
    rw [← Nat.pow_add, show n - 1 + (64 - n) = 63 by omega] at this
    simpa using this
  · have := Nat.mul_lt_mul_of_pos_right h3 (Nat.two_pow_pos (64 - n))
    rw [← Nat.pow_add, show n + (64 - n) = 64 by omega] at this
    simpa using this
/-- A number moved up by its length, and what stands behind it: the parts of a long division. -/
theorem div_parts {hi lo c s : Nat} (hlt : hi < c) (hlo : lo < 18446744073709551616) (h1 : 9223372036854775808 ≤ c * 2 ^ s) (h2 : c * 2 ^ s < 18446744073709551616) (hs : s ≤ 63) :
    ∃ y1 y0 U n1 n0 a b : Nat, c * 2 ^ s = y1 * 4294967296 + y0 ∧ hi * 2 ^ s = a ∧ lo * 2 ^ s / 18446744073709551616 = b ∧ a + b = U ∧ lo * 2 ^ s % 18446744073709551616 = n1 * 4294967296 + n0 ∧ 2147483648 ≤ y1 ∧ y1 < 4294967296 ∧ y0 < 4294967296 ∧ U < y1 * 4294967296 + y0 ∧ n1 < 4294967296 ∧ n0 < 4294967296 ∧ b < 2 ^ s ∧
      (hi * 18446744073709551616 + lo) / c = ((U * 4294967296 + n1) * 4294967296 + n0) / (y1 * 4294967296 + y0) ∧ (hi * 18446744073709551616 + lo) % c = ((U * 4294967296 + n1) * 4294967296 + n0) % (y1 * 4294967296 + y0) / 2 ^ s := by
  have hu := up_lt (s := s) hlt hlo
  have hw := whole3 (hi := hi) (lo := lo) (c := c) (s := s)
  have hm := whole3_mod (hi := hi) (lo := lo) (c := c) (s := s)
  have hb : lo * 2 ^ s / 18446744073709551616 < 2 ^ s := by
    rw [Nat.div_lt_iff_lt_mul (by decide), Nat.mul_comm (2 ^ s)]
    exact Nat.mul_lt_mul_of_pos_right hlo (Nat.two_pow_pos s)
  generalize c * 2 ^ s = Y at h1 h2 hu hw hm ⊢
  have hY : Y = Y / 4294967296 * 4294967296 + Y % 4294967296 := by omega
  refine ⟨Y / 4294967296, Y % 4294967296, hi * 2 ^ s + lo * 2 ^ s / 18446744073709551616, lo * 2 ^ s % 18446744073709551616 / 4294967296, lo * 2 ^ s % 18446744073709551616 % 4294967296, _, _, hY, rfl, rfl, rfl, ?_, ?_, ?_, ?_, ?_, ?_, ?_, hb, ?_, ?_⟩
  · omega
  · omega
  · omega
  · omega
  · omega
  · omega
  · omega
  · rw [← hY]; exact hw
  · rw [← hY]; exact hm
theorem len_end {x : Nat} {m : Int} (hx : x < 256) (h0 : 0 ≤ m) (hm : m ≤ 56) : IntKind.i64.wrap (m + IntKind.i64.wrap ((bt lenTab ((x : Int)).toNat : Nat) : Int)) = m + (lenN x : Int) := by
  have := lenN_le (a := x) (n := 8) hx
  rw [Int.toNat_natCast, tab_len hx, w_i64 (x := (lenN x : Int)) (by omega) (by omega), w_i64 (by omega) (by omega)]
end Go.Proofs.YtclknendeeljaaaDoor.K
