/-
  Plain facts on the sum of bytes: each step can be undone, so a byte turned changes the sum. Numbers in four bytes. No program in sight.
-/
import Derived.Test.YtkmhknfdoofieaaTlCodec
namespace Go.Proofs.Ytkmhknfdoofieaa.Tl
open Go.RowKit Go.Proofs.YtkmhknfdoofieaaW.PrintWords Go.Proofs.YtkmhknfdoofieaaW.PrintLast Go.Proofs.YtkmhknfdoofieaaW.PrintMore
set_option linter.unusedVariables false

/-- One bit's step. -/
def crcStep (s : Nat) : Nat := s / 2 ^^^ (if s % 2 = 1 then 3988292384 else 0)
theorem step_lt {s : Nat} (h : s < 4294967296) : crcStep s < 4294967296 := by
  unfold crcStep
  refine Nat.xor_lt_two_pow (n := 32) (by omega) ?_
  split <;> decide
theorem step_inj {s t : Nat} (hs : s < 4294967296) (ht : t < 4294967296) (h : crcStep s = crcStep t) : s = t := by
  have top : ∀ x : Nat, x < 4294967296 → (crcStep x).testBit 31 = decide (x % 2 = 1) := by
    intro x hx
    unfold crcStep
    rw [Nat.testBit_xor, Nat.testBit_lt_two_pow (show x / 2 < 2 ^ 31 by omega), Bool.false_xor]
    by_cases c : x % 2 = 1
    · rw [if_pos c, decide_eq_true c]; decide
    · rw [if_neg c, decide_eq_false c]; decide
  have h1 := top s hs
  have h2 := top t ht
  rw [h, h2] at h1
  have h3 : (t % 2 = 1) ↔ (s % 2 = 1) := decide_eq_decide.1 h1
  have h4 : s / 2 = t / 2 := by
    unfold crcStep at h
    have e : (if s % 2 = 1 then (3988292384 : Nat) else 0) = if t % 2 = 1 then 3988292384 else 0 := by
      by_cases c : s % 2 = 1
      · rw [if_pos c, if_pos (h3.2 c)]
      · rw [if_neg c, if_neg (fun d => c (h3.1 d))]
    rw [e] at h
    generalize (if t % 2 = 1 then (3988292384 : Nat) else 0) = p at h
    have h5 := congrArg (· ^^^ p) h
    simp only [Nat.xor_assoc, Nat.xor_self, Nat.xor_zero] at h5
    exact h5
  omega
def steps : Nat → Nat → Nat
  | 0, s => s
  | n + 1, s => steps n (crcStep s)
theorem steps_lt : ∀ (n : Nat) {s : Nat}, s < 4294967296 → steps n s < 4294967296
  | 0, _, h => h
  | n + 1, _, h => steps_lt n (step_lt h)
theorem steps_inj : ∀ (n : Nat) {s t : Nat}, s < 4294967296 → t < 4294967296 → steps n s = steps n t → s = t
  | 0, _, _, _, _, h => h
  | n + 1, _, _, hs, ht, h => step_inj hs ht (steps_inj n (step_lt hs) (step_lt ht) h)
/-- What the sum is after some bytes. -/
def crc : Nat → List Int → Nat
  | s, [] => s
  | s, x :: t => crc (steps 8 (s ^^^ x.toNat)) t
theorem x32 {s : Nat} {x : Int} (hs : s < 4294967296) (hx : 0 ≤ x ∧ x < 256) : s ^^^ x.toNat < 4294967296 := Nat.xor_lt_two_pow (n := 32) hs (by omega)
theorem crc_lt : ∀ (l : List Int) {s : Nat}, (∀ x ∈ l, 0 ≤ x ∧ x < 256) → s < 4294967296 → crc s l < 4294967296
  | [], _, _, h => h
  | x :: t, _, hb, h => crc_lt t (fun y hy => hb y (List.mem_cons_of_mem _ hy)) (steps_lt 8 (x32 h (hb x (List.mem_cons_self ..))))
theorem xor_left {s a b : Nat} (h : s ^^^ a = s ^^^ b) : a = b := by
  have h5 := congrArg (s ^^^ ·) h
  simp only [← Nat.xor_assoc, Nat.xor_self, Nat.zero_xor] at h5
  exact h5
theorem xor_right {s a b : Nat} (h : a ^^^ s = b ^^^ s) : a = b := by
  rw [Nat.xor_comm a, Nat.xor_comm b] at h
  exact xor_left h
theorem crc_inj : ∀ (l : List Int) {s t : Nat}, (∀ x ∈ l, 0 ≤ x ∧ x < 256) → s < 4294967296 → t < 4294967296 → crc s l = crc t l → s = t
  | [], _, _, _, _, _, h => h
  | x :: l, _, _, hb, hs, ht, h => by
    have hx := hb x (List.mem_cons_self ..)
    have h1 := crc_inj l (fun y hy => hb y (List.mem_cons_of_mem _ hy)) (steps_lt 8 (x32 hs hx)) (steps_lt 8 (x32 ht hx)) h
    exact xor_right (steps_inj 8 (x32 hs hx) (x32 ht hx) h1)
theorem crc_append : ∀ (a b : List Int) (s : Nat), crc s (a ++ b) = crc (crc s a) b
  | [], _, _ => rfl
  | x :: a, b, s => by simp only [List.cons_append, crc]; exact crc_append a b _
def sumL (l : List Int) : Nat := 4294967295 ^^^ crc 4294967295 l
theorem sumL_lt {l : List Int} (hb : ∀ x ∈ l, 0 ≤ x ∧ x < 256) : sumL l < 4294967296 := Nat.xor_lt_two_pow (n := 32) (by decide) (crc_lt l hb (by decide))
/-- One byte turned: another sum. -/
theorem sumL_turned {a b : List Int} {x y : Int} (ha : ∀ z ∈ a, 0 ≤ z ∧ z < 256) (hb : ∀ z ∈ b, 0 ≤ z ∧ z < 256) (hx : 0 ≤ x ∧ x < 256) (hy : 0 ≤ y ∧ y < 256) (hne : y ≠ x) : sumL (a ++ x :: b) ≠ sumL (a ++ y :: b) := by
  intro h
  have h1 := xor_left h
  rw [crc_append, crc_append] at h1
  simp only [crc] at h1
  have ha' : crc 4294967295 a < 4294967296 := crc_lt a ha (by decide)
  have h2 := crc_inj b hb (steps_lt 8 (x32 ha' hx)) (steps_lt 8 (x32 ha' hy)) h1
  have h3 := xor_left (steps_inj 8 (x32 ha' hx) (x32 ha' hy) h2)
  omega
/-- One bit turned: another byte. -/
theorem turned {x : Int} {j : Nat} (hx : 0 ≤ x ∧ x < 256) (hj : j < 8) : ∃ y : Int, Go.bits .xor .u8 x (shl .u8 1 (j : Int)) = y ∧ (0 ≤ y ∧ y < 256) ∧ y ≠ x := by
  obtain ⟨n, rfl⟩ := Int.eq_ofNat_of_zero_le hx.1
  have hn : n < 256 := by omega
  have hp : (2 : Nat) ^ j ≤ 2 ^ 7 := Nat.pow_le_pow_right (by decide) (by omega)
  have e : shl .u8 1 (j : Int) = ((2 ^ j : Nat) : Int) := by
    unfold shl
    rw [Int.toNat_natCast, Nat.min_eq_left (by simp only [IntKind.bits]; omega), Int.one_mul, show (2 : Int) ^ j = ((2 ^ j : Nat) : Int) from by simp]
    generalize 2 ^ j = p at hp ⊢
    rw [u8_mod]; omega
  rw [e, xor_nat (k := .u8) rfl (by simp only [IntKind.bits, Nat.reducePow]; omega) (by simp only [IntKind.bits]; omega)]
  have hlt : n ^^^ 2 ^ j < 2 ^ 8 := Nat.xor_lt_two_pow (by omega) (by omega)
  refine ⟨_, rfl, by omega, ?_⟩
  intro h
  have h1 : n ^^^ 2 ^ j = n ^^^ 0 := by rw [Nat.xor_zero]; exact_mod_cast h
  have h2 := xor_left h1
  have := Nat.two_pow_pos j
  omega
/-- The four bytes of a number. -/
def fourL (n : Nat) : List Int := [((n % 256 : Nat) : Int), ((n / 256 % 256 : Nat) : Int), ((n / 65536 % 256 : Nat) : Int), ((n / 16777216 % 256 : Nat) : Int)]
theorem fourL_len (n : Nat) : (fourL n).length = 4 := rfl
theorem fourL_bytes (n : Nat) : ∀ x ∈ fourL n, 0 ≤ x ∧ x < 256 := by
  intro x hx
  simp only [fourL, List.mem_cons, List.not_mem_nil, or_false] at hx
  omega
end Go.Proofs.Ytkmhknfdoofieaa.Tl
