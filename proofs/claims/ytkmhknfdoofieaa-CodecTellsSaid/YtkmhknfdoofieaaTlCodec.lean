/-
  Plain words on numbers in bytes: what 'Put' writes and what 'Get' reads, as functions on lists. No program in sight.
-/
import Derived.Test.YtkmhknfdoofieaaTlBase
namespace Go.Proofs.Ytkmhknfdoofieaa.Tl
open Go.RowKit Go.Proofs.YtkmhknfdoofieaaW.PrintWords Go.Proofs.YtkmhknfdoofieaaW.PrintLast Go.Proofs.YtkmhknfdoofieaaW.PrintMore
set_option linter.unusedVariables false

/-- A number's bytes: seven bits each, the lowest first; all but the last with the highest bit. -/
def putN (u : Nat) : List Int := if u < 128 then [(u : Int)] else ((u % 128 + 128 : Nat) : Int) :: putN (u / 128)
termination_by u
decreasing_by omega
theorem putN_small {u : Nat} (h : u < 128) : putN u = [(u : Int)] := by rw [putN, if_pos h]
theorem putN_more {u : Nat} (h : ¬ u < 128) : putN u = ((u % 128 + 128 : Nat) : Int) :: putN (u / 128) := by rw [putN, if_neg h]
theorem putN_pos (u : Nat) : 0 < (putN u).length := by
  by_cases h : u < 128
  · rw [putN_small h]; simp
  · rw [putN_more h]; simp
theorem putN_len : ∀ (n u : Nat), u < 128 ^ (n + 1) → (putN u).length ≤ n + 1
  | 0, u, h => by rw [putN_small (by omega)]; simp
  | n + 1, u, h => by
    by_cases h' : u < 128
    · rw [putN_small h']; simp
    · rw [putN_more h']
      have := putN_len n (u / 128) (by rw [Nat.div_lt_iff_lt_mul (by decide)]; rw [← Nat.pow_succ]; exact h)
      simp only [List.length_cons]; omega
theorem putN_len64 {u : Nat} (h : u < 18446744073709551616) : (putN u).length ≤ 10 := putN_len 9 u (Nat.lt_trans h (by decide))
theorem putN_bytes (u : Nat) : ∀ x ∈ putN u, 0 ≤ x ∧ x < 256 := by
  induction u using Nat.strongRecOn with
  | _ u ih =>
    by_cases h : u < 128
    · rw [putN_small h]; intro x hx; simp at hx; omega
    · rw [putN_more h]
      intro x hx
      rcases List.mem_cons.1 hx with rfl | hx
      · omega
      · exact ih _ (by omega) x hx

/-- What 'Get' reads of bytes, from place i on, with what was read before. -/
def getL : List Int → Nat → Int → Int × Int
  | [], _, _ => (0, 0)
  | x :: t, i, a => if (i = 9 ∧ x > 1) ∨ (0 < i ∧ x = 0) then (0, 0) else if x < 128 then (a + x * 2 ^ (7 * i), (i : Int) + 1) else getL t (i + 1) (a + (x - 128) * 2 ^ (7 * i))

theorem pow7 (i : Nat) : (2 : Int) ^ (7 * (i + 1)) = 128 * 2 ^ (7 * i) := by
  rw [show 7 * (i + 1) = 7 * i + 7 from by omega, Int.pow_add]; omega
theorem pow7_pos (i : Nat) : (0 : Int) < 2 ^ (7 * i) := Int.pow_pos (by decide)

/-- One step of reading: the next seven bits are laid in, by 'or' as well as by '+'. -/
theorem or_step {i : Nat} (hi : i ≤ 9) {a y : Int} (ha : 0 ≤ a) (ha' : a < 2 ^ (7 * i)) (hy : 0 ≤ y) (hy' : y < 128) (h9 : i = 9 → y ≤ 1) :
    shl .u64 (IntKind.u64.wrap y) (7 * (i : Int)) = y * 2 ^ (7 * i) ∧ Go.bits .or .u64 a (y * 2 ^ (7 * i)) = a + y * 2 ^ (7 * i) ∧ 0 ≤ y * 2 ^ (7 * i) ∧ a + y * 2 ^ (7 * i) < 18446744073709551616 ∧ (i < 9 → a + y * 2 ^ (7 * i) < 2 ^ (7 * (i + 1))) := by
  have hp := pow7_pos i
  have h0 : 0 ≤ y * 2 ^ (7 * i) := Int.mul_nonneg hy (by omega)
  have hlt : i < 9 → a + y * 2 ^ (7 * i) < 2 ^ (7 * (i + 1)) := fun h => by
    rw [pow7]
    have : y * 2 ^ (7 * i) ≤ 127 * 2 ^ (7 * i) := Int.mul_le_mul_of_nonneg_right (by omega) (by omega)
    omega
  have hb : a + y * 2 ^ (7 * i) < 18446744073709551616 := by
    by_cases h : i < 9
    · have h1 := hlt h
      have h2 : (2 : Int) ^ (7 * (i + 1)) ≤ 2 ^ 63 := by
        have : (2 : Nat) ^ (7 * (i + 1)) ≤ 2 ^ 63 := Nat.pow_le_pow_right (by decide) (by omega)
        exact_mod_cast this
      omega
    · obtain rfl : i = 9 := by omega
      have := h9 rfl
      simp only [Nat.reduceMul, Int.reducePow] at ha' ⊢
      omega
  have hw : IntKind.u64.wrap y = y := u64_in y hy (by omega)
  refine ⟨?_, ?_, h0, hb, hlt⟩
  · unfold shl
    rw [hw, show (7 * (i : Int)).toNat = 7 * i from by omega, Nat.min_eq_left (by simp [IntKind.bits]; omega), u64_in _ h0 (by omega)]
  · rw [bor_comm, or_add (k := .u64) rfl (7 * i) _ _ h0 (by simp) (by simp [IntKind.bits]; omega) ha ha' (by simp [IntKind.bits]; omega)]
    omega

/-- What Put wrote, Get reads, whatever stands behind. -/
theorem getL_put (t : List Int) : ∀ (u i : Nat) (a : Int), (0 < i → 0 < u) → u * 2 ^ (7 * i) < 18446744073709551616 → getL (putN u ++ t) i a = (a + u * 2 ^ (7 * i), (i : Int) + (putN u).length) := by
  intro u
  induction u using Nat.strongRecOn with
  | _ u ih =>
    intro i a hu hb
    have h9 : i = 9 → u ≤ 1 := by
      intro h; subst h; simp only [Nat.reduceMul, Nat.reducePow] at hb; omega
    by_cases h : u < 128
    · rw [putN_small h]
      simp only [List.cons_append, List.nil_append, getL, List.length_cons, List.length_nil]
      rw [if_neg (by omega), if_pos (by omega)]
      rfl
    · rw [putN_more h]
      simp only [List.cons_append, getL, List.length_cons]
      rw [if_neg (by omega), if_neg (by omega)]
      have e : (2 : Nat) ^ (7 * (i + 1)) = 128 * 2 ^ (7 * i) := by rw [show 7 * (i + 1) = 7 * i + 7 from by omega, Nat.pow_add]; omega
      rw [ih (u / 128) (by omega) (i + 1) _ (fun _ => by omega) (by
        rw [e, ← Nat.mul_assoc]
        refine Nat.lt_of_le_of_lt (Nat.mul_le_mul_right _ ?_) hb
        omega)]
      rw [pow7]
      generalize (2 : Int) ^ (7 * i) = p
      have e2 : ((u : Nat) : Int) = ((u % 128 : Nat) : Int) + 128 * ((u / 128 : Nat) : Int) := by omega
      refine Prod.ext ?_ ?_
      · show a + (((u % 128 + 128 : Nat) : Int) - 128) * p + ((u / 128 : Nat) : Int) * (128 * p) = a + (u : Int) * p
        rw [e2, Int.add_mul, show (((u % 128 + 128 : Nat) : Int) - 128) = ((u % 128 : Nat) : Int) from by omega, ← Int.mul_assoc, Int.mul_comm ((u / 128 : Nat) : Int) 128]
        omega
      · show ((i + 1 : Nat) : Int) + ((putN (u / 128)).length : Int) = (i : Int) + (((putN (u / 128)).length + 1 : Nat) : Int)
        omega

theorem getL_put0 {u : Nat} (t : List Int) (h : u < 18446744073709551616) : getL (putN u ++ t) 0 0 = ((u : Int), ((putN u).length : Int)) := by
  rw [getL_put t u 0 0 (fun h => absurd h (by omega)) (by simpa using h)]
  simp

/-- The bytes of a number whose last one is marked, too, and a 0 behind: never read. -/
def putM (u : Nat) : List Int := if u < 128 then [(u : Int) + 128] else ((u % 128 + 128 : Nat) : Int) :: putM (u / 128)
termination_by u
decreasing_by omega
theorem getL_long : ∀ (u i : Nat) (a : Int) (t : List Int), getL (putM u ++ 0 :: t) i a = (0, 0) := by
  intro u
  induction u using Nat.strongRecOn with
  | _ u ih =>
    intro i a t
    rw [putM]
    by_cases h : u < 128
    · rw [if_pos h]
      simp only [List.cons_append, List.nil_append, getL]
      by_cases h9 : i = 9
      · rw [if_pos (by omega)]
      · rw [if_neg (by omega), if_neg (by omega)]
        simp
    · rw [if_neg h]
      simp only [List.cons_append, getL]
      by_cases h9 : i = 9
      · rw [if_pos (by omega)]
      · rw [if_neg (by omega), if_neg (by omega)]
        exact ih _ (by omega) _ _ _
theorem putM_len (u : Nat) : (putM u).length = (putN u).length := by
  induction u using Nat.strongRecOn with
  | _ u ih =>
    rw [putM, putN]
    by_cases h : u < 128
    · rw [if_pos h, if_pos h]; rfl
    · rw [if_neg h, if_neg h]; simp [ih _ (show u / 128 < u by omega)]
theorem putM_set (u : Nat) (pre : List Int) : (pre ++ putN u).set (pre.length + (putN u).length - 1) (Go.bits .or .u8 (rd (pre ++ putN u) ((pre.length + (putN u).length - 1 : Nat) : Int)) 128) = pre ++ putM u := by
  induction u using Nat.strongRecOn generalizing pre with
  | _ u ih =>
    by_cases h : u < 128
    · rw [putN_small h, putM, if_pos h]
      simp only [List.length_cons, List.length_nil, Nat.zero_add, Nat.add_sub_cancel]
      rw [rd_append_self, u8_orhi (by omega) (by omega)]
      rw [show ((u : Int) % 128 + 128) = (u : Int) + 128 from by omega]
      simp
    · rw [putN_more h, putM, if_neg h]
      have e := ih (u / 128) (by omega) (pre ++ [((u % 128 + 128 : Nat) : Int)])
      have hp := putN_pos (u / 128)
      simp only [List.append_assoc, List.singleton_append, List.length_append, List.length_cons, List.length_nil] at e ⊢
      rw [show pre.length + ((putN (u / 128)).length + 1) - 1 = pre.length + (0 + 1) + (putN (u / 128)).length - 1 from by omega]
      exact e

end Go.Proofs.Ytkmhknfdoofieaa.Tl
