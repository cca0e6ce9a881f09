/-
  Plain facts on numbers modulo 2^61 - 1 and on products in two halves. No program in sight.
-/
import Derived.Test.YtkmhknfdoofieaaTlBase
namespace Go.Proofs.Ytkmhknfdoofieaa.Tl
open Go.RowKit Go.Proofs.YtkmhknfdoofieaaW.PrintWords Go.Proofs.YtkmhknfdoofieaaW.PrintLast Go.Proofs.YtkmhknfdoofieaaW.PrintMore
set_option linter.unusedVariables false

theorem and_m61 {x : Int} (h0 : 0 ≤ x) (h1 : x < 18446744073709551616) : Go.bits .and .u64 x 2305843009213693951 = x % 2305843009213693952 := and_mask (k := .u64) rfl 61 (by decide) x h0 h1
theorem and_m32 {x : Int} (h0 : 0 ≤ x) (h1 : x < 18446744073709551616) : Go.bits .and .u64 x 4294967295 = x % 4294967296 := and_mask (k := .u64) rfl 32 (by decide) x h0 h1
theorem and_one {x : Int} (h0 : 0 ≤ x) (h1 : x < 18446744073709551616) : Go.bits .and .u64 x 1 = x % 2 := and_mask (k := .u64) rfl 1 (by decide) x h0 h1

/-- A product's two halves, out of four products of halves. -/
theorem mul64_parts (a b : Int) (ha : 0 ≤ a) (ha' : a < 18446744073709551616) (hb : 0 ≤ b) (hb' : b < 18446744073709551616) :
    ∃ p q r s : Int, a / 4294967296 * (b / 4294967296) = p ∧ a / 4294967296 * (b % 4294967296) = q ∧ a % 4294967296 * (b / 4294967296) = r ∧ a % 4294967296 * (b % 4294967296) = s ∧
      a * b = p * 18446744073709551616 + (q + r) * 4294967296 + s ∧ (0 ≤ p ∧ p ≤ 18446744065119617025) ∧ (0 ≤ q ∧ q ≤ 18446744065119617025) ∧ (0 ≤ r ∧ r ≤ 18446744065119617025) ∧ (0 ≤ s ∧ s ≤ 18446744065119617025) := by
  have bd : ∀ x y : Int, 0 ≤ x → x ≤ 4294967295 → 0 ≤ y → y ≤ 4294967295 → 0 ≤ x * y ∧ x * y ≤ 18446744065119617025 := by
    intro x y h0 h1 h2 h3
    refine ⟨Int.mul_nonneg h0 h2, ?_⟩
    have := Int.mul_le_mul h1 h3 h2 (by omega)
    omega
  refine ⟨_, _, _, _, rfl, rfl, rfl, rfl, ?_, bd _ _ ?_ ?_ ?_ ?_, bd _ _ ?_ ?_ ?_ ?_, bd _ _ ?_ ?_ ?_ ?_, bd _ _ ?_ ?_ ?_ ?_⟩
  · conv => lhs; rw [show a = a / 4294967296 * 4294967296 + a % 4294967296 from by omega, show b = b / 4294967296 * 4294967296 + b % 4294967296 from by omega]
    generalize a / 4294967296 = A
    generalize b / 4294967296 = B
    generalize a % 4294967296 = c
    generalize b % 4294967296 = d
    rw [Int.add_mul, Int.mul_add, Int.mul_add]
    rw [show A * 4294967296 * (B * 4294967296) = A * B * 18446744073709551616 from by rw [Int.mul_assoc, Int.mul_left_comm 4294967296 B, ← Int.mul_assoc]; rfl]
    rw [show A * 4294967296 * d = A * d * 4294967296 from by rw [Int.mul_assoc, Int.mul_comm 4294967296 d, ← Int.mul_assoc]]
    rw [show c * (B * 4294967296) = c * B * 4294967296 from by rw [Int.mul_assoc]]
    omega
  all_goals omega

/-- The prime. -/
def PP : Nat := 2305843009213693951
theorem PP_is : PP = 2305843009213693951 := rfl
/-- Folding at 2^61 changes nothing modulo the prime. -/
theorem fold61 (c : Nat) : (c / 2305843009213693952 + c % 2305843009213693952) % PP = c % PP := by
  rw [PP_is]
  omega
theorem mulmod_lt (a b : Nat) : a % PP * (b % PP) < 5316911983139663487003542222693990401 := by
  have h1 : a % PP ≤ 2305843009213693950 := by rw [PP_is]; omega
  have h2 : b % PP ≤ 2305843009213693950 := by rw [PP_is]; omega
  have := Nat.mul_le_mul h1 h2
  omega

end Go.Proofs.Ytkmhknfdoofieaa.Tl
