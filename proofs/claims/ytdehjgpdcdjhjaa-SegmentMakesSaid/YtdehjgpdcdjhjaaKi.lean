/- A framework of our own for walks over the model: Ki. -/
import Derived.Test.YtdehjgpdcdjhjaaKg
import Derived.Test.YtdehjgpdcdjhjaaKh
namespace Go.Proofs.Ytdehjgpdcdjhjaa.K
open Go Go.RowKit
set_option linter.unusedVariables false
set_option linter.unusedSimpArgs false
/-! Floats as the program's order has them -/
def ub (a : Int) : Nat := (IntKind.u64.wrap a).toNat
theorem ub_lt (a : Int) : ub a < 18446744073709551616 := by unfold ub; rw [wu64_mod]; omega
theorem ub_is (a : Int) : (ub a : Int) = a % 18446744073709551616 := by unfold ub; rw [wu64_mod]; omega
theorem ub_cast (a : Int) : IntKind.u64.wrap a = (ub a : Int) := by unfold ub; rw [wu64_mod]; omega
theorem isN0 : ¬ isN 0 := by decide
theorem sv0 : sv 0 = 0 := by decide
theorem sv_zero {x : Nat} : sv x = 0 ↔ rg x = 0 := by unfold sv; split <;> omega
def canS (a : Int) : Int := if isN (ub a) then 9221120237041090560 else if rg (ub a) = 0 then 0 else a
def cmpS (x y : Nat) : Int := if isN x then (if isN y then 0 else 1) else if isN y then -1 else if sv x < sv y then -1 else if sv y < sv x then 1 else 0
theorem ub_can (a : Int) : ub (canS a) = if isN (ub a) then 9221120237041090560 else if rg (ub a) = 0 then 0 else ub a := by
  unfold canS
  by_cases h : isN (ub a)
  · rw [if_pos h, if_pos h]; decide
  · rw [if_neg h, if_neg h]
    by_cases h0 : rg (ub a) = 0
    · rw [if_pos h0, if_pos h0]; decide
    · rw [if_neg h0, if_neg h0]
def keyS (x : Nat) : Nat := if isN x then 18446744073709551615 else if rg x = 0 then 9223372036854775808 else if sg x = true then 18446744073709551615 - x else x + 9223372036854775808
theorem split_sg {x : Nat} (h : x < 18446744073709551616) : (sg x = true ∧ x = 9223372036854775808 + rg x) ∨ (sg x = false ∧ x = rg x) := by
  unfold sg rg
  by_cases c : x < 9223372036854775808
  · right
    refine ⟨?_, by omega⟩
    rw [show x / 9223372036854775808 = 0 from by omega]; rfl
  · left
    refine ⟨?_, by omega⟩
    rw [show x / 9223372036854775808 = 1 from by omega]; rfl
theorem isN_bits {a : Int} : (ub a : Int) % 9223372036854775808 - (ub a : Int) % 4503599627370496 = 9218868437227405312 ∧ ¬ (ub a : Int) % 4503599627370496 = 0 ↔ isN (ub a) := by
  have := ub_lt a
  unfold isN rg
  omega
theorem key_cmp {x y : Nat} (hx : x < 18446744073709551616) (hy : y < 18446744073709551616) : cmpS x y = if (keyS x : Int) < keyS y then -1 else if (keyS y : Int) < keyS x then 1 else 0 := by
  unfold cmpS keyS
  have bx : rg x < 9223372036854775808 := by unfold rg; omega
  have bY : rg y < 9223372036854775808 := by unfold rg; omega
  have nx : ∀ z, isN z ↔ 9218868437227405312 < rg z := fun _ => Iff.rfl
  by_cases hnx : isN x
  · by_cases hny : isN y
    · simp [hnx, hny]
    · rw [if_pos hnx, if_neg hny, if_pos hnx, if_neg hny]
      rw [nx] at hny
      rcases split_sg hy with ⟨t, f⟩ | ⟨t, f⟩ <;> by_cases r : rg y = 0 <;> simp only [r, if_true, if_false, t, Bool.false_eq_true] <;> (split <;> (try split) <;> omega)
  · by_cases hny : isN y
    · rw [if_neg hnx, if_pos hny, if_neg hnx, if_pos hny]
      rw [nx] at hnx
      rcases split_sg hx with ⟨t, f⟩ | ⟨t, f⟩ <;> by_cases r : rg x = 0 <;> simp only [r, if_true, if_false, t, Bool.false_eq_true] <;> (split <;> (try split) <;> omega)
    · rw [if_neg hnx, if_neg hny, if_neg hnx, if_neg hny]
      rw [nx] at hnx hny
      unfold sv
      rcases split_sg hx with ⟨t, f⟩ | ⟨t, f⟩ <;> rcases split_sg hy with ⟨t', f'⟩ | ⟨t', f'⟩ <;> by_cases r : rg x = 0 <;> by_cases r' : rg y = 0 <;>
        simp only [r, r', if_true, if_false, t, t', Bool.false_eq_true] <;> (repeat' split) <;> omega
end Go.Proofs.Ytdehjgpdcdjhjaa.K
