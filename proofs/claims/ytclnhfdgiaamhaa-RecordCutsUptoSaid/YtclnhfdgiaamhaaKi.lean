/- A framework of our own for walks over the model: Ki. -/
import Derived.Test.YtclnhfdgiaamhaaKg
import Derived.Test.YtclnhfdgiaamhaaKh
namespace Go.Proofs.Ytclnhfdgiaamhaa.K
open Go Go.RowKit
set_option linter.unusedVariables false
set_option linter.unusedSimpArgs false
/-! Floats as the program's order has them -/
def ub (a : Int) : Nat := (IntKind.u64.wrap a).toNat
theorem ub_lt (a : Int) : ub a < 18446744073709551616 := by unfold ub; rw [wu64_mod]; omega
theorem ub_is (a : Int) : (ub a : Int) = a % 18446744073709551616 := by unfold ub; rw [wu64_mod]; omega
theorem ub_cast (a : Int) : IntKind.u64.wrap a = (ub a : Int) := by unfold ub; rw [wu64_mod]; omega
theorem isN0 : ¬ isN 0 := by decide
theorem sv0 : sv 0 = 0 := by decide
theorem sv_zero {x : Nat} : sv x = 0 ↔ rg x = 0 := by unfold sv; split <;> omega
def canS (a : Int) : Int := if isN (ub a) then 9221120237041090560 else if rg (ub a) = 0 then 0 else a
theorem isN_bits {a : Int} : (ub a : Int) % 9223372036854775808 - (ub a : Int) % 4503599627370496 = 9218868437227405312 ∧ ¬ (ub a : Int) % 4503599627370496 = 0 ↔ isN (ub a) := by
  have := ub_lt a
  unfold isN rg
  omega
end Go.Proofs.Ytclnhfdgiaamhaa.K
