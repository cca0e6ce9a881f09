/- A framework of our own for walks over the model: Ki. -/
import Derived.Test.YtdehjgpdcdjhjaaKg
import Derived.Test.YtdehjgpdcdjhjaaKh
namespace Go.Proofs.Ytdehjgpdcdjhjaa.K
open Go Go.RowKit
set_option linter.unusedVariables false
set_option linter.unusedSimpArgs false
/-! Floats as the program's order has them -/
def ub (a : Int) : Nat := (IntKind.u64.wrap a).toNat
theorem isN0 : ¬ isN 0 := by decide
theorem sv0 : sv 0 = 0 := by decide
theorem sv_zero {x : Nat} : sv x = 0 ↔ rg x = 0 := by unfold sv; split <;> omega
def canS (a : Int) : Int := if isN (ub a) then 9221120237041090560 else if rg (ub a) = 0 then 0 else a
def cmpS (x y : Nat) : Int := if isN x then (if isN y then 0 else 1) else if isN y then -1 else if sv x < sv y then -1 else if sv y < sv x then 1 else 0
end Go.Proofs.Ytdehjgpdcdjhjaa.K
