/- A framework of our own for walks over the model: Kp. -/
import Derived.Test.YtdehjgpdcdjhjaaKo
import Derived.OpenShut
import Derived.ShutString
import Derived.ChangeArms
namespace Go.Proofs.Ytdehjgpdcdjhjaa.K
open Go Go.RowKit
set_option linter.unusedVariables false
set_option linter.unusedSimpArgs false
/-! A slice of structs of an int, an int and a string, as the law's input bears it. -/
section
variable {H : Type} {enc : TypeId × Value → H} {P : Program} {w : World} {base : Nat} {sp : Nat → Bool} {held : Bool}
end
end Go.Proofs.Ytdehjgpdcdjhjaa.K
