/- A framework of our own for walks over the model: Ks. -/
import Derived.Test.YtdehjgpdcdjhjaaKp
import Derived.SizedLaws
namespace Go.Proofs.Ytdehjgpdcdjhjaa.K
open Go Go.RowKit
set_option linter.unusedVariables false
set_option linter.unusedSimpArgs false
end Go.Proofs.Ytdehjgpdcdjhjaa.K
