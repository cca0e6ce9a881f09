/- A framework of our own for walks over the model: Km. -/
import Derived.Test.YtdehjgpdcdjhjaaKl
import Derived.Test.YtdehjgpdcdjhjaaKn
namespace Go.Proofs.Ytdehjgpdcdjhjaa.K
open Go Go.RowKit
set_option linter.unusedVariables false
set_option linter.unusedSimpArgs false
end Go.Proofs.Ytdehjgpdcdjhjaa.K
