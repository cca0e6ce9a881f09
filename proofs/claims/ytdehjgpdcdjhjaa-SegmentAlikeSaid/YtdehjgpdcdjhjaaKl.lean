/- A framework of our own for walks over the model: Kl. -/
import Derived.Test.YtdehjgpdcdjhjaaKk
namespace Go.Proofs.Ytdehjgpdcdjhjaa.K
open Go Go.RowKit
set_option linter.unusedVariables false
set_option linter.unusedSimpArgs false
end Go.Proofs.Ytdehjgpdcdjhjaa.K
