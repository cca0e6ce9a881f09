/- A framework of our own for walks over the model: Ku. -/
import Derived.Lib.Bytealg
import Derived.Test.YtdehjgpdcdjhjaaKs
import Derived.Test.YtdehjgpdcdjhjaaKt
namespace Go.Proofs.Ytdehjgpdcdjhjaa.K
open Go Go.RowKit
set_option linter.unusedVariables false
set_option linter.unusedSimpArgs false
end Go.Proofs.Ytdehjgpdcdjhjaa.K
