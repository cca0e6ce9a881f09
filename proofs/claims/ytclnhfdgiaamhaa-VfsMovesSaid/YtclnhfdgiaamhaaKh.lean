/- A framework of our own for walks over the model: Kh. -/
import Derived.Test.YtclnhfdgiaamhaaKf
namespace Go.Proofs.Ytclnhfdgiaamhaa.K
open Go Go.RowKit
set_option linter.unusedVariables false
set_option linter.unusedSimpArgs false
end Go.Proofs.Ytclnhfdgiaamhaa.K
