/- A framework of our own for walks over the model: Ks. -/
import Derived.Test.YtclknendeeljaaaDoorKp
import Derived.SizedLaws
namespace Go.Proofs.YtclknendeeljaaaDoor.K
open Go Go.RowKit
set_option linter.unusedVariables false
set_option linter.unusedSimpArgs false
end Go.Proofs.YtclknendeeljaaaDoor.K
