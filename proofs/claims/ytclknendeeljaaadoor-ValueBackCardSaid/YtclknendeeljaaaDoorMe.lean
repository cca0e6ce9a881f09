/- A framework of our own for walks over the model: Me. -/
import Derived.Test.YtclknendeeljaaaDoorMc
import Derived.Test.YtclknendeeljaaaDoorMd
import Derived.Test.YtclknendeeljaaaDoorCa
import Derived.LaidEqlPtr
namespace Go.Proofs.YtclknendeeljaaaDoor.K
open Go Go.RowKit
set_option linter.unusedVariables false
set_option linter.unusedSimpArgs false
end Go.Proofs.YtclknendeeljaaaDoor.K
