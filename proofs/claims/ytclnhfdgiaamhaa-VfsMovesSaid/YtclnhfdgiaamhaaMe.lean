/- A framework of our own for walks over the model: Me. -/
import Derived.Test.YtclnhfdgiaamhaaMc
import Derived.Test.YtclnhfdgiaamhaaMd
import Derived.Test.YtclnhfdgiaamhaaCa
import Derived.LaidEqlPtr
namespace Go.Proofs.Ytclnhfdgiaamhaa.K
open Go Go.RowKit
set_option linter.unusedVariables false
set_option linter.unusedSimpArgs false
end Go.Proofs.Ytclnhfdgiaamhaa.K
