/- A framework of our own for walks over the model: Fb. -/
import Derived.Test.YtclnhfdgiaamhaaFa
import Derived.Test.YtclnhfdgiaamhaaKg
namespace Go.Proofs.Ytclnhfdgiaamhaa.K
open Go Go.RowKit
set_option linter.unusedVariables false
set_option linter.unusedSimpArgs false
section
variable {y1 y0 u n1 q1 rh : Nat}
end
end Go.Proofs.Ytclnhfdgiaamhaa.K
