/- A framework of our own for walks over the model: Km. -/
import Derived.Test.YtclnhfdgiaamhaaKl
import Derived.Test.YtclnhfdgiaamhaaKn
namespace Go.Proofs.Ytclnhfdgiaamhaa.K
open Go Go.RowKit
set_option linter.unusedVariables false
set_option linter.unusedSimpArgs false
/-! the three words -/
def wd (i : Nat) : Int := if i = 0 then 9221120237041090560 else if i = 1 then 9218868437227405312 else 18442240474082181120
end Go.Proofs.Ytclnhfdgiaamhaa.K
