/- A framework of our own for walks over the model: Kr. -/
import Derived.Test.YtdehjgpdcdjhjaaKq
namespace Go.Proofs.Ytdehjgpdcdjhjaa.K
open Go Go.RowKit
set_option linter.unusedVariables false
set_option linter.unusedSimpArgs false
section
variable {X : Cx} {E : Env} {H : List Chunk} {Q : Post} {ops : Array Oper} {rest : List Oper}
end
end Go.Proofs.Ytdehjgpdcdjhjaa.K
