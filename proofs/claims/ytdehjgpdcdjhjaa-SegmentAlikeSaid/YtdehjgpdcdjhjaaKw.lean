/- A framework of our own for walks over the model: Kw. -/
import Derived.Test.YtdehjgpdcdjhjaaKv
import Derived.Recover
namespace Go.Proofs.Ytdehjgpdcdjhjaa.K
open Go Go.RowKit
set_option linter.unusedVariables false
set_option linter.unusedSimpArgs false
section
variable {X : Cx} {Q : Post} {B : Exit → Act → World → Prop} {E : Env} {H : List Chunk} {ops : Array Oper} {rest : List Oper}
end
section
variable {X : Cx} {Q : Post} {B : Exit → Act → List Frame → World → Prop} {E : Env} {H : List Chunk} {ops : Array Oper} {cs : List Frame}
end
end Go.Proofs.Ytdehjgpdcdjhjaa.K
