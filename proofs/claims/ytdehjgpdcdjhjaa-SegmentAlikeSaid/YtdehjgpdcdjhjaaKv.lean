/- A framework of our own for walks over the model: Kv. -/
import Derived.Lib.MakeNoZero
import Derived.Lib.UnsafeStr
import Derived.Laws.CopyRow
import Derived.Test.YtdehjgpdcdjhjaaKu
namespace Go.Proofs.Ytdehjgpdcdjhjaa.K
open Go Go.RowKit
set_option linter.unusedVariables false
set_option linter.unusedSimpArgs false
/-! Methods called through an interface value; interface values and nil. -/
section
variable {X : Cx} {E : Env} {H : List Chunk} {Q : Post} {ops : Array Oper} {rest : List Oper}
end
end Go.Proofs.Ytdehjgpdcdjhjaa.K
namespace Go.Proofs.Ytdehjgpdcdjhjaa.K
open Go Go.RowKit
/-! What strings.Builder asks for -/
section
variable {X : Cx} {E : Env} {H H' F : List Chunk} {Q : Post} {ops : Array Oper} {rest : List Oper}
end
end Go.Proofs.Ytdehjgpdcdjhjaa.K
namespace Go.Proofs.Ytdehjgpdcdjhjaa.K
open Go Go.RowKit
section
variable {X : Cx} {E : Env} {H : List Chunk}
end
end Go.Proofs.Ytdehjgpdcdjhjaa.K
namespace Go.Proofs.Ytdehjgpdcdjhjaa.K
open Go Go.RowKit
/-! Pointers to whole variables, seen as unsafe pointers and back -/
section
variable {P : Program} {w : World}
end
end Go.Proofs.Ytdehjgpdcdjhjaa.K
namespace Go.Proofs.Ytdehjgpdcdjhjaa.K
open Go Go.RowKit
section
variable {X : Cx} {E : Env} {H : List Chunk}
end
end Go.Proofs.Ytdehjgpdcdjhjaa.K
namespace Go.Proofs.Ytdehjgpdcdjhjaa.K
open Go Go.RowKit
section
variable {X : Cx} {E : Env} {H : List Chunk} {Q : Post} {ops : Array Oper} {rest : List Oper}
end
end Go.Proofs.Ytdehjgpdcdjhjaa.K
