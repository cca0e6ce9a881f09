/- A framework of our own for walks over the model: Ku. -/
import Derived.Lib.Bytealg
import Derived.Test.YtclknendeeljaaaDoorKs
import Derived.Test.YtclknendeeljaaaDoorKt
namespace Go.Proofs.YtclknendeeljaaaDoor.K
open Go Go.RowKit
set_option linter.unusedVariables false
set_option linter.unusedSimpArgs false
theorem val_min {X : Cx} {E : Env} {H : List Chunk} {x y : Operand} {T U ty : TypeId} {k : IntKind} {p q : Int} (hx : E.ev x = some (.int k p)) (hy : E.ev y = some (.int k q)) :
    Val X E H (.call { callee := .builtin .min, args := #[x, y], argTypes := #[T, U] }) ty (.int k (min p q)) := by
  intro ac w o ho _ ha hw
  simp [execOp, ho, ha.ev hx, ha.ev hy, resolve, invoke, builtin, Builtin.min_, Builtin.min2]
  rw [Int.min_def]; split <;> split <;> omega
end Go.Proofs.YtclknendeeljaaaDoor.K
