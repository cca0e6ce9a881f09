/- A framework of our own for walks over the model: Kt. -/
import Derived.Test.YtclnhfdgiaamhaaKr
namespace Go.Proofs.Ytclnhfdgiaamhaa.K
open Go Go.RowKit
set_option linter.unusedVariables false
set_option linter.unusedSimpArgs false
/-- Memory that is older than the call, and not handed to it to write. -/
def ReadsM (w : World) (M : List Nat) (A : Option Addr) (vs : List Value) : Prop := ∀ j u, vs[j]? = some u → ∃ x, A = some x ∧ (x.add j).block ∉ M ∧ w.cell? (x.add j) = some u
end Go.Proofs.Ytclnhfdgiaamhaa.K
