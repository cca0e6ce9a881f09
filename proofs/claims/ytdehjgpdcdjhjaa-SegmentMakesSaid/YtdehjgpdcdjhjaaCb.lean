/- A framework of our own for walks over the model: Cb. -/
import Derived.Test.YtdehjgpdcdjhjaaCa
namespace Go.Proofs.Ytdehjgpdcdjhjaa.K
open Go Go.RowKit
set_option linter.unusedVariables false
set_option linter.unusedSimpArgs false
def fitsW (w : Nat) (l : List Nat) : Prop := w < 64 → ∀ u ∈ l, u / 2 ^ w = 0
instance (w : Nat) (l : List Nat) : Decidable (fitsW w l) := by unfold fitsW; infer_instance
end Go.Proofs.Ytdehjgpdcdjhjaa.K
