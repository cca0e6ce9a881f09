/- A framework of our own for walks over the model: Cb. -/
import Derived.Test.YtclknendeeljaaaDoorCa
namespace Go.Proofs.YtclknendeeljaaaDoor.K
open Go Go.RowKit
set_option linter.unusedVariables false
set_option linter.unusedSimpArgs false
def fitsW (w : Nat) (l : List Nat) : Prop := w < 64 → ∀ u ∈ l, u / 2 ^ w = 0
instance (w : Nat) (l : List Nat) : Decidable (fitsW w l) := by unfold fitsW; infer_instance
theorem bdrop (b : List UInt8) (n : Nat) : (bcells b).drop (n * 1) = bcells (b.drop n) := by rw [Nat.mul_one]; simp [bcells, List.map_drop]
end Go.Proofs.YtclknendeeljaaaDoor.K
