/- A framework of our own for walks over the model: Kt. -/
import Derived.Test.YtdehjgpdcdjhjaaKr
namespace Go.Proofs.Ytdehjgpdcdjhjaa.K
open Go Go.RowKit
set_option linter.unusedVariables false
set_option linter.unusedSimpArgs false
/-- Memory that is older than the call, and not handed to it to write. -/
def ReadsM (w : World) (M : List Nat) (A : Option Addr) (vs : List Value) : Prop := ∀ j u, vs[j]? = some u → ∃ x, A = some x ∧ (x.add j).block ∉ M ∧ w.cell? (x.add j) = some u
theorem rd_oldM {X : Cx} {H : List Chunk} {A : Option Addr} {vs : List Value} (h : ReadsM X.w0 X.M A vs) : Rd X H A vs := by
  intro w hw j u hu
  obtain ⟨x, rfl, hx, hc⟩ := h j u hu
  exact ⟨x, rfl, cell_old hc hx w hw⟩
end Go.Proofs.Ytdehjgpdcdjhjaa.K
