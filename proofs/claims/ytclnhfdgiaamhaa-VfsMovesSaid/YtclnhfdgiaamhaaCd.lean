/- A framework of our own for walks over the model: Cd. -/
import Derived.Test.YtclnhfdgiaamhaaCc
namespace Go.Proofs.Ytclnhfdgiaamhaa.K
open Go Go.RowKit
set_option linter.unusedVariables false
set_option linter.unusedSimpArgs false
section
variable {X : Cx} {E : Env} {H : List Chunk} {Q : Post} {ops : Array Oper} {rest : List Oper}
theorem vl_slCap {A : Option Addr} {n c sz : Nat} {e : TypeId} {vs : List Value} (hin : In (sl A n c e sz vs) H) (h : n ≤ c → VL X ops rest Q E H) : VL X ops rest Q E H := by
  intro a w ha hw
  have := hw.chunk _ hin.mem
  rcases this.2 with ⟨h1, h2⟩ | ⟨g, cap, cur, h1, _, _, h2, _⟩
  · cases h1; exact h (Nat.le_refl _) a w ha hw
  · cases h1; exact h h2 a w ha hw
end
end Go.Proofs.Ytclnhfdgiaamhaa.K
