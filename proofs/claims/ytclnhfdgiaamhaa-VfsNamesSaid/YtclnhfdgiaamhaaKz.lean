/- A framework of our own for walks over the model: Kz. -/
import Derived.Test.YtclnhfdgiaamhaaKp
import Derived.Test.YtclnhfdgiaamhaaCa
namespace Go.Proofs.Ytclnhfdgiaamhaa.K
open Go Go.RowKit
set_option linter.unusedVariables false
set_option linter.unusedSimpArgs false
structure Opens (P : Program) (t : TypeId) {α : Type} (cells : α → List Value) (good : World → α → Prop) : Prop where
  opn : ∀ {H : Type} {enc : TypeId × Value → H} {w : World} {base : Nat} {sp : Nat → Bool} {held : Bool} {fuel : Nat} {cs : List Value} {x : DataW H × List MemPlace}, DataW.trod enc P w base sp held fuel t cs = some x → ∃ a, cs = cells a ∧ good w a
  len : ∀ a, (cells a).length = P.cellsOf t
section
variable {P : Program} {t e : TypeId}
theorem Opens.imp {α : Type} {cells : α → List Value} {good good' : World → α → Prop} (h : Opens P t cells good) (hi : ∀ w a, good w a → good' w a) : Opens P t cells good' :=
  ⟨fun ht => let ⟨a, h1, h2⟩ := h.opn ht; ⟨a, h1, hi _ _ h2⟩, h.len⟩
end
end Go.Proofs.Ytclnhfdgiaamhaa.K
