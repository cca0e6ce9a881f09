/- A framework of our own for walks over the model: Kz. -/
import Derived.Test.YtdehjgpdcdjhjaaKp
import Derived.Test.YtdehjgpdcdjhjaaCa
namespace Go.Proofs.Ytdehjgpdcdjhjaa.K
open Go Go.RowKit
set_option linter.unusedVariables false
set_option linter.unusedSimpArgs false
/-! ### What a law's input bears, by its type -/
structure Sl (α : Type) where
  A : Option Addr
  c : Nat
  l : List α
structure Opens (P : Program) (t : TypeId) {α : Type} (cells : α → List Value) (good : World → α → Prop) : Prop where
  opn : ∀ {H : Type} {enc : TypeId × Value → H} {w : World} {base : Nat} {sp : Nat → Bool} {held : Bool} {fuel : Nat} {cs : List Value} {x : DataW H × List MemPlace}, DataW.trod enc P w base sp held fuel t cs = some x → ∃ a, cs = cells a ∧ good w a
  len : ∀ a, (cells a).length = P.cellsOf t
section
variable {P : Program} {t e : TypeId}
theorem cells_at {w : World} {base n : Nat} {a : Addr} {cs : List Value} (h : w.cells? base a n = some cs) : ∀ i, i < n → w.cell? (a.add i) = cs[i]? := by
  unfold World.cells? at h
  split at h
  · intro i hi
    have := mapM_some_get h i i (by rw [List.getElem?_range hi])
    exact this
  · cases h
theorem flat_length {α : Type} {f : α → List Value} {m : Nat} (h : ∀ a, (f a).length = m) : ∀ l : List α, (l.flatMap f).length = l.length * m
  | [] => by simp
  | a :: l => by rw [List.flatMap_cons, List.length_append, h, flat_length h l, List.length_cons, Nat.add_mul, Nat.one_mul, Nat.add_comm]
theorem flat_map {α : Type} (f : α → Value) : ∀ l : List α, l.flatMap (fun a => [f a]) = l.map f
  | [] => rfl
  | a :: l => by rw [List.flatMap_cons, flat_map f l]; rfl
theorem Opens.imp {α : Type} {cells : α → List Value} {good good' : World → α → Prop} (h : Opens P t cells good) (hi : ∀ w a, good w a → good' w a) : Opens P t cells good' :=
  ⟨fun ht => let ⟨a, h1, h2⟩ := h.opn ht; ⟨a, h1, hi _ _ h2⟩, h.len⟩
end
end Go.Proofs.Ytdehjgpdcdjhjaa.K
