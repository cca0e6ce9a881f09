/- A framework of our own for walks over the model: Cd. -/
import Derived.Test.YtclknendeeljaaaDoorCc
namespace Go.Proofs.YtclknendeeljaaaDoor.K
open Go Go.RowKit
set_option linter.unusedVariables false
set_option linter.unusedSimpArgs false
theorem putN_pos (u : Nat) : 0 < (putN u).length := by
  unfold putN putF
  split <;> simp
section
variable {X : Cx} {E : Env} {H : List Chunk} {Q : Post} {ops : Array Oper} {rest : List Oper}
theorem vl_slCap {A : Option Addr} {n c sz : Nat} {e : TypeId} {vs : List Value} (hin : In (sl A n c e sz vs) H) (h : n ≤ c → VL X ops rest Q E H) : VL X ops rest Q E H := by
  intro a w ha hw
  have := hw.chunk _ hin.mem
  rcases this.2 with ⟨h1, h2⟩ | ⟨g, cap, cur, h1, _, _, h2, _⟩
  · cases h1; exact h (Nat.le_refl _) a w ha hw
  · cases h1; exact h h2 a w ha hw
end
theorem getD_mem {α : Type} (d : α) {l : List α} {i : Nat} (h : i < l.length) : l.getD i d ∈ l := by
  rw [List.getD_eq_getElem?_getD, List.getElem?_eq_getElem h]; exact List.getElem_mem _
theorem take_push {α : Type} (d : α) {l : List α} {i : Nat} (h : i < l.length) : l.take (i + 1) = l.take i ++ [l.getD i d] := by
  rw [List.take_add_one, List.getElem?_eq_getElem h, List.getD_eq_getElem?_getD, List.getElem?_eq_getElem h]; rfl
end Go.Proofs.YtclknendeeljaaaDoor.K
