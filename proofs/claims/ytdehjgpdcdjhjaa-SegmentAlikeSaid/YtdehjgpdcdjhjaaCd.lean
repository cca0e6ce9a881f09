/- A framework of our own for walks over the model: Cd. -/
import Derived.Test.YtdehjgpdcdjhjaaCc
namespace Go.Proofs.Ytdehjgpdcdjhjaa.K
open Go Go.RowKit
set_option linter.unusedVariables false
set_option linter.unusedSimpArgs false
section
variable {X : Cx} {E : Env} {H : List Chunk} {Q : Post} {ops : Array Oper} {rest : List Oper}
end
theorem getD_mem {α : Type} (d : α) {l : List α} {i : Nat} (h : i < l.length) : l.getD i d ∈ l := by
  rw [List.getD_eq_getElem?_getD, List.getElem?_eq_getElem h]; exact List.getElem_mem _
theorem take_push {α : Type} (d : α) {l : List α} {i : Nat} (h : i < l.length) : l.take (i + 1) = l.take i ++ [l.getD i d] := by
  rw [List.take_add_one, List.getElem?_eq_getElem h, List.getD_eq_getElem?_getD, List.getElem?_eq_getElem h]; rfl
theorem runsS_len (l : List Nat) : (runsS l).length ≤ 20 * l.length := runsG_len l 0
theorem deltS_len (l : List Int) : (deltS l).length ≤ 10 * l.length := deltG_len l 0
end Go.Proofs.Ytdehjgpdcdjhjaa.K
