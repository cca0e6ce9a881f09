/- A framework of our own for walks over the model: Cc. -/
import Derived.Test.YtdehjgpdcdjhjaaCb
namespace Go.Proofs.Ytdehjgpdcdjhjaa.K
open Go Go.RowKit
set_option linter.unusedVariables false
set_option linter.unusedSimpArgs false
/-! ### Runs and differences -/
def runsG : Nat → List Nat → List UInt8
  | _, [] => []
  | n, [u] => putN u ++ putN (n + 1)
  | n, u :: v :: t => if v ≠ u then putN u ++ putN (n + 1) ++ runsG 0 (v :: t) else runsG (n + 1) (v :: t)
def runsS (l : List Nat) : List UInt8 := runsG 0 l
def deltG : Int → List Int → List UInt8
  | _, [] => []
  | last, n :: t => putN (zigS (IntKind.i64.wrap (n - last))) ++ deltG n t
def deltS (l : List Int) : List UInt8 := deltG 0 l
theorem wrap_bd (x : Int) : -9223372036854775808 ≤ IntKind.i64.wrap x ∧ IntKind.i64.wrap x < 9223372036854775808 := by rw [wi64_mod]; split <;> omega
theorem runs_cut {n i : Nat} {l : List Nat} (hi : i < l.length) (h : i + 1 = l.length ∨ (i + 1 < l.length ∧ l.getD (i + 1) 0 ≠ l.getD i 0)) : runsG n (l.drop i) = putN (l.getD i 0) ++ putN (n + 1) ++ runsG 0 (l.drop (i + 1)) := by
  rw [drop_cons 0 hi]
  rcases h with h | ⟨h1, h2⟩
  · rw [List.drop_of_length_le (by omega)]; simp [runsG]
  · rw [drop_cons 0 h1]
    simp only [runsG]
    rw [if_pos h2]
theorem runs_more {n i : Nat} {l : List Nat} (h1 : i + 1 < l.length) (h2 : l.getD (i + 1) 0 = l.getD i 0) : runsG n (l.drop i) = runsG (n + 1) (l.drop (i + 1)) := by
  rw [drop_cons 0 (show i < l.length by omega), drop_cons 0 h1]
  simp only [runsG]
  rw [if_neg (by simp only [ne_eq, Decidable.not_not]; exact h2)]
theorem delt_step {last : Int} {i : Nat} {l : List Int} (hi : i < l.length) : deltG last (l.drop i) = putN (zigS (IntKind.i64.wrap (l.getD i 0 - last))) ++ deltG (l.getD i 0) (l.drop (i + 1)) := by
  rw [drop_cons 0 hi]; rfl
theorem ucells_of {l : List Nat} {q : Int} {p : Nat} (hq : q = (p : Int)) (h : p < l.length) : (ucells l)[Int.toNat q * 1]? = some (.int .u64 (l.getD p 0 : Nat)) := by rw [hq]; exact ucells_at h
structure RS where
  acc : List Nat
  last : Nat
  half : Bool
theorem runsG_len : ∀ (l : List Nat) (n : Nat), (runsG n l).length ≤ 20 * l.length
  | [], _ => by simp [runsG]
  | [u], n => by have h1 := putN_len u; have h2 := putN_len (n + 1); simp [runsG]; omega
  | u :: v :: t, n => by
    have h1 := putN_len u; have h2 := putN_len (n + 1)
    have h3 := runsG_len (v :: t) 0; have h4 := runsG_len (v :: t) (n + 1)
    simp only [List.length_cons] at h3 h4
    simp only [runsG]
    split
    · simp only [List.length_append, List.length_cons]; omega
    · simp only [List.length_cons]; omega
theorem deltG_len : ∀ (l : List Int) (last : Int), (deltG last l).length ≤ 10 * l.length
  | [], _ => by simp [deltG]
  | n :: t, last => by
    have h1 := putN_len (zigS (IntKind.i64.wrap (n - last))); have h2 := deltG_len t n
    simp only [deltG, List.length_append, List.length_cons]; omega
end Go.Proofs.Ytdehjgpdcdjhjaa.K
