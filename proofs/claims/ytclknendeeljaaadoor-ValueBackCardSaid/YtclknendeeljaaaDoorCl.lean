/- A framework of our own for walks over the model: Cl. -/
import Derived.Test.YtclknendeeljaaaDoorCd
namespace Go.Proofs.YtclknendeeljaaaDoor.K
open Go Go.RowKit
set_option linter.unusedVariables false
set_option linter.unusedSimpArgs false
/-! ### What is read as a number was written so -/
theorem getF_put : ∀ (b : List UInt8) (i acc : Nat), i ≤ 9 → (getF i acc b).2 ≠ 0 → ∃ v m, (getF i acc b).2 = i + m ∧ 0 < m ∧ m ≤ b.length ∧ b.take m = putF (10 - i) v ∧ (0 < i → 0 < v) ∧ (getF i acc b).1 = acc + v * 2 ^ (7 * i)
  | [], i, acc, _, h => absurd rfl h
  | x :: t, i, acc, hi, h => by
    rw [getF_cons] at h ⊢
    have hx := x.toNat_lt
    have hxe : UInt8.ofNat x.toNat = x := by simp
    split at h
    · exact absurd rfl h
    · rename_i h1
      rw [if_neg h1]
      split at h
      · rename_i h2
        rw [if_pos h2]
        refine ⟨x.toNat, 1, rfl, by omega, by simp, ?_, fun h => by omega, by rw [show x.toNat % 128 = x.toNat by omega]⟩
        rw [show 10 - i = (9 - i) + 1 by omega, putF_last h2, hxe]; rfl
      · rename_i h2
        rw [if_neg h2]
        obtain ⟨v, m, e1, e2, e3, e4, e5, e6⟩ := getF_put t (i + 1) _ (by omega) h
        have hv := e5 (by omega)
        refine ⟨x.toNat % 128 + 128 * v, m + 1, by rw [e1]; omega, by omega, by simp; omega, ?_, fun _ => by omega, ?_⟩
        · rw [show 10 - i = (9 - i) + 1 by omega, putF_more (by omega), List.take_succ_cons, e4, show (x.toNat % 128 + 128 * v) % 128 + 128 = x.toNat by omega, hxe, show (x.toNat % 128 + 128 * v) / 128 = v by omega, show 10 - (i + 1) = 9 - i by omega]
        · rw [e6, pow7, Nat.add_mul, ← Nat.mul_assoc, Nat.mul_comm v 128, Nat.add_assoc]
/-- The bytes of a number that was read are those that are written for it. -/
theorem put_get {b : List UInt8} (h : (getN b).2 ≠ 0) : b = putN (getN b).1 ++ b.drop (getN b).2 := by
  obtain ⟨v, m, e1, e2, e3, e4, _, e6⟩ := getF_put b 0 0 (by omega) h
  have e1' : (getN b).2 = m := by unfold getN; rw [e1]; omega
  have e6' : (getN b).1 = v := by unfold getN; rw [e6]; simp
  rw [e1', e6']
  show b = putF (10 - 0) v ++ _
  rw [← e4, List.take_append_drop]
end Go.Proofs.YtclknendeeljaaaDoor.K
