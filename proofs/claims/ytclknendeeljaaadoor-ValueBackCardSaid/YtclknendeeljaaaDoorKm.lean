/- A framework of our own for walks over the model: Km. -/
import Derived.Test.YtclknendeeljaaaDoorKl
import Derived.Test.YtclknendeeljaaaDoorKn
namespace Go.Proofs.YtclknendeeljaaaDoor.K
open Go Go.RowKit
set_option linter.unusedVariables false
set_option linter.unusedSimpArgs false
/-! the prefix -/
theorem cut_no {s : ByteArray} (h : (cutP s ⟨#[48, 102]⟩).2 = false) : s.data.toList.take 2 ≠ [48, 102] := by
  intro e
  have : hasP s ⟨#[48, 102]⟩ = true := by
    unfold hasP
    have hl : 2 ≤ s.size := by
      have := congrArg List.length e
      simp at this
      omega
    simp only [Bool.and_eq_true, decide_eq_true_eq]
    refine ⟨hl, bytes_ext ?_⟩
    rw [ext_list]
    exact e
  unfold cutP at h
  rw [if_pos this] at h
  cases h
theorem cut_yes {s : ByteArray} (h : (cutP s ⟨#[48, 102]⟩).2 = true) : s.data.toList = 48 :: 102 :: (cutP s ⟨#[48, 102]⟩).1.data.toList := by
  unfold cutP at h ⊢
  by_cases hp : hasP s ⟨#[48, 102]⟩ = true
  · rw [if_pos hp]
    have hl := hasP_le hp
    simp only [hasP, Bool.and_eq_true, decide_eq_true_eq] at hp
    have e := congrArg (fun t => t.data.toList) hp.2
    simp only [ext_list] at e ⊢
    have e2 : s.data.toList.take s.size = s.data.toList := List.take_of_length_le (Nat.le_of_eq (by simp))
    rw [e2]
    have e3 : s.data.toList.take 2 = [48, 102] := e
    rw [← List.take_append_drop 2 s.data.toList, e3]
    rfl
  · rw [if_neg hp] at h; cases h
theorem size_list (s : ByteArray) : s.data.toList.length = s.size := by simp
theorem take_next {l : List UInt8} {j U d : Nat} (hj : j < l.length) (hU : l.take j = hexN j U) (hd : d < 16) (h : hexd d = l.getD j 0) : l.take (j + 1) = hexN (j + 1) (U * 16 + d) := by
  rw [hexN_succ _ _ _ hd, ← hU, h, List.take_add_one]
  congr 1
  simp [List.getD, List.getElem?_eq_getElem hj]
theorem pow_le {j : Nat} (h : j < 16) {U : Nat} (hU : U < 16 ^ j) : U < 1152921504606846976 :=
  Nat.lt_of_lt_of_le hU (Nat.pow_le_pow_right (by decide) (by omega : j ≤ 15))
theorem pow_next {j U d : Nat} (hU : U < 16 ^ j) (hd : d < 16) : U * 16 + d < 16 ^ (j + 1) := by rw [Nat.pow_succ]; omega
theorem dig_at (s : ByteArray) (j : Nat) : (0 ≤ idxB DIG (bt s j) ∧ idxB DIG (bt s j) < 16 ∧ hexd (idxB DIG (bt s j)).toNat = s.data.toList.getD j 0) ∨ (idxB DIG (bt s j) = -1 ∧ ∀ k, k < 16 → hexd k ≠ s.data.toList.getD j 0) := idx_dig (s.data.toList.getD j 0)
theorem dig_get {s : ByteArray} {j : Nat} (h : ¬ idxB DIG (bt s j) < 0) : ∃ d : Nat, idxB DIG (bt s j) = d ∧ d < 16 ∧ hexd d = s.data.toList.getD j 0 := by
  rcases dig_at s j with ⟨h0, h1, h2⟩ | ⟨h0, _⟩
  · exact ⟨_, (Int.toNat_of_nonneg h0).symm, by omega, h2⟩
  · omega
theorem dig_none {s : ByteArray} {j : Nat} (h : idxB DIG (bt s j) < 0) : ∀ k, k < 16 → hexd k ≠ s.data.toList.getD j 0 := by
  rcases dig_at s j with ⟨h0, h1, h2⟩ | ⟨_, h1⟩
  · omega
  · exact h1
theorem tok_end {s r : ByteArray} {U : Nat} (hU : U < 16 ^ 16) (hr : s.data.toList = 48 :: 102 :: r.data.toList) (h16 : r.size = 16) (h : r.data.toList.take 16 = hexN 16 U) : parseS s = if printS (iw U) = s then (iw U, true) else (0, false) := by
  rw [List.take_of_length_le (Nat.le_of_eq (by rw [size_list, h16]))] at h
  exact parse_end hU (by rw [hr, h])
theorem tok_short {s r : ByteArray} (h1 : s ≠ ⟨#[78, 65, 78]⟩) (h2 : s ≠ ⟨#[73, 78, 70]⟩) (h3 : s ≠ ⟨#[45, 73, 78, 70]⟩) (hr : s.data.toList = 48 :: 102 :: r.data.toList) (h : r.size ≠ 16) : parseS s = (0, false) :=
  parse_short h1 h2 h3 fun e => h (by have := congrArg List.length hr; simp only [List.length_cons, size_list] at this; omega)
theorem tok_bad {s r : ByteArray} {j : Nat} (h1 : s ≠ ⟨#[78, 65, 78]⟩) (h2 : s ≠ ⟨#[73, 78, 70]⟩) (h3 : s ≠ ⟨#[45, 73, 78, 70]⟩) (hr : s.data.toList = 48 :: 102 :: r.data.toList) (hj : j < 16) (h : ∀ d, d < 16 → hexd d ≠ r.data.toList.getD j 0) : parseS s = (0, false) :=
  parse_bad h1 h2 h3 hj fun d hd e => h d hd (by rw [← e, hr]; simp [List.getD, Nat.add_comm 2 j])
end Go.Proofs.YtclknendeeljaaaDoor.K
