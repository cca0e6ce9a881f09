/- A framework of our own for walks over the model: Km. -/
import Derived.Test.YtdehjgpdcdjhjaaDoorKl
import Derived.Test.YtdehjgpdcdjhjaaDoorKn
namespace Go.Proofs.YtdehjgpdcdjhjaaDoor.K
open Go Go.RowKit
set_option linter.unusedVariables false
set_option linter.unusedSimpArgs false
/-! Reading texts of floats: the steps that the walks ask for. -/

theorem bk_conv {k u : Int} (h : u = (bku k : Nat)) (hlt : bku k < 18446744073709551616) : IntKind.i64.wrap u = iw (bku k) := by
  rw [h]; exact iw_wrap hlt
theorem back_nan : backI 18446744073709551615 = 9221120237041090560 := by unfold backI; rw [if_pos rfl]
theorem back_isN {k : Int} (h : k ≠ 18446744073709551615) (hn : isN (bku k)) : backI k = 0 := by unfold backI; rw [if_neg h, if_pos hn]
theorem back_bad {k : Int} (h : k ≠ 18446744073709551615) (hc : canS (iw (bku k)) ≠ iw (bku k)) : backI k = 0 := by
  unfold backI
  rw [if_neg h]
  by_cases hn : isN (bku k)
  · rw [if_pos hn]
  · rw [if_neg hn, if_neg hc]
theorem back_ok {k : Int} (h : k ≠ 18446744073709551615) (hn : ¬ isN (bku k)) (hc : canS (iw (bku k)) = iw (bku k)) : backI k = iw (bku k) := by unfold backI; rw [if_neg h, if_neg hn, if_pos hc]
theorem back_nokey {k : Int} (h0 : 0 ≤ k) (h1 : k < 18446744073709551616) (h : k ≠ 18446744073709551615) (hc : ((keyS (bku k) : Nat) : Int) ≠ k) : backI k = 0 := by
  by_cases hn : isN (bku k)
  · exact back_isN h hn
  · by_cases hg : canS (iw (bku k)) = iw (bku k)
    · exact absurd (key_bku h0 h1 hn hg) hc
    · exact back_bad h hg
theorem back_keyed {k : Int} (h : k ≠ 18446744073709551615) (hk : ((keyS (bku k) : Nat) : Int) = k) (hc : canS (iw (bku k)) = iw (bku k)) : backI k = iw (bku k) := by
  refine back_ok h (fun hn => h ?_) hc
  rw [← hk]; unfold keyS; rw [if_pos hn]; rfl
/-! the prefix -/
theorem cut_no {s : ByteArray} (h : (cutP s ⟨#[48, 102]⟩).2 = false) : s.data.toList.take 2 ≠ [48, 102] := by
  intro e
  have : hasP s ⟨#[48, 102]⟩ = true := by
    unfold hasP
    have hl : 2 ≤ s.size := by
      have := congrArg List.length e
      simp at this
      omega
    simp only [Bool.and_eq_true, decide_eq_true_eq]
    refine ⟨hl, bytes_ext ?_⟩
    rw [ext_list]
    exact e
  unfold cutP at h
  rw [if_pos this] at h
  cases h
theorem cut_yes {s : ByteArray} (h : (cutP s ⟨#[48, 102]⟩).2 = true) : s.data.toList = 48 :: 102 :: (cutP s ⟨#[48, 102]⟩).1.data.toList := by
  unfold cutP at h ⊢
  by_cases hp : hasP s ⟨#[48, 102]⟩ = true
  · rw [if_pos hp]
    have hl := hasP_le hp
    simp only [hasP, Bool.and_eq_true, decide_eq_true_eq] at hp
    have e := congrArg (fun t => t.data.toList) hp.2
    simp only [ext_list] at e ⊢
    have e2 : s.data.toList.take s.size = s.data.toList := List.take_of_length_le (Nat.le_of_eq (by simp))
    rw [e2]
    have e3 : s.data.toList.take 2 = [48, 102] := e
    rw [← List.take_append_drop 2 s.data.toList, e3]
    rfl
  · rw [if_neg hp] at h; cases h
theorem size_list (s : ByteArray) : s.data.toList.length = s.size := by simp
theorem take_next {l : List UInt8} {j U d : Nat} (hj : j < l.length) (hU : l.take j = hexN j U) (hd : d < 16) (h : hexd d = l.getD j 0) : l.take (j + 1) = hexN (j + 1) (U * 16 + d) := by
  rw [hexN_succ _ _ _ hd, ← hU, h, List.take_add_one]
  congr 1
  simp [List.getD, List.getElem?_eq_getElem hj]
theorem pow_le {j : Nat} (h : j < 16) {U : Nat} (hU : U < 16 ^ j) : U < 1152921504606846976 :=
  Nat.lt_of_lt_of_le hU (Nat.pow_le_pow_right (by decide) (by omega : j ≤ 15))
theorem pow_next {j U d : Nat} (hU : U < 16 ^ j) (hd : d < 16) : U * 16 + d < 16 ^ (j + 1) := by rw [Nat.pow_succ]; omega
theorem dig_at (s : ByteArray) (j : Nat) : (0 ≤ idxB DIG (bt s j) ∧ idxB DIG (bt s j) < 16 ∧ hexd (idxB DIG (bt s j)).toNat = s.data.toList.getD j 0) ∨ (idxB DIG (bt s j) = -1 ∧ ∀ k, k < 16 → hexd k ≠ s.data.toList.getD j 0) := idx_dig (s.data.toList.getD j 0)
theorem dig_get {s : ByteArray} {j : Nat} (h : ¬ idxB DIG (bt s j) < 0) : ∃ d : Nat, idxB DIG (bt s j) = d ∧ d < 16 ∧ hexd d = s.data.toList.getD j 0 := by
  rcases dig_at s j with ⟨h0, h1, h2⟩ | ⟨h0, _⟩
  · exact ⟨_, (Int.toNat_of_nonneg h0).symm, by omega, h2⟩
  · omega
theorem dig_none {s : ByteArray} {j : Nat} (h : idxB DIG (bt s j) < 0) : ∀ k, k < 16 → hexd k ≠ s.data.toList.getD j 0 := by
  rcases dig_at s j with ⟨h0, h1, h2⟩ | ⟨_, h1⟩
  · omega
  · exact h1
/-! the three words -/
def wd (i : Nat) : Int := if i = 0 then 9221120237041090560 else if i = 1 then 9218868437227405312 else 18442240474082181120
def wn (i : Nat) : Int := if i = 0 then 9221120237041090560 else if i = 1 then 9218868437227405312 else -4503599627370496
theorem wd_get {i : Nat} (h : i < 3) : (#[.int .u64 9221120237041090560, .int .u64 9218868437227405312, .int .u64 18442240474082181120] : Array Value)[Int.toNat (i : Int)]? = some (.int .u64 (wd i)) := by
  rcases i with _ | _ | _ | i
  · rfl
  · rfl
  · rfl
  · omega
theorem wd_wn (i : Nat) : IntKind.i64.wrap (wd i) = wn i := by unfold wd wn; rw [wi64_mod]; split; rfl; split <;> rfl
theorem okf_wn (i : Nat) : okf (wn i) := by unfold wn; split; exact okf_nan; split; exact okf_inf; exact okf_ninf
theorem print_nan : printS 9221120237041090560 = ⟨#[78, 65, 78]⟩ := by simp only [printS]; rw [if_pos (by decide)]
theorem print_inf : printS 9218868437227405312 = ⟨#[73, 78, 70]⟩ := by simp only [printS]; rw [if_neg (by decide), if_pos (by decide)]
theorem print_ninf : printS (-4503599627370496) = ⟨#[45, 73, 78, 70]⟩ := by simp only [printS]; rw [if_neg (by decide), if_neg (by decide), if_pos (by decide)]
theorem not_words {s : ByteArray} {i : Nat} (hi : i = 3) (h : ∀ j < i, printS (wn j) ≠ s) : s ≠ ⟨#[78, 65, 78]⟩ ∧ s ≠ ⟨#[73, 78, 70]⟩ ∧ s ≠ ⟨#[45, 73, 78, 70]⟩ := by
  subst hi
  exact ⟨fun e => h 0 (by omega) (e ▸ print_nan), fun e => h 1 (by omega) (e ▸ print_inf), fun e => h 2 (by omega) (e ▸ print_ninf)⟩
theorem ref_end {s : ByteArray} {U : Nat} (hU : U < 16 ^ 16) (h18 : s.size = 18) (h : (s.data.toList.drop 2).take 16 = hexN 16 U) : parseS s = if printS (iw U) = s then (iw U, true) else (0, false) := by
  have e : s.data.toList.length = 18 := by rw [size_list, h18]
  have e1 : (s.data.toList.drop 2).length = 16 := by rw [List.length_drop, e]
  rw [List.take_of_length_le (Nat.le_of_eq e1)] at h
  match hs : s.data.toList, e with
  | a :: b :: t, _ => exact parse_end (a := a) (b := b) hU (by rw [hs] at h ⊢; rw [← h]; rfl)
theorem drop_get {l : List UInt8} {j : Nat} : (l.drop 2).getD j 0 = l.getD (2 + j) 0 := by simp [List.getD]
theorem tok_end {s r : ByteArray} {U : Nat} (hU : U < 16 ^ 16) (hr : s.data.toList = 48 :: 102 :: r.data.toList) (h16 : r.size = 16) (h : r.data.toList.take 16 = hexN 16 U) : parseS s = if printS (iw U) = s then (iw U, true) else (0, false) := by
  rw [List.take_of_length_le (Nat.le_of_eq (by rw [size_list, h16]))] at h
  exact parse_end hU (by rw [hr, h])
theorem tok_short {s r : ByteArray} (h1 : s ≠ ⟨#[78, 65, 78]⟩) (h2 : s ≠ ⟨#[73, 78, 70]⟩) (h3 : s ≠ ⟨#[45, 73, 78, 70]⟩) (hr : s.data.toList = 48 :: 102 :: r.data.toList) (h : r.size ≠ 16) : parseS s = (0, false) :=
  parse_short h1 h2 h3 fun e => h (by have := congrArg List.length hr; simp only [List.length_cons, size_list] at this; omega)
theorem tok_bad {s r : ByteArray} {j : Nat} (h1 : s ≠ ⟨#[78, 65, 78]⟩) (h2 : s ≠ ⟨#[73, 78, 70]⟩) (h3 : s ≠ ⟨#[45, 73, 78, 70]⟩) (hr : s.data.toList = 48 :: 102 :: r.data.toList) (hj : j < 16) (h : ∀ d, d < 16 → hexd d ≠ r.data.toList.getD j 0) : parseS s = (0, false) :=
  parse_bad h1 h2 h3 hj fun d hd e => h d hd (by rw [← e, hr]; simp [List.getD, Nat.add_comm 2 j])
theorem keyS_lt {x : Nat} (h : x < 18446744073709551616) : keyS x < 18446744073709551616 := by
  unfold keyS
  have : rg x < 9223372036854775808 := by unfold rg; omega
  rcases split_sg h with ⟨s, e⟩ | ⟨s, e⟩ <;> (repeat' split) <;> first | omega | simp_all
theorem hexd_eq {m : Nat} {s : ByteArray} {i : Int} {j : Nat} (h : ((hexd m).toNat : Int) = (bt s i.toNat : Int)) (hi : i = j := by rfl) : hexd m = s.data.toList.getD j 0 := by
  subst hi
  unfold bt at h
  rw [Int.toNat_natCast] at h
  exact UInt8.toNat_inj.1 (by omega)
theorem hexd_ne {m : Nat} {s : ByteArray} {j : Nat} (h : hexd m = s.data.toList.getD j 0) : ((hexd m).toNat : Int) = (bt s j : Int) := by unfold bt; rw [h]
theorem dig_step {m : Nat} {d : Int} {c : UInt8} (h : (d = 99 ∧ ∀ e, e < m → hexd e ≠ c) ∨ (∃ e : Nat, e < m ∧ d = (e : Int) ∧ hexd e = c)) (hn : hexd m ≠ c) : (d = 99 ∧ ∀ e, e < m + 1 → hexd e ≠ c) ∨ (∃ e : Nat, e < m + 1 ∧ d = (e : Int) ∧ hexd e = c) := by
  rcases h with ⟨h1, h2⟩ | ⟨e, h1, h2⟩
  · exact .inl ⟨h1, fun e he => by rcases Nat.lt_succ_iff_lt_or_eq.1 he with h | h; exact h2 e h; rw [h]; exact hn⟩
  · exact .inr ⟨e, by omega, h2⟩
end Go.Proofs.YtdehjgpdcdjhjaaDoor.K
