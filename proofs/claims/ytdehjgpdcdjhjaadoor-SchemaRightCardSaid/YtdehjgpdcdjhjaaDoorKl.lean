/- A framework of our own for walks over the model: Kl. -/
import Derived.Test.YtdehjgpdcdjhjaaDoorKk
namespace Go.Proofs.YtdehjgpdcdjhjaaDoor.K
open Go Go.RowKit
set_option linter.unusedVariables false
set_option linter.unusedSimpArgs false
def hasP (s p : ByteArray) : Bool := decide (p.size ≤ s.size) && decide (s.extract 0 p.size = p)
theorem hasP_le {s p : ByteArray} (h : hasP s p = true) : p.size ≤ s.size := by simp [hasP] at h; exact h.1
def cutP (s p : ByteArray) : ByteArray × Bool := if hasP s p then (s.extract p.size s.size, true) else (s, false)
theorem ext_list (s : ByteArray) (a b : Nat) : (s.extract a b).data.toList = (s.data.toList.take b).drop a := by
  rw [ByteArray.data_extract, Array.toList_extract, List.extract_eq_take_drop, List.drop_take]
theorem ext_size (s : ByteArray) (a b : Nat) : (s.extract a b).size = min b s.size - a := by
  simp
theorem bytes_ext {s t : ByteArray} (h : s.data.toList = t.data.toList) : s = t := by
  obtain ⟨⟨x⟩⟩ := s
  obtain ⟨⟨y⟩⟩ := t
  simpa using h
def idxB (s : ByteArray) (c : Int) : Int := match (List.range s.size).find? fun i => s[i]! == UInt8.ofNat c.toNat with | some i => i | none => -1
abbrev DIG : ByteArray := ⟨#[48, 49, 50, 51, 52, 53, 54, 55, 56, 57, 97, 98, 99, 100, 101, 102]⟩
theorem idx_dig0 : ∀ c : Fin 256, let v := idxB DIG ((c.1 : Nat) : Int); (0 ≤ v ∧ v < 16 ∧ hexd v.toNat = UInt8.ofNat c.1) ∨ (v = -1 ∧ ∀ k : Fin 16, hexd k.1 ≠ UInt8.ofNat c.1) := by decide +kernel
theorem idx_dig (c : UInt8) : (0 ≤ idxB DIG (c.toNat : Int) ∧ idxB DIG (c.toNat : Int) < 16 ∧ hexd (idxB DIG (c.toNat : Int)).toNat = c) ∨ (idxB DIG (c.toNat : Int) = -1 ∧ ∀ k, k < 16 → hexd k ≠ c) := by
  have := idx_dig0 ⟨c.toNat, c.toNat_lt⟩
  simp only [UInt8.ofNat_toNat] at this
  rcases this with h | ⟨h, h2⟩
  · exact .inl h
  · exact .inr ⟨h, fun k hk => h2 ⟨k, hk⟩⟩
/-! Keys -/
def bku (k : Int) : Nat := (if k < 9223372036854775808 then 18446744073709551615 - k else k - 9223372036854775808).toNat
def backI (k : Int) : Int := if k = 18446744073709551615 then 9221120237041090560 else if isN (bku k) then 0 else if canS (iw (bku k)) = iw (bku k) then iw (bku k) else 0
theorem bku_lt {k : Int} (h0 : 0 ≤ k) (h1 : k < 18446744073709551616) : bku k < 18446744073709551616 := by unfold bku; split <;> omega
theorem key_bku {k : Int} (h0 : 0 ≤ k) (h1 : k < 18446744073709551616) (hn : ¬ isN (bku k)) (hc : canS (iw (bku k)) = iw (bku k)) : (keyS (bku k) : Int) = k := by
  have hlt := bku_lt h0 h1
  have hu := ub_can (iw (bku k))
  rw [hc, ub_iw hlt, if_neg hn] at hu
  unfold keyS
  rw [if_neg hn]
  by_cases hr : rg (bku k) = 0
  · rw [if_pos hr] at hu ⊢
    unfold bku at hu
    split at hu <;> omega
  · rw [if_neg hr]
    rcases split_sg hlt with ⟨s, e⟩ | ⟨s, e⟩
    · rw [if_pos s]
      have : bku k = (if k < 9223372036854775808 then 18446744073709551615 - k else k - 9223372036854775808).toNat := rfl
      split at this <;> omega
    · rw [if_neg (by simp [s])]
      have : rg (bku k) < 9223372036854775808 := by unfold rg; omega
      have : bku k = (if k < 9223372036854775808 then 18446744073709551615 - k else k - 9223372036854775808).toNat := rfl
      split at this <;> omega
theorem back_key (n : Int) (h1 : -9223372036854775808 ≤ n) (h2 : n < 9223372036854775808) : backI (keyS (ub n) : Nat) = canS n := by
  have hu := ub_lt n
  have hbd := can_bd h1 h2
  have hc := ub_can n
  have hcc : ∀ x : Int, canS (canS x) = canS x := fun x => by
    have e := ub_can x
    rw [show canS (canS x) = (if isN (ub (canS x)) then 9221120237041090560 else if rg (ub (canS x)) = 0 then 0 else canS x) from rfl, e]
    by_cases h : isN (ub x)
    · rw [if_pos h, if_pos isN_nan]; unfold canS; rw [if_pos h]
    · rw [if_neg h]
      by_cases h0 : rg (ub x) = 0
      · rw [if_pos h0, if_neg isN0, if_pos (by decide)]; unfold canS; rw [if_neg h, if_pos h0]
      · rw [if_neg h0, if_neg h, if_neg h0]
  by_cases h : isN (ub n)
  · unfold keyS backI
    rw [if_pos h, if_pos (by decide)]; unfold canS; rw [if_pos h]
  · rw [if_neg h] at hc
    have hb : bku ((keyS (ub n) : Nat) : Int) = ub (canS n) := by
      rw [hc]
      unfold bku keyS
      rw [if_neg h]
      by_cases h0 : rg (ub n) = 0
      · rw [if_pos h0, if_pos h0, if_neg (by decide)]; decide
      · rw [if_neg h0, if_neg h0]
        rcases split_sg hu with ⟨s, e⟩ | ⟨s, e⟩
        · rw [if_pos s, if_pos (by have : rg (ub n) < 9223372036854775808 := by unfold rg; omega
                                   omega)]; omega
        · rw [if_neg (show ¬ sg (ub n) = true by simp [s]), if_neg (by omega)]; omega
    have hne : ((keyS (ub n) : Nat) : Int) ≠ 18446744073709551615 := by
      unfold keyS
      rw [if_neg h]
      have : ¬ 9218868437227405312 < rg (ub n) := h
      by_cases h0 : rg (ub n) = 0
      · rw [if_pos h0]; decide
      · rw [if_neg h0]
        rcases split_sg hu with ⟨s, e⟩ | ⟨s, e⟩
        · rw [if_pos s]; omega
        · rw [if_neg (by simp [s])]; omega
    have hi : iw (ub (canS n)) = canS n := by
      have := ub_is (canS n)
      have := ub_lt (canS n)
      unfold iw; split <;> omega
    unfold backI
    rw [if_neg hne, hb, if_neg (by rw [isN_can]; exact h), hi, if_pos (hcc n)]
theorem cmp_neg (a b : Int) : decide ((keyS (ub a) : Int) < (keyS (ub b) : Int)) = decide (cmpS (ub a) (ub b) < 0) := by
  rw [key_cmp (ub_lt a) (ub_lt b)]
  rw [decide_eq_decide]
  split
  · omega
  · split <;> omega
theorem okf_can {n : Int} (h1 : -9223372036854775808 ≤ n) (h2 : n < 9223372036854775808) : okf (canS n) := by
  refine ⟨(can_bd h1 h2).1, (can_bd h1 h2).2, ?_⟩
  have e := ub_can n
  rw [show canS (canS n) = (if isN (ub (canS n)) then 9221120237041090560 else if rg (ub (canS n)) = 0 then 0 else canS n) from rfl, e]
  by_cases h : isN (ub n)
  · rw [if_pos h, if_pos isN_nan]; unfold canS; rw [if_pos h]
  · rw [if_neg h]
    by_cases h0 : rg (ub n) = 0
    · rw [if_pos h0, if_neg isN0, if_pos (by decide)]; unfold canS; rw [if_neg h, if_pos h0]
    · rw [if_neg h0, if_neg h, if_neg h0]
theorem print_canS {n : Int} (h1 : -9223372036854775808 ≤ n) (h2 : n < 9223372036854775808) : printS (canS n) = printS n := by
  rw [print_can, print_can n, (okf_can h1 h2).2.2]
theorem parse_print {n : Int} (h1 : -9223372036854775808 ≤ n) (h2 : n < 9223372036854775808) : parseS (printS n) = (canS n, true) := parse_yes (okf_can h1 h2) (print_canS h1 h2)
def ikey (n : Int) : Int := (n % 18446744073709551616 + 9223372036854775808) % 18446744073709551616
theorem ikey_lt {n m : Int} (h1 : -9223372036854775808 ≤ n) (h2 : n < 9223372036854775808) (h3 : -9223372036854775808 ≤ m) (h4 : m < 9223372036854775808) : decide (ikey n < ikey m) = decide (n < m) := by
  unfold ikey; rw [decide_eq_decide]; omega
def iback (k : Int) : Int := IntKind.i64.wrap ((k + 9223372036854775808) % 18446744073709551616)
theorem iback_key {n : Int} (h1 : -9223372036854775808 ≤ n) (h2 : n < 9223372036854775808) : iback (ikey n) = n := by
  unfold iback ikey; rw [wi64_mod]; split <;> omega
end Go.Proofs.YtdehjgpdcdjhjaaDoor.K
