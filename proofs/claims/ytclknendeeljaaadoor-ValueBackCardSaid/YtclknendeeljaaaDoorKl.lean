/- A framework of our own for walks over the model: Kl. -/
import Derived.Test.YtclknendeeljaaaDoorKk
namespace Go.Proofs.YtclknendeeljaaaDoor.K
open Go Go.RowKit
set_option linter.unusedVariables false
set_option linter.unusedSimpArgs false
def hasP (s p : ByteArray) : Bool := decide (p.size ≤ s.size) && decide (s.extract 0 p.size = p)
theorem hasP_le {s p : ByteArray} (h : hasP s p = true) : p.size ≤ s.size := by simp [hasP] at h; exact h.1
def cutP (s p : ByteArray) : ByteArray × Bool := if hasP s p then (s.extract p.size s.size, true) else (s, false)
theorem ext_list (s : ByteArray) (a b : Nat) : (s.extract a b).data.toList = (s.data.toList.take b).drop a := by
  rw [ByteArray.data_extract, Array.toList_extract, List.extract_eq_take_drop, List.drop_take]
theorem bytes_ext {s t : ByteArray} (h : s.data.toList = t.data.toList) : s = t := by
  obtain ⟨⟨x⟩⟩ := s
  obtain ⟨⟨y⟩⟩ := t
  simpa using h
def idxB (s : ByteArray) (c : Int) : Int := match (List.range s.size).find? fun i => s[i]! == UInt8.ofNat c.toNat with | some i => i | none => -1
abbrev DIG : ByteArray := ⟨#[48, 49, 50, 51, 52, 53, 54, 55, 56, 57, 97, 98, 99, 100, 101, 102]⟩
theorem idx_dig0 : ∀ c : Fin 256, let v := idxB DIG ((c.1 : Nat) : Int); (0 ≤ v ∧ v < 16 ∧ hexd v.toNat = UInt8.ofNat c.1) ∨ (v = -1 ∧ ∀ k : Fin 16, hexd k.1 ≠ UInt8.ofNat c.1) := by decide +kernel
theorem idx_dig (c : UInt8) : (0 ≤ idxB DIG (c.toNat : Int) ∧ idxB DIG (c.toNat : Int) < 16 ∧ hexd (idxB DIG (c.toNat : Int)).toNat = c) ∨ (idxB DIG (c.toNat : Int) = -1 ∧ ∀ k, k < 16 → hexd k ≠ c) := by
  have := idx_dig0 ⟨c.toNat, c.toNat_lt⟩
  simp only [UInt8.ofNat_toNat] at this
  rcases this with h | ⟨h, h2⟩
  · exact .inl h
  · exact .inr ⟨h, fun k hk => h2 ⟨k, hk⟩⟩
theorem okf_can {n : Int} (h1 : -9223372036854775808 ≤ n) (h2 : n < 9223372036854775808) : okf (canS n) := by
  refine ⟨(can_bd h1 h2).1, (can_bd h1 h2).2, ?_⟩
  have e := ub_can n
  rw [show canS (canS n) = (if isN (ub (canS n)) then 9221120237041090560 else if rg (ub (canS n)) = 0 then 0 else canS n) from rfl, e]
  by_cases h : isN (ub n)
  · rw [if_pos h, if_pos isN_nan]; unfold canS; rw [if_pos h]
  · rw [if_neg h]
    by_cases h0 : rg (ub n) = 0
    · rw [if_pos h0, if_neg isN0, if_pos (by decide)]; unfold canS; rw [if_neg h, if_pos h0]
    · rw [if_neg h0, if_neg h, if_neg h0]
theorem print_canS {n : Int} (h1 : -9223372036854775808 ≤ n) (h2 : n < 9223372036854775808) : printS (canS n) = printS n := by
  rw [print_can, print_can n, (okf_can h1 h2).2.2]
theorem parse_print {n : Int} (h1 : -9223372036854775808 ≤ n) (h2 : n < 9223372036854775808) : parseS (printS n) = (canS n, true) := parse_yes (okf_can h1 h2) (print_canS h1 h2)
end Go.Proofs.YtclknendeeljaaaDoor.K
