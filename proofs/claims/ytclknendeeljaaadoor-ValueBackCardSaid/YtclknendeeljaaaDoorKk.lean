/- A framework of our own for walks over the model: Kk. -/
import Derived.Test.YtclknendeeljaaaDoorKj
namespace Go.Proofs.YtclknendeeljaaaDoor.K
open Go Go.RowKit
set_option linter.unusedVariables false
set_option linter.unusedSimpArgs false
/-! Texts of floats, read -/
def hexN (m U : Nat) : List UInt8 := (List.range m).map fun j => hexd (U / 16 ^ (m - 1 - j) % 16)
theorem hexN_length (m U : Nat) : (hexN m U).length = m := by simp [hexN]
theorem hexN_succ (m U d : Nat) (h : d < 16) : hexN (m + 1) (U * 16 + d) = hexN m U ++ [hexd d] := by
  unfold hexN
  rw [List.range_succ, List.map_append, List.map_cons, List.map_nil]
  congr 1
  · apply List.map_congr_left
    intro j hj
    have hj := List.mem_range.1 hj
    congr 1
    rw [show m + 1 - 1 - j = (m - 1 - j) + 1 by omega, Nat.pow_succ, Nat.mul_comm (16 ^ (m - 1 - j)), ← Nat.div_div_eq_div_mul]
    congr 2
    omega
  · congr 2
    rw [show m + 1 - 1 - m = 0 by omega]
    omega
theorem hexd_inj {a b : Nat} (ha : a < 16) (hb : b < 16) (h : hexd a = hexd b) : a = b := by
  have h1 := hexd_toNat ha
  have h2 := hexd_toNat hb
  rw [h] at h1
  rw [h1] at h2
  split at h2 <;> split at h2 <;> omega
theorem hexN_inj : ∀ (m : Nat) (U V : Nat), U < 16 ^ m → V < 16 ^ m → hexN m U = hexN m V → U = V
  | 0, U, V, hU, hV, _ => by simp at hU hV; omega
  | m + 1, U, V, hU, hV, h => by
    have eU : U = (U / 16) * 16 + U % 16 := by omega
    have eV : V = (V / 16) * 16 + V % 16 := by omega
    rw [eU, eV, hexN_succ _ _ _ (by omega), hexN_succ _ _ _ (by omega)] at h
    have h1 := List.append_inj h (by simp [hexN_length])
    have h2 := hexN_inj m (U / 16) (V / 16) (by rw [Nat.pow_succ] at hU; omega) (by rw [Nat.pow_succ] at hV; omega) h1.1
    have h3 := hexd_inj (by omega) (by omega) (List.cons.inj h1.2).1
    omega
def iw (x : Nat) : Int := if x < 9223372036854775808 then (x : Int) else (x : Int) - 18446744073709551616
theorem ub_iw {x : Nat} (h : x < 18446744073709551616) : ub (iw x) = x := by
  unfold ub iw; rw [wu64_mod]; split <;> omega
theorem iw_bd {x : Nat} (h : x < 18446744073709551616) : -9223372036854775808 ≤ iw x ∧ iw x < 9223372036854775808 := by unfold iw; split <;> omega
theorem wi64_mod (x : Int) : IntKind.i64.wrap x = if x % 18446744073709551616 < 9223372036854775808 then x % 18446744073709551616 else x % 18446744073709551616 - 18446744073709551616 := by
  unfold IntKind.wrap; simp [IntKind.signed, IntKind.bits]; split <;> split <;> omega
theorem iw_wrap {x : Nat} (h : x < 18446744073709551616) : IntKind.i64.wrap (x : Int) = iw x := by
  rw [wi64_mod]; unfold iw; split <;> split <;> omega
def okf (n : Int) : Prop := -9223372036854775808 ≤ n ∧ n < 9223372036854775808 ∧ canS n = n
noncomputable def parseS (s : ByteArray) : Int × Bool := by
  classical
  exact if h : ∃ n, okf n ∧ printS n = s then (Classical.choose h, true) else (0, false)
theorem print_cases (n : Int) (h : canS n = n) : (printS n = ⟨#[78, 65, 78]⟩ ∧ ub n = 9221120237041090560) ∨ (printS n = ⟨#[73, 78, 70]⟩ ∧ ub n = 9218868437227405312) ∨ (printS n = ⟨#[45, 73, 78, 70]⟩ ∧ ub n = 18442240474082181120) ∨ printS n = ⟨(48 :: 102 :: hexS (ub n)).toArray⟩ := by
  have hp := print_can n
  rw [h] at hp
  by_cases h1 : ub n = 9221120237041090560
  · rw [if_pos h1] at hp; exact .inl ⟨hp, h1⟩
  · rw [if_neg h1] at hp
    by_cases h2 : ub n = 9218868437227405312
    · rw [if_pos h2] at hp; exact .inr (.inl ⟨hp, h2⟩)
    · rw [if_neg h2] at hp
      by_cases h3 : ub n = 18442240474082181120
      · rw [if_pos h3] at hp; exact .inr (.inr (.inl ⟨hp, h3⟩))
      · rw [if_neg h3] at hp; exact .inr (.inr (.inr hp))
theorem mk_inj {a b : List UInt8} (h : (⟨a.toArray⟩ : ByteArray) = ⟨b.toArray⟩) : a = b := by
  have := congrArg ByteArray.data h
  simpa using this
theorem print_inj {n m : Int} (hn : okf n) (hm : okf m) (h : printS n = printS m) : n = m := by
  obtain ⟨a1, a2, a3⟩ := hn
  obtain ⟨b1, b2, b3⟩ := hm
  have key : ub n = ub m → n = m := ub_inj ⟨a1, a2⟩ ⟨b1, b2⟩
  have len : ∀ U : Nat, (hexS U).length = 16 := fun U => by simp [hexS]
  have bad : ∀ (l : List UInt8) U, l.length ≠ 18 → (⟨l.toArray⟩ : ByteArray) ≠ ⟨(48 :: 102 :: hexS U).toArray⟩ := fun l U hl e => hl (by rw [mk_inj e]; simp [len])
  rcases print_cases n a3 with ⟨p, u⟩ | ⟨p, u⟩ | ⟨p, u⟩ | p <;> rcases print_cases m b3 with ⟨q, v⟩ | ⟨q, v⟩ | ⟨q, v⟩ | q <;> rw [p, q] at h <;>
    first
      | exact key (u.trans v.symm)
      | exact absurd h (by decide)
      | exact absurd h (bad [78, 65, 78] _ (by decide))
      | exact absurd h (bad [73, 78, 70] _ (by decide))
      | exact absurd h (bad [45, 73, 78, 70] _ (by decide))
      | exact absurd h.symm (bad [78, 65, 78] _ (by decide))
      | exact absurd h.symm (bad [73, 78, 70] _ (by decide))
      | exact absurd h.symm (bad [45, 73, 78, 70] _ (by decide))
      | (have e := mk_inj h
         simp only [List.cons.injEq, true_and] at e
         exact key (hexN_inj 16 _ _ (ub_lt n) (ub_lt m) e))
theorem parse_yes {n : Int} {s : ByteArray} (h : okf n) (hs : printS n = s) : parseS s = (n, true) := by
  unfold parseS
  have hex : ∃ n, okf n ∧ printS n = s := ⟨n, h, hs⟩
  rw [dif_pos hex]
  have := Classical.choose_spec hex
  rw [print_inj this.1 h (this.2.trans hs.symm)]
theorem parse_no {s : ByteArray} (h : ∀ n, okf n → printS n ≠ s) : parseS s = (0, false) := by
  unfold parseS
  rw [dif_neg (fun ⟨n, h1, h2⟩ => h n h1 h2)]
theorem okf_nan : okf 9221120237041090560 := ⟨by decide, by decide, by decide⟩
theorem okf_inf : okf 9218868437227405312 := ⟨by decide, by decide, by decide⟩
theorem okf_ninf : okf (-4503599627370496) := ⟨by decide, by decide, by decide⟩
theorem parse_nan : parseS ⟨#[78, 65, 78]⟩ = (9221120237041090560, true) := parse_yes okf_nan (by simp only [printS]; rw [if_pos (by decide)])
theorem parse_inf : parseS ⟨#[73, 78, 70]⟩ = (9218868437227405312, true) := parse_yes okf_inf (by simp only [printS]; rw [if_neg (by decide), if_pos (by decide)])
theorem parse_ninf : parseS ⟨#[45, 73, 78, 70]⟩ = (-4503599627370496, true) := parse_yes okf_ninf (by simp only [printS]; rw [if_neg (by decide), if_neg (by decide), if_pos (by decide)])
/-- Whoever prints as s, and s is no word: s is '0f' and 16 digits. -/
theorem print_hex {n : Int} {s : ByteArray} (h : okf n) (hs : printS n = s) (h1 : s ≠ ⟨#[78, 65, 78]⟩) (h2 : s ≠ ⟨#[73, 78, 70]⟩) (h3 : s ≠ ⟨#[45, 73, 78, 70]⟩) : s.data.toList = 48 :: 102 :: hexN 16 (ub n) := by
  rcases print_cases n h.2.2 with ⟨p, _⟩ | ⟨p, _⟩ | ⟨p, _⟩ | p
  · exact absurd (hs.symm.trans p) h1
  · exact absurd (hs.symm.trans p) h2
  · exact absurd (hs.symm.trans p) h3
  · rw [← hs, p]; rfl
/-- The digits are read: now the text decides. -/
theorem parse_end {s : ByteArray} {U : Nat} {a b : UInt8} (hU : U < 18446744073709551616) (hl : s.data.toList = a :: b :: hexN 16 U) : parseS s = if printS (iw U) = s then (iw U, true) else (0, false) := by
  have size : s.data.toList.length = 18 := by rw [hl]; simp [hexN_length]
  have n1 : s ≠ ⟨#[78, 65, 78]⟩ := fun e => by rw [e] at size; exact absurd size (by decide)
  have n2 : s ≠ ⟨#[73, 78, 70]⟩ := fun e => by rw [e] at size; exact absurd size (by decide)
  have n3 : s ≠ ⟨#[45, 73, 78, 70]⟩ := fun e => by rw [e] at size; exact absurd size (by decide)
  split
  · rename_i hp
    refine parse_yes ⟨(iw_bd hU).1, (iw_bd hU).2, ?_⟩ hp
    have hc := print_can (iw U)
    rw [hp] at hc
    have hs16 : s = ⟨(48 :: 102 :: hexN 16 (ub (canS (iw U)))).toArray⟩ := by
      split at hc
      · exact absurd hc n1
      · split at hc
        · exact absurd hc n2
        · split at hc
          · exact absurd hc n3
          · exact hc
    rw [hs16] at hl
    simp only [List.cons.injEq] at hl
    have e := hexN_inj 16 _ _ (ub_lt _) hU hl.2.2
    exact ub_inj (can_bd (iw_bd hU).1 (iw_bd hU).2) (iw_bd hU) (by rw [e, ub_iw hU])
  · rename_i hp
    refine parse_no fun n hn hs => hp ?_
    have := print_hex hn hs n1 n2 n3
    rw [this] at hl
    simp only [List.cons.injEq] at hl
    have e := hexN_inj 16 _ _ (ub_lt _) hU hl.2.2
    rw [← hs]
    congr 1
    exact ub_inj (iw_bd hU) ⟨hn.1, hn.2.1⟩ (by rw [ub_iw hU, e])
theorem parse_short {s : ByteArray} (h1 : s ≠ ⟨#[78, 65, 78]⟩) (h2 : s ≠ ⟨#[73, 78, 70]⟩) (h3 : s ≠ ⟨#[45, 73, 78, 70]⟩) (h : s.size ≠ 18) : parseS s = (0, false) :=
  parse_no fun n hn hs => h (by
    have := congrArg List.length (print_hex hn hs h1 h2 h3)
    simpa [hexN_length] using this)
theorem hexN_get {m U j : Nat} (h : j < m) : (hexN m U).getD j 0 = hexd (U / 16 ^ (m - 1 - j) % 16) := by
  simp [hexN, List.getD, h]
theorem parse_bad {s : ByteArray} {j : Nat} (h1 : s ≠ ⟨#[78, 65, 78]⟩) (h2 : s ≠ ⟨#[73, 78, 70]⟩) (h3 : s ≠ ⟨#[45, 73, 78, 70]⟩) (hj : j < 16) (h : ∀ d, d < 16 → s.data.toList.getD (2 + j) 0 ≠ hexd d) : parseS s = (0, false) :=
  parse_no fun n hn hs => h (ub n / 16 ^ (16 - 1 - j) % 16) (by omega) (by
    rw [print_hex hn hs h1 h2 h3, ← hexN_get hj, Nat.add_comm]
    simp [List.getD])
theorem parse_head {s : ByteArray} (h1 : s ≠ ⟨#[78, 65, 78]⟩) (h2 : s ≠ ⟨#[73, 78, 70]⟩) (h3 : s ≠ ⟨#[45, 73, 78, 70]⟩) (h : s.data.toList.take 2 ≠ [48, 102]) : parseS s = (0, false) :=
  parse_no fun n hn hs => h (by rw [print_hex hn hs h1 h2 h3]; rfl)
/-- The next digit. -/
theorem or_digit {U d : Nat} (hU : U < 1152921504606846976) (hd : d < 16) : IntKind.i64.wrap ((BitVec.ofInt IntKind.i64.bits (IntKind.i64.wrap (iw U * 16)) ||| BitVec.ofInt IntKind.i64.bits (d : Int)).toNat : Int) = iw (U * 16 + d) := by
  have e1 : BitVec.ofInt 64 (IntKind.i64.wrap (iw U * 16)) = BitVec.ofNat 64 (U * 16) := by
    have : iw U = U := by unfold iw; rw [if_pos (by omega)]
    rw [this, ← ofInt_nat]
    apply BitVec.eq_of_toInt_eq
    rw [BitVec.toInt_ofInt, BitVec.toInt_ofInt, wi64_mod]
    simp only [Int.bmod]
    split <;> split <;> split <;> omega
  show IntKind.i64.wrap ((BitVec.ofInt 64 (IntKind.i64.wrap (iw U * 16)) ||| BitVec.ofInt 64 (d : Int)).toNat : Int) = iw (U * 16 + d)
  rw [e1, ofInt_nat, ← iw_wrap (by omega)]
  have e2 : (BitVec.ofNat 64 (U * 16) ||| BitVec.ofNat 64 d).toNat = U * 16 + d := by
    rw [BitVec.toNat_or, BitVec.toNat_ofNat, BitVec.toNat_ofNat, Nat.mod_eq_of_lt (by omega), Nat.mod_eq_of_lt (by omega), show U * 16 = 2 ^ 4 * U by omega, ← Nat.two_pow_add_eq_or_of_lt (by omega)]
  rw [e2]
end Go.Proofs.YtclknendeeljaaaDoor.K
