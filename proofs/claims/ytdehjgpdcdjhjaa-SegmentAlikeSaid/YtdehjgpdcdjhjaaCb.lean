/- A framework of our own for walks over the model: Cb. -/
import Derived.Test.YtdehjgpdcdjhjaaCa
namespace Go.Proofs.Ytdehjgpdcdjhjaa.K
open Go Go.RowKit
set_option linter.unusedVariables false
set_option linter.unusedSimpArgs false
/-! ### The sum -/
def crc1 (c : Nat) : Nat := (c / 2) ^^^ (if c % 2 = 1 then 3988292384 else 0)
def crcN : Nat → Nat → Nat
  | 0, c => c
  | k + 1, c => crc1 (crcN k c)
def crcL : Nat → List UInt8 → Nat
  | c, [] => c
  | c, x :: t => crcL (crcN 8 (c ^^^ x.toNat)) t
def sumS (b : List UInt8) : Nat := crcL 4294967295 b ^^^ 4294967295
theorem crc1_lt {c : Nat} (h : c < 4294967296) : crc1 c < 4294967296 := by
  unfold crc1
  exact Nat.xor_lt_two_pow (n := 32) (by omega) (by split <;> omega)
theorem crcN_lt {c : Nat} (h : c < 4294967296) : ∀ k, crcN k c < 4294967296
  | 0 => h
  | k + 1 => crc1_lt (crcN_lt h k)
theorem crc_in {c : Nat} {x : UInt8} (h : c < 4294967296) : c ^^^ x.toNat < 4294967296 := Nat.xor_lt_two_pow (n := 32) h (by have := x.toNat_lt; omega)
theorem xor_u32 {a b : Nat} (ha : a < 4294967296) (hb : b < 4294967296) : IntKind.u32.wrap ((BitVec.ofInt IntKind.u32.bits (a : Int) ^^^ BitVec.ofInt IntKind.u32.bits (b : Int)).toNat : Int) = ((a ^^^ b : Nat) : Int) :=
  bxor_nat (k := .u32) rfl (by simpa [IntKind.bits] using ha) (by simpa [IntKind.bits] using hb)
theorem and1_u32 {p : Nat} (h : p < 4294967296) : IntKind.u32.wrap ((BitVec.ofInt IntKind.u32.bits (p : Int) &&& BitVec.ofInt IntKind.u32.bits 1).toNat : Int) = ((p % 2 : Nat) : Int) := by
  have := band_nat (k := .u32) rfl (a := p) (b := 1) (by simpa [IntKind.bits] using h) (by decide)
  rw [show ((1 : Nat) : Int) = 1 from rfl] at this
  rw [this, Nat.and_one_is_mod]
theorem crc_mask (c : Nat) : IntKind.u32.wrap ((BitVec.ofInt IntKind.u32.bits 3988292384 &&& BitVec.ofInt IntKind.u32.bits (IntKind.u32.wrap (0 - ((c % 2 : Nat) : Int)))).toNat : Int) = ((if c % 2 = 1 then 3988292384 else 0 : Nat) : Int) := by
  rcases Nat.mod_two_eq_zero_or_one c with h | h <;> rw [h] <;> rfl
theorem crc_step {c : Nat} (h : c < 4294967296) : IntKind.u32.wrap ((BitVec.ofInt IntKind.u32.bits ((c : Int) / 2) ^^^ BitVec.ofInt IntKind.u32.bits ((if c % 2 = 1 then 3988292384 else 0 : Nat) : Int)).toNat : Int) = ((crc1 c : Nat) : Int) := by
  rw [show (c : Int) / 2 = ((c / 2 : Nat) : Int) by omega]
  exact xor_u32 (by omega) (by split <;> omega)
theorem com_u32 {c : Nat} (h : c < 4294967296) : IntKind.u32.wrap ((BitVec.ofInt IntKind.u32.bits (if IntKind.u32.signed then -1 else IntKind.u32.max) ^^^ BitVec.ofInt IntKind.u32.bits (c : Int)).toNat : Int) = ((c ^^^ 4294967295 : Nat) : Int) := by
  rw [show (if IntKind.u32.signed then -1 else IntKind.u32.max) = ((4294967295 : Nat) : Int) from rfl, xor_u32 (by decide) h, Nat.xor_comm]
/-! ### Bits -/
def bitsN (f : Nat → Bool) : Nat → Nat
  | 0 => 0
  | k + 1 => bitsN f k + (f k).toNat * 2 ^ k
theorem bitsN_lt (f : Nat → Bool) : ∀ k, bitsN f k < 2 ^ k
  | 0 => by simp [bitsN]
  | k + 1 => by
    have h := bitsN_lt f k
    have hb : (f k).toNat ≤ 1 := by cases f k <;> decide
    have := Nat.mul_le_mul_right (2 ^ k) hb
    simp only [bitsN, Nat.pow_succ]
    omega
theorem bitsN_bit (f : Nat → Bool) : ∀ k t, (bitsN f k).testBit t = (decide (t < k) && f t)
  | 0, t => by simp [bitsN]
  | k + 1, t => by
    have h := Nat.testBit_two_pow_mul_add (f k).toNat (bitsN_lt f k) t
    rw [Nat.mul_comm, Nat.add_comm] at h
    rw [bitsN, h, bitsN_bit f k t]
    by_cases h1 : t < k
    · simp [h1, show t < k + 1 by omega]
    · by_cases h2 : t = k
      · subst h2; cases f t <;> simp
      · have h3 : 0 < t - k := by omega
        have : (f k).toNat.testBit (t - k) = false := by
          obtain ⟨d, hd⟩ : ∃ d, t - k = d + 1 := ⟨t - k - 1, by omega⟩
          rw [hd]; cases f k <;> simp [Nat.testBit_succ]
        simp [h1, this, show ¬ t < k + 1 by omega]
theorem bitsN_congr {f g : Nat → Bool} : ∀ {k : Nat}, (∀ t, t < k → f t = g t) → bitsN f k = bitsN g k
  | 0, _ => rfl
  | k + 1, h => by
    simp only [bitsN]
    rw [bitsN_congr (k := k) (fun t ht => h t (by omega)), h k (by omega)]
/-- N bytes, of which the bits below m are those of f. -/
def packP (N : Nat) (f : Nat → Bool) (m : Nat) : List UInt8 := (List.range N).map fun j => UInt8.ofNat (bitsN (fun t => decide (8 * j + t < m) && f (8 * j + t)) 8)
theorem packP_len (N : Nat) (f : Nat → Bool) (m : Nat) : (packP N f m).length = N := by simp [packP]
theorem packP_zero (N : Nat) (f : Nat → Bool) : packP N f 0 = List.replicate N 0 := by
  apply List.ext_getElem?
  intro j
  simp only [packP, List.getElem?_map, List.getElem?_replicate]
  by_cases h : j < N
  · rw [List.getElem?_range h, if_pos h]
    have : bitsN (fun t => decide (8 * j + t < 0) && f (8 * j + t)) 8 = 0 := by
      rw [bitsN_congr (g := fun _ => false) (fun t _ => by simp)]; decide
    simp only [Option.map_some]
    rw [this]; rfl
  · rw [if_neg h, List.getElem?_eq_none (by simpa using h)]; rfl
theorem packP_get {N j m : Nat} {f : Nat → Bool} (h : j < N) : ((packP N f m).getD j 0).toNat = bitsN (fun t => decide (8 * j + t < m) && f (8 * j + t)) 8 := by
  have hl := bitsN_lt (fun t => decide (8 * j + t < m) && f (8 * j + t)) 8
  rw [List.getD_eq_getElem?_getD, packP, List.getElem?_map, List.getElem?_range h]
  simp only [Option.map_some, Option.getD_some]
  exact u8_ofNat (by simpa using hl)
theorem packP_step {N m : Nat} {f : Nat → Bool} (h : m / 8 < N) : (packP N f m).set (m / 8) (UInt8.ofNat (((packP N f m).getD (m / 8) 0).toNat ||| (f m).toNat * 2 ^ (m % 8))) = packP N f (m + 1) := by
  apply List.ext_getElem?
  intro j
  rw [List.getElem?_set]
  by_cases hj : m / 8 = j
  · subst hj
    rw [if_pos rfl, if_pos (by rw [packP_len]; exact h), packP_get h]
    simp only [packP, List.getElem?_map, List.getElem?_range h, Option.map_some]
    congr 2
    apply Nat.eq_of_testBit_eq
    intro t
    rw [Nat.testBit_or, bitsN_bit, bitsN_bit, ← Nat.shiftLeft_eq, Nat.testBit_shiftLeft]
    by_cases ht : t = m % 8
    · subst ht
      have e : 8 * (m / 8) + m % 8 = m := by omega
      rw [e]
      cases f m <;> simp [Nat.mod_lt]
    · have h2 : (f m).toNat.testBit (t - m % 8) = true → t < m % 8 := by
        intro hh
        rcases Nat.lt_or_ge t (m % 8) with h | h
        · exact h
        · obtain ⟨d, hd⟩ : ∃ d, t - m % 8 = d + 1 := ⟨t - m % 8 - 1, by omega⟩
          rw [hd] at hh; cases hf : f m <;> rw [hf] at hh <;> simp [Nat.testBit_succ] at hh
      have h3 : (decide (t ≥ m % 8) && (f m).toNat.testBit (t - m % 8)) = false := by
        cases hb : (f m).toNat.testBit (t - m % 8) with
        | false => simp
        | true => have := h2 hb; simp; omega
      rw [h3, Bool.or_false]
      by_cases h8 : t < 8
      · have : decide (8 * (m / 8) + t < m) = decide (8 * (m / 8) + t < m + 1) := by rw [decide_eq_decide]; omega
        rw [this]
      · simp [h8]
  · rw [if_neg hj]
    simp only [packP, List.getElem?_map]
    by_cases hN : j < N
    · rw [List.getElem?_range hN]
      simp only [Option.map_some]
      congr 2
      apply bitsN_congr
      intro t ht
      have : decide (8 * j + t < m) = decide (8 * j + t < m + 1) := by rw [decide_eq_decide]; omega
      rw [this]
    · rw [List.getElem?_eq_none (by simpa using hN), Option.map_none, Option.map_none]
def bitAt (w : Nat) (l : List Nat) (p : Nat) : Bool := decide (p < w * l.length) && (l.getD (p / w) 0).testBit (p % w)
def packS (w : Nat) (l : List Nat) : List UInt8 := packP ((w * l.length + 7) / 8) (bitAt w l) (w * l.length)
theorem packS_len (w : Nat) (l : List Nat) : (packS w l).length = (w * l.length + 7) / 8 := packP_len _ _ _
def fitsW (w : Nat) (l : List Nat) : Prop := w < 64 → ∀ u ∈ l, u / 2 ^ w = 0
instance (w : Nat) (l : List Nat) : Decidable (fitsW w l) := by unfold fitsW; infer_instance
/-! ### Packing, step by step -/
theorem shr_nat {k : IntKind} {u j : Nat} (h : j ≤ k.bits) : ((u : Int)).fdiv (2 ^ (min (Int.toNat (j : Int)) k.bits)) = ((u / 2 ^ j : Nat) : Int) := by
  rw [Int.toNat_natCast, Nat.min_eq_left h, Int.fdiv_eq_ediv_of_nonneg _ (Int.pow_nonneg (by decide))]
  simp
theorem shl_bit {x s : Nat} {q : Int} (hx : x ≤ 1) (hq : q = (s : Int)) (hs : s < 8) : IntKind.u8.wrap ((x : Int) * 2 ^ (min (Int.toNat q) IntKind.u8.bits)) = ((x * 2 ^ s : Nat) : Int) := by
  have e : min (Int.toNat q) IntKind.u8.bits = s := by simp only [IntKind.bits]; omega
  have e2 : (x : Int) * 2 ^ s = ((x * 2 ^ s : Nat) : Int) := by simp
  have h1 := Nat.mul_le_mul hx (Nat.pow_le_pow_right (n := 2) (by decide) (show s ≤ 7 by omega))
  rw [e, e2]
  exact w_u8 (by omega) (by simp at h1; omega)
theorem bit_lt {x s : Nat} (hx : x ≤ 1) (hs : s < 8) : x * 2 ^ s < 256 := by
  have h1 := Nat.mul_le_mul hx (Nat.pow_le_pow_right (n := 2) (by decide) (show s ≤ 7 by omega))
  simp at h1
  omega
theorem or_u8 {a b : Nat} (ha : a < 256) (hb : b < 256) : IntKind.u8.wrap ((BitVec.ofInt IntKind.u8.bits (a : Int) ||| BitVec.ofInt IntKind.u8.bits (b : Int)).toNat : Int) = ((a ||| b : Nat) : Int) :=
  bor_nat (k := .u8) rfl (by simpa [IntKind.bits] using ha) (by simpa [IntKind.bits] using hb)
theorem or_lt8 {a b : Nat} (ha : a < 256) (hb : b < 256) : a ||| b < 256 := Nat.or_lt_two_pow (n := 8) ha hb
theorem laid_set {l : List UInt8} {j x : Nat} (h : j < l.length) (hx : x < 256) : laid (bcells l) j (Value.cells (.int .u8 (x : Int))).toList = bcells (l.set j (UInt8.ofNat x)) := by
  have e : (Value.cells (.int .u8 (x : Int))).toList = [Value.int .u8 (x : Int)] := rfl
  rw [e]
  unfold laid
  rw [List.set_eq_take_append_cons_drop, if_pos h]
  simp [bcells, List.map_take, List.map_drop, u8_ofNat hx]
theorem laid_pack {N m idx x : Nat} {f : Nat → Bool} (hidx : idx = m / 8) (h : m / 8 < N) (hx : x = ((packP N f m).getD (m / 8) 0).toNat ||| (f m).toNat * 2 ^ (m % 8)) : laid (bcells (packP N f m)) idx (Value.cells (.int .u8 (x : Int))).toList = bcells (packP N f (m + 1)) := by
  have hx8 : x < 256 := by
    rw [hx]
    exact or_lt8 ((packP N f m).getD (m / 8) 0).toNat_lt (bit_lt (by cases f m <;> decide) (Nat.mod_lt _ (by decide)))
  rw [hidx, laid_set (by rw [packP_len]; exact h) hx8, hx, packP_step h]
theorem bitAt_at {w i k : Nat} {l : List Nat} (hi : i < l.length) (hk : k < w) : bitAt w l (i * w + k) = (l.getD i 0).testBit k := by
  have h1 := Nat.mul_le_mul_right w (show i + 1 ≤ l.length from hi)
  rw [Nat.add_mul, Nat.one_mul, Nat.mul_comm l.length] at h1
  have e1 : (i * w + k) / w = i := by rw [Nat.add_comm, Nat.add_mul_div_right _ _ (by omega), Nat.div_eq_of_lt hk, Nat.zero_add]
  have e2 : (i * w + k) % w = k := by rw [Nat.add_comm, Nat.add_mul_mod_self_right, Nat.mod_eq_of_lt hk]
  unfold bitAt
  rw [e1, e2]
  simp; omega
theorem row_lt {w i k n : Nat} (hi : i < n) (hk : k < w) : i * w + k < w * n := by
  have h1 := Nat.mul_le_mul_right w (show i + 1 ≤ n from hi)
  rw [Nat.add_mul, Nat.one_mul, Nat.mul_comm n] at h1
  omega
theorem row_le {w i n : Nat} (hi : i ≤ n) : i * w ≤ w * n := by
  rw [Nat.mul_comm w n]; exact Nat.mul_le_mul_right w hi
def packB (w : Int) (l : List Nat) : List UInt8 := if 0 ≤ w ∧ w ≤ 64 then (if fitsW w.toNat l then packS w.toNat l else []) else []
def packE (w : Int) (l : List Nat) : Int := if 0 ≤ w ∧ w ≤ 64 then (if fitsW w.toNat l then 0 else 6) else 2
end Go.Proofs.Ytdehjgpdcdjhjaa.K
