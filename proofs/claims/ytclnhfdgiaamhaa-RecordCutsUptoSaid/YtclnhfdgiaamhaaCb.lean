/- A framework of our own for walks over the model: Cb. -/
import Derived.Test.YtclnhfdgiaamhaaCa
namespace Go.Proofs.Ytclnhfdgiaamhaa.K
open Go Go.RowKit
set_option linter.unusedVariables false
set_option linter.unusedSimpArgs false
/-! ### The sum -/
def crc1 (c : Nat) : Nat := (c / 2) ^^^ (if c % 2 = 1 then 3988292384 else 0)
def crcN : Nat → Nat → Nat
  | 0, c => c
  | k + 1, c => crc1 (crcN k c)
def crcL : Nat → List UInt8 → Nat
  | c, [] => c
  | c, x :: t => crcL (crcN 8 (c ^^^ x.toNat)) t
def sumS (b : List UInt8) : Nat := crcL 4294967295 b ^^^ 4294967295
theorem crc1_lt {c : Nat} (h : c < 4294967296) : crc1 c < 4294967296 := by
  unfold crc1
  exact Nat.xor_lt_two_pow (n := 32) (by omega) (by split <;> omega)
theorem crcN_lt {c : Nat} (h : c < 4294967296) : ∀ k, crcN k c < 4294967296
  | 0 => h
  | k + 1 => crc1_lt (crcN_lt h k)
theorem crc_in {c : Nat} {x : UInt8} (h : c < 4294967296) : c ^^^ x.toNat < 4294967296 := Nat.xor_lt_two_pow (n := 32) h (by have := x.toNat_lt; omega)
theorem crcL_lt : ∀ (b : List UInt8) (c : Nat), c < 4294967296 → crcL c b < 4294967296
  | [], _, h => h
  | _ :: t, _, h => crcL_lt t _ (crcN_lt (crc_in h) 8)
theorem sumS_lt (b : List UInt8) : sumS b < 4294967296 := Nat.xor_lt_two_pow (n := 32) (crcL_lt b _ (by decide)) (by decide)
theorem xor_u32 {a b : Nat} (ha : a < 4294967296) (hb : b < 4294967296) : IntKind.u32.wrap ((BitVec.ofInt IntKind.u32.bits (a : Int) ^^^ BitVec.ofInt IntKind.u32.bits (b : Int)).toNat : Int) = ((a ^^^ b : Nat) : Int) :=
  bxor_nat (k := .u32) rfl (by simpa [IntKind.bits] using ha) (by simpa [IntKind.bits] using hb)
theorem and1_u32 {p : Nat} (h : p < 4294967296) : IntKind.u32.wrap ((BitVec.ofInt IntKind.u32.bits (p : Int) &&& BitVec.ofInt IntKind.u32.bits 1).toNat : Int) = ((p % 2 : Nat) : Int) := by
  have := band_nat (k := .u32) rfl (a := p) (b := 1) (by simpa [IntKind.bits] using h) (by decide)
  rw [show ((1 : Nat) : Int) = 1 from rfl] at this
  rw [this, Nat.and_one_is_mod]
theorem crc_mask (c : Nat) : IntKind.u32.wrap ((BitVec.ofInt IntKind.u32.bits 3988292384 &&& BitVec.ofInt IntKind.u32.bits (IntKind.u32.wrap (0 - ((c % 2 : Nat) : Int)))).toNat : Int) = ((if c % 2 = 1 then 3988292384 else 0 : Nat) : Int) := by
  rcases Nat.mod_two_eq_zero_or_one c with h | h <;> rw [h] <;> rfl
theorem crc_step {c : Nat} (h : c < 4294967296) : IntKind.u32.wrap ((BitVec.ofInt IntKind.u32.bits ((c : Int) / 2) ^^^ BitVec.ofInt IntKind.u32.bits ((if c % 2 = 1 then 3988292384 else 0 : Nat) : Int)).toNat : Int) = ((crc1 c : Nat) : Int) := by
  rw [show (c : Int) / 2 = ((c / 2 : Nat) : Int) by omega]
  exact xor_u32 (by omega) (by split <;> omega)
theorem com_u32 {c : Nat} (h : c < 4294967296) : IntKind.u32.wrap ((BitVec.ofInt IntKind.u32.bits (if IntKind.u32.signed then -1 else IntKind.u32.max) ^^^ BitVec.ofInt IntKind.u32.bits (c : Int)).toNat : Int) = ((c ^^^ 4294967295 : Nat) : Int) := by
  rw [show (if IntKind.u32.signed then -1 else IntKind.u32.max) = ((4294967295 : Nat) : Int) from rfl, xor_u32 (by decide) h, Nat.xor_comm]
def fitsW (w : Nat) (l : List Nat) : Prop := w < 64 → ∀ u ∈ l, u / 2 ^ w = 0
instance (w : Nat) (l : List Nat) : Decidable (fitsW w l) := by unfold fitsW; infer_instance
/-! ### Packing, step by step -/
theorem shr_nat {k : IntKind} {u j : Nat} (h : j ≤ k.bits) : ((u : Int)).fdiv (2 ^ (min (Int.toNat (j : Int)) k.bits)) = ((u / 2 ^ j : Nat) : Int) := by
  rw [Int.toNat_natCast, Nat.min_eq_left h, Int.fdiv_eq_ediv_of_nonneg _ (Int.pow_nonneg (by decide))]
  simp
theorem bdrop (b : List UInt8) (n : Nat) : (bcells b).drop (n * 1) = bcells (b.drop n) := by rw [Nat.mul_one]; simp [bcells, List.map_drop]
end Go.Proofs.Ytclnhfdgiaamhaa.K
