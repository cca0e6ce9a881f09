/- A framework of our own for walks over the model: Kh. -/
import Derived.Test.YtdehjgpdcdjhjaaKf
namespace Go.Proofs.Ytdehjgpdcdjhjaa.K
open Go Go.RowKit
set_option linter.unusedVariables false
set_option linter.unusedSimpArgs false
/-! Bits of numbers without a sign -/
theorem wrap_nat {k : IntKind} (hs : k.signed = false) {n : Nat} (h : n < 2 ^ k.bits) : k.wrap (n : Int) = n := by
  have h1 : ((n : Int) % (2 ^ k.bits : Int)) = n := by
    have : (n : Int) < (2 ^ k.bits : Int) := by exact_mod_cast h
    exact Int.emod_eq_of_lt (by omega) this
  simp [IntKind.wrap, hs, h1]
theorem ofInt_nat (w n : Nat) : BitVec.ofInt w (n : Int) = BitVec.ofNat w n := by simp
theorem band_nat {k : IntKind} (hs : k.signed = false) {a b : Nat} (ha : a < 2 ^ k.bits) (hb : b < 2 ^ k.bits) : k.wrap ((BitVec.ofInt k.bits (a : Int) &&& BitVec.ofInt k.bits (b : Int)).toNat : Int) = ((a &&& b : Nat) : Int) := by
  rw [ofInt_nat, ofInt_nat, BitVec.toNat_and, BitVec.toNat_ofNat, BitVec.toNat_ofNat, Nat.mod_eq_of_lt ha, Nat.mod_eq_of_lt hb]
  exact wrap_nat hs (Nat.lt_of_le_of_lt Nat.and_le_left ha)
/-- p & (2^j - 1) -/
theorem and_mask {k : IntKind} {p q : Int} (j : Nat) (m : Int) (hs : k.signed = false) (hj : j ≤ k.bits) (hq : q = (2 ^ j - 1 : Nat)) (hm : m = ((2 ^ j : Nat) : Int)) (h0 : 0 ≤ p) (h1 : p < (2 ^ k.bits : Nat)) :
    k.wrap ((BitVec.ofInt k.bits p &&& BitVec.ofInt k.bits q).toNat : Int) = p % m := by
  obtain ⟨a, rfl⟩ : ∃ a : Nat, p = a := ⟨p.toNat, by omega⟩
  have ha : a < 2 ^ k.bits := by exact_mod_cast h1
  have hp : 0 < 2 ^ j := Nat.two_pow_pos j
  have hle : 2 ^ j ≤ 2 ^ k.bits := Nat.pow_le_pow_right (by decide) hj
  rw [hq, band_nat hs ha (by omega), Nat.and_two_pow_sub_one_eq_mod, hm]
  simp
theorem com_u64 {p : Int} (h0 : 0 ≤ p) (h1 : p < 18446744073709551616) : IntKind.u64.wrap ((BitVec.ofInt IntKind.u64.bits (if IntKind.u64.signed then -1 else IntKind.u64.max) ^^^ BitVec.ofInt IntKind.u64.bits p).toNat : Int) = 18446744073709551615 - p := by
  obtain ⟨a, rfl⟩ : ∃ a : Nat, p = a := ⟨p.toNat, by omega⟩
  have ha : a < 2 ^ 64 := by omega
  have e : (if IntKind.u64.signed then -1 else IntKind.u64.max) = ((2 ^ 64 - 1 : Nat) : Int) := by decide
  have e2 : IntKind.u64.bits = 64 := rfl
  rw [e, e2, ofInt_nat, ofInt_nat]
  have : BitVec.ofNat 64 (2 ^ 64 - 1) = BitVec.allOnes 64 := by decide
  rw [this, BitVec.allOnes_xor, BitVec.toNat_not, BitVec.toNat_ofNat, Nat.mod_eq_of_lt ha, wu64_mod]
  omega
/-- p & 0x7ff0000000000000, whole and nothing else. -/
theorem and_exp {p : Int} (h0 : 0 ≤ p) (h1 : p < 18446744073709551616) : IntKind.u64.wrap ((BitVec.ofInt IntKind.u64.bits p &&& BitVec.ofInt IntKind.u64.bits 9218868437227405312).toNat : Int) = p % 9223372036854775808 - p % 4503599627370496 := by
  obtain ⟨a, rfl⟩ : ∃ a : Nat, p = a := ⟨p.toNat, by omega⟩
  have := band_nat (k := .u64) (a := a) (b := 9218868437227405312) rfl (by simp [IntKind.bits]; omega) (by decide)
  rw [show ((9218868437227405312 : Nat) : Int) = 9218868437227405312 from rfl] at this
  rw [this]
  have e1 : a &&& 9218868437227405312 = (a / 2 ^ 52 % 2 ^ 11) * 2 ^ 52 := by
    apply Nat.eq_of_testBit_eq
    intro i
    rw [Nat.testBit_and, Nat.testBit_mul_two_pow, Nat.testBit_mod_two_pow, Nat.testBit_div_two_pow, show (9218868437227405312 : Nat) = (2 ^ 11 - 1) * 2 ^ 52 from rfl, Nat.testBit_mul_two_pow, Nat.testBit_two_pow_sub_one]
    by_cases c : 52 ≤ i
    · have : 52 + (i - 52) = i := by omega
      by_cases d : i - 52 < 11 <;> simp [c, d, this, Nat.add_comm]
    · simp [c]
  rw [e1]
  omega
end Go.Proofs.Ytdehjgpdcdjhjaa.K
