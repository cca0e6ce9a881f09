/- A framework of our own for walks over the model: Kh. -/
import Derived.Test.YtclknendeeljaaaDoorKf
namespace Go.Proofs.YtclknendeeljaaaDoor.K
open Go Go.RowKit
set_option linter.unusedVariables false
set_option linter.unusedSimpArgs false
/-! Bits of numbers without a sign -/
theorem wrap_nat {k : IntKind} (hs : k.signed = false) {n : Nat} (h : n < 2 ^ k.bits) : k.wrap (n : Int) = n := by
  have h1 : ((n : Int) % (2 ^ k.bits : Int)) = n := by
    have : (n : Int) < (2 ^ k.bits : Int) := by exact_mod_cast h
    exact Int.emod_eq_of_lt (by omega) this
  simp [IntKind.wrap, hs, h1]
theorem ofInt_nat (w n : Nat) : BitVec.ofInt w (n : Int) = BitVec.ofNat w n := by simp
theorem band_nat {k : IntKind} (hs : k.signed = false) {a b : Nat} (ha : a < 2 ^ k.bits) (hb : b < 2 ^ k.bits) : k.wrap ((BitVec.ofInt k.bits (a : Int) &&& BitVec.ofInt k.bits (b : Int)).toNat : Int) = ((a &&& b : Nat) : Int) := by
  rw [ofInt_nat, ofInt_nat, BitVec.toNat_and, BitVec.toNat_ofNat, BitVec.toNat_ofNat, Nat.mod_eq_of_lt ha, Nat.mod_eq_of_lt hb]
  exact wrap_nat hs (Nat.lt_of_le_of_lt Nat.and_le_left ha)
theorem bor_nat {k : IntKind} (hs : k.signed = false) {a b : Nat} (ha : a < 2 ^ k.bits) (hb : b < 2 ^ k.bits) : k.wrap ((BitVec.ofInt k.bits (a : Int) ||| BitVec.ofInt k.bits (b : Int)).toNat : Int) = ((a ||| b : Nat) : Int) := by
  rw [ofInt_nat, ofInt_nat, BitVec.toNat_or, BitVec.toNat_ofNat, BitVec.toNat_ofNat, Nat.mod_eq_of_lt ha, Nat.mod_eq_of_lt hb]
  exact wrap_nat hs (Nat.or_lt_two_pow ha hb)
theorem bxor_nat {k : IntKind} (hs : k.signed = false) {a b : Nat} (ha : a < 2 ^ k.bits) (hb : b < 2 ^ k.bits) : k.wrap ((BitVec.ofInt k.bits (a : Int) ^^^ BitVec.ofInt k.bits (b : Int)).toNat : Int) = ((a ^^^ b : Nat) : Int) := by
  rw [ofInt_nat, ofInt_nat, BitVec.toNat_xor, BitVec.toNat_ofNat, BitVec.toNat_ofNat, Nat.mod_eq_of_lt ha, Nat.mod_eq_of_lt hb]
  exact wrap_nat hs (Nat.xor_lt_two_pow ha hb)
/-- p & (2^j - 1) -/
theorem and_mask {k : IntKind} {p q : Int} (j : Nat) (m : Int) (hs : k.signed = false) (hj : j ≤ k.bits) (hq : q = (2 ^ j - 1 : Nat)) (hm : m = ((2 ^ j : Nat) : Int)) (h0 : 0 ≤ p) (h1 : p < (2 ^ k.bits : Nat)) :
    k.wrap ((BitVec.ofInt k.bits p &&& BitVec.ofInt k.bits q).toNat : Int) = p % m := by
  obtain ⟨a, rfl⟩ : ∃ a : Nat, p = a := ⟨p.toNat, by omega⟩
  have ha : a < 2 ^ k.bits := by exact_mod_cast h1
  have hp : 0 < 2 ^ j := Nat.two_pow_pos j
  have hle : 2 ^ j ≤ 2 ^ k.bits := Nat.pow_le_pow_right (by decide) hj
  rw [hq, band_nat hs ha (by omega), Nat.and_two_pow_sub_one_eq_mod, hm]
  simp
theorem nat_xor_top {a : Nat} (h : a < 18446744073709551616) : a ^^^ 9223372036854775808 = if a < 9223372036854775808 then a + 9223372036854775808 else a - 9223372036854775808 := by
  have key : ∀ r : Nat, r < 2 ^ 63 → r ^^^ 9223372036854775808 = r + 9223372036854775808 := fun r hr => by
    have h1 : r + 9223372036854775808 = 2 ^ 63 * 1 ||| r := by rw [← Nat.two_pow_add_eq_or_of_lt hr 1]; omega
    rw [h1]
    apply Nat.eq_of_testBit_eq
    intro i
    rw [Nat.testBit_xor, Nat.testBit_or, show (9223372036854775808 : Nat) = 2 ^ 63 from rfl, Nat.mul_one, Nat.testBit_two_pow]
    by_cases e : 63 = i
    · subst e
      simp [Nat.testBit_lt_two_pow hr]
    · simp [e]
  split
  · rename_i hlt
    exact key a hlt
  · rename_i hge
    have h2 := key (a - 9223372036854775808) (by omega)
    have h3 : a = (a - 9223372036854775808) ^^^ 9223372036854775808 := by rw [h2]; omega
    have h4 : a ^^^ 9223372036854775808 = ((a - 9223372036854775808) ^^^ 9223372036854775808) ^^^ 9223372036854775808 := by rw [← h3]
    rw [h4, Nat.xor_assoc, Nat.xor_self, Nat.xor_zero]
theorem mask16 {x : Nat} (h : x < 18446744073709551616) : IntKind.u64.wrap ((BitVec.ofInt IntKind.u64.bits (x : Int) &&& BitVec.ofInt IntKind.u64.bits 15).toNat : Int) = (x : Int) % 16 :=
  and_mask 4 16 rfl (by decide) rfl rfl (by omega) (by simp [IntKind.bits]; omega)
end Go.Proofs.YtclknendeeljaaaDoor.K
