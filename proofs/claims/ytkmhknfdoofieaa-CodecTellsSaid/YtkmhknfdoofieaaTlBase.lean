/-
  Plain lemmas on numbers for the laws of this seat: wraps that change nothing, bits of numbers that are not negative, shifts. No program in sight.
-/
import Derived.Test.YtkmhknfdoofieaaWMore
import Derived.Laws.BitsLemmas
import Derived.IntWalk
namespace Go.Proofs.Ytkmhknfdoofieaa.Tl
open Go.RowKit Go.Proofs.YtkmhknfdoofieaaW.PrintWords Go.Proofs.YtkmhknfdoofieaaW.PrintLast Go.Proofs.YtkmhknfdoofieaaW.PrintMore
set_option linter.unusedVariables false

theorem w64 (n : Int) (h : -9223372036854775808 ≤ n) (h' : n ≤ 9223372036854775807) : wrap64 n = n := by unfold wrap64; omega
theorem u64_mod (n : Int) : IntKind.u64.wrap n = n % 18446744073709551616 := by simp [IntKind.wrap, IntKind.bits, IntKind.signed]
theorem u32_mod (n : Int) : IntKind.u32.wrap n = n % 4294967296 := IntKind.wrap_u32 n
theorem u8_mod (n : Int) : IntKind.u8.wrap n = n % 256 := IntKind.wrap_u8 n
theorem u64_in (n : Int) (h : 0 ≤ n) (h' : n < 18446744073709551616) : IntKind.u64.wrap n = n := by rw [u64_mod]; omega
theorem wf_u64 {n : Int} (h : (Lit.int .u64 n).wf = true) : 0 ≤ n ∧ n < 18446744073709551616 := by
  simp [Lit.wf, IntKind.min, IntKind.max, IntKind.signed, IntKind.bits] at h; omega
theorem wf_u32 {n : Int} (h : (Lit.int .u32 n).wf = true) : 0 ≤ n ∧ n < 4294967296 := by
  simp [Lit.wf, IntKind.min, IntKind.max, IntKind.signed, IntKind.bits] at h; omega
theorem wf_u8 {n : Int} (h : (Lit.int .u8 n).wf = true) : 0 ≤ n ∧ n < 256 := by
  simp [Lit.wf, IntKind.min, IntKind.max, IntKind.signed, IntKind.bits] at h; omega
theorem wf_i64 {n : Int} (h : (Lit.int .i64 n).wf = true) : -9223372036854775808 ≤ n ∧ n ≤ 9223372036854775807 := by
  simp [Lit.wf, IntKind.min, IntKind.max, IntKind.signed, IntKind.bits] at h; omega

/-- The three on numbers that are not negative, of any kind without a sign. -/
theorem bits_of_nat (k : IntKind) (hs : k.signed = false) (a b : Nat) (ha : a < 2 ^ k.bits) (hb : b < 2 ^ k.bits) :
    Go.bits .and k a b = ((a &&& b : Nat) : Int) ∧ Go.bits .or k a b = ((a ||| b : Nat) : Int) ∧ Go.bits .xor k a b = ((a ^^^ b : Nat) : Int) := by
  have ha' : a % 2 ^ k.bits = a := Nat.mod_eq_of_lt ha
  have hb' : b % 2 ^ k.bits = b := Nat.mod_eq_of_lt hb
  have hw : ∀ n : Nat, n < 2 ^ k.bits → k.wrap (n : Int) = n := by
    intro n hn
    unfold IntKind.wrap
    rw [hs]
    have : ((n : Int) % (2 ^ k.bits : Int)) = n := by
      rw [Int.emod_eq_of_lt (Int.natCast_nonneg _)]
      exact_mod_cast hn
    simp [this]
  refine ⟨?_, ?_, ?_⟩
  · simp only [Go.bits, BitVec.ofInt_natCast, BitVec.toNat_and, BitVec.toNat_ofNat, ha', hb']
    exact hw _ (Nat.and_lt_two_pow _ hb)
  · simp only [Go.bits, BitVec.ofInt_natCast, BitVec.toNat_or, BitVec.toNat_ofNat, ha', hb']
    exact hw _ (Nat.or_lt_two_pow ha hb)
  · simp only [Go.bits, BitVec.ofInt_natCast, BitVec.toNat_xor, BitVec.toNat_ofNat, ha', hb']
    exact hw _ (Nat.xor_lt_two_pow ha hb)

theorem and_nat {k : IntKind} (hs : k.signed = false) {a b : Nat} (ha : a < 2 ^ k.bits) (hb : b < 2 ^ k.bits) : Go.bits .and k a b = ((a &&& b : Nat) : Int) := (bits_of_nat k hs a b ha hb).1
theorem or_nat {k : IntKind} (hs : k.signed = false) {a b : Nat} (ha : a < 2 ^ k.bits) (hb : b < 2 ^ k.bits) : Go.bits .or k a b = ((a ||| b : Nat) : Int) := (bits_of_nat k hs a b ha hb).2.1
theorem xor_nat {k : IntKind} (hs : k.signed = false) {a b : Nat} (ha : a < 2 ^ k.bits) (hb : b < 2 ^ k.bits) : Go.bits .xor k a b = ((a ^^^ b : Nat) : Int) := (bits_of_nat k hs a b ha hb).2.2

/-- A mask of low bits is a rest. -/
theorem and_mask {k : IntKind} (hs : k.signed = false) (i : Nat) (hi : i ≤ k.bits) (x : Int) (h0 : 0 ≤ x) (h1 : x < 2 ^ k.bits) : Go.bits .and k x (2 ^ i - 1) = x % 2 ^ i := by
  obtain ⟨a, rfl⟩ := Int.eq_ofNat_of_zero_le h0
  have ha : a < 2 ^ k.bits := by exact_mod_cast h1
  have hpos : 0 < 2 ^ i := Nat.two_pow_pos i
  have hm : 2 ^ i - 1 < 2 ^ k.bits := Nat.lt_of_lt_of_le (Nat.sub_lt hpos (by decide)) (Nat.pow_le_pow_right (by decide) hi)
  have hc : ((2 : Int) ^ i - 1) = ((2 ^ i - 1 : Nat) : Int) := by
    rw [Int.natCast_sub hpos]; simp
  rw [hc, and_nat hs ha hm, Nat.and_two_pow_sub_one_eq_mod]
  simp
/-- Numbers whose bits do not meet: 'or' adds. -/
theorem or_add {k : IntKind} (hs : k.signed = false) (i : Nat) (x y : Int) (hx0 : 0 ≤ x) (hx : x % 2 ^ i = 0) (hx1 : x < 2 ^ k.bits) (hy0 : 0 ≤ y) (hy : y < 2 ^ i) (hy1 : y < 2 ^ k.bits) : Go.bits .or k x y = x + y := by
  obtain ⟨a, rfl⟩ := Int.eq_ofNat_of_zero_le hx0
  obtain ⟨b, rfl⟩ := Int.eq_ofNat_of_zero_le hy0
  have ha : a < 2 ^ k.bits := by exact_mod_cast hx1
  have hb : b < 2 ^ k.bits := by exact_mod_cast hy1
  have hb' : b < 2 ^ i := by exact_mod_cast hy
  have hd : a % 2 ^ i = 0 := by exact_mod_cast hx
  have hq : a = 2 ^ i * (a / 2 ^ i) := by
    have := Nat.div_add_mod a (2 ^ i)
    omega
  rw [or_nat hs ha hb]
  conv => lhs; rw [hq, ← Nat.two_pow_add_eq_or_of_lt hb' (a / 2 ^ i)]
  rw [← hq]; simp
theorem bor_comm {k : IntKind} (x y : Int) : Go.bits .or k x y = Go.bits .or k y x := by simp only [Go.bits, BitVec.or_comm]
theorem bxor_comm {k : IntKind} (x y : Int) : Go.bits .xor k x y = Go.bits .xor k y x := by simp only [Go.bits, BitVec.xor_comm]
theorem band_comm {k : IntKind} (x y : Int) : Go.bits .and k x y = Go.bits .and k y x := by simp only [Go.bits, BitVec.and_comm]
/-- In every case the answer is one of the kind. -/
theorem bits_range {k : IntKind} (hs : k.signed = false) (op : BinOp) (x y : Int) : 0 ≤ Go.bits op k x y ∧ Go.bits op k x y < 2 ^ k.bits := by
  unfold Go.bits IntKind.wrap
  rw [hs]
  simp only [Bool.false_and, Bool.false_eq_true, if_false]
  exact ⟨Int.emod_nonneg _ (by have := Int.pow_pos (n := 2) (m := k.bits) (by decide); omega), Int.emod_lt_of_pos _ (Int.pow_pos (by decide))⟩

theorem u8_and127 {x : Int} (h0 : 0 ≤ x) (h1 : x < 256) : Go.bits .and .u8 x 127 = x % 128 := and_mask (k := .u8) rfl 7 (by decide) x h0 h1
theorem u8_orhi {x : Int} (h0 : 0 ≤ x) (h1 : x < 256) : Go.bits .or .u8 x 128 = x % 128 + 128 := by
  obtain ⟨a, rfl⟩ := Int.eq_ofNat_of_zero_le h0
  have ha : a < 256 := by omega
  have key : ∀ a : Fin 256, (a.val ||| 128) = a.val % 128 + 128 := by decide +kernel
  rw [show ((128 : Int)) = ((128 : Nat) : Int) from rfl, or_nat rfl (by exact ha) (by decide), show a ||| 128 = a % 128 + 128 from key ⟨a, ha⟩]
  omega

theorem u64_wrap_lt {n : Nat} (h : n < 18446744073709551616) : IntKind.u64.wrap (n : Int) = n := u64_in _ (by omega) (by omega)
/-- All bits turned. -/
theorem not_u64 {x : Nat} (h : x < 18446744073709551616) : Go.bits .xor .u64 18446744073709551615 (x : Int) = ((18446744073709551615 - x : Nat) : Int) := by
  have e : BitVec.ofInt 64 18446744073709551615 = BitVec.allOnes 64 := by decide
  have e2 : (BitVec.allOnes 64 ^^^ BitVec.ofNat 64 x).toNat = 18446744073709551615 - x := by
    rw [BitVec.allOnes_xor, BitVec.toNat_not, BitVec.toNat_ofNat, Nat.mod_eq_of_lt (by simpa using h)]
  show IntKind.u64.wrap (((BitVec.ofInt 64 18446744073709551615 ^^^ BitVec.ofInt 64 (x : Int)).toNat : Nat) : Int) = _
  rw [e, BitVec.ofInt_natCast, e2, u64_wrap_lt (by omega)]
/-- The same of ints that are not negative; and no bit turned. -/
theorem not_i64 {x : Nat} (h : x < 9223372036854775808) : Go.bits .xor .i64 (x : Int) (-1) = -(x : Int) - 1 := by
  have e : BitVec.ofInt 64 (-1) = BitVec.allOnes 64 := by decide
  have e2 : (BitVec.ofNat 64 x ^^^ BitVec.allOnes 64).toNat = 18446744073709551615 - x := by
    rw [BitVec.xor_allOnes, BitVec.toNat_not, BitVec.toNat_ofNat, Nat.mod_eq_of_lt (by omega)]
  show IntKind.i64.wrap (((BitVec.ofInt 64 (x : Int) ^^^ BitVec.ofInt 64 (-1)).toNat : Nat) : Int) = _
  rw [e, BitVec.ofInt_natCast, e2, IntKind.wrap_i64]
  omega
theorem xor_zero_i64 {x : Nat} (h : x < 9223372036854775808) : Go.bits .xor .i64 (x : Int) 0 = x := by
  have e : BitVec.ofInt 64 0 = 0#64 := by decide
  have e2 : (BitVec.ofNat 64 x ^^^ 0#64).toNat = x := by
    rw [BitVec.xor_zero, BitVec.toNat_ofNat, Nat.mod_eq_of_lt (by omega)]
  show IntKind.i64.wrap (((BitVec.ofInt 64 (x : Int) ^^^ BitVec.ofInt 64 0).toNat : Nat) : Int) = _
  rw [e, BitVec.ofInt_natCast, e2, IntKind.wrap_i64]
  omega
/-- The highest bit. -/
theorem and_top {k : Nat} (hk : k < 18446744073709551616) : Go.bits .and .u64 (k : Int) 9223372036854775808 = if k < 9223372036854775808 then 0 else 9223372036854775808 := by
  rw [show (9223372036854775808 : Int) = ((9223372036854775808 : Nat) : Int) from rfl, and_nat (k := .u64) rfl (by simpa [IntKind.bits] using hk) (by decide)]
  have hb : ∀ i, (k &&& 9223372036854775808).testBit i = (decide (63 = i) && k.testBit 63) := by
    intro i
    rw [Nat.testBit_and, show (9223372036854775808 : Nat) = 2 ^ 63 from rfl, Nat.testBit_two_pow]
    by_cases h : 63 = i
    · subst h; simp
    · simp [h]
  by_cases c : k < 9223372036854775808
  · rw [if_pos c]
    have : k &&& 9223372036854775808 = 0 := by
      apply Nat.eq_of_testBit_eq
      intro i
      rw [hb, Nat.testBit_lt_two_pow (show k < 2 ^ 63 from c)]
      simp
    rw [this]; rfl
  · rw [if_neg c]
    have : k &&& 9223372036854775808 = 9223372036854775808 := by
      apply Nat.eq_of_testBit_eq
      intro i
      have h2 : k.testBit 63 = true := by
        rw [Nat.testBit_eq_decide_div_mod_eq, show k / 2 ^ 63 = 1 from by omega]; rfl
      rw [hb, h2, show (9223372036854775808 : Nat) = 2 ^ 63 from rfl, Nat.testBit_two_pow]
      simp
    rw [this]
/-- All but the highest bit. -/
theorem andNot_top {k : Nat} (hk : k < 18446744073709551616) : Go.bits .andNot .u64 (k : Int) 9223372036854775808 = ((k % 9223372036854775808 : Nat) : Int) := by
  have e : ~~~ (BitVec.ofInt 64 9223372036854775808) = BitVec.ofNat 64 (2 ^ 63 - 1) := by decide
  have e2 : (BitVec.ofNat 64 k &&& BitVec.ofNat 64 (2 ^ 63 - 1)).toNat = k % 9223372036854775808 := by
    rw [BitVec.toNat_and, BitVec.toNat_ofNat, BitVec.toNat_ofNat, Nat.mod_eq_of_lt (a := k) (by simpa using hk), Nat.mod_eq_of_lt (a := 2 ^ 63 - 1) (by decide), Nat.and_two_pow_sub_one_eq_mod]
  show IntKind.u64.wrap (((BitVec.ofInt 64 (k : Int) &&& ~~~ (BitVec.ofInt 64 9223372036854775808)).toNat : Nat) : Int) = _
  rw [e, BitVec.ofInt_natCast, e2, u64_wrap_lt (by omega)]

/-- What 'rd' reads. -/
theorem rd_nat (l : List Int) (n : Nat) : rd l (n : Int) = l.getD n 0 := rfl
theorem rd_append_self (l : List Int) (x : Int) (t : List Int) : rd (l ++ x :: t) (l.length : Int) = x := by
  unfold rd; simp [List.getD]
theorem strOfNums_eq {a b : List Int} (h : a = b) : ((strOfNums a).toList == (strOfNums b).toList) = true := by subst h; simp

end Go.Proofs.Ytkmhknfdoofieaa.Tl
