/- A framework of our own for walks over the model: Ca. -/
import Derived.Test.YtdehjgpdcdjhjaaKy
namespace Go.Proofs.Ytdehjgpdcdjhjaa.K
open Go Go.RowKit
set_option linter.unusedVariables false
set_option linter.unusedSimpArgs false
/-! ### Numbers in bytes, seven bits each -/
def putF : Nat → Nat → List UInt8
  | 0, _ => []
  | k + 1, u => if u < 128 then [UInt8.ofNat u] else UInt8.ofNat (u % 128 + 128) :: putF k (u / 128)
def putN (u : Nat) : List UInt8 := putF 10 u
theorem u8_ofNat {n : Nat} (h : n < 256) : (UInt8.ofNat n).toNat = n := by simp [UInt8.toNat_ofNat']; omega
theorem putF_len : ∀ (k u : Nat), (putF k u).length ≤ k
  | 0, _ => by simp [putF]
  | k + 1, u => by
    unfold putF
    split
    · simp
    · have := putF_len k (u / 128)
      simp; exact this
theorem putN_len (u : Nat) : (putN u).length ≤ 10 := putF_len 10 u
/-! ints without a sign -/
def zigS (n : Int) : Nat := (if n < 0 then -2 * n - 1 else 2 * n).toNat
theorem zigS_lt {n : Int} (h1 : -9223372036854775808 ≤ n) (h2 : n < 9223372036854775808) : zigS n < 18446744073709551616 := by unfold zigS; split <;> omega
theorem xor_ones {k : IntKind} (hs : k.signed = false) {p : Nat} (hp : p < 2 ^ k.bits) : k.wrap ((BitVec.ofInt k.bits (p : Int) ^^^ BitVec.ofInt k.bits ((2 ^ k.bits - 1 : Nat) : Int)).toNat : Int) = ((2 ^ k.bits - 1 - p : Nat) : Int) := by
  have hpos : 0 < 2 ^ k.bits := Nat.pow_pos (by decide)
  rw [bxor_nat hs hp (by omega)]
  congr 1
  apply Nat.eq_of_testBit_eq
  intro i
  rw [Nat.testBit_xor, Nat.testBit_two_pow_sub_one]
  have e : 2 ^ k.bits - 1 - p = 2 ^ k.bits - (p + 1) := by omega
  rw [e, Nat.testBit_two_pow_sub_succ hp]
  by_cases hi : i < k.bits
  · simp [hi]
  · have : p.testBit i = false := Nat.testBit_lt_two_pow (Nat.lt_of_lt_of_le hp (Nat.pow_le_pow_right (by decide) (by omega)))
    simp [hi, this]
theorem xor_z {k : IntKind} {p : Int} : k.wrap ((BitVec.ofInt k.bits p ^^^ BitVec.ofInt k.bits 0).toNat : Int) = k.wrap ((BitVec.ofInt k.bits p).toNat : Int) := by simp
theorem and1_u64 {p : Nat} (h : p < 18446744073709551616) : IntKind.u64.wrap ((BitVec.ofInt IntKind.u64.bits (p : Int) &&& BitVec.ofInt IntKind.u64.bits 1).toNat : Int) = ((p % 2 : Nat) : Int) := by
  have := band_nat (k := .u64) rfl (a := p) (b := 1) (by simpa [IntKind.bits] using h) (by decide)
  rw [show ((1 : Nat) : Int) = 1 from rfl] at this
  rw [this, Nat.and_one_is_mod]
theorem bcells_at {l : List UInt8} {i : Nat} (h : i < l.length) : (bcells l)[Int.toNat (i : Int) * 1]? = some (.int .u8 (l.getD i 0).toNat) := by
  rw [Int.toNat_natCast, Nat.mul_one]; exact bcells_get h
theorem icells_at {k : IntKind} {l : List Int} {i : Nat} (h : i < l.length) : (icells k l)[Int.toNat (i : Int) * 1]? = some (.int k (l.getD i 0)) := by
  rw [Int.toNat_natCast, Nat.mul_one]; exact icells_get h
theorem tcells_at {l : List Bool} {i : Nat} (h : i < l.length) : (tcells l)[Int.toNat (i : Int) * 1]? = some (.bool (l.getD i false)) := by
  rw [Int.toNat_natCast, Nat.mul_one]; exact tcells_get h
/-! the cells of numbers without a sign -/
def ucells (l : List Nat) : List Value := l.map fun n : Nat => Value.int .u64 (n : Int)
theorem ucells_get {l : List Nat} {i : Nat} (h : i < l.length) : (ucells l)[i]? = some (.int .u64 (l.getD i 0 : Nat)) := cells_get (fun n : Nat => Value.int .u64 (n : Int)) l 0 h
theorem ucells_at {l : List Nat} {i : Nat} (h : i < l.length) : (ucells l)[Int.toNat (i : Int) * 1]? = some (.int .u64 (l.getD i 0 : Nat)) := by
  rw [Int.toNat_natCast, Nat.mul_one]; exact ucells_get h
theorem ucells_length (l : List Nat) : (ucells l).length = l.length := by simp [ucells]
theorem tcells_length (l : List Bool) : (tcells l).length = l.length := by simp [tcells]
theorem one_b (l : List UInt8) : (bcells l).all (·.oneCell') = true := by simp [bcells, List.all_map]; intros; rfl
theorem one_u (l : List Nat) : (ucells l).all (·.oneCell') = true := by simp [ucells, List.all_map]; intros; rfl
theorem one_i {k : IntKind} (l : List Int) : (icells k l).all (·.oneCell') = true := by simp [icells, List.all_map]; intros; rfl
theorem one_t (l : List Bool) : (tcells l).all (·.oneCell') = true := List.all_eq_true.2 fun v hv => by obtain ⟨b, _, rfl⟩ := List.mem_map.1 hv; rfl
theorem rdw {X : Cx} {H : List Chunk} {A : Option Addr} {vs : List Value} {w : World} (h : Rd X H A vs) (hw : Holds X.w0 X.M H w) : Reads w A vs := h w hw
theorem bpush {l : List UInt8} {n : Nat} (h : n < 256) : bcells l ++ [Value.int .u8 (n : Int)] = bcells (l ++ [UInt8.ofNat n]) := by simp only [bcells, List.map_append, List.map_cons, List.map_nil, u8_ofNat h]
theorem drop_cons {α : Type} {l : List α} {i : Nat} (d : α) (h : i < l.length) : l.drop i = l.getD i d :: l.drop (i + 1) := by
  rw [List.drop_eq_getElem_cons h]; simp [List.getD, h]
theorem put_step {u v j : Nat} (hu : u < 18446744073709551616) (hj : j ≤ 9) (hv : v * 128 ^ j ≤ u) (h : 128 ≤ v) : j + 1 ≤ 9 ∧ v / 128 * 128 ^ (j + 1) ≤ u := by
  constructor
  · rcases Nat.lt_or_ge j 9 with h9 | h9
    · omega
    · obtain rfl : j = 9 := by omega
      have := Nat.mul_le_mul_right (128 ^ 9) h
      simp at this hv
      omega
  · have h1 : v / 128 * 128 ≤ v := Nat.div_mul_le_self v 128
    have h2 := Nat.mul_le_mul_right (128 ^ j) h1
    rw [Nat.pow_succ, Nat.mul_comm (128 ^ j) 128, ← Nat.mul_assoc]
    omega
theorem putF_more {v k : Nat} (h : 128 ≤ v) : putF (k + 1) v = UInt8.ofNat (v % 128 + 128) :: putF k (v / 128) := by
  show (if v < 128 then _ else _) = _
  rw [if_neg (by omega)]
theorem putF_last {v k : Nat} (h : v < 128) : putF (k + 1) v = [UInt8.ofNat v] := by
  show (if v < 128 then _ else _) = _
  rw [if_pos h]
theorem put_next {u v j : Nat} {pre : List UInt8} (hj : j + 1 ≤ 9) (h : 128 ≤ v) (hq : pre ++ putF (10 - j) v = putN u) : pre ++ [UInt8.ofNat (v % 128 + 128)] ++ putF (10 - (j + 1)) (v / 128) = putN u := by
  rw [← hq, show 10 - j = 10 - (j + 1) + 1 by omega, putF_more h]
  simp
theorem put_end {u v j : Nat} {pre : List UInt8} (hj : j ≤ 9) (h : v < 128) (hq : pre ++ putF (10 - j) v = putN u) : pre ++ [UInt8.ofNat v] = putN u := by
  rw [← hq, show 10 - j = 9 - j + 1 by omega, putF_last h]
theorem or128 (v : Nat) : IntKind.u8.wrap ((BitVec.ofInt IntKind.u8.bits (IntKind.u8.wrap (v : Int)) ||| BitVec.ofInt IntKind.u8.bits 128).toNat : Int) = ((v % 128 + 128 : Nat) : Int) := by
  have e : IntKind.u8.wrap (v : Int) = ((v % 256 : Nat) : Int) := by rw [wu8_mod]; omega
  have := bor_nat (k := .u8) rfl (a := v % 256) (b := 128) (by simp [IntKind.bits]; omega) (by decide)
  rw [show ((128 : Nat) : Int) = 128 from rfl] at this
  rw [e, this]
  congr 1
  rw [show (128 : Nat) = 1 * 2 ^ 7 from rfl, Nat.or_comm, ← Nat.shiftLeft_eq]
  have h2 : v % 256 = (v / 128 % 2) <<< 7 + v % 128 := by rw [Nat.shiftLeft_eq]; omega
  rcases Nat.mod_two_eq_zero_or_one (v / 128) with h | h
  · rw [show v % 256 = v % 128 by omega, ← Nat.shiftLeft_add_eq_or_of_lt (by omega : v % 128 < 2 ^ 7), Nat.shiftLeft_eq]; omega
  · rw [show v % 256 = 1 <<< 7 + v % 128 by rw [Nat.shiftLeft_eq]; omega, Nat.shiftLeft_add_eq_or_of_lt (by omega : v % 128 < 2 ^ 7), ← Nat.or_assoc, Nat.or_self, ← Nat.shiftLeft_add_eq_or_of_lt (by omega : v % 128 < 2 ^ 7), Nat.shiftLeft_eq]; omega
theorem zig_all {n : Int} (h1 : -9223372036854775808 ≤ n) (h2 : n < 9223372036854775808) : IntKind.u64.wrap ((BitVec.ofInt IntKind.u64.bits (IntKind.u64.wrap (IntKind.u64.wrap n * 2)) ^^^ BitVec.ofInt IntKind.u64.bits (IntKind.u64.wrap (n / 9223372036854775808))).toNat : Int) = (zigS n : Int) := by
  by_cases h : n < 0
  · have e1 : IntKind.u64.wrap (IntKind.u64.wrap n * 2) = ((18446744073709551616 - (-2 * n).toNat : Nat) : Int) := by rw [wu64_mod, wu64_mod]; omega
    have e2 : IntKind.u64.wrap (n / 9223372036854775808) = ((2 ^ IntKind.u64.bits - 1 : Nat) : Int) := by
      rw [wu64_mod, show n / 9223372036854775808 = -1 by omega]; decide
    rw [e1, e2, xor_ones rfl (by simp [IntKind.bits]; omega)]
    unfold zigS
    rw [if_pos h]
    simp only [IntKind.bits]
    omega
  · have e1 : IntKind.u64.wrap (IntKind.u64.wrap n * 2) = (((2 * n).toNat : Nat) : Int) := by rw [wu64_mod, wu64_mod]; omega
    have e2 : IntKind.u64.wrap (n / 9223372036854775808) = 0 := by rw [wu64_mod, show n / 9223372036854775808 = 0 by omega]; rfl
    rw [e1, e2, xor_z, ofInt_nat, BitVec.toNat_ofNat, wu64_mod]
    unfold zigS
    rw [if_neg h]
    simp only [IntKind.bits]
    omega
end Go.Proofs.Ytdehjgpdcdjhjaa.K
