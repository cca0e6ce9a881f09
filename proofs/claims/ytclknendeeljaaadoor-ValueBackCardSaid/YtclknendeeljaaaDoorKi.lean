/- A framework of our own for walks over the model: Ki. -/
import Derived.Test.YtclknendeeljaaaDoorKg
import Derived.Test.YtclknendeeljaaaDoorKh
namespace Go.Proofs.YtclknendeeljaaaDoor.K
open Go Go.RowKit
set_option linter.unusedVariables false
set_option linter.unusedSimpArgs false
/-! Floats as the program's order has them -/
def ub (a : Int) : Nat := (IntKind.u64.wrap a).toNat
theorem ub_lt (a : Int) : ub a < 18446744073709551616 := by unfold ub; rw [wu64_mod]; omega
theorem ub_is (a : Int) : (ub a : Int) = a % 18446744073709551616 := by unfold ub; rw [wu64_mod]; omega
theorem ub_cast (a : Int) : IntKind.u64.wrap a = (ub a : Int) := by unfold ub; rw [wu64_mod]; omega
theorem isN0 : ¬ isN 0 := by decide
theorem sv0 : sv 0 = 0 := by decide
theorem sv_zero {x : Nat} : sv x = 0 ↔ rg x = 0 := by unfold sv; split <;> omega
def canS (a : Int) : Int := if isN (ub a) then 9221120237041090560 else if rg (ub a) = 0 then 0 else a
def cmpS (x y : Nat) : Int := if isN x then (if isN y then 0 else 1) else if isN y then -1 else if sv x < sv y then -1 else if sv y < sv x then 1 else 0
theorem ub_can (a : Int) : ub (canS a) = if isN (ub a) then 9221120237041090560 else if rg (ub a) = 0 then 0 else ub a := by
  unfold canS
  by_cases h : isN (ub a)
  · rw [if_pos h, if_pos h]; decide
  · rw [if_neg h, if_neg h]
    by_cases h0 : rg (ub a) = 0
    · rw [if_pos h0, if_pos h0]; decide
    · rw [if_neg h0, if_neg h0]
theorem isN_nan : isN 9221120237041090560 := by decide
theorem split_sg {x : Nat} (h : x < 18446744073709551616) : (sg x = true ∧ x = 9223372036854775808 + rg x) ∨ (sg x = false ∧ x = rg x) := by
  unfold sg rg
  by_cases c : x < 9223372036854775808
  · right
    refine ⟨?_, by omega⟩
    rw [show x / 9223372036854775808 = 0 from by omega]; rfl
  · left
    refine ⟨?_, by omega⟩
    rw [show x / 9223372036854775808 = 1 from by omega]; rfl
theorem can_bd {a : Int} (h : -9223372036854775808 ≤ a) (h2 : a < 9223372036854775808) : -9223372036854775808 ≤ canS a ∧ canS a < 9223372036854775808 := by
  unfold canS; split
  · omega
  · split <;> omega
/-- An int is its bits. -/
theorem ub_inj {a b : Int} (h : -9223372036854775808 ≤ a ∧ a < 9223372036854775808) (h' : -9223372036854775808 ≤ b ∧ b < 9223372036854775808) (e : ub a = ub b) : a = b := by
  have h1 := ub_is a
  have h2 := ub_is b
  omega
def hexd (n : Nat) : UInt8 := (if n < 10 then 48 + n else 87 + n).toUInt8
theorem hexd_toNat {n : Nat} (h : n < 16) : (hexd n).toNat = if n < 10 then 48 + n else 87 + n := by
  unfold hexd; split <;> simp <;> omega
def hexS (u : Nat) : List UInt8 := (List.range 16).map fun i => hexd (u / 16 ^ (15 - i) % 16)
def printS (a : Int) : ByteArray :=
  if isN (ub a) then ⟨#[78, 65, 78]⟩ else if ub a = 9218868437227405312 then ⟨#[73, 78, 70]⟩ else if ub a = 18442240474082181120 then ⟨#[45, 73, 78, 70]⟩ else ⟨(48 :: 102 :: hexS (ub (canS a))).toArray⟩
/-- The last i digits, behind zeros. -/
def pad (u i : Nat) : List UInt8 := List.replicate (16 - i) 0 ++ (List.range i).reverse.map fun j => hexd (u / 16 ^ j % 16)
theorem pad_length {u i : Nat} (h : i ≤ 16) : (pad u i).length = 16 := by simp [pad]; omega
theorem pad_16 (u : Nat) : pad u 16 = hexS u := by
  simp only [pad, hexS]
  rfl
theorem bt_digits {n : Nat} (h : n < 16) : bt ⟨#[48, 49, 50, 51, 52, 53, 54, 55, 56, 57, 97, 98, 99, 100, 101, 102]⟩ n = (hexd n).toNat := by
  have : ∀ n : Fin 16, bt ⟨#[48, 49, 50, 51, 52, 53, 54, 55, 56, 57, 97, 98, 99, 100, 101, 102]⟩ n.1 = (hexd n.1).toNat := by decide
  exact this ⟨n, h⟩
theorem pad_step {u i : Nat} (h : i < 16) : laid (bcells (pad u i)) (Int.toNat (15 - (i : Int)) * 1) (Value.cells (.int .u8 ((bt ⟨#[48, 49, 50, 51, 52, 53, 54, 55, 56, 57, 97, 98, 99, 100, 101, 102]⟩ (Int.toNat (((u / 16 ^ i : Nat) : Int) % 16)) : Nat) : Int))).toList = bcells (pad u (i + 1)) := by
  have e1 : Int.toNat (15 - (i : Int)) * 1 = 15 - i := by omega
  have e2 : Int.toNat (((u / 16 ^ i : Nat) : Int) % 16) = u / 16 ^ i % 16 := by omega
  rw [e1, e2, bt_digits (by omega)]
  obtain ⟨m, hm⟩ : ∃ m, 15 - i = m := ⟨_, rfl⟩
  have e3 : 16 - i = m + 1 := by omega
  have e4 : 16 - (i + 1) = m := by omega
  simp only [pad, e3, e4, hm, laid, Value.cells, bcells, List.range_succ, List.reverse_append, List.map_append, List.map_cons, List.map_nil, List.reverse_cons, List.reverse_nil, List.nil_append, List.length_cons, List.length_nil, List.singleton_append]
  rw [List.replicate_succ', List.map_append]
  simp [List.take_append, List.drop_append]
theorem shr16 (u i : Nat) : (((u / 16 ^ i : Nat) : Int)).fdiv (2 ^ (min (Int.toNat 4) IntKind.u64.bits)) = ((u / 16 ^ (i + 1) : Nat) : Int) := by
  rw [shr_lit 16 rfl (by decide), Nat.pow_succ, ← Nat.div_div_eq_div_mul]
  rfl
/-! IsInf -/
theorem inf_pos {x : Nat} (h : x < 18446744073709551616) : (FloatKind.f64.format.order x 9218868437227405311 == some Ordering.gt) = decide (x = 9218868437227405312) := by
  rw [gt_is]
  have e1 : ¬ isN 9218868437227405311 := by decide
  have e2 : sv 9218868437227405311 = 9218868437227405311 := by decide
  rw [e2, decide_eq_decide]
  rcases split_sg h with ⟨s, e⟩ | ⟨s, e⟩
  · have : sv x = -(rg x : Int) := by unfold sv; rw [if_pos s]
    have : rg x < 9223372036854775808 := by unfold rg; omega
    constructor
    · intro h; omega
    · intro h; omega
  · have : sv x = (rg x : Int) := by unfold sv; rw [if_neg (by simp [s])]
    unfold isN
    constructor
    · intro h; omega
    · intro h; exact ⟨by omega, e1, by omega⟩
theorem neg_is {x : Nat} (h : x < 18446744073709551616) : Op.negFloat .f64 x = if x < 9223372036854775808 then x + 9223372036854775808 else x - 9223372036854775808 := by
  have : Op.negFloat .f64 x = x ^^^ 9223372036854775808 := rfl
  rw [this, nat_xor_top h]
theorem inf_neg {x : Nat} (h : x < 18446744073709551616) : (FloatKind.f64.format.order (Op.negFloat .f64 x) 9218868437227405311 == some Ordering.gt) = decide (x = 18442240474082181120) := by
  rw [neg_is h]
  split
  · rw [inf_pos (by omega), decide_eq_decide]; omega
  · rw [inf_pos (by omega), decide_eq_decide]; omega
def firstd (u j : Nat) : List UInt8 := (List.range j).map fun i => hexd (u / 16 ^ (15 - i) % 16)
theorem bytes_cat (a b : List UInt8) : (⟨a.toArray⟩ : ByteArray) ++ ⟨b.toArray⟩ = ⟨(a ++ b).toArray⟩ := by
  apply ByteArray.ext
  simp
theorem print_can (n : Int) : printS n = if ub (canS n) = 9221120237041090560 then ⟨#[78, 65, 78]⟩ else if ub (canS n) = 9218868437227405312 then ⟨#[73, 78, 70]⟩ else if ub (canS n) = 18442240474082181120 then ⟨#[45, 73, 78, 70]⟩ else ⟨(48 :: 102 :: firstd (ub (canS n)) 16).toArray⟩ := by
  have hc := ub_can n
  have hf : firstd (ub (canS n)) 16 = hexS (ub (canS n)) := rfl
  unfold printS
  rw [hf]
  by_cases h : isN (ub n)
  · rw [if_pos h] at hc
    rw [if_pos h, if_pos hc]
  · rw [if_neg h] at hc
    have hn : ¬ isN (ub n) := h
    unfold isN at hn
    by_cases h0 : rg (ub n) = 0
    · rw [if_pos h0] at hc
      have := ub_lt n
      unfold rg at h0
      rw [if_neg h, if_neg (by omega), if_neg (by omega), if_neg (by omega), if_neg (by omega), if_neg (by omega)]
    · rw [if_neg h0] at hc
      have h3 : ub n ≠ 9221120237041090560 := by
        intro e
        rw [e] at hn
        exact hn (by decide)
      rw [if_neg h, if_neg (c := ub (canS n) = 9221120237041090560) (by omega)]
      rw [hc]
end Go.Proofs.YtclknendeeljaaaDoor.K
