/- A framework of our own for walks over the model: Fa. -/
import Derived.Test.YtdehjgpdcdjhjaaDoorCd
namespace Go.Proofs.YtdehjgpdcdjhjaaDoor.K
open Go Go.RowKit
set_option linter.unusedVariables false
set_option linter.unusedSimpArgs false
/-! ### Numbers modulo 2^61 - 1, and products of 128 bits -/
abbrev pM : Nat := 2305843009213693951
theorem of_is {u : Nat} (h : u < 18446744073709551616) : (if u % 2305843009213693952 + u / 2305843009213693952 ≥ 2305843009213693951 then u % 2305843009213693952 + u / 2305843009213693952 - 2305843009213693951 else u % 2305843009213693952 + u / 2305843009213693952) = u % pM := by
  unfold pM
  split <;> omega
theorem mul64_hi (x y : Nat) :
    let x0 := x % 4294967296; let x1 := x / 4294967296; let y0 := y % 4294967296; let y1 := y / 4294967296
    let t := x1 * y0 + (x0 * y0) / 4294967296
    let w1 := t % 4294967296 + x0 * y1
    x1 * y1 + t / 4294967296 + w1 / 4294967296 = x * y / 18446744073709551616 := by
  intro x0 x1 y0 y1 t w1
  have hx' : x = x1 * 4294967296 + x0 := by show x = x / 4294967296 * 4294967296 + x % 4294967296; omega
  have hy' : y = y1 * 4294967296 + y0 := by show y = y / 4294967296 * 4294967296 + y % 4294967296; omega
  have e : x * y = x1 * y1 * 18446744073709551616 + (x1 * y0 + x0 * y1) * 4294967296 + x0 * y0 := by
    rw [hx', hy', Nat.add_mul, Nat.mul_add, Nat.mul_add]
    have e1 : x1 * 4294967296 * (y1 * 4294967296) = x1 * y1 * 18446744073709551616 := by rw [Nat.mul_mul_mul_comm]
    have e2 : x1 * 4294967296 * y0 = x1 * y0 * 4294967296 := by rw [Nat.mul_right_comm]
    have e3 : x0 * (y1 * 4294967296) = x0 * y1 * 4294967296 := by rw [Nat.mul_assoc]
    rw [e1, e2, e3, Nat.add_mul]
    omega
  rw [e]
  show x1 * y1 + (x1 * y0 + x0 * y0 / 4294967296) / 4294967296 + ((x1 * y0 + x0 * y0 / 4294967296) % 4294967296 + x0 * y1) / 4294967296 = _
  generalize x1 * y1 = a at *
  generalize x1 * y0 = b at *
  generalize x0 * y1 = c at *
  generalize x0 * y0 = d at *
  omega
theorem mul64_lo (x y : Nat) :
    let x0 := x % 4294967296; let x1 := x / 4294967296; let y0 := y % 4294967296; let y1 := y / 4294967296
    let t := x1 * y0 + (x0 * y0) / 4294967296
    let w1 := t % 4294967296 + x0 * y1
    x0 * y0 % 4294967296 + w1 % 4294967296 * 4294967296 = x * y % 18446744073709551616 := by
  intro x0 x1 y0 y1 t w1
  have hx' : x = x1 * 4294967296 + x0 := by show x = x / 4294967296 * 4294967296 + x % 4294967296; omega
  have hy' : y = y1 * 4294967296 + y0 := by show y = y / 4294967296 * 4294967296 + y % 4294967296; omega
  have e : x * y = x1 * y1 * 18446744073709551616 + (x1 * y0 + x0 * y1) * 4294967296 + x0 * y0 := by
    rw [hx', hy', Nat.add_mul, Nat.mul_add, Nat.mul_add]
    have e1 : x1 * 4294967296 * (y1 * 4294967296) = x1 * y1 * 18446744073709551616 := by rw [Nat.mul_mul_mul_comm]
    have e2 : x1 * 4294967296 * y0 = x1 * y0 * 4294967296 := by rw [Nat.mul_right_comm]
    have e3 : x0 * (y1 * 4294967296) = x0 * y1 * 4294967296 := by rw [Nat.mul_assoc]
    rw [e1, e2, e3, Nat.add_mul]
    omega
  rw [e]
  show x0 * y0 % 4294967296 + ((x1 * y0 + x0 * y0 / 4294967296) % 4294967296 + x0 * y1) % 4294967296 * 4294967296 = _
  generalize x1 * y1 = a at *
  generalize x1 * y0 = b at *
  generalize x0 * y1 = c at *
  generalize x0 * y0 = d at *
  omega
theorem fold_is (n : Nat) : ((n / 18446744073709551616 * 8 + n % 18446744073709551616 / 2305843009213693952) % pM + n % 18446744073709551616 % 2305843009213693952) % pM = n % pM := by
  unfold pM; omega
theorem am (A B q : Nat) : (A % pM + B % pM * q) % pM = (A + B * q) % pM := by
  rw [Nat.add_mod, Nat.mod_mod, Nat.mul_mod, Nat.mod_mod, ← Nat.mul_mod, ← Nat.add_mod]
theorem mul_half (x y : Nat) : x * y = (x + x) * (y / 2) + x * (y % 2) := by
  have h : x * y = x * (2 * (y / 2) + y % 2) := by rw [show 2 * (y / 2) + y % 2 = y by omega]
  rw [h, Nat.mul_add, ← Nat.mul_assoc, show x * 2 = x + x by omega]
theorem mul_odd {s x y : Nat} (h : y % 2 = 1) : ((s % pM + x % pM) % pM + (x % pM + x % pM) % pM * (y / 2)) % pM = (s + x * y) % pM := by
  rw [← Nat.add_mod, ← Nat.add_mod, am, mul_half x y, h, Nat.mul_one]
  congr 1
  omega
theorem mul_even {s x y : Nat} (h : y % 2 = 0) : (s + (x % pM + x % pM) % pM * (y / 2)) % pM = (s + x * y) % pM := by
  rw [← Nat.add_mod, ← am s, Nat.mod_mod, am, mul_half x y, h, Nat.mul_zero, Nat.add_zero]
theorem mulP_lt (a b : Nat) : (a % pM) * (b % pM) < 18446744073709551616 * 288230376151711744 := by
  have h1 : a % pM ≤ 2305843009213693950 := by unfold pM; omega
  have h2 : b % pM ≤ 2305843009213693950 := by unfold pM; omega
  have := Nat.mul_le_mul h1 h2
  omega
end Go.Proofs.YtdehjgpdcdjhjaaDoor.K
