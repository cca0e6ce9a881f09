/- A framework of our own for walks over the model: Cc. -/
import Derived.Test.YtdehjgpdcdjhjaaDoorCb
namespace Go.Proofs.YtdehjgpdcdjhjaaDoor.K
open Go Go.RowKit
set_option linter.unusedVariables false
set_option linter.unusedSimpArgs false
/-! ### Runs and differences -/
def runsG : Nat → List Nat → List UInt8
  | _, [] => []
  | n, [u] => putN u ++ putN (n + 1)
  | n, u :: v :: t => if v ≠ u then putN u ++ putN (n + 1) ++ runsG 0 (v :: t) else runsG (n + 1) (v :: t)
def runsS (l : List Nat) : List UInt8 := runsG 0 l
def deltG : Int → List Int → List UInt8
  | _, [] => []
  | last, n :: t => putN (zigS (IntKind.i64.wrap (n - last))) ++ deltG n t
def deltS (l : List Int) : List UInt8 := deltG 0 l
theorem wrap_bd (x : Int) : -9223372036854775808 ≤ IntKind.i64.wrap x ∧ IntKind.i64.wrap x < 9223372036854775808 := by rw [wi64_mod]; split <;> omega
theorem runs_cut {n i : Nat} {l : List Nat} (hi : i < l.length) (h : i + 1 = l.length ∨ (i + 1 < l.length ∧ l.getD (i + 1) 0 ≠ l.getD i 0)) : runsG n (l.drop i) = putN (l.getD i 0) ++ putN (n + 1) ++ runsG 0 (l.drop (i + 1)) := by
  rw [drop_cons 0 hi]
  rcases h with h | ⟨h1, h2⟩
  · rw [List.drop_of_length_le (by omega)]; simp [runsG]
  · rw [drop_cons 0 h1]
    simp only [runsG]
    rw [if_pos h2]
theorem runs_more {n i : Nat} {l : List Nat} (h1 : i + 1 < l.length) (h2 : l.getD (i + 1) 0 = l.getD i 0) : runsG n (l.drop i) = runsG (n + 1) (l.drop (i + 1)) := by
  rw [drop_cons 0 (show i < l.length by omega), drop_cons 0 h1]
  simp only [runsG]
  rw [if_neg (by simp only [ne_eq, Decidable.not_not]; exact h2)]
theorem delt_step {last : Int} {i : Nat} {l : List Int} (hi : i < l.length) : deltG last (l.drop i) = putN (zigS (IntKind.i64.wrap (l.getD i 0 - last))) ++ deltG (l.getD i 0) (l.drop (i + 1)) := by
  rw [drop_cons 0 hi]; rfl
/-- What the difference of two ints is, taken without a sign. -/
theorem diff_wrap (n m : Int) : IntKind.i64.wrap (IntKind.u64.wrap (IntKind.u64.wrap n - IntKind.u64.wrap m)) = IntKind.i64.wrap (n - m) := by
  rw [wu64_mod, wu64_mod, wu64_mod, wi64_mod, wi64_mod]
  have : (n % 18446744073709551616 - m % 18446744073709551616) % 18446744073709551616 % 18446744073709551616 = (n - m) % 18446744073709551616 := by omega
  rw [this]
theorem diff_zero (n : Int) : IntKind.i64.wrap (IntKind.u64.wrap (IntKind.u64.wrap n - 0)) = IntKind.i64.wrap (n - 0) := diff_wrap n 0
theorem bcells_of {l : List UInt8} {q : Int} {p : Nat} (hq : q = (p : Int)) (h : p < l.length) : (bcells l)[Int.toNat q * 1]? = some (.int .u8 ((l.getD p 0).toNat : Int)) := by rw [hq]; exact bcells_at h
theorem ucells_of {l : List Nat} {q : Int} {p : Nat} (hq : q = (p : Int)) (h : p < l.length) : (ucells l)[Int.toNat q * 1]? = some (.int .u64 (l.getD p 0 : Nat)) := by rw [hq]; exact ucells_at h
theorem icells_of {k : IntKind} {l : List Int} {q : Int} {p : Nat} (hq : q = (p : Int)) (h : p < l.length) : (icells k l)[Int.toNat q * 1]? = some (.int k (l.getD p 0)) := by rw [hq]; exact icells_at h
theorem tcells_of {l : List Bool} {q : Int} {p : Nat} (hq : q = (p : Int)) (h : p < l.length) : (tcells l)[Int.toNat q * 1]? = some (.bool (l.getD p false)) := by rw [hq]; exact tcells_at h
/-! numbers one after the other -/
def itF {σ : Type} (step : σ → Nat → Option σ) : Nat → σ → List UInt8 → Option σ
  | _, s, [] => some s
  | 0, _, _ :: _ => none
  | k + 1, s, x :: t => if (getN (x :: t)).2 = 0 then none else match step s (getN (x :: t)).1 with | none => none | some s' => itF step k s' ((x :: t).drop (getN (x :: t)).2)
theorem itF_nil {σ : Type} {step : σ → Nat → Option σ} {k : Nat} {s : σ} {b : List UInt8} (h : b.length = 0) : itF step k s b = some s := by
  obtain rfl := List.eq_nil_of_length_eq_zero h
  cases k <;> rfl
theorem itF_bad {σ : Type} {step : σ → Nat → Option σ} {k : Nat} {s : σ} {b : List UInt8} (h : b.length ≠ 0) (h0 : (getN b).2 = 0) : itF step k s b = none := by
  cases b with
  | nil => exact absurd rfl h
  | cons x t => cases k with
    | zero => rfl
    | succ k => show (if _ then _ else _) = _; rw [if_pos h0]
theorem itF_stop {σ : Type} {step : σ → Nat → Option σ} {k : Nat} {s : σ} {b : List UInt8} (h : b.length ≠ 0) (hn : step s (getN b).1 = none) : itF step k s b = none := by
  cases b with
  | nil => exact absurd rfl h
  | cons x t => cases k with
    | zero => rfl
    | succ k =>
      show (if _ then _ else _) = _
      split
      · rfl
      · rw [hn]
theorem itF_go {σ : Type} {step : σ → Nat → Option σ} {k : Nat} {s s' : σ} {b : List UInt8} (h : b.length ≠ 0) (h0 : (getN b).2 ≠ 0) (hn : step s (getN b).1 = some s') : itF step (k + 1) s b = itF step k s' (b.drop (getN b).2) := by
  cases b with
  | nil => exact absurd rfl h
  | cons x t =>
    show (if _ then _ else _) = _
    rw [if_neg h0, hn]
structure RS where
  acc : List Nat
  last : Nat
  half : Bool
def stepR (s : RS) (u : Nat) : Option RS :=
  if s.half = false then (if 0 < s.acc.length ∧ s.acc.getD (s.acc.length - 1) 0 = u then none else some ⟨s.acc, u, true⟩)
  else if u = 0 ∨ 100000 - s.acc.length < u then none else some ⟨s.acc ++ List.replicate u s.last, s.last, false⟩
def unrunsO (b : List UInt8) : Option (List Nat) := match itF stepR b.length ⟨[], 0, false⟩ b with
  | some s => if s.half then none else some s.acc
  | none => none
theorem stepR_dup {acc : List Nat} {last u : Nat} (h : 0 < acc.length ∧ acc.getD (acc.length - 1) 0 = u) : stepR ⟨acc, last, false⟩ u = none := by
  show (if _ then (if _ then _ else _) else _) = _
  rw [if_pos rfl, if_pos h]
theorem stepR_half {acc : List Nat} {last u : Nat} (h : ¬ (0 < acc.length ∧ acc.getD (acc.length - 1) 0 = u)) : stepR ⟨acc, last, false⟩ u = some ⟨acc, u, true⟩ := by
  show (if _ then (if _ then _ else _) else _) = _
  rw [if_pos rfl, if_neg h]
theorem stepR_bad {acc : List Nat} {last u : Nat} (h : u = 0 ∨ 100000 - acc.length < u) : stepR ⟨acc, last, true⟩ u = none := by
  show (if _ then _ else (if _ then _ else _)) = _
  rw [if_neg (by simp), if_pos h]
theorem stepR_fill {acc : List Nat} {last u : Nat} (h : ¬ (u = 0 ∨ 100000 - acc.length < u)) : stepR ⟨acc, last, true⟩ u = some ⟨acc ++ List.replicate u last, last, false⟩ := by
  show (if _ then _ else (if _ then _ else _)) = _
  rw [if_neg (by simp), if_neg h]
theorem rep_push (l : List Nat) (j u : Nat) : l ++ List.replicate j u ++ [u] = l ++ List.replicate (j + 1) u := by
  rw [List.append_assoc, ← List.replicate_succ']
structure DSt where
  acc : List Int
  last : Int
def stepD (s : DSt) (u : Nat) : Option DSt := some ⟨s.acc ++ [IntKind.i64.wrap (s.last + zagS u)], IntKind.i64.wrap (s.last + zagS u)⟩
def undeltO (b : List UInt8) : Option (List Int) := (itF stepD b.length ⟨[], 0⟩ b).map DSt.acc
/-! the same, two numbers at a time -/
def finR (o : Option RS) : Option (List Nat) := match o with
  | some s => if s.half then none else some s.acc
  | none => none
theorem unrunsO_is (b : List UInt8) : unrunsO b = finR (itF stepR b.length ⟨[], 0, false⟩ b) := rfl
theorem unr_bad {q la : Nat} {acc : List Nat} {b : List UInt8} (h : b.length ≠ 0) (h0 : (getN b).2 = 0) : finR (itF stepR q ⟨acc, la, false⟩ b) = none := by rw [itF_bad h h0]; rfl
theorem unr_err {q la : Nat} {acc : List Nat} {b : List UInt8} (h : b.length ≠ 0) (hq : b.length ≤ q) (h0 : (getN b).2 ≠ 0)
    (he : (getN (b.drop (getN b).2)).2 = 0 ∨ (getN (b.drop (getN b).2)).1 = 0 ∨ 100000 - acc.length < (getN (b.drop (getN b).2)).1 ∨ (0 < acc.length ∧ acc.getD (acc.length - 1) 0 = (getN b).1)) : finR (itF stepR q ⟨acc, la, false⟩ b) = none := by
  obtain ⟨q, rfl⟩ : ∃ k, q = k + 1 := ⟨q - 1, by omega⟩
  by_cases hd : 0 < acc.length ∧ acc.getD (acc.length - 1) 0 = (getN b).1
  · rw [itF_stop h (stepR_dup hd)]; rfl
  · rw [itF_go h h0 (stepR_half hd)]
    by_cases hl : (b.drop (getN b).2).length = 0
    · rw [itF_nil hl]; rfl
    · by_cases hm : (getN (b.drop (getN b).2)).2 = 0
      · rw [itF_bad hl hm]; rfl
      · rw [itF_stop hl (stepR_bad (by omega))]; rfl
theorem unr_go {q la : Nat} {acc : List Nat} {b : List UInt8} (h : b.length ≠ 0) (hq : b.length ≤ q) (h0 : (getN b).2 ≠ 0)
    (he : ¬ ((getN (b.drop (getN b).2)).2 = 0 ∨ (getN (b.drop (getN b).2)).1 = 0 ∨ 100000 - acc.length < (getN (b.drop (getN b).2)).1 ∨ (0 < acc.length ∧ acc.getD (acc.length - 1) 0 = (getN b).1))) :
    itF stepR q ⟨acc, la, false⟩ b = itF stepR (q - 2) ⟨acc ++ List.replicate (getN (b.drop (getN b).2)).1 (getN b).1, (getN b).1, false⟩ (b.drop ((getN b).2 + (getN (b.drop (getN b).2)).2)) := by
  have hb := getN_bd b
  have hb2 := getN_bd (b.drop (getN b).2)
  simp only [List.length_drop] at hb2
  have hl : (b.drop (getN b).2).length ≠ 0 := by simp only [List.length_drop]; omega
  simp only [List.length_drop] at hl
  obtain ⟨q, rfl⟩ : ∃ k, q = k + 2 := ⟨q - 2, by omega⟩
  rw [itF_go h h0 (stepR_half (by omega)), itF_go (by simp only [List.length_drop]; omega) (by omega) (stepR_fill (by omega)), List.drop_drop]
  rfl
theorem reads_cutB {w : World} {A : Option Addr} {b : List UInt8} {c n : Nat} (h : Reads w A (bcells b)) (hc : b.length ≤ c) : Reads w (cutA A c n 1) (bcells (b.drop n)) := by
  rw [← bdrop]; exact h.cut (by rw [bcells_length]; omega)
theorem add_wrap (n m : Int) : IntKind.i64.wrap (IntKind.u64.wrap (IntKind.u64.wrap n + IntKind.u64.wrap m)) = IntKind.i64.wrap (n + m) := by
  rw [wu64_mod, wu64_mod, wu64_mod, wi64_mod, wi64_mod]
  have : (n % 18446744073709551616 + m % 18446744073709551616) % 18446744073709551616 % 18446744073709551616 = (n + m) % 18446744073709551616 := by omega
  rw [this]
theorem add_wrap2 (n m : Int) : IntKind.u64.wrap (IntKind.u64.wrap n + IntKind.u64.wrap m) = IntKind.u64.wrap (IntKind.i64.wrap (n + m)) := by
  rw [wu64_mod, wu64_mod, wu64_mod, wu64_mod, wi64_mod]
  split <;> omega
theorem runsG_len : ∀ (l : List Nat) (n : Nat), (runsG n l).length ≤ 20 * l.length
  | [], _ => by simp [runsG]
  | [u], n => by have h1 := putN_len u; have h2 := putN_len (n + 1); simp [runsG]; omega
  | u :: v :: t, n => by
    have h1 := putN_len u; have h2 := putN_len (n + 1)
    have h3 := runsG_len (v :: t) 0; have h4 := runsG_len (v :: t) (n + 1)
    simp only [List.length_cons] at h3 h4
    simp only [runsG]
    split
    · simp only [List.length_append, List.length_cons]; omega
    · simp only [List.length_cons]; omega
theorem deltG_len : ∀ (l : List Int) (last : Int), (deltG last l).length ≤ 10 * l.length
  | [], _ => by simp [deltG]
  | n :: t, last => by
    have h1 := putN_len (zigS (IntKind.i64.wrap (n - last))); have h2 := deltG_len t n
    simp only [deltG, List.length_append, List.length_cons]; omega
end Go.Proofs.YtdehjgpdcdjhjaaDoor.K
