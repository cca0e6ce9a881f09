/- A framework of our own for walks over the model: Cd. -/
import Derived.Test.YtdehjgpdcdjhjaaDoorCc
namespace Go.Proofs.YtdehjgpdcdjhjaaDoor.K
open Go Go.RowKit
set_option linter.unusedVariables false
set_option linter.unusedSimpArgs false
/-! ### What was written is read back -/
theorem get_two {u n : Nat} {t : List UInt8} (hu : u < 18446744073709551616) : getN (putN u ++ putN n ++ t) = (u, (putN u).length) := by
  rw [List.append_assoc]; exact get_put hu _
theorem putN_pos (u : Nat) : 0 < (putN u).length := by
  unfold putN putF
  split <;> simp
/-- Two numbers of a run, read. -/
theorem run_read {u n q la : Nat} {acc : List Nat} {t : List UInt8} (hu : u < 18446744073709551616) (hn : 0 < n) (hn2 : n ≤ 100000 - acc.length) (hd : ¬ (0 < acc.length ∧ acc.getD (acc.length - 1) 0 = u)) (hq : (putN u ++ putN n ++ t).length ≤ q) :
    ∃ q', t.length ≤ q' ∧ itF stepR q ⟨acc, la, false⟩ (putN u ++ putN n ++ t) = itF stepR q' ⟨acc ++ List.replicate n u, u, false⟩ t := by
  have h1 := putN_pos u
  have h2 := putN_pos n
  have e1 : getN (putN u ++ putN n ++ t) = (u, (putN u).length) := get_two hu
  have e2 : (putN u ++ putN n ++ t).drop (putN u).length = putN n ++ t := by rw [List.append_assoc, List.drop_left]
  have e3 : getN (putN n ++ t) = (n, (putN n).length) := get_put (by omega) _
  simp only [List.length_append] at hq
  refine ⟨q - 2, by omega, ?_⟩
  rw [unr_go (by simp only [List.length_append]; omega) (by simp only [List.length_append]; omega) (by rw [e1]; show (putN u).length ≠ 0; omega) (by rw [e1]; simp only [e2, e3]; omega)]
  rw [e1]
  simp only [e2, e3]
  congr 1
  rw [← List.drop_drop, e2, List.drop_left]
theorem getD_app {α : Type} (d : α) (a : List α) {b : List α} (h : b ≠ []) : (a ++ b).getD ((a ++ b).length - 1) d = b.getD (b.length - 1) d := by
  have hb : 0 < b.length := List.length_pos_iff.2 h
  rw [List.getD_eq_getElem?_getD, List.getD_eq_getElem?_getD, List.getElem?_append_right (by simp only [List.length_append]; omega)]
  congr 2
  simp only [List.length_append]; omega
theorem getD_rep {u n : Nat} (hn : 0 < n) : (List.replicate n u).getD ((List.replicate n u).length - 1) 0 = u := by
  rw [List.getD_eq_getElem?_getD, List.getElem?_replicate, if_pos (by simp; omega)]; rfl
/-- Runs read back: n of the first number have been seen. -/
theorem runs_back : ∀ (l : List Nat) (n q la : Nat) (acc : List Nat), (∀ u ∈ l, u < 18446744073709551616) → acc.length + n + l.length ≤ 100000 → (runsG n l).length ≤ q →
    (l ≠ [] → ¬ (0 < acc.length ∧ acc.getD (acc.length - 1) 0 = l.getD 0 0)) →
    finR (itF stepR q ⟨acc, la, false⟩ (runsG n l)) = some (acc ++ List.replicate (if l = [] then 0 else n) (l.getD 0 0) ++ l)
  | [], n, q, la, acc, _, _, _, _ => by
    rw [show runsG n [] = [] by rfl, itF_nil rfl]
    simp [finR]
  | [u], n, q, la, acc, hu, hl, hq, hd => by
    have hu0 := hu u (by simp)
    simp only [List.length_cons, List.length_nil] at hl
    have e : runsG n [u] = putN u ++ putN (n + 1) ++ [] := by simp [runsG]
    rw [e] at hq ⊢
    obtain ⟨q', _, h⟩ := run_read (la := la) hu0 (by omega) (by omega) (hd (by simp)) hq
    rw [h, itF_nil rfl]
    simp [finR, List.replicate_succ']
  | u :: v :: t, n, q, la, acc, hu, hl, hq, hd => by
    have hu0 := hu u (by simp)
    simp only [List.length_cons] at hl
    by_cases hv : v ≠ u
    · have e : runsG n (u :: v :: t) = putN u ++ putN (n + 1) ++ runsG 0 (v :: t) := by simp only [runsG]; rw [if_pos hv]
      rw [e] at hq ⊢
      obtain ⟨q', hq', h⟩ := run_read (la := la) hu0 (by omega) (by omega) (hd (by simp)) hq
      rw [h, runs_back (v :: t) 0 q' u _ (fun x hx => hu x (by simp [hx])) (by simp only [List.length_append, List.length_replicate, List.length_cons]; omega) hq' (fun _ => by
        rw [getD_app 0 acc (by simp), getD_rep (by omega)]
        rintro ⟨_, h2⟩
        exact hv h2.symm)]
      simp [List.replicate_succ']
    · have hv' : v = u := Decidable.not_not.1 hv
      subst hv'
      have e : runsG n (v :: v :: t) = runsG (n + 1) (v :: t) := by simp only [runsG]; rw [if_neg (by simp)]
      rw [e] at hq ⊢
      rw [runs_back (v :: t) (n + 1) q la acc (fun x hx => hu x (by simp [hx])) (by simp only [List.length_cons]; omega) hq (fun _ => hd (by simp))]
      simp [List.replicate_succ']
theorem unruns_runs {l : List Nat} (hu : ∀ u ∈ l, u < 18446744073709551616) (hl : l.length ≤ 100000) : unrunsO (runsS l) = some l := by
  rw [unrunsO_is]
  have := runs_back l 0 (runsS l).length 0 [] hu (by simpa using hl) (Nat.le_refl _) (fun _ => by simp)
  rw [show runsS l = runsG 0 l from rfl] at this ⊢
  rw [this]
  simp
theorem wrap_diff {n la : Int} (h1 : -9223372036854775808 ≤ n) (h2 : n < 9223372036854775808) : IntKind.i64.wrap (la + IntKind.i64.wrap (n - la)) = n := by
  rw [wi64_mod, wi64_mod]
  split <;> split <;> omega
theorem delt_back : ∀ (l : List Int) (la : Int) (q : Nat) (acc : List Int), (∀ n ∈ l, -9223372036854775808 ≤ n ∧ n < 9223372036854775808) → (deltG la l).length ≤ q →
    (itF stepD q ⟨acc, la⟩ (deltG la l)).map DSt.acc = some (acc ++ l)
  | [], la, q, acc, _, _ => by rw [show deltG la [] = [] by rfl, itF_nil rfl]; simp
  | n :: t, la, q, acc, hb, hq => by
    have hn := hb n (by simp)
    have hz := zigS_lt (wrap_bd (n - la)).1 (wrap_bd (n - la)).2
    have hp := putN_pos (zigS (IntKind.i64.wrap (n - la)))
    have e : deltG la (n :: t) = putN (zigS (IntKind.i64.wrap (n - la))) ++ deltG n t := rfl
    have eg : getN (deltG la (n :: t)) = (zigS (IntKind.i64.wrap (n - la)), (putN (zigS (IntKind.i64.wrap (n - la)))).length) := by rw [e]; exact get_put hz _
    have hlen : (deltG la (n :: t)).length = (putN (zigS (IntKind.i64.wrap (n - la)))).length + (deltG n t).length := by rw [e, List.length_append]
    obtain ⟨q, rfl⟩ : ∃ k, q = k + 1 := ⟨q - 1, by omega⟩
    have hst : stepD ⟨acc, la⟩ (getN (deltG la (n :: t))).1 = some ⟨acc ++ [n], n⟩ := by
      rw [eg]
      show some (DSt.mk (acc ++ [IntKind.i64.wrap (la + zagS (zigS (IntKind.i64.wrap (n - la))))]) (IntKind.i64.wrap (la + zagS (zigS (IntKind.i64.wrap (n - la)))))) = _
      rw [zag_zig, wrap_diff hn.1 hn.2]
    rw [itF_go (by omega) (by rw [eg]; show (putN (zigS (IntKind.i64.wrap (n - la)))).length ≠ 0; omega) hst, eg]
    simp only
    rw [e, List.drop_left, delt_back t n q _ (fun x hx => hb x (by simp [hx])) (by omega)]
    simp
theorem undelt_delt {l : List Int} (hb : ∀ n ∈ l, -9223372036854775808 ≤ n ∧ n < 9223372036854775808) : undeltO (deltS l) = some l := by
  have := delt_back l 0 (deltS l).length [] hb (Nat.le_refl _)
  simpa [undeltO, deltS] using this
section
variable {X : Cx} {E : Env} {H : List Chunk} {Q : Post} {ops : Array Oper} {rest : List Oper}
theorem vl_slCap {A : Option Addr} {n c sz : Nat} {e : TypeId} {vs : List Value} (hin : In (sl A n c e sz vs) H) (h : n ≤ c → VL X ops rest Q E H) : VL X ops rest Q E H := by
  intro a w ha hw
  have := hw.chunk _ hin.mem
  rcases this.2 with ⟨h1, h2⟩ | ⟨g, cap, cur, h1, _, _, h2, _⟩
  · cases h1; exact h (Nat.le_refl _) a w ha hw
  · cases h1; exact h h2 a w ha hw
end
theorem getD_mem {α : Type} (d : α) {l : List α} {i : Nat} (h : i < l.length) : l.getD i d ∈ l := by
  rw [List.getD_eq_getElem?_getD, List.getElem?_eq_getElem h]; exact List.getElem_mem _
theorem take_push {α : Type} (d : α) {l : List α} {i : Nat} (h : i < l.length) : l.take (i + 1) = l.take i ++ [l.getD i d] := by
  rw [List.take_add_one, List.getElem?_eq_getElem h, List.getD_eq_getElem?_getD, List.getElem?_eq_getElem h]; rfl
theorem runsS_len (l : List Nat) : (runsS l).length ≤ 20 * l.length := runsG_len l 0
theorem deltS_len (l : List Int) : (deltS l).length ≤ 10 * l.length := deltG_len l 0
end Go.Proofs.YtdehjgpdcdjhjaaDoor.K
