/- A framework of our own for walks over the model: Kp. -/
import Derived.Test.YtdehjgpdcdjhjaaDoorKo
import Derived.OpenShut
import Derived.ShutString
import Derived.ChangeArms
namespace Go.Proofs.YtdehjgpdcdjhjaaDoor.K
open Go Go.RowKit
set_option linter.unusedVariables false
set_option linter.unusedSimpArgs false
/-! A slice of structs of an int, an int and a string, as the law's input bears it. -/
section
variable {H : Type} {enc : TypeId × Value → H} {P : Program} {w : World} {base : Nat} {sp : Nat → Bool} {held : Bool}
theorem open_v3 {t ti ts : TypeId} {f1 f2 f3 : Field} {fs : Array Field} {fuel : Nat} {cs : List Value} {x : DataW H × List MemPlace} (ht : P.underlying t = some (.struct fs)) (hf : fs = #[f1, f2, f3])
    (h1 : f1.type = ti) (h2 : f2.type = ti) (h3 : f3.type = ts) (o1 : f1.offset = 0) (o2 : f2.offset = 1) (o3 : f3.offset = 2) (hi : P.underlying ti = some (.int .i64)) (hs : P.underlying ts = some .string) (ci : P.cellsOf ti = 1) (cs' : P.cellsOf ts = 1) (ct : P.cellsOf t = 3)
    (h : DataW.trod enc P w base sp held fuel t cs = some x) : ∃ (k n : Int) (s : ByteArray), cs = [.int .i64 k, .int .i64 n, .string s] ∧ (Lit.int .i64 k).wf = true ∧ (Lit.int .i64 n).wf = true ∧ s.size ≤ maxLen := by
  obtain ⟨xs, m, rfl, _, hl, hxl, hx⟩ := DataW.trod_struct ht h
  subst hf
  rw [ct] at hl
  match cs, hl with
  | [a, b, c], _ =>
    have e1 := hx 0 f1 rfl
    have e2 := hx 1 f2 rfl
    have e3 := hx 2 f3 rfl
    rw [h1, o1, ci] at e1
    rw [h2, o2, ci] at e2
    rw [h3, o3, cs'] at e3
    have g : ∀ i, i < 3 → ∃ y, xs[i]? = some y := fun i hi => ⟨_, List.getElem?_eq_getElem (by rw [hxl]; simpa using hi)⟩
    obtain ⟨y1, g1⟩ := g 0 (by decide)
    obtain ⟨y2, g2⟩ := g 1 (by decide)
    obtain ⟨y3, g3⟩ := g 2 (by decide)
    rw [g1] at e1
    rw [g2] at e2
    rw [g3] at e3
    obtain ⟨k, r1, _, w1⟩ := DataW.trod_int hi e1
    obtain ⟨n, r2, _, w2⟩ := DataW.trod_int hi e2
    obtain ⟨s, r3, _, w3⟩ := DataW.trod_string hs e3
    simp at r1 r2 r3
    exact ⟨k, n, s, by rw [r1, r2, r3], w1, w2, w3⟩
theorem cells3 {a : Addr} {cs : List Value} (h : w.cells? base a 3 = some cs) : ∀ i, i < 3 → w.cell? (a.add i) = cs[i]? := by
  unfold World.cells? at h
  split at h
  · intro i hi
    have := mapM_some_get h i i (by rw [List.getElem?_range hi])
    exact this
  · cases h
/-- The elements: three cells each. -/
theorem open_v3s {t e : TypeId} {fuel : Nat} {cs : List Value} {x : DataW H × List MemPlace} (ht : P.underlying t = some (.slice e)) (ce : P.cellsOf e = 3)
    (hop : ∀ n cs' y, DataW.trod enc P w base sp held n e cs' = some y → ∃ (k n : Int) (s : ByteArray), cs' = [.int .i64 k, .int .i64 n, .string s] ∧ (Lit.int .i64 k).wf = true ∧ (Lit.int .i64 n).wf = true ∧ s.size ≤ maxLen)
    (h : DataW.trod enc P w base sp held fuel t cs = some x) : ∃ (A : Option Addr) (c : Nat) (l : List (Int × Int × ByteArray)), cs = [.slice A l.length c] ∧ l.length ≤ maxLen ∧
      Reads w A (l.flatMap fun p => [.int .i64 p.1, .int .i64 p.2.1, .string p.2.2]) ∧ ∀ p ∈ l, (Lit.int .i64 p.1).wf = true ∧ (Lit.int .i64 p.2.1).wf = true ∧ p.2.2.size ≤ maxLen := by
  rcases DataW.trod_slice ht h with ⟨rfl, _⟩ | ⟨a, len, cap, elems, rest, m, rfl, rfl, _, _, hlc, hcm, hlen, hel, _⟩
  · exact ⟨none, 0, [], rfl, by simp, fun j u hj => by simp at hj, by simp⟩
  · have key : ∀ i, i < len → ∃ p : Int × Int × ByteArray, ((∀ j u, ([.int .i64 p.1, .int .i64 p.2.1, .string p.2.2] : List Value)[j]? = some u → w.cell? (a.add (i * 3 + j)) = some u) ∧ (Lit.int .i64 p.1).wf = true ∧ (Lit.int .i64 p.2.1).wf = true ∧ p.2.2.size ≤ maxLen) := by
      intro i hi
      have hE := hel i hi
      rw [ce] at hE
      have : elems[i]? = some (elems[i]'(by rw [hlen]; exact hi)) := List.getElem?_eq_getElem _
      rw [this, Option.bind_eq_some_iff] at hE
      obtain ⟨c1, hc1, hy1⟩ := hE
      obtain ⟨k, n, s, rfl, w1, w2, w3⟩ := hop _ _ _ hy1
      refine ⟨(k, n, s), fun j u hj => ?_, w1, w2, w3⟩
      have hj3 : j < 3 := by have := (List.getElem?_eq_some_iff.1 hj).1; simpa using this
      rw [← Addr.add_add, cells3 hc1 j hj3]
      exact hj
    have build : ∀ n, n ≤ len → ∃ l : List (Int × Int × ByteArray), l.length = n ∧ Reads w (some a) (l.flatMap fun p => [.int .i64 p.1, .int .i64 p.2.1, .string p.2.2]) ∧ ∀ p ∈ l, (Lit.int .i64 p.1).wf = true ∧ (Lit.int .i64 p.2.1).wf = true ∧ p.2.2.size ≤ maxLen := by
      intro n
      induction n with
      | zero => exact fun _ => ⟨[], rfl, fun j u hj => by simp at hj, by simp⟩
      | succ n ih =>
        intro hn
        obtain ⟨l, h1, h2, h3⟩ := ih (by omega)
        obtain ⟨p, hp, hw⟩ := key n (by omega)
        have hfl : (l.flatMap fun p => ([.int .i64 p.1, .int .i64 p.2.1, .string p.2.2] : List Value)).length = l.length * 3 := by
          clear h2 h3 h1 ih
          induction l with
          | nil => rfl
          | cons q l ih => simp only [List.flatMap_cons, List.length_append, List.length_cons, List.length_nil] at ih ⊢; omega
        refine ⟨l ++ [p], by simp [h1], fun j u hj => ?_, fun q hq => ?_⟩
        · rw [List.flatMap_append, List.flatMap_cons, List.flatMap_nil, List.append_nil] at hj
          by_cases hlt : j < l.length * 3
          · rw [List.getElem?_append_left (by rw [hfl]; exact hlt)] at hj
            exact h2 j u hj
          · rw [List.getElem?_append_right (by rw [hfl]; omega), hfl] at hj
            refine ⟨a, rfl, ?_⟩
            have := hp _ u hj
            rwa [h1, show n * 3 + (j - n * 3) = j by omega] at this
        · rcases List.mem_append.1 hq with h | h
          · exact h3 q h
          · simp at h; subst h; exact hw
    obtain ⟨l, h1, h2, h3⟩ := build len (Nat.le_refl _)
    exact ⟨some a, cap, l, by rw [h1], by omega, h2, h3⟩
end
end Go.Proofs.YtdehjgpdcdjhjaaDoor.K
