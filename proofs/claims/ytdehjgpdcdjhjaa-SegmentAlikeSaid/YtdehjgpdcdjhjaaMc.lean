/- A framework of our own for walks over the model: Mc. -/
import Derived.Test.YtdehjgpdcdjhjaaKr
import Derived.Test.YtdehjgpdcdjhjaaMb
namespace Go.Proofs.Ytdehjgpdcdjhjaa.K
open Go Go.RowKit
set_option linter.unusedVariables false
set_option linter.unusedSimpArgs false
/-! ### Regions that draw their order: operations that read no heap (Lt) may float past those that write (T) -/
section any
variable {P : Program} {ops : Array Oper} {Q : Exit → Act → World → Prop} {C D : World → Prop} {T : List Nat}
def wpAnyD (P : Program) (ops : Array Oper) (Q : Exit → Act → World → Prop) (C D : World → Prop) (T : List Nat) : Nat → Array Bool → Act → World → Prop
  | 0, listed, a, w => Region.ready .any ops listed = [] ∧ Q .normal a w
  | fuel + 1, listed, a, w =>
    (Region.ready .any ops listed = [] → Q .normal a w) ∧
    ∀ i ∈ Region.ready .any ops listed, wpOp P ops Q i (fun a' w' => (D w' ∧ (T.contains i = false → C w → C w')) ∧ wpAnyD P ops Q C D T fuel (listed.setIfInBounds i true) a' w') a w
/-- An operation that yields in the class: it may come first. heavy: the class is C, lost at T; else D. -/
theorem wpAnyD_first {i : Nat} {oi : Oper} {v : Value} (heavy : Bool) (hi : ops[i]? = some oi) (hsel : ∀ (j : Nat) (o : Oper) cs b, ops[j]? = some o → o.op ≠ .select cs b) (hQ : ∀ ch a w, Q (.panic ch) (a.put oi.dst v) w → Q (.panic ch) a w) :
    ∀ (fuel : Nat) (listed : Array Bool) (a : Act) (w : World), D w → (heavy = true → C w) →
      (∀ j oj, ops[j]? = some oj → j ≠ i → listed.getD j true = false → (∀ e ∈ oj.after, Region.binds .any e = true → e.on ≠ i) → oi.apart ops oj = true ∧ (heavy = true → T.contains j = false)) →
      i ∈ Region.ready .any ops listed → YieldsC P ops (fun w => D w ∧ (heavy = true → C w)) oi v a →
      wpAnyD P ops Q C D T fuel (listed.setIfInBounds i true) (a.put oi.dst v) w → wpAnyD P ops Q C D T (fuel + 1) listed a w := by
  intro fuel
  induction fuel with
  | zero =>
    intro listed a w hD hC _ hr hy H
    refine ⟨fun h => (by rw [h] at hr; cases hr), fun j hj => ?_⟩
    by_cases hji : j = i
    · subst hji; exact hy.op hi ⟨hD, hC⟩ ⟨⟨hD, fun _ h => h⟩, H⟩
    · have := ready_mono hj hji
      rw [H.1] at this
      cases this
  | succ fuel ih =>
    intro listed a w hD hC hfree hr hy H
    refine ⟨fun h => (by rw [h] at hr; cases hr), fun j hj => ?_⟩
    by_cases hji : j = i
    · subst hji; exact hy.op hi ⟨hD, hC⟩ ⟨⟨hD, fun _ h => h⟩, H⟩
    · have h1 := H.2 j (ready_mono hj hji)
      obtain ⟨hjun, oj, hoj, hall⟩ := mem_ready.1 hj
      have hnot : ∀ e ∈ oj.after, Region.binds .any e = true → e.on ≠ i := fun e he hb heq => by
        have h1 := hall e he hb
        have h0 := (mem_ready.1 hr).1
        rw [heq] at h1
        rcases Nat.lt_or_ge i listed.size with h' | h'
        · simp [h'] at h0 h1; rw [h0] at h1; cases h1
        · simp [Array.getElem?_eq_none h'] at h1
      obtain ⟨hap, hT⟩ := hfree j oj hoj hji hjun hnot
      have h2 := wpOp_put hoj hap (fun cs b => hsel i oi cs b hi) (fun cs b => hsel j oj cs b hoj) hQ hy h1
      have hfree' : ∀ k ok, ops[k]? = some ok → k ≠ i → (listed.setIfInBounds j true).getD k true = false →
          (∀ e ∈ ok.after, Region.binds .any e = true → e.on ≠ i) → oi.apart ops ok = true ∧ (heavy = true → T.contains k = false) := fun k ok hk hki hun hno => by
        refine hfree k ok hk hki ?_ hno
        by_cases hjk : j = k
        · subst hjk; exact hjun
        · rw [getD_set_ne true hjk] at hun; exact hun
      refine wpOp_mono (fun a' w' h3 => ?_) h2
      obtain ⟨hy', ⟨hD', hC'⟩, h4⟩ := h3
      refine ⟨⟨hD', hC'⟩, ih (listed.setIfInBounds j true) a' w' hD' (fun hh => hC' (hT hh) (hC hh)) hfree' (ready_mono hr (Ne.symm hji)) hy' ?_⟩
      rw [Array.setIfInBounds_comm _ _ hji]
      exact h4
end any
def canD (ops : Array Oper) (S Lt T : List Nat) : List Nat → Array Bool → Bool
  | [], listed => (Region.ready .any ops listed).isEmpty
  | i :: rest, listed =>
    (if S.contains i then (Region.ready .any ops listed).contains i && Region.free .any ops listed i &&
        (Lt.contains i || (List.range ops.size).all (fun j => j == i || listed.getD j true || !T.contains j || match ops[j]? with | some oj => oj.after.any (fun e => Region.binds .any e && e.on == i) | none => true))
      else decide (Region.ready .any ops listed = [i]) && (!T.contains i || rest.all (fun k => !S.contains k || Lt.contains k))) && canD ops S Lt T rest (listed.setIfInBounds i true)
def clsD (X : Cx) (Lt : List Nat) (H0 : List Chunk) (i : Nat) : World → Prop := fun w => Holds X.w0 X.M [] w ∧ (Lt.contains i = false → Holds X.w0 X.M H0 w)
def VD3 (X : Cx) (ops : Array Oper) (S Lt T : List Nat) (Q : Post) (H0 : List Chunk) : List Nat → Env → List Chunk → Prop
  | [], E, H => ∃ E0 : Env, (∀ t u, E0.get t = some u → E.get t = some u) ∧ Q .normal E0 H
  | i :: rest, E, H => ∃ o, ops[i]? = some o ∧
    if S.contains i then ∃ v fE, DstF X E o.dst fE ∧ (∀ a, Ok X E a → YieldsC X.P ops (clsD X Lt H0 i) o v a) ∧ VD3 X ops S Lt T Q H0 rest (fE v) H
    else VL X ops [o] (Post.seq (fun E' H' => (T.contains i = false → ∃ F, Sub H0 H' F) ∧ VD3 X ops S Lt T Q H0 rest E' H') Q) E H
theorem holds_nil {w0 w : World} {M : List Nat} {H : List Chunk} (h : Holds w0 M H w) : Holds w0 M [] w := (h.perm (List.Perm.refl _)).left (H := []) (F := H)
section
variable {X : Cx} {Q : Post} {E : Env} {H H0 F : List Chunk} {ops : Array Oper} {S Lt T : List Nat}
theorem VD3.sound (hsel : Region.noSelect ops = true) (hQ : ∀ ch E H, Q (.panic ch) E H → Q (.panic ch) [] H) : ∀ (ord : List Nat) (listed : Array Bool) (E : Env) (H : List Chunk), VD3 X ops S Lt T Q H0 ord E H → canD ops S Lt T ord listed = true →
    ∀ a w, Ok X E a → Holds X.w0 X.M H w → (Holds X.w0 X.M H0 w ∨ ord.all (fun i => !S.contains i || Lt.contains i) = true) → wpAnyD X.P ops (lift X Q) (Holds X.w0 X.M H0) (Holds X.w0 X.M []) T ord.length listed a w
  | [], listed, E, H, h, hB, a, w, ha, hw, _ => by
    obtain ⟨E0, h1, h2⟩ := h
    exact ⟨by simpa [canD] using hB, E0, H, ha.sub h1, hw, h2⟩
  | i :: rest, listed, E, H, h, hB, a, w, ha, hw, hC => by
    obtain ⟨o, ho, h⟩ := h
    simp only [canD, Bool.and_eq_true] at hB
    obtain ⟨hB1, hB2⟩ := hB
    have hCr : Holds X.w0 X.M H0 w ∨ rest.all (fun i => !S.contains i || Lt.contains i) = true := by
      rcases hC with h | h
      · exact .inl h
      · rw [List.all_cons, Bool.and_eq_true] at h; exact .inr h.2
    by_cases hS : S.contains i = true
    · rw [if_pos hS] at h hB1
      obtain ⟨v, fE, hd, hy, h⟩ := h
      simp only [Bool.and_eq_true] at hB1
      obtain ⟨⟨hr, hf⟩, hT⟩ := hB1
      have hheavy : Lt.contains i = false → Holds X.w0 X.M H0 w := fun hl => by
        rcases hC with h | h
        · exact h
        · rw [List.all_cons, Bool.and_eq_true, hS, hl] at h; simp at h
      have hy' : YieldsC X.P ops (fun w => Holds X.w0 X.M [] w ∧ ((!Lt.contains i) = true → Holds X.w0 X.M H0 w)) o v a := by
        rcases hy a ha with ⟨h1, h2⟩ | h1
        · exact .inl ⟨h1, fun w hw => h2 w ⟨hw.1, fun hl => hw.2 (by rw [hl]; rfl)⟩⟩
        · exact .inr h1
      refine wpAnyD_first (!Lt.contains i) ho (Region.noSelect_spec hsel) (fun ch a' w' hq => ?_) rest.length listed a w (holds_nil hw) (fun hl => hheavy (by simpa using hl)) (fun j oj hj hne hun hno => ⟨Region.free_spec ho hf j oj hj hne hun hno, fun hl => ?_⟩) (by simpa using hr) hy'
        (VD3.sound hsel hQ rest _ _ _ h hB2 _ w (ha.setF hd) hw hCr)
      · obtain ⟨E', H', h1, h2, h3⟩ := hq
        refine ⟨[], H', ⟨?_, ?_, by intro t v h; simp [Env.get] at h⟩, h2, hQ _ _ _ h3⟩
        · have := h1.size; cases hd' : o.dst <;> simp_all [Act.put]
        · have := h1.defers; cases hd' : o.dst <;> simp_all [Act.put]
      · rw [Bool.or_eq_true] at hT
        rcases hT with hT | hT
        · rw [hT] at hl; simp at hl
        · have h1 := (List.all_eq_true.1 hT) j (List.mem_range.2 (Array.getElem?_eq_some_iff.1 hj).1)
          simp only [Bool.or_eq_true, beq_iff_eq, hj] at h1
          rcases h1 with ((h1 | h1) | h1) | h1
          · exact absurd h1 hne
          · rw [hun] at h1; cases h1
          · simpa using h1
          · obtain ⟨e, he, hb⟩ := Array.any_eq_true'.1 h1
            simp only [Bool.and_eq_true, beq_iff_eq] at hb
            exact absurd hb.2 (hno e he hb.1)
    · rw [if_neg hS] at h hB1
      simp only [Bool.and_eq_true, Bool.or_eq_true, decide_eq_true_eq] at hB1
      obtain ⟨hr, hTr⟩ := hB1
      refine ⟨fun h0 => (by rw [hr] at h0; cases h0), fun j hj => ?_⟩
      rw [hr] at hj
      obtain rfl : j = i := by simpa using hj
      have h1 := h a w ha hw
      have hall : rest.all (fun i => !S.contains i || Lt.contains i) = true ∨ T.contains j = false := by
        by_cases hTj : T.contains j = true
        · left
          rcases hTr with h | h
          · rw [hTj] at h; simp at h
          · rw [List.all_eq_true] at h ⊢; exact fun k hk => h k hk
        · exact .inr (by simpa using hTj)
      unfold wpOp
      simp only [ho]
      unfold wpList at h1
      have conv : ∀ a' w', wpList X.P ops (lift X (Post.seq (fun E' H' => (T.contains j = false → ∃ F, Sub H0 H' F) ∧ VD3 X ops S Lt T Q H0 rest E' H') Q)) [] a' w' →
          (Holds X.w0 X.M [] w' ∧ (T.contains j = false → Holds X.w0 X.M H0 w → Holds X.w0 X.M H0 w')) ∧ wpAnyD X.P ops (lift X Q) (Holds X.w0 X.M H0) (Holds X.w0 X.M []) T rest.length (listed.setIfInBounds j true) a' w' := by
        intro a' w' hh
        obtain ⟨E', H', h1, h2, h3⟩ := hh
        obtain ⟨h4, h5⟩ := h3
        have h6 : T.contains j = false → Holds X.w0 X.M H0 w' := fun hT => by obtain ⟨F, hs⟩ := h4 hT; exact (h2.perm hs.perm).left
        refine ⟨⟨holds_nil h2, fun h _ => h6 h⟩, VD3.sound hsel hQ rest _ _ _ h5 hB2 a' w' h1 h2 ?_⟩
        rcases hall with h | h
        · exact .inr h
        · exact .inl (h6 h)
      split
      · rename_i hw'
        rw [if_pos hw'] at h1
        rcases h1 with h1 | ⟨h1, h2⟩
        · left
          exact wp_mono2 conv (fun ch a w hq => hq) (fun hq => hq) h1
        · exact .inr ⟨h1, h2⟩
      · rename_i hw'
        rw [if_neg hw'] at h1
        exact conv _ _ h1
end
/-- More memory beside what a callee is given. -/
theorem Fn.frame {P : Program} {f : FuncId} {args : List Value} {C F : List Chunk} {φ : Value → List Chunk → Prop} {w : World} (h : Fn P f args C (ret φ) w) : Fn P f args (C ++ F) (ret fun v H' => ∃ H2, φ v H2 ∧ H' = H2 ++ F) w := fun hw =>
  (h hw.sub).mono fun en _ ⟨H', h1, h2⟩ => by
    cases en with
    | returned v => exact ⟨H' ++ F, ⟨H', h1, rfl⟩, hw.called h2⟩
    | panicked ch => exact h1.elim
    | outgrown => exact h1.elim
end Go.Proofs.Ytdehjgpdcdjhjaa.K
