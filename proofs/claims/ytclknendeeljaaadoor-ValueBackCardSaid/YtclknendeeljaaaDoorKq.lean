/- A framework of our own for walks over the model: Kq. -/
import Derived.Test.YtclknendeeljaaaDoorKo
namespace Go.Proofs.YtclknendeeljaaaDoor.K
open Go Go.RowKit
set_option linter.unusedVariables false
set_option linter.unusedSimpArgs false
/-- The walk in that order. H0: what holds all along, till the tail. -/
def VD2 (X : Cx) (ops : Array Oper) (S T : List Nat) (Q : Post) (C0 : World → Prop) : List Nat → Env → List Chunk → Prop
  | [], E, H => ∃ E0 : Env, (∀ t u, E0.get t = some u → E.get t = some u) ∧ Q .normal E0 H
  | i :: rest, E, H => ∃ o, ops[i]? = some o ∧
    if S.contains i then ∃ v fE, DstF X E o.dst fE ∧ (∀ a, Ok X E a → YieldsC X.P ops C0 o v a) ∧ VD2 X ops S T Q C0 rest (fE v) H
    else VL X ops [o] (Post.seq (fun E' H' => (T.contains i = false → ∀ w', Holds X.w0 X.M H' w' → C0 w') ∧ VD2 X ops S T Q C0 rest E' H') Q) E H
section
variable {X : Cx} {Q : Post} {E : Env} {H : List Chunk} {C0 : World → Prop} {ops : Array Oper} {S T : List Nat}
theorem VD2.sound (hsel : Region.noSelect ops = true) (hQ : ∀ ch E H, Q (.panic ch) E H → Q (.panic ch) [] H) : ∀ (ord : List Nat) (listed : Array Bool) (E : Env) (H : List Chunk), VD2 X ops S T Q C0 ord E H → canB ops S T ord listed = true →
    ∀ a w, Ok X E a → Holds X.w0 X.M H w → (C0 w ∨ ord.all (fun i => !S.contains i) = true) → wpAnyC X.P ops (lift X Q) C0 T ord.length listed a w
  | [], listed, E, H, h, hB, a, w, ha, hw, _ => by
    obtain ⟨E0, h1, h2⟩ := h
    exact ⟨by simpa [canB] using hB, E0, H, ha.sub h1, hw, h2⟩
  | i :: rest, listed, E, H, h, hB, a, w, ha, hw, hC => by
    obtain ⟨o, ho, h⟩ := h
    simp only [canB, Bool.and_eq_true] at hB
    obtain ⟨hB1, hB2⟩ := hB
    by_cases hS : S.contains i = true
    · rw [if_pos hS] at h hB1
      obtain ⟨v, fE, hd, hy, h⟩ := h
      have hC0 : C0 w := by
        rcases hC with h | h
        · exact h
        · simp [hS] at h; simp [h] at hS
      simp only [Bool.and_eq_true] at hB1
      obtain ⟨⟨hr, hf⟩, hT⟩ := hB1
      refine wpAnyC_first ho (Region.noSelect_spec hsel) (fun ch a' w' hq => ?_) rest.length listed a w hC0 (fun j oj hj hne hun hno => ⟨Region.free_spec ho hf j oj hj hne hun hno, ?_⟩) (by simpa using hr) (hy a ha)
        (VD2.sound hsel hQ rest _ _ _ h hB2 _ w (ha.setF hd) hw (.inl hC0))
      · obtain ⟨E', H', h1, h2, h3⟩ := hq
        refine ⟨[], H', ⟨?_, ?_, by intro t v h; simp [Env.get] at h⟩, h2, hQ _ _ _ h3⟩
        · have := h1.size; cases hd' : o.dst <;> simp_all [Act.put]
        · have := h1.defers; cases hd' : o.dst <;> simp_all [Act.put]
      · have h1 := (List.all_eq_true.1 hT) j (List.mem_range.2 (Array.getElem?_eq_some_iff.1 hj).1)
        simp only [Bool.or_eq_true, beq_iff_eq, hj] at h1
        rcases h1 with ((h1 | h1) | h1) | h1
        · exact absurd h1 hne
        · rw [hun] at h1; cases h1
        · simpa using h1
        · obtain ⟨e, he, hb⟩ := Array.any_eq_true'.1 h1
          simp only [Bool.and_eq_true, beq_iff_eq] at hb
          exact absurd hb.2 (hno e he hb.1)
    · rw [if_neg hS] at h hB1
      simp only [Bool.and_eq_true, Bool.or_eq_true, decide_eq_true_eq] at hB1
      obtain ⟨hr, hTr⟩ := hB1
      refine ⟨fun h0 => (by rw [hr] at h0; cases h0), fun j hj => ?_⟩
      rw [hr] at hj
      obtain rfl : j = i := by simpa using hj
      have h1 := h a w ha hw
      have hall : rest.all (fun i => !S.contains i) = true ∨ T.contains j = false := by
        by_cases hTj : T.contains j = true
        · left
          rcases hTr with h | h
          · rw [hTj] at h; simp at h
          · exact h
        · exact .inr (by simpa using hTj)
      unfold wpOp
      simp only [ho]
      unfold wpList at h1
      have conv : ∀ a' w', wpList X.P ops (lift X (Post.seq (fun E' H' => (T.contains j = false → ∀ w', Holds X.w0 X.M H' w' → C0 w') ∧ VD2 X ops S T Q C0 rest E' H') Q)) [] a' w' →
          (T.contains j = false → C0 w') ∧ wpAnyC X.P ops (lift X Q) C0 T rest.length (listed.setIfInBounds j true) a' w' := by
        intro a' w' hh
        obtain ⟨E', H', h1, h2, h3⟩ := hh
        obtain ⟨h4, h5⟩ := h3
        have h6 : T.contains j = false → C0 w' := fun hT => by exact h4 hT _ h2
        refine ⟨h6, VD2.sound hsel hQ rest _ _ _ h5 hB2 a' w' h1 h2 ?_⟩
        rcases hall with h | h
        · exact .inr h
        · exact .inl (h6 h)
      split
      · rename_i hw'
        rw [if_pos hw'] at h1
        rcases h1 with h1 | ⟨h1, h2⟩
        · left
          exact wp_mono2 conv (fun ch a w hq => hq) (fun hq => hq) h1
        · exact .inr ⟨h1, h2⟩
      · rename_i hw'
        rw [if_neg hw'] at h1
        exact conv _ _ h1
end

/-! An entry of a map, asked for and then written -/
section entry
variable {κ : Type} [DecidableEq κ] {P : Program} {mt kt et : TypeId} {key : κ → Value} {z : Value}
variable {X : Cx} {E : Env} {H H' : List Chunk} {Q : Post} {ops : Array Oper} {rest : List Oper}
end entry
end Go.Proofs.YtclknendeeljaaaDoor.K
