/- A framework of our own for walks over the model: Cg. -/
import Derived.Test.YtclknendeeljaaaDoorCe
import Derived.Test.YtclknendeeljaaaDoorKf
import Derived.Test.YtclknendeeljaaaDoorKo
namespace Go.Proofs.YtclknendeeljaaaDoor.K
open Go Go.RowKit
set_option linter.unusedVariables false
set_option linter.unusedSimpArgs false
/-! ### Rows by their numbers, rows one behind the other -/
def goodRows (il rl : List Int) : Prop := rl.length ≤ 1000 ∧ ∀ i, i < rl.length → 0 ≤ rl.getD i 0 ∧ rl.getD i 0 < il.length
instance (il rl : List Int) : Decidable (goodRows il rl) := by unfold goodRows; infer_instance
def inR (n : Nat) (rl : List Int) : Prop := ∀ i, i < rl.length → 0 ≤ rl.getD i 0 ∧ rl.getD i 0 < (n : Int)
instance (n : Nat) (rl : List Int) : Decidable (inR n rl) := by unfold inR; infer_instance
def okP (nl : List Bool) (il rl : List Int) : Prop := okV nl il ∧ rl.length ≤ 1000 ∧ inR il.length rl
instance (nl : List Bool) (il rl : List Int) : Decidable (okP nl il rl) := by unfold okP; infer_instance
/-! ### Regions in which several loud operations may come in any order -/
section
/-- The walk by choices: a still operation that is free goes first; else each one that may come next is followed. H0: what the still ones look at, and is kept. -/
def VT (X : Cx) (ops : Array Oper) (S : List Nat) (Q : Post) (H0 : List Chunk) : Nat → Array Bool → Env → List Chunk → Prop
  | 0, listed, E, H => Region.ready .any ops listed = [] ∧ ∃ E0 : Env, (∀ t u, E0.get t = some u → E.get t = some u) ∧ Q .normal E0 H
  | n + 1, listed, E, H =>
    (∃ (i : Nat) (o : Oper) (v : Value) (fE : Value → Env), S.contains i = true ∧ ops[i]? = some o ∧ ((Region.ready .any ops listed).contains i && Region.free .any ops listed i) = true ∧ DstF X E o.dst fE ∧
      (∀ a, Ok X E a → YieldsC X.P ops (Holds X.w0 X.M H0) o v a) ∧ VT X ops S Q H0 n (listed.setIfInBounds i true) (fE v) H) ∨
    (Region.ready .any ops listed ≠ [] ∧ ∀ i ∈ Region.ready .any ops listed, ∃ o, ops[i]? = some o ∧
      VL X ops [o] (Post.seq (fun E' H' => (∃ F, Sub H0 H' F) ∧ VT X ops S Q H0 n (listed.setIfInBounds i true) E' H') Q) E H)
variable {X : Cx} {Q : Post} {E : Env} {H H0 : List Chunk} {ops : Array Oper} {S : List Nat}
theorem VT.sound (hsel : Region.noSelect ops = true) (hQ : ∀ ch E H, Q (.panic ch) E H → Q (.panic ch) [] H) : ∀ (n : Nat) (listed : Array Bool) (E : Env) (H : List Chunk), VT X ops S Q H0 n listed E H → ∀ (a : Act) (w : World), Ok X E a → Holds X.w0 X.M H w → Holds X.w0 X.M H0 w →
    wpAnyC X.P ops (lift X Q) (Holds X.w0 X.M H0) [] n listed a w
  | 0, listed, E, H, h, a, w, ha, hw, _ => by
    obtain ⟨h0, E0, h1, h2⟩ := h
    exact ⟨h0, E0, H, ha.sub h1, hw, h2⟩
  | n + 1, listed, E, H, h, a, w, ha, hw, hC0 => by
    rcases h with ⟨i, o, v, fE, hS, ho, hB, hd, hy, h⟩ | ⟨hne, h⟩
    · simp only [Bool.and_eq_true] at hB
      obtain ⟨hr, hf⟩ := hB
      refine wpAnyC_first ho (Region.noSelect_spec hsel) (fun ch a' w' hq => ?_) n listed a w hC0 (fun j oj hj hne hun hno => ⟨Region.free_spec ho hf j oj hj hne hun hno, by simp⟩) (by simpa using hr) (hy a ha)
        (VT.sound hsel hQ n _ _ _ h _ w (ha.setF hd) hw hC0)
      obtain ⟨E', H', h1, h2, h3⟩ := hq
      refine ⟨[], H', ⟨?_, ?_, by intro t v h; simp [Env.get] at h⟩, h2, hQ _ _ _ h3⟩
      · have := h1.size; cases hd' : o.dst <;> simp_all [Act.put]
      · have := h1.defers; cases hd' : o.dst <;> simp_all [Act.put]
    · refine ⟨fun h0 => absurd h0 hne, fun j hj => ?_⟩
      obtain ⟨o, ho, h1⟩ := h j hj
      replace h1 := h1 a w ha hw
      unfold wpOp
      simp only [ho]
      unfold wpList at h1
      have conv : ∀ a' w', wpList X.P ops (lift X (Post.seq (fun E' H' => (∃ F, Sub H0 H' F) ∧ VT X ops S Q H0 n (listed.setIfInBounds j true) E' H') Q)) [] a' w' →
          (([] : List Nat).contains j = false → Holds X.w0 X.M H0 w') ∧ wpAnyC X.P ops (lift X Q) (Holds X.w0 X.M H0) [] n (listed.setIfInBounds j true) a' w' := by
        intro a' w' hh
        obtain ⟨E', H', h1, h2, h3⟩ := hh
        obtain ⟨⟨F, hs⟩, h5⟩ := h3
        have h6 : Holds X.w0 X.M H0 w' := (h2.perm hs.perm).left
        exact ⟨fun _ => h6, VT.sound hsel hQ n _ _ _ h5 a' w' h1 h2 h6⟩
      split
      · rename_i hw'
        rw [if_pos hw'] at h1
        rcases h1 with h1 | ⟨h1, h2⟩
        · left
          exact wp_mono2 conv (fun ch a w hq => hq) (fun hq => hq) h1
        · exact .inr ⟨h1, h2⟩
      · rename_i hw'
        rw [if_neg hw'] at h1
        exact conv _ _ h1
variable {n : Nat} {listed : Array Bool}
end
end Go.Proofs.YtclknendeeljaaaDoor.K
