/- A framework of our own for walks over the model: Cg. -/
import Derived.Test.YtdehjgpdcdjhjaaCe
import Derived.Test.YtdehjgpdcdjhjaaKf
import Derived.Test.YtdehjgpdcdjhjaaKo
namespace Go.Proofs.Ytdehjgpdcdjhjaa.K
open Go Go.RowKit
set_option linter.unusedVariables false
set_option linter.unusedSimpArgs false
/-! ### Rows by their numbers, rows one behind the other -/
def goodRows (il rl : List Int) : Prop := rl.length ≤ 1000 ∧ ∀ i, i < rl.length → 0 ≤ rl.getD i 0 ∧ rl.getD i 0 < il.length
instance (il rl : List Int) : Decidable (goodRows il rl) := by unfold goodRows; infer_instance
theorem val_indexAddrA {X : Cx} {E : Env} {H : List Chunk} {T e ty : TypeId} {x y : Operand} {a : Addr} {n c sz : Nat} {k : IntKind} {i : Int} (hu : ∀ w, (underlying T).run X.P w = .ok (.slice e) w) (hs : ∀ w, (sizeOf e).run X.P w = .ok sz w)
    (hx : E.ev x = some (.slice (some a) n c)) (hy : E.ev y = some (.int k i)) (h0 : 0 ≤ i) (h1 : i < n) :
    Val X E H (.indexAddr T x y) ty (.pointer (some ((adr (some a)).add (i.toNat * sz)))) := by
  intro ac w o ho _ ha hw
  simp [execOp, ho, ha.ev hx, ha.ev hy, Instr.indexAt, asIntOf, hu, hs, h0, h1, adr]
def inR (n : Nat) (rl : List Int) : Prop := ∀ i, i < rl.length → 0 ≤ rl.getD i 0 ∧ rl.getD i 0 < (n : Int)
instance (n : Nat) (rl : List Int) : Decidable (inR n rl) := by unfold inR; infer_instance
def okP (nl : List Bool) (il rl : List Int) : Prop := okV nl il ∧ rl.length ≤ 1000 ∧ inR il.length rl
instance (nl : List Bool) (il rl : List Int) : Decidable (okP nl il rl) := by unfold okP; infer_instance
/-! ### Regions in which several loud operations may come in any order -/
section
/-- The walk by choices: a still operation that is free goes first; else each one that may come next is followed. H0: what the still ones look at, and is kept. -/
def VT (X : Cx) (ops : Array Oper) (S : List Nat) (Q : Post) (H0 : List Chunk) : Nat → Array Bool → Env → List Chunk → Prop
  | 0, listed, E, H => Region.ready .any ops listed = [] ∧ ∃ E0 : Env, (∀ t u, E0.get t = some u → E.get t = some u) ∧ Q .normal E0 H
  | n + 1, listed, E, H =>
    (∃ (i : Nat) (o : Oper) (v : Value) (fE : Value → Env), S.contains i = true ∧ ops[i]? = some o ∧ ((Region.ready .any ops listed).contains i && Region.free .any ops listed i) = true ∧ DstF X E o.dst fE ∧
      (∀ a, Ok X E a → YieldsC X.P ops (Holds X.w0 X.M H0) o v a) ∧ VT X ops S Q H0 n (listed.setIfInBounds i true) (fE v) H) ∨
    (Region.ready .any ops listed ≠ [] ∧ ∀ i ∈ Region.ready .any ops listed, ∃ o, ops[i]? = some o ∧
      VL X ops [o] (Post.seq (fun E' H' => (∃ F, Sub H0 H' F) ∧ VT X ops S Q H0 n (listed.setIfInBounds i true) E' H') Q) E H)
variable {X : Cx} {Q : Post} {E : Env} {H H0 : List Chunk} {ops : Array Oper} {S : List Nat}
theorem VT.sound (hsel : Region.noSelect ops = true) (hQ : ∀ ch E H, Q (.panic ch) E H → Q (.panic ch) [] H) : ∀ (n : Nat) (listed : Array Bool) (E : Env) (H : List Chunk), VT X ops S Q H0 n listed E H → ∀ (a : Act) (w : World), Ok X E a → Holds X.w0 X.M H w → Holds X.w0 X.M H0 w →
    wpAnyC X.P ops (lift X Q) (Holds X.w0 X.M H0) [] n listed a w
  | 0, listed, E, H, h, a, w, ha, hw, _ => by
    obtain ⟨h0, E0, h1, h2⟩ := h
    exact ⟨h0, E0, H, ha.sub h1, hw, h2⟩
  | n + 1, listed, E, H, h, a, w, ha, hw, hC0 => by
    rcases h with ⟨i, o, v, fE, hS, ho, hB, hd, hy, h⟩ | ⟨hne, h⟩
    · simp only [Bool.and_eq_true] at hB
      obtain ⟨hr, hf⟩ := hB
      refine wpAnyC_first ho (Region.noSelect_spec hsel) (fun ch a' w' hq => ?_) n listed a w hC0 (fun j oj hj hne hun hno => ⟨Region.free_spec ho hf j oj hj hne hun hno, by simp⟩) (by simpa using hr) (hy a ha)
        (VT.sound hsel hQ n _ _ _ h _ w (ha.setF hd) hw hC0)
      obtain ⟨E', H', h1, h2, h3⟩ := hq
      refine ⟨[], H', ⟨?_, ?_, by intro t v h; simp [Env.get] at h⟩, h2, hQ _ _ _ h3⟩
      · have := h1.size; cases hd' : o.dst <;> simp_all [Act.put]
      · have := h1.defers; cases hd' : o.dst <;> simp_all [Act.put]
    · refine ⟨fun h0 => absurd h0 hne, fun j hj => ?_⟩
      obtain ⟨o, ho, h1⟩ := h j hj
      replace h1 := h1 a w ha hw
      unfold wpOp
      simp only [ho]
      unfold wpList at h1
      have conv : ∀ a' w', wpList X.P ops (lift X (Post.seq (fun E' H' => (∃ F, Sub H0 H' F) ∧ VT X ops S Q H0 n (listed.setIfInBounds j true) E' H') Q)) [] a' w' →
          (([] : List Nat).contains j = false → Holds X.w0 X.M H0 w') ∧ wpAnyC X.P ops (lift X Q) (Holds X.w0 X.M H0) [] n (listed.setIfInBounds j true) a' w' := by
        intro a' w' hh
        obtain ⟨E', H', h1, h2, h3⟩ := hh
        obtain ⟨⟨F, hs⟩, h5⟩ := h3
        have h6 : Holds X.w0 X.M H0 w' := (h2.perm hs.perm).left
        exact ⟨fun _ => h6, VT.sound hsel hQ n _ _ _ h5 a' w' h1 h2 h6⟩
      split
      · rename_i hw'
        rw [if_pos hw'] at h1
        rcases h1 with h1 | ⟨h1, h2⟩
        · left
          exact wp_mono2 conv (fun ch a w hq => hq) (fun hq => hq) h1
        · exact .inr ⟨h1, h2⟩
      · rename_i hw'
        rw [if_neg hw'] at h1
        exact conv _ _ h1
theorem vc_drawsT {id : Nat} {l : List Oper} {F : List Chunk} (n : Nat) (S : List Nat) (H0 : List Chunk) (hs : Sub H0 H F) (hm : X.P.follows .mixedOrders = true) (hsel : Region.noSelect l.toArray = true) (hn : l.toArray.size = n) (hQ : ∀ ch E H, Q (.panic ch) E H → Q (.panic ch) [] H)
    (h : VT X l.toArray S Q H0 n (Array.replicate n false) E H) : VC X (.region id l.toArray true) Q E H := by
  intro a w ha hw
  subst hn
  have hw' : Holds X.w0 X.M H { w with drawn := w.drawn + 1 } := hw.drewn rfl rfl rfl rfl
  have h1 := VT.sound hsel hQ _ _ E H h a _ ha hw' (hw'.perm hs.perm).left
  exact wp_region_any hm (wpAny_of_C _ _ _ _ h1)
variable {n : Nat} {listed : Array Bool}
theorem vt_nil (hr : Region.ready .any ops listed = []) (h : Q .normal E H) : VT X ops S Q H0 0 listed E H := ⟨hr, E, fun _ _ h => h, h⟩
theorem vt_val {fE : Value → Env} {o : Oper} {v : Value} (i : Nat) (ho : ops[i]? = some o) (hS : S.contains i = true) (hB : ((Region.ready .any ops listed).contains i && Region.free .any ops listed i) = true) (hg : o.guard = none) (hd : DstF X E o.dst fE) (hv : Val X E H0 o.op o.type v)
    (h : VT X ops S Q H0 n (listed.setIfInBounds i true) (fE v) H) : VT X ops S Q H0 (n + 1) listed E H :=
  .inl ⟨i, o, v, fE, hS, ho, hB, hd, fun a ha => .inl ⟨by simp [Region.wanted, hg], fun w hw => hv a w o rfl rfl ha hw⟩, h⟩
/-- One operation of a fork. -/
def VF1 (X : Cx) (ops : Array Oper) (S : List Nat) (Q : Post) (H0 : List Chunk) (n : Nat) (listed : Array Bool) (E : Env) (H : List Chunk) (i : Nat) : Prop :=
  ∃ o, ops[i]? = some o ∧ VL X ops [o] (Post.seq (fun E' H' => (∃ F, Sub H0 H' F) ∧ VT X ops S Q H0 n (listed.setIfInBounds i true) E' H') Q) E H
theorem vt_op {i : Nat} {o : Oper} (ho : ops[i]? = some o) (h : VL X ops [o] (Post.seq (fun E' H' => (∃ F, Sub H0 H' F) ∧ VT X ops S Q H0 n (listed.setIfInBounds i true) E' H') Q) E H) : VF1 X ops S Q H0 n listed E H i := ⟨o, ho, h⟩
theorem vt_fork1 (i : Nat) (hr : Region.ready .any ops listed = [i]) (h : VF1 X ops S Q H0 n listed E H i) : VT X ops S Q H0 (n + 1) listed E H :=
  .inr ⟨by rw [hr]; simp, by rw [hr]; intro k hk; obtain rfl : k = i := by simpa using hk
                             exact h⟩
theorem vt_fork2 (i j : Nat) (hr : Region.ready .any ops listed = [i, j]) (h : VF1 X ops S Q H0 n listed E H i) (h2 : VF1 X ops S Q H0 n listed E H j) : VT X ops S Q H0 (n + 1) listed E H :=
  .inr ⟨by rw [hr]; simp, by
    rw [hr]; intro k hk
    rcases (by simpa using hk : k = i ∨ k = j) with rfl | rfl
    · exact h
    · exact h2⟩
end
end Go.Proofs.Ytdehjgpdcdjhjaa.K
