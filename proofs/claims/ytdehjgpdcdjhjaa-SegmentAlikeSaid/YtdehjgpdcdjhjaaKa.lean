/- A framework of our own for walks over the model: Ka. -/
import Derived.Tactics
import Derived.Below
import Derived.Laws.AppendOwn
import Derived.Laws.Rows
import Derived.Laws.Tables
import Derived.KernelRfl
import Derived.Laws.StructEq
import Derived.Laws.Small
import Derived.Laws.Strings
namespace Go.Proofs.Ytdehjgpdcdjhjaa.K
open Go Go.RowKit
set_option linter.unusedVariables false
set_option linter.unusedSimpArgs false
theorem beq_ne {a b : Nat} (h : a ≠ b) : Nat.beq a b = false := by
  cases e : Nat.beq a b with
  | false => rfl
  | true => exact absurd (Nat.eq_of_beq_eq_true e) h

/-! ### The symbolic heap -/
structure Chunk where
  fp : List Nat
  A : World → Prop
  loc : ∀ w w' : World, (∀ b ∈ fp, w'.heap[b]? = w.heap[b]?) → A w → A w'

def fps (H : List Chunk) : List Nat := H.flatMap Chunk.fp
theorem fps_cons (c : Chunk) (H : List Chunk) : fps (c :: H) = c.fp ++ fps H := rfl
theorem fps_append (A B : List Chunk) : fps (A ++ B) = fps A ++ fps B := by simp [fps]
theorem fps_perm {A B : List Chunk} (h : A.Perm B) : (fps A).Perm (fps B) := h.flatMap_right _

structure Holds (w0 : World) (M : List Nat) (H : List Chunk) (w : World) : Prop where
  chunk : ∀ c ∈ H, c.A w
  nodup : (fps H).Nodup
  mine : ∀ b ∈ fps H, b < w.heap.size ∧ (b ∈ M ∨ w0.heap.size ≤ b)
  size : w0.heap.size ≤ w.heap.size
  old : ∀ b, b < w0.heap.size → b ∉ M → w.heap[b]? = w0.heap[b]?
  os : w.os = w0.os
  tape : w.tape = w0.tape
  output : w.output = w0.output

theorem Holds.perm {w0 w : World} {M : List Nat} {H H' : List Chunk} (h : Holds w0 M H w) (p : H.Perm H') : Holds w0 M H' w :=
  ⟨fun c hc => h.chunk c (p.mem_iff.2 hc), (fps_perm p).nodup_iff.1 h.nodup, fun b hb => h.mine b ((fps_perm p).mem_iff.2 hb), h.size, h.old, h.os, h.tape, h.output⟩
theorem Holds.left {w0 w : World} {M : List Nat} {H F : List Chunk} (h : Holds w0 M (H ++ F) w) : Holds w0 M H w :=
  ⟨fun c hc => h.chunk c (by simp [hc]), by have := h.nodup; rw [fps_append] at this; exact (List.nodup_append.1 this).1,
   fun b hb => h.mine b (by rw [fps_append]; simp [hb]), h.size, h.old, h.os, h.tape, h.output⟩
theorem Holds.right {w0 w : World} {M : List Nat} {H F : List Chunk} (h : Holds w0 M (H ++ F) w) : Holds w0 M F w :=
  (h.perm List.perm_append_comm).left
theorem Holds.drewn {w0 w w' : World} {M : List Nat} {H : List Chunk} (h : Holds w0 M H w) (e : w'.heap = w.heap) (eo : w'.os = w.os) (et : w'.tape = w.tape) (ep : w'.output = w.output) : Holds w0 M H w' :=
  ⟨fun c hc => c.loc w w' (fun b _ => by rw [e]) (h.chunk c hc), h.nodup, by rw [e]; exact h.mine, by rw [e]; exact h.size, by rw [e]; exact h.old, eo.trans h.os, et.trans h.tape, ep.trans h.output⟩

/-- The one lemma on change: the chunks C are given up for C'; all other blocks are as they were. -/
theorem Holds.change {w0 w w' : World} {M : List Nat} {C C' F : List Chunk} (h : Holds w0 M (C ++ F) w)
    (hs : w.heap.size ≤ w'.heap.size) (ho : w'.os = w.os) (ht : w'.tape = w.tape) (hp : w'.output = w.output)
    (hb : ∀ b, b < w.heap.size → b ∉ fps C → w'.heap[b]? = w.heap[b]?)
    (hc : ∀ c ∈ C', c.A w') (hn : (fps C').Nodup) (hm : ∀ b ∈ fps C', b < w'.heap.size ∧ (b ∈ fps C ∨ w.heap.size ≤ b)) :
    Holds w0 M (C' ++ F) w' := by
  have hnd := h.nodup
  rw [fps_append] at hnd
  obtain ⟨hnC, hnF, hdis⟩ := List.nodup_append.1 hnd
  have inF : ∀ b ∈ fps F, b < w.heap.size ∧ b ∉ fps C := fun b hbF =>
    ⟨(h.mine b (by rw [fps_append]; simp [hbF])).1, fun hbC => hdis b hbC b hbF rfl⟩
  refine ⟨fun c hc' => ?_, ?_, fun b hb' => ?_, Nat.le_trans h.size hs, fun b hb0 hbM => ?_, ho.trans h.os, ht.trans h.tape, hp.trans h.output⟩
  · rcases List.mem_append.1 hc' with hc' | hc'
    · exact hc c hc'
    · refine c.loc w w' (fun b hbf => ?_) (h.chunk c (by simp [hc']))
      have hbF : b ∈ fps F := List.mem_flatMap.2 ⟨c, hc', hbf⟩
      exact hb b (inF b hbF).1 (inF b hbF).2
  · rw [fps_append]
    refine List.nodup_append.2 ⟨hn, hnF, fun b hb1 b2 hb2 e => ?_⟩
    subst e
    rcases (hm b hb1).2 with h1 | h1
    · exact (inF b hb2).2 h1
    · have := (inF b hb2).1; omega
  · rw [fps_append] at hb'
    rcases List.mem_append.1 hb' with hb' | hb'
    · refine ⟨(hm b hb').1, ?_⟩
      rcases (hm b hb').2 with h1 | h1
      · exact (h.mine b (by rw [fps_append]; simp [h1])).2
      · exact .inr (Nat.le_trans h.size h1)
    · have := h.mine b (by rw [fps_append]; simp [hb'])
      exact ⟨by omega, this.2⟩
  · rw [hb b (Nat.lt_of_lt_of_le hb0 h.size) (fun hbC => ?_), h.old b hb0 hbM]
    rcases (h.mine b (by rw [fps_append]; simp [hbC])).2 with h1 | h1
    · exact hbM h1
    · omega
/-- A call that was given the chunks C and hands back C'. -/
theorem Holds.called {w0 w w' : World} {M : List Nat} {C C' F : List Chunk} (h : Holds w0 M (C ++ F) w) (k : Holds w (fps C) C' w') : Holds w0 M (C' ++ F) w' :=
  h.change k.size k.os k.tape k.output k.old k.chunk k.nodup k.mine
theorem Holds.start {w : World} {H : List Chunk} (hc : ∀ c ∈ H, c.A w) (hn : (fps H).Nodup) (hm : ∀ b ∈ fps H, b < w.heap.size) : Holds w (fps H) H w :=
  ⟨hc, hn, fun b hb => ⟨hm b hb, .inl hb⟩, Nat.le_refl _, fun _ _ _ => rfl, rfl, rfl, rfl⟩
theorem Holds.start0 (w : World) : Holds w [] [] w := .start (H := []) (by simp) (by simp [fps]) (by simp [fps])
theorem Holds.sub {w0 w : World} {M : List Nat} {C F : List Chunk} (h : Holds w0 M (C ++ F) w) : Holds w (fps C) C w :=
  .start h.left.chunk h.left.nodup fun b hb => (h.left.mine b hb).1
theorem Holds.below {w0 w : World} {H : List Chunk} (h : Holds w0 [] H w) : Below w0.heap.size w0 w :=
  ⟨h.os, h.tape, h.output, h.size, fun k hk => h.old k hk (by simp)⟩

/-! ### Finding chunks -/
inductive In (c : Chunk) : List Chunk → Prop
  | head {t : List Chunk} : In c (c :: t)
  | tail {d : Chunk} {t : List Chunk} : In c t → In c (d :: t)
inductive Take (c : Chunk) : List Chunk → List Chunk → Prop
  | head {t : List Chunk} : Take c (c :: t) t
  | tail {d : Chunk} {t t' : List Chunk} : Take c t t' → Take c (d :: t) (d :: t')
inductive Upd (c c' : Chunk) : List Chunk → List Chunk → Prop
  | head {t : List Chunk} : Upd c c' (c :: t) (c' :: t)
  | tail {d : Chunk} {t t' : List Chunk} : Upd c c' t t' → Upd c c' (d :: t) (d :: t')
inductive Sub : List Chunk → List Chunk → List Chunk → Prop
  | nil {H : List Chunk} : Sub [] H H
  | cons {c : Chunk} {t H F F' : List Chunk} : Take c H F → Sub t F F' → Sub (c :: t) H F'
theorem In.mem {c : Chunk} {H : List Chunk} (h : In c H) : c ∈ H := by induction h <;> simp_all
theorem Take.perm {c : Chunk} {H F : List Chunk} (h : Take c H F) : H.Perm (c :: F) := by
  induction h with
  | head => exact .refl _
  | tail _ ih => exact (List.Perm.cons _ ih).trans (.swap _ _ _)
theorem Upd.perm {c c' : Chunk} {H H' : List Chunk} (h : Upd c c' H H') : ∃ F, H.Perm (c :: F) ∧ H'.Perm (c' :: F) := by
  induction h with
  | head => exact ⟨_, .refl _, .refl _⟩
  | tail _ ih =>
    obtain ⟨F, h1, h2⟩ := ih
    exact ⟨_ :: F, (List.Perm.cons _ h1).trans (.swap _ _ _), (List.Perm.cons _ h2).trans (.swap _ _ _)⟩
theorem Sub.perm {C H F : List Chunk} (h : Sub C H F) : H.Perm (C ++ F) := by
  induction h with
  | nil => exact .refl _
  | cons ht _ ih => exact ht.perm.trans (List.Perm.cons _ ih)

/-! ### The frame -/
abbrev Env := List (Nat × Value)
def Env.get : Env → Nat → Option Value
  | [], _ => none
  | (t, v) :: E, d => bif Nat.beq t d then some v else Env.get E d
def Env.ev (E : Env) : Operand → Option Value
  | .tmp t => E.get t
  | .const v => some v
  | .global g => some (.pointer (some ⟨g, 0, none⟩))
  | .func f => some (.func (.func f) #[] #[])
def Env.set (E : Env) (d : Option Tmp) (v : Value) : Env := match d with | some d => (d, v) :: E | none => E

structure Cx where
  P : Program
  w0 : World
  M : List Nat
  n : Nat
  D : List Deferred
structure Ok (X : Cx) (E : Env) (a : Act) : Prop where
  size : a.tmps.size = X.n
  defers : a.defers = X.D
  vals : ∀ t v, E.get t = some v → a.tmps.getD t undef = v
theorem Ok.ev {X : Cx} {E : Env} {a : Act} (h : Ok X E a) {x : Operand} {v : Value} (hx : E.ev x = some v) : a.eval x = v := by
  cases x <;> simp only [Env.ev, Option.some.injEq] at hx <;> simp only [Act.eval]
  case tmp t => exact h.vals _ _ hx
  all_goals exact hx
theorem Ok.put {X : Cx} {E : Env} {a : Act} (h : Ok X E a) {d : Nat} {v : Value} (hd : d < X.n) : Ok X ((d, v) :: E) (a.put (some d) v) := by
  refine ⟨by simp [Act.put, h.size], h.defers, fun t u ht => ?_⟩
  simp only [Env.get] at ht
  by_cases e : d = t
  · subst e
    simp only [Nat.beq_refl, cond_true, Option.some.injEq] at ht
    subst ht
    simp [Act.put, h.size, hd]
  · have : Nat.beq d t = false := beq_ne e
    rw [this] at ht
    simp only [cond_false] at ht
    have := h.vals t u ht
    simpa [Act.put, Array.getElem?_setIfInBounds_ne e] using this
def dstOk (X : Cx) (d : Option Tmp) : Prop := (match d with | some d => Nat.blt d X.n | none => true) = true
theorem Ok.set {X : Cx} {E : Env} {a : Act} (h : Ok X E a) {d : Option Tmp} {v : Value} (hd : dstOk X d) : Ok X (E.set d v) (a.put d v) := by
  cases d with
  | none => exact h
  | some d => exact h.put (by simpa [dstOk, Nat.blt_eq] using hd)
/-- Where a result goes. -/
inductive DstF (X : Cx) (E : Env) : Option Tmp → (Value → Env) → Prop
  | some {d : Nat} (h : Nat.blt d X.n = true) : DstF X E (some d) (fun v => (d, v) :: E)
  | none : DstF X E none (fun _ => E)
theorem Ok.setF {X : Cx} {E : Env} {a : Act} {f : Value → Env} (h : Ok X E a) {d : Option Tmp} {v : Value} (hd : DstF X E d f) : Ok X (f v) (a.put d v) := by
  cases hd with
  | some hn => exact h.put (by simpa [Nat.blt_eq] using hn)
  | none => exact h
theorem Ok.sub {X : Cx} {E E' : Env} {a : Act} (h : Ok X E a) (hs : ∀ t v, E'.get t = some v → E.get t = some v) : Ok X E' a :=
  ⟨h.size, h.defers, fun t v ht => h.vals t v (hs t v ht)⟩
/-- E' says less than E. -/
def Env.le : Env → Env → Prop
  | [], _ => True
  | (t, v) :: E', E => E.get t = some v ∧ Env.le E' E
theorem Env.le_get {E' E : Env} (h : Env.le E' E) : ∀ t v, E'.get t = some v → E.get t = some v := by
  induction E' with
  | nil => intro t v ht; simp [Env.get] at ht
  | cons p E' ih =>
    obtain ⟨t0, v0⟩ := p
    obtain ⟨h1, h2⟩ := h
    intro t v ht
    simp only [Env.get] at ht
    by_cases e : t0 = t
    · subst e
      simp only [Nat.beq_refl, cond_true, Option.some.injEq] at ht
      exact ht ▸ h1
    · have : Nat.beq t0 t = false := beq_ne e
      rw [this] at ht
      exact ih h2 t v ht

/-! ### Judgements -/
abbrev Post := Exit → Env → List Chunk → Prop
def lift (X : Cx) (Q : Post) : Exit → Act → World → Prop := fun e a w => ∃ E H, Ok X E a ∧ Holds X.w0 X.M H w ∧ Q e E H
def VC (X : Cx) (c : Code) (Q : Post) (E : Env) (H : List Chunk) : Prop := ∀ a w, Ok X E a → Holds X.w0 X.M H w → c.wp X.P (lift X Q) a w
def VL (X : Cx) (ops : Array Oper) (l : List Oper) (Q : Post) (E : Env) (H : List Chunk) : Prop := ∀ a w, Ok X E a → Holds X.w0 X.M H w → wpList X.P ops (lift X Q) l a w
def Post.seq (N : Env → List Chunk → Prop) (Q : Post) : Post
  | .normal, E, H => N E H
  | e, E, H => Q e E H
def Post.blk (id : Nat) (Q : Post) : Post
  | .exit id', E, H => if Nat.beq id' id then Q .normal E H else Q (.exit id') E H
  | e, E, H => Q e E H
section rules
variable {X : Cx} {Q Q' : Post} {E E' : Env} {H H' : List Chunk}
theorem lift_mono (h : ∀ e E H, Q e E H → Q' e E H) : ∀ e a w, lift X Q e a w → lift X Q' e a w :=
  fun _ _ _ ⟨E, H, h1, h2, h3⟩ => ⟨E, H, h1, h2, h _ _ _ h3⟩
theorem VC.mono {c : Code} (h : VC X c Q E H) (hq : ∀ e E H, Q e E H → Q' e E H) : VC X c Q' E H :=
  fun a w ha hw => wp_mono (h a w ha hw) (lift_mono hq)
theorem vc_weak {c : Code} {F : List Chunk} (hE : Env.le E' E) (hH : Sub H' H F) (h : VC X c Q E' H') : VC X c Q E H :=
  fun a w ha hw => h a w (ha.sub (Env.le_get hE)) (hw.perm hH.perm).left
theorem vc_skip (h : Q .normal E H) : VC X .skip Q E H := fun _ _ ha hw => wp_skip ⟨E, H, ha, hw, h⟩
theorem vc_exit {id : Nat} (h : Q (.exit id) E H) : VC X (.exit id) Q E H := fun _ _ ha hw => wp_exit ⟨E, H, ha, hw, h⟩
theorem vc_ret (h : Q .ret E H) : VC X .ret Q E H := fun _ _ ha hw => wp_ret ⟨E, H, ha, hw, h⟩
theorem vc_seq {c d : Code} (h : VC X c (Post.seq (VC X d Q) Q) E H) : VC X (.seq c d) Q E H := fun a w ha hw =>
  wp_seq (wp_mono (h a w ha hw) fun e a' w' hh => by
    obtain ⟨E', H', h1, h2, h3⟩ := hh
    cases e <;> first | exact h3 a' w' h1 h2 | exact ⟨E', H', h1, h2, h3⟩)
/-- Ways meet again: what holds between c and d. -/
theorem vc_cut {c d : Code} (J : Env → List Chunk → Prop) (h : VC X c (Post.seq J Q) E H) (k : ∀ E H, J E H → VC X d Q E H) : VC X (.seq c d) Q E H :=
  vc_seq (h.mono fun e E' H' hh => by cases e <;> first | exact k _ _ hh | exact hh)
theorem vc_block {id : Nat} {c : Code} (h : VC X c (Post.blk id Q) E H) : VC X (.block id c) Q E H := fun a w ha hw =>
  wp_block (wp_mono (h a w ha hw) fun e a' w' hh => by
    obtain ⟨E', H', h1, h2, h3⟩ := hh
    cases e with
    | exit id' =>
      simp only [Post.blk] at h3
      simp only [Exit.inBlock]
      by_cases e : id' = id
      · subst e
        simp only [Nat.beq_refl, if_true] at h3
        simp only [if_true]
        exact ⟨E', H', h1, h2, h3⟩
      · have : Nat.beq id' id = false := beq_ne e
        simp only [this] at h3
        rw [if_neg e]
        exact ⟨E', H', h1, h2, by simpa using h3⟩
    | _ => exact ⟨E', H', h1, h2, h3⟩)
theorem vc_cond {c : Operand} {x y : Code} {b : Bool} (hc : E.ev c = some (.bool b)) (ht : b = true → VC X x Q E H) (hf : b = false → VC X y Q E H) : VC X (.cond c x y) Q E H :=
  fun a w ha hw => wp_cond_split (ha.ev hc) (fun h => ht h a w ha hw) (fun h => hf h a w ha hw)
theorem vc_loop {c : Code} (I : Nat → Env → List Chunk → Prop) (k : Nat) (h0 : I k E H)
    (round : ∀ k E H, I k E H → VC X c (Post.seq (fun E' H' => ∃ k' E2 H2 F, k' < k ∧ Env.le E2 E' ∧ Sub H2 H' F ∧ I k' E2 H2) Q) E H) : VC X (.loop c) Q E H := by
  intro a w ha hw b cd cs
  have key : ∀ k E H a w, I k E H → Ok X E a → Holds X.w0 X.M H w →
      ∃ e a' w', lift X Q e a' w' ∧ Arrives X.P (lone (b.at a (.code c :: .inLoop c :: cd)) cs w) b cd cs e a' w' := by
    intro k
    induction k using Nat.strongRecOn with
    | _ k ih =>
      intro E H a w hI ha hw
      obtain ⟨e, a₁, w₁, ⟨E1, H1, h1, h2, hq⟩, harr⟩ := round k E H hI a w ha hw b (.inLoop c :: cd) cs
      cases e with
      | normal =>
        obtain ⟨k', E2, H2, F, hk, hE, hH, hI2⟩ := hq
        obtain ⟨e₂, a₂, w₂, hq₂, harr₂⟩ := ih k' hk E2 H2 a₁ w₁ hI2 (h1.sub (Env.le_get hE)) (h2.perm hH.perm).left
        exact ⟨e₂, a₂, w₂, hq₂, .of_steps (Steps.trans harr (.one step_inLoop)) harr₂⟩
      | exit id => exact ⟨_, a₁, w₁, ⟨E1, H1, h1, h2, hq⟩, .pass (x := .inLoop c) rfl (fun _ _ => .inl (by simp)) harr⟩
      | goto l => exact ⟨_, a₁, w₁, ⟨E1, H1, h1, h2, hq⟩, .pass (x := .inLoop c) rfl (fun _ _ => .inl (by simp)) harr⟩
      | ret => exact ⟨_, a₁, w₁, ⟨E1, H1, h1, h2, hq⟩, .pass (x := .inLoop c) rfl (fun _ _ => .inl (by simp)) harr⟩
      | panic ch => exact ⟨_, a₁, w₁, ⟨E1, H1, h1, h2, hq⟩, .pass (x := .inLoop c) rfl (fun _ _ => .inl (by simp)) harr⟩
      | outgrown => exact ⟨_, a₁, w₁, ⟨E1, H1, h1, h2, hq⟩, .pass (x := .inLoop c) rfl (fun _ _ => .inl (by simp)) harr⟩
  obtain ⟨e, a', w', hq, harr⟩ := key k E H a w h0 ha hw
  exact ⟨e, a', w', hq, .of_steps (.one step_loop) harr⟩
theorem vc_region {id : Nat} {l : List Oper} (h : VL X l.toArray l Q E H) : VC X (.region id l.toArray false) Q E H :=
  fun a w ha hw => wp_region_lit (h a w ha hw)
theorem vl_nil {ops : Array Oper} (h : Q .normal E H) : VL X ops [] Q E H := fun _ _ ha hw => ⟨E, H, ha, hw, h⟩
end rules

/-! ### Operations that leave the world alone -/
def Val (X : Cx) (E : Env) (H : List Chunk) (o : Op) (ty : TypeId) (v : Value) : Prop :=
  ∀ (a : Act) (w : World) (o' : Oper), o'.op = o → o'.type = ty → Ok X E a → Holds X.w0 X.M H w → (execOp a.eval o').run X.P w = .ok (.value v) w
section vals
variable {X : Cx} {Q : Post} {E : Env} {H : List Chunk} {ops : Array Oper} {rest : List Oper}
theorem vl_val {fE : Value → Env} {o : Oper} {v : Value} (hg : o.guard = none) (hd : DstF X E o.dst fE) (hv : Val X E H o.op o.type v) (h : VL X ops rest Q (fE v) H) : VL X ops (o :: rest) Q E H := by
  intro a w ha hw
  refine wpList_plain hg fun K hK => ?_
  unfold Oper.wp
  rw [hv a w o rfl rfl ha hw]
  exact hK _ _ (h _ _ (ha.setF hd) hw)
theorem val_move {x : Operand} {ty : TypeId} {v : Value} (hx : E.ev x = some v) : Val X E H (.move x) ty v := by
  intro a w o ho _ ha _
  simp [execOp, ho, ha.ev hx]
theorem val_assign {x : Operand} {ty : TypeId} {v : Value} (hx : E.ev x = some v) : Val X E H (.assign x) ty v := by
  intro a w o ho _ ha _
  simp [execOp, ho, ha.ev hx]
theorem val_pick {c x y : Operand} {ty : TypeId} {b : Bool} {v : Value} (hc : E.ev c = some (.bool b)) (hv : (if b then E.ev x else E.ev y) = some v) : Val X E H (.pick c x y) ty v := by
  intro a w o ho _ ha _
  cases b
  · simp only [Bool.false_eq_true, if_false] at hv
    simp [execOp, ho, ha.ev hc, asBool, ha.ev hv]
  · simp only [if_true] at hv
    simp [execOp, ho, ha.ev hc, asBool, ha.ev hv]
theorem val_nil {x : Operand} {ty : TypeId} {v : Value} (hx : E.ev x = some v) (hv : (match v with | .pointer none | .nilIface | .nilFunc | .func (.method _) _ _ => false | _ => true) = true) : Val X E H (.nilCheck x) ty v := by
  intro a w o ho _ ha _
  simp only [execOp, ho, ha.ev hx]
  revert hv
  split <;> simp_all
theorem val_not {T ty : TypeId} {x : Operand} {b : Bool} (hx : E.ev x = some (.bool b)) : Val X E H (.unOp .not T x) ty (.bool (!b)) := by
  intro a w o ho _ ha _
  simp [execOp, ho, ha.ev hx, Op.unary]
theorem val_neg {T ty : TypeId} {x : Operand} {k : IntKind} {p r : Int} (hx : E.ev x = some (.int k p)) (hr : k.wrap (0 - p) = r) : Val X E H (.unOp .neg T x) ty (.int k r) := by
  subst hr
  intro a w o ho _ ha _
  simp [execOp, ho, ha.ev hx, Op.unary, Op.intArith]
section bin
variable {T yT ty : TypeId} {x y : Operand} {k : IntKind} {p q r : Int}
theorem val_add (hx : E.ev x = some (.int k p)) (hy : E.ev y = some (.int k q)) (hr : k.wrap (p + q) = r) : Val X E H (.binOp .add T x y yT) ty (.int k r) := by
  subst hr
  intro a w o ho _ ha _
  simp [execOp, ho, ha.ev hx, ha.ev hy, eqGuard, binOp, Op.intArith]
theorem val_sub (hx : E.ev x = some (.int k p)) (hy : E.ev y = some (.int k q)) (hr : k.wrap (p - q) = r) : Val X E H (.binOp .sub T x y yT) ty (.int k r) := by
  subst hr
  intro a w o ho _ ha _
  simp [execOp, ho, ha.ev hx, ha.ev hy, eqGuard, binOp, Op.intArith]
theorem val_mul (hx : E.ev x = some (.int k p)) (hy : E.ev y = some (.int k q)) (hr : k.wrap (p * q) = r) : Val X E H (.binOp .mul T x y yT) ty (.int k r) := by
  subst hr
  intro a w o ho _ ha _
  simp [execOp, ho, ha.ev hx, ha.ev hy, eqGuard, binOp, Op.intArith]
theorem val_quo (hx : E.ev x = some (.int k p)) (hy : E.ev y = some (.int k q)) (h0 : q ≠ 0) (hr : k.wrap (p.tdiv q) = r) : Val X E H (.binOp .quo T x y yT) ty (.int k r) := by
  subst hr
  intro a w o ho _ ha _
  simp [execOp, ho, ha.ev hx, ha.ev hy, eqGuard, binOp, Op.intDiv, h0]
theorem val_rem (hx : E.ev x = some (.int k p)) (hy : E.ev y = some (.int k q)) (h0 : q ≠ 0) (hr : p.tmod q = r) : Val X E H (.binOp .rem T x y yT) ty (.int k r) := by
  subst hr
  intro a w o ho _ ha _
  simp [execOp, ho, ha.ev hx, ha.ev hy, eqGuard, binOp, Op.intDiv, h0]
theorem val_and (hx : E.ev x = some (.int k p)) (hy : E.ev y = some (.int k q)) (hr : k.wrap ((BitVec.ofInt k.bits p &&& BitVec.ofInt k.bits q).toNat : Int) = r) : Val X E H (.binOp .and T x y yT) ty (.int k r) := by
  subst hr
  intro a w o ho _ ha _
  simp [execOp, ho, ha.ev hx, ha.ev hy, eqGuard, binOp, Op.intBits]
theorem val_or (hx : E.ev x = some (.int k p)) (hy : E.ev y = some (.int k q)) (hr : k.wrap ((BitVec.ofInt k.bits p ||| BitVec.ofInt k.bits q).toNat : Int) = r) : Val X E H (.binOp .or T x y yT) ty (.int k r) := by
  subst hr
  intro a w o ho _ ha _
  simp [execOp, ho, ha.ev hx, ha.ev hy, eqGuard, binOp, Op.intBits]
theorem val_xor (hx : E.ev x = some (.int k p)) (hy : E.ev y = some (.int k q)) (hr : k.wrap ((BitVec.ofInt k.bits p ^^^ BitVec.ofInt k.bits q).toNat : Int) = r) : Val X E H (.binOp .xor T x y yT) ty (.int k r) := by
  subst hr
  intro a w o ho _ ha _
  simp [execOp, ho, ha.ev hx, ha.ev hy, eqGuard, binOp, Op.intBits]
theorem val_com {x : Operand} (hx : E.ev x = some (.int k p)) (hr : k.wrap ((BitVec.ofInt k.bits (if k.signed then -1 else k.max) ^^^ BitVec.ofInt k.bits p).toNat : Int) = r) : Val X E H (.unOp .xor T x) ty (.int k r) := by
  subst hr
  intro a w o ho _ ha _
  simp [execOp, ho, ha.ev hx, Op.unary, Op.intBits]
theorem val_shl {yk : IntKind} (hx : E.ev x = some (.int k p)) (hy : E.ev y = some (.int yk q)) (h0 : 0 ≤ q) (hr : k.wrap (p * 2 ^ (min q.toNat k.bits)) = r) : Val X E H (.binOp .shl T x y yT) ty (.int k r) := by
  subst hr
  intro a w o ho _ ha _
  have h0' : ¬ q < 0 := by omega
  simp [execOp, ho, ha.ev hx, ha.ev hy, eqGuard, binOp, Op.shift, h0']
theorem val_shr {yk : IntKind} (hx : E.ev x = some (.int k p)) (hy : E.ev y = some (.int yk q)) (h0 : 0 ≤ q) (hr : p.fdiv (2 ^ (min q.toNat k.bits)) = r) : Val X E H (.binOp .shr T x y yT) ty (.int k r) := by
  subst hr
  intro a w o ho _ ha _
  have h0' : ¬ q < 0 := by omega
  simp [execOp, ho, ha.ev hx, ha.ev hy, eqGuard, binOp, Op.shift, h0']
theorem int_beq (p q : Int) : (p == q) = decide (p = q) := by rw [Bool.eq_iff_iff]; simp
theorem val_eq (hx : E.ev x = some (.int k p)) (hy : E.ev y = some (.int k q)) : Val X E H (.binOp .eql T x y yT) ty (.bool (decide (p = q))) := by
  intro a w o ho _ ha _
  simp [execOp, ho, ha.ev hx, ha.ev hy, eqGuard, binOp, Op.intCmp, int_beq]
theorem val_ne (hx : E.ev x = some (.int k p)) (hy : E.ev y = some (.int k q)) : Val X E H (.binOp .neq T x y yT) ty (.bool (decide (p ≠ q))) := by
  intro a w o ho _ ha _
  simp [execOp, ho, ha.ev hx, ha.ev hy, eqGuard, binOp, Op.intCmp, bne, int_beq]
theorem val_lt (hx : E.ev x = some (.int k p)) (hy : E.ev y = some (.int k q)) : Val X E H (.binOp .lss T x y yT) ty (.bool (decide (p < q))) := by
  intro a w o ho _ ha _
  simp [execOp, ho, ha.ev hx, ha.ev hy, eqGuard, binOp, Op.intCmp]
theorem val_le (hx : E.ev x = some (.int k p)) (hy : E.ev y = some (.int k q)) : Val X E H (.binOp .leq T x y yT) ty (.bool (decide (p ≤ q))) := by
  intro a w o ho _ ha _
  simp [execOp, ho, ha.ev hx, ha.ev hy, eqGuard, binOp, Op.intCmp]
theorem val_gt (hx : E.ev x = some (.int k p)) (hy : E.ev y = some (.int k q)) : Val X E H (.binOp .gtr T x y yT) ty (.bool (decide (p > q))) := by
  intro a w o ho _ ha _
  simp [execOp, ho, ha.ev hx, ha.ev hy, eqGuard, binOp, Op.intCmp]
theorem val_ge (hx : E.ev x = some (.int k p)) (hy : E.ev y = some (.int k q)) : Val X E H (.binOp .geq T x y yT) ty (.bool (decide (p ≥ q))) := by
  intro a w o ho _ ha _
  simp [execOp, ho, ha.ev hx, ha.ev hy, eqGuard, binOp, Op.intCmp]
theorem val_bne {b c : Bool} (hT : X.P.underlying T = some .bool) (hx : E.ev x = some (.bool b)) (hy : E.ev y = some (.bool c)) : Val X E H (.binOp .neq T x y yT) ty (.bool (b != c)) := by
  intro a w o ho _ ha _
  have := run_equal_bool w T b c hT
  simp only [execOp, ho, ha.ev hx, ha.ev hy, eqGuard, binOp]
  simp [this, bne]
theorem bytes_beq (s t : ByteArray) : (s.toList == t.toList) = decide (s = t) := by
  rw [ByteArray.toList_eq, ByteArray.toList_eq, Bool.eq_iff_iff]
  obtain ⟨⟨x⟩⟩ := s
  obtain ⟨⟨y⟩⟩ := t
  simp
theorem val_seq {s t : ByteArray} (hx : E.ev x = some (.string s)) (hy : E.ev y = some (.string t)) : Val X E H (.binOp .eql T x y yT) ty (.bool (decide (s = t))) := by
  intro a w o ho _ ha _
  simp [execOp, ho, ha.ev hx, ha.ev hy, eqGuard, binOp, Op.stringOp, bytes_beq]
end bin
end vals
end Go.Proofs.Ytdehjgpdcdjhjaa.K
