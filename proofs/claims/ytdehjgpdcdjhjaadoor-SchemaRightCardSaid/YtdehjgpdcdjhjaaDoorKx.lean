/- A framework of our own for walks over the model: Kx. -/
import Derived.Test.YtdehjgpdcdjhjaaDoorKw
import Derived.RangeFuncLeaves
import Derived.RangeFuncRecord
import Derived.TacticsIn
namespace Go.Proofs.YtdehjgpdcdjhjaaDoor.K
open Go Go.RowKit
set_option linter.unusedVariables false
set_option linter.unusedSimpArgs false
/-! ### Ranges over a function: rounds -/
/-- A fence that asks nothing. -/
inductive Free : Fence → Prop
  | wide : Free Fence.wide
  | round (l : Nat) : Free (Fence.wide.inRound l)
theorem Free.fn {F : Fence} (h : Free F) (f : FuncId) : F.fn f := by cases h <;> exact trivial
theorem Free.depth {F : Fence} (h : Free F) : ¬ F.depth.isSome = true := by cases h <;> simp [Fence.wide]
theorem Free.calls {F : Fence} (h : Free F) {n : Nat} {P : Program} {f : FuncId} {args : Array Value} {w : World} {R : Ending → World → Prop} (hc : Calls P f args w R) : CallsIn F n P f args w R := by
  cases h
  · exact callsIn_wide.2 hc
  · exact (callsIn_wide (n := n)).2 hc
theorem Free.rows {F : Fence} (h : Free F) {n : Nat} {P : Program} {row : String} {args : Array Value} {w : World} {R : Value → World → Prop} (hc : Rows P row args w R) : RowsIn F n P row args w R := by
  cases h
  · exact fun c cs _ => let ⟨v, w', r, s⟩ := hc c cs; ⟨v, w', r, stepsIn_wide.2 s⟩
  · exact fun c cs _ => let ⟨v, w', r, s⟩ := hc c cs; ⟨v, w', r, stepsIn_wide.2 s⟩
theorem Free.upon {F : Fence} (h : Free F) {n : Nat} {P : Program} {o : Oper} {a : Act} {next : Act → World → Prop} {Q : Exit → Act → World → Prop} {r : Result Next} (hu : o.upon P a next Q r) : o.uponIn F n P a next Q r := by
  cases r with
  | ok x w =>
    cases x <;> simp only [Oper.upon, Oper.uponIn] at hu ⊢ <;> first
      | exact hu
      | exact ⟨fun hd => absurd hd h.depth, h.calls hu⟩
      | exact ⟨fun hd => absurd hd h.depth, h.rows hu⟩
      | exact hu.elim
  | halt x w => cases x <;> simp only [Oper.upon, Oper.uponIn] at hu ⊢ <;> exact hu
def noDefer (o : Oper) : Bool := match o.op with | .defer _ => false | _ => true
theorem noDefer_ne {o : Oper} (h : noDefer o = true) : ∀ c, o.op ≠ .defer c := fun c e => by simp [noDefer, e] at h
theorem Free.list {F : Fence} (h : Free F) {n : Nat} {P : Program} {ops : Array Oper} {Q : Exit → Act → World → Prop} (hno : ¬ LetsOut Q) : ∀ (l : List Oper) (a : Act) (w : World), l.all noDefer = true → wpList P ops Q l a w → wpListIn F n P ops Q l a w
  | [], _, _, _, hq => hq
  | o :: l, a, w, hd, hq => by
    simp only [List.all_cons, Bool.and_eq_true] at hd
    unfold wpList at hq
    unfold wpListIn
    split
    · rename_i hw
      rw [if_pos hw] at hq
      rcases hq with hq | ⟨_, hq⟩
      · refine ⟨fun f _ => h.fn f, ?_⟩
        rw [Oper.semAt_eq _ _ _ (noDefer_ne hd.1)]
        exact h.upon (wp_mono2 (fun a w hh => Free.list h hno l a w hd.2 hh) (fun _ _ _ h => h) (fun h => h) hq)
      · exact absurd hq hno
    · rename_i hw
      rw [if_neg hw] at hq
      exact ⟨fun f _ => h.fn f, Free.list h hno l _ w hd.2 hq⟩
def noOut (Q : Post) : Prop := ∀ E H, ¬ Q .outgrown E H
theorem noOut.lets {X : Cx} {Q : Post} (h : noOut Q) : ¬ LetsOut (lift X Q) := fun ⟨_, _, _, _, _, _, h3⟩ => h _ _ h3
theorem noOut.seq {N : Env → List Chunk → Prop} {Q : Post} (h : noOut Q) : noOut (Post.seq N Q) := h
theorem noOut.blk {id : Nat} {Q : Post} (h : noOut Q) : noOut (Post.blk id Q) := h

/-! Regions in which yield is called -/
def VLI (X : Cx) (ops : Array Oper) (l : List Oper) (Q : Post) (E : Env) (H : List Chunk) : Prop := ∀ a w, Ok X E a → Holds X.w0 X.M H w → wpListIn Fence.wide 0 X.P ops (lift X Q) l a w
/-- What a call of yield does. -/
def YFn (P : Program) (l : Nat) (args : List Value) (C : List Chunk) (R : Ending → List Chunk → Prop) (w : World) : Prop :=
  Holds w (fps C) C w → ∃ fn tmps assign body, (Instr.yield l args.toArray).run P w = .ok (.round l fn tmps assign body) w ∧ RoundIn Fence.wide 0 P l fn tmps assign body w fun e w' => ∃ H', R e H' ∧ Holds w (fps C) H' w'
section
variable {X : Cx} {Q : Post} {E : Env} {H : List Chunk} {ops : Array Oper} {rest : List Oper}
theorem vc_regionI {id : Nat} {l : List Oper} (h : VLI X l.toArray l Q E H) : VC X (.region id l.toArray false) Q E H := fun a w ha hw => wpIn_wide.1 (wpIn_region_lit (h a w ha hw))
theorem vli_nil (h : Q .normal E H) : VLI X ops [] Q E H := fun _ _ ha hw => ⟨E, H, ha, hw, h⟩
theorem vli_op {o : Oper} (hno : noOut Q) (hd : noDefer o = true) (h : VL X ops [o] (Post.seq (fun E' H' => VLI X ops rest Q E' H') Q) E H) : VLI X ops (o :: rest) Q E H := by
  intro a w ha hw
  have h1 := Free.wide.list (n := 0) (hno.seq).lets [o] a w (by simp [hd]) (h a w ha hw)
  unfold wpListIn at h1 ⊢
  have conv : ∀ a' w', wpListIn Fence.wide 0 X.P ops (lift X (Post.seq (fun E' H' => VLI X ops rest Q E' H') Q)) [] a' w' → wpListIn Fence.wide 0 X.P ops (lift X Q) rest a' w' := fun a' w' hh => by
    obtain ⟨E', H', h1, h2, h3⟩ := hh
    exact h3 a' w' h1 h2
  split
  · rename_i hw'
    rw [if_pos hw'] at h1
    refine ⟨h1.1, ?_⟩
    have h2 := h1.2
    generalize (o.semAt Fence.wide.round a.eval).run X.P w = r at h2 ⊢
    cases r with
    | ok x w1 =>
      cases x <;> simp only [Oper.uponIn] at h2 ⊢ <;> first
        | exact conv _ _ h2
        | exact h2.elim
        | exact ⟨h2.1, h2.2.mono fun e w'' he => by cases e <;> first | exact conv _ _ he | exact he⟩
        | exact ⟨h2.1, h2.2.mono fun _ _ he => conv _ _ he⟩
    | halt x w1 => cases x <;> simp only [Oper.uponIn] at h2 ⊢ <;> exact h2
  · rename_i hw'
    rw [if_neg hw'] at h1
    exact ⟨h1.1, conv _ _ h1.2⟩
theorem vli_yield {fE : Value → Env} {o : Oper} {l : Nat} {x : Operand} {xs : Array Operand} {ats : Array TypeId} {args : List Value} {C F : List Chunk} {R : Ending → List Chunk → Prop} (ho : o.op = .call { callee := .value x, args := xs, argTypes := ats })
    (hg : o.guard = none) (hd : DstF X E o.dst fE) (hx : E.ev x = some (.func (.yield l) #[] #[])) (hxs : E.evs xs.toList = some args) (hs : Sub C H F) (hf : ∀ w, YFn X.P l args C R w)
    (hR : ∀ v H', R (.returned v) H' → VLI X ops rest Q (fE v) (H' ++ F)) (hp : ∀ ch H', R (.panicked ch) H' → Q (.panic ch) E (H' ++ F)) (hout : ∀ H', ¬ R .outgrown H') : VLI X ops (o :: rest) Q E H := by
  intro a w ha hw
  have h1 : xs.map a.eval = args.toArray := by rw [← evs_map ha _ _ hxs, ← Array.toList_map]
  have hw' := hw.perm hs.perm
  obtain ⟨fn, tmps, assign, body, hy, hround⟩ := hf w hw'.sub
  unfold wpListIn
  rw [if_pos (by simp [Region.wanted, hg])]
  refine ⟨fun _ _ => trivial, ?_⟩
  have hrun : (o.semAt Fence.wide.round a.eval).run X.P w = .ok (.round l fn tmps assign body) w := by
    rw [Oper.semAt_eq _ _ _ (fun c h => by rw [ho] at h; cases h)]
    simp [execOp, ho, resolve, h1, ha.ev hx, Deferred.ofValue, invoke, hy]
  rw [hrun]
  refine ⟨fun h => by simp [Fence.wide] at h, hround.mono fun e w'' ⟨H', h2, h3⟩ => ?_⟩
  have h4 := hw'.called h3
  cases e with
  | returned v => exact hR v H' h2 _ _ (ha.setF hd) h4
  | panicked ch => exact ⟨E, _, ha, h4, hp ch H' h2⟩
  | outgrown => exact (hout _ h2).elim
end

/-! One round, in its own frame -/
def VR (X : Cx) (l : Nat) (c : Code) (Q : Post) (E : Env) (H : List Chunk) : Prop := ∀ a w, Ok X E a → Holds X.w0 X.M H w → c.wpIn (Fence.wide.inRound l) 0 X.P (lift X Q) a w
section
variable {X : Cx} {Q : Post} {E E' : Env} {H H' : List Chunk} {l : Nat}
theorem vr_skip (h : Q .normal E H) : VR X l .skip Q E H := fun _ _ ha hw => wpIn_skip ⟨E, H, ha, hw, h⟩
theorem vr_exit {id : Nat} (h : Q (.exit id) E H) : VR X l (.exit id) Q E H := fun _ _ ha hw => wpIn_exit ⟨E, H, ha, hw, h⟩
theorem vr_ret (h : Q .ret E H) : VR X l .ret Q E H := fun _ _ ha hw => wpIn_ret ⟨E, H, ha, hw, h⟩
theorem vr_label {k : Nat} (h : Q .normal E H) : VR X l (.label k) Q E H := fun _ _ ha hw => wpIn_label ⟨E, H, ha, hw, h⟩
theorem vr_seq {c d : Code} (h : VR X l c (Post.seq (VR X l d Q) Q) E H) : VR X l (.seq c d) Q E H := fun a w ha hw =>
  wpIn_seq (wpIn_mono (h a w ha hw) fun e a' w' hh => by
    obtain ⟨E', H', h1, h2, h3⟩ := hh
    cases e <;> first | exact h3 a' w' h1 h2 | exact ⟨E', H', h1, h2, h3⟩)
theorem vr_block {id : Nat} {c : Code} (h : VR X l c (Post.blk id Q) E H) : VR X l (.block id c) Q E H := fun a w ha hw =>
  wpIn_block (wpIn_mono (h a w ha hw) fun e a' w' hh => by
    obtain ⟨E', H', h1, h2, h3⟩ := hh
    cases e with
    | exit id' =>
      simp only [Post.blk] at h3
      simp only [Exit.inBlock]
      by_cases e : id' = id
      · subst e
        simp only [Nat.beq_refl, if_true] at h3
        simp only [if_true]
        exact ⟨E', H', h1, h2, h3⟩
      · have : Nat.beq id' id = false := beq_ne e
        simp only [this] at h3
        rw [if_neg e]
        exact ⟨E', H', h1, h2, by simpa using h3⟩
    | _ => exact ⟨E', H', h1, h2, h3⟩)
theorem vr_cond {c : Operand} {x y : Code} {b : Bool} (hc : E.ev c = some (.bool b)) (ht : b = true → VR X l x Q E H) (hf : b = false → VR X l y Q E H) : VR X l (.cond c x y) Q E H :=
  fun a w ha hw => wpIn_cond_split (ha.ev hc) (fun h => ht h a w ha hw) (fun h => hf h a w ha hw)
theorem vr_weak {c : Code} {F : List Chunk} (hE : Env.le E' E) (hH : Sub H' H F) (h : VR X l c Q E' H') : VR X l c Q E H :=
  fun a w ha hw => h a w (ha.sub (Env.le_get hE)) (hw.perm hH.perm).left
theorem vr_region {id : Nat} {ops : List Oper} (hno : noOut Q) (hd : ops.all noDefer = true) (h : VL X ops.toArray ops Q E H) : VR X l (.region id ops.toArray false) Q E H :=
  fun a w ha hw => wpIn_region_lit ((Free.round l).list hno.lets ops a w hd (h a w ha hw))
theorem vr_loop {c : Code} (I : Nat → Env → List Chunk → Prop) (k : Nat) (h0 : I k E H)
    (round : ∀ k E H, I k E H → VR X l c (Post.seq (fun E' H' => ∃ k' E2 H2 F, k' < k ∧ Env.le E2 E' ∧ Sub H2 H' F ∧ I k' E2 H2) Q) E H) : VR X l (.loop c) Q E H := by
  intro a w ha hw b cd cs hro hb hr
  have key : ∀ k E H a w, I k E H → Ok X E a → Holds X.w0 X.M H w →
      ∃ e a' w', lift X Q e a' w' ∧ ArrivesIn (Machine.fenced X.P (Fence.wide.inRound l)) X.P (lone (b.atR a (.code c :: .inLoop c :: cd)) cs w) b cd cs e a' w' := by
    intro k
    induction k using Nat.strongRecOn with
    | _ k ih =>
      intro E H a w hI ha hw
      obtain ⟨e, a₁, w₁, ⟨E1, H1, h1, h2, hq⟩, harr⟩ := round k E H hI a w ha hw b (.inLoop c :: cd) cs hro hb hr
      cases e with
      | normal =>
        obtain ⟨k', E2, H2, F, hk, hE, hH, hI2⟩ := hq
        obtain ⟨e₂, a₂, w₂, hq₂, harr₂⟩ := ih k' hk E2 H2 a₁ w₁ hI2 (h1.sub (Env.le_get hE)) (h2.perm hH.perm).left
        exact ⟨e₂, a₂, w₂, hq₂, .of_steps (StepsIn.trans harr (.one (fenced_calm hb hr rfl) stepR_inLoop)) harr₂⟩
      | exit id => exact ⟨_, a₁, w₁, ⟨E1, H1, h1, h2, hq⟩, .pass (x := .inLoop c) rfl (fun _ _ => .inl (by simp)) harr⟩
      | goto l => exact ⟨_, a₁, w₁, ⟨E1, H1, h1, h2, hq⟩, .pass (x := .inLoop c) rfl (fun _ _ => .inl (by simp)) harr⟩
      | ret => exact ⟨_, a₁, w₁, ⟨E1, H1, h1, h2, hq⟩, .pass (x := .inLoop c) rfl (fun _ _ => .inl (by simp)) harr⟩
      | panic ch => exact ⟨_, a₁, w₁, ⟨E1, H1, h1, h2, hq⟩, .pass (x := .inLoop c) rfl (fun _ _ => .inl (by simp)) harr⟩
      | outgrown => exact ⟨_, a₁, w₁, ⟨E1, H1, h1, h2, hq⟩, .pass (x := .inLoop c) rfl (fun _ _ => .inl (by simp)) harr⟩
  obtain ⟨e, a', w', hq, harr⟩ := key k E H a w h0 ha hw
  exact ⟨e, a', w', hq, .of_steps (.one (fenced_calm hb hr rfl) stepR_loop) harr⟩
theorem vr_loopw {c : Code} (I : Nat → Env → List Chunk → Prop) (k : Nat) (h0 : ∃ E0 H0 F, I k E0 H0 ∧ Env.le E0 E ∧ Sub H0 H F)
    (round : ∀ k E H, I k E H → VR X l c (Post.seq (fun E' H' => ∃ k' E2 H2 F, k' < k ∧ Env.le E2 E' ∧ Sub H2 H' F ∧ I k' E2 H2) Q) E H) : VR X l (.loop c) Q E H := by
  obtain ⟨E0, H0, F, h, hE, hH⟩ := h0
  exact vr_weak hE hH (vr_loop I k h round)
end

/-! The record of a range over a function -/
def lp (l : Nat) (r : Loop) : Chunk := ⟨[l], fun w => w.heap[l]? = some (.loop r), fun w w' h hA => by rw [h l (by simp)]; exact hA⟩
def dfb (D : Nat) : Chunk := ⟨[D], fun w => w.heap[D]? = some (.deferred (some [])), fun w w' h hA => by rw [h D (by simp)]; exact hA⟩
theorem putObj_grown (w : World) (l : Nat) (o : Obj) : w.grownBy (w.putObj l o) (some l) :=
  ⟨rfl, rfl, rfl, by simp, fun k _ hk => World.putObj_heap_other (fun e => hk (by rw [e]))⟩
theorem Holds.putLp {w0 w : World} {M : List Nat} {H H' : List Chunk} {l : Nat} {r r' : Loop} (h : Holds w0 M H w) (hu : Upd (lp l r) (lp l r') H H') : Holds w0 M H' (w.putObj l (.loop r')) := by
  obtain ⟨F, h1, h2⟩ := hu.perm
  have hp := h.perm h1
  have hb : w.heap[l]? = some (.loop r) := hp.chunk (lp l r) (by simp)
  have hl := (Array.getElem?_eq_some_iff.1 hb).1
  refine h.grown (b := some l) hu (putObj_grown w l _) (by simp [lp]) (World.putObj_heap_same hl) (by simp [lp]) fun k hk => ?_
  simp [lp] at hk
  subst hk
  exact ⟨by simpa using hl, .inl (by simp [lp])⟩
/-- The round's end. -/
def roundQ (l : Nat) (rb : Loop) (R : Ending → List Chunk → Prop) : Post
  | .normal, _, H => ∃ H' H2 F, Upd (lp l rb) (lp l { rb with state := .ready, pending := none }) H H' ∧ Sub H2 H' F ∧ R (.returned (.bool true)) H2
  | .panic ch, _, H => ∃ H2 F, Sub H2 H F ∧ R (.panicked ch) H2
  | _, _, _ => False
/-- A call of yield, out of the walk of the loop's body. -/
theorem yfn_of {P : Program} {l : Nat} {r : Loop} {args : List Value} {C : List Chunk} {C0 : Loop → List Chunk} {g : Func} {E : Env} {R : Ending → List Chunk → Prop} {w : World} {n : Nat} (hfn : P.funcs[r.fn]? = some g) (hr : r.state = .ready) (hs : Nat.beq args.length r.params.size = true) (hl : ∀ rb, Upd (lp l r) (lp l rb) C (C0 rb))
    (hE : Ok ⟨P, w, fps C, n, []⟩ E { tmps := (r.params.zip args.toArray).foldl (fun t (p : Tmp × Value) => t.setIfInBounds p.1 p.2) r.tmps, defers := [] })
    (ha : VR ⟨P, w, fps C, n, []⟩ l r.assign (Post.seq (fun E2 H2 => H2 = C ∧ ∀ rb, rb = { r with state := .busy } → VR ⟨P, w, fps C, n, []⟩ l r.body (roundQ l rb R) E2 (C0 rb)) (fun _ _ _ => False)) E C) : YFn P l args C R w := by
  intro hw
  have hl := hl { r with state := .busy }
  obtain ⟨F, p1, p2⟩ := hl.perm
  have hL : w.heap[l]? = some (.loop r) := (hw.perm p1).chunk (lp l r) (by simp)
  refine ⟨_, _, _, _, run_yield hL (Nat.eq_of_beq_eq_true hs), trivial, fun c cs hro => ?_⟩
  let b : Frame := { (default : Frame) with fn := r.fn, kind := .normal, roundOf := some l }
  have hb0 : Frame.round l r.fn ((r.params.zip args.toArray).foldl (fun t (p : Tmp × Value) => t.setIfInBounds p.1 p.2) r.tmps) r.assign r.body .normal = b.atR { tmps := (r.params.zip args.toArray).foldl (fun t (p : Tmp × Value) => t.setIfInBounds p.1 p.2) r.tmps, defers := [] } [.code r.assign, .beginRound, .code r.body] := by
    simp [Frame.round, Frame.atR, b]
  have hb0' : Frame.round l r.fn ((r.params.zip args.toArray).foldl (fun tmps x => match x with | (t, a) => tmps.setIfInBounds t a) r.tmps) r.assign r.body .normal = b.atR { tmps := (r.params.zip args.toArray).foldl (fun t (p : Tmp × Value) => t.setIfInBounds p.1 p.2) r.tmps, defers := [] } [.code r.assign, .beginRound, .code r.body] := hb0
  rw [hb0']
  obtain ⟨e, a₁, w₁, hq, harr⟩ := ha _ w hE hw b [.beginRound, .code r.body] (c :: cs) rfl trivial (room_wide _)
  obtain ⟨E2, H2, k1, k2, k3⟩ := hq
  cases e with
  | normal =>
    obtain ⟨rfl, hb⟩ := k3
    have hL1 : w₁.heap[l]? = some (.loop r) := (k2.perm p1).chunk (lp l r) (by simp)
    have s1 : StepsIn (Machine.fenced P Fence.wide) P (lone (b.atR a₁ [.beginRound, .code r.body]) (c :: cs) w₁) (lone (b.atR a₁ [.code r.body]) (c :: cs) (w₁.putObj l (.loop { r with state := .busy }))) :=
      .one (fenced_calm (fr := b.atR a₁ [.beginRound, .code r.body]) (n := 0) trivial (room_wide _) rfl) (stepR_beginRound rfl (run_beginRound hL1 hr))
    have k4 := k2.putLp hl
    obtain ⟨e₂, a₂, w₃, ⟨E3, H3, m1, m2, m3⟩, harr₂⟩ := hb _ rfl _ _ k1 k4 b [] (c :: cs) rfl trivial (room_wide _)
    cases e₂ with
    | normal =>
      obtain ⟨H4, H5, F5, hu, hs5, hR⟩ := m3
      obtain ⟨F4, q1, q2⟩ := hu.perm
      have hL3 := (m2.perm q1).chunk (lp l { r with state := .busy }) (by simp)
      have hend := run_endRound (P := P) none hL3
      refine ⟨.returned (.bool true), _, ⟨H5, hR, ((m2.putLp hu).perm hs5.perm).left⟩, (StepsIn.trans harr s1).trans (StepsIn.trans harr₂ (.one (fenced_calm (fr := b.atR a₂ []) (n := 0) trivial (room_wide _) rfl) (stepR_round_end rfl rfl hend)))⟩
    | panic ch =>
      obtain ⟨H4, F4, hs4, hR⟩ := m3
      obtain ⟨todo, hst⟩ := harr₂
      refine ⟨.panicked ch, _, ⟨H4, hR, (m2.perm hs4.perm).left⟩, (StepsIn.trans harr s1).trans (StepsIn.trans hst (.one (by rw [fenced_inRound]; exact fenced_wide _ _) ?_))⟩
      refine step_lone_go ?_
      have hdf := m1.defers
      simp only at hdf
      simp [stepG, unwind, Frame.catches, Frame.atR, hdf, hfn, b]
    | ret => exact m3.elim
    | exit id => exact m3.elim
    | goto t => exact m3.elim
    | outgrown => exact m3.elim
  | exit id => exact k3.elim
  | goto t => exact k3.elim
  | ret => exact k3.elim
  | panic chain => exact k3.elim
  | outgrown => exact k3.elim

/-! The statement. A walk in the frames of one function. -/
def wpF (P : Program) (f : FuncId) (c : Code) (B : Exit → Act → World → Prop) (a : Act) (w : World) : Prop :=
  ∀ (b : Frame) (k : List Item) (cs : List Frame), b.fn = f → b.roundOf = none → ∃ e a' w', B e a' w' ∧ ArrivesIn (Machine.fenced P Fence.wide) P (lone (b.atR a (.code c :: k)) cs w) b k cs e a' w'
theorem wpF_of {P : Program} {f : FuncId} {c : Code} {B : Exit → Act → World → Prop} {a : Act} {w : World} (h : c.wp P B a w) : wpF P f c B a w := fun b k cs _ hr => (wpIn_wide (n := 0)).2 h b k cs hr trivial (room_wide _)
theorem wpF_seq {P : Program} {f : FuncId} {x y : Code} {B : Exit → Act → World → Prop} {a : Act} {w : World} (h : wpF P f x (Exit.then (wpF P f y B) B) a w) : wpF P f (.seq x y) B a w := by
  intro b k cs hf hro
  obtain ⟨e, a₁, w₁, hq, harr⟩ := h b (.code y :: k) cs hf hro
  have hb : Fence.wide.fn b.fn := trivial
  have hr : Fence.wide.room (cs.length + 1 + 0) := room_wide _
  cases e with
  | normal =>
    obtain ⟨e₂, a₂, w₂, hq₂, harr₂⟩ := hq b k cs hf hro
    exact ⟨e₂, a₂, w₂, hq₂, .of_steps (.head (fenced_calm hb hr rfl) stepR_seq harr) harr₂⟩
  | exit id => exact ⟨_, a₁, w₁, hq, .of_steps (.one (fenced_calm hb hr rfl) stepR_seq) (.pass (x := .code y) rfl (fun _ _ => .inl (by simp)) harr)⟩
  | goto l => exact ⟨_, a₁, w₁, hq, .of_steps (.one (fenced_calm hb hr rfl) stepR_seq) (.pass (x := .code y) rfl (fun _ _ => .inl (by simp)) harr)⟩
  | ret => exact ⟨_, a₁, w₁, hq, .of_steps (.one (fenced_calm hb hr rfl) stepR_seq) (.pass (x := .code y) rfl (fun _ _ => .inl (by simp)) harr)⟩
  | panic ch => exact ⟨_, a₁, w₁, hq, .of_steps (.one (fenced_calm hb hr rfl) stepR_seq) (.pass (x := .code y) rfl (fun _ _ => .inl (by simp)) harr)⟩
  | outgrown => exact ⟨_, a₁, w₁, hq, .of_steps (.one (fenced_calm hb hr rfl) stepR_seq) (.pass (x := .code y) rfl (fun _ _ => .inl (by simp)) harr)⟩
/-- A block that is left by none of its own exits. -/
theorem wpF_block {P : Program} {f : FuncId} {id : Nat} {c : Code} {B : Exit → Act → World → Prop} {a : Act} {w : World} (h : wpF P f c (fun e a w => (∀ id, e ≠ .exit id) ∧ B e a w) a w) : wpF P f (.block id c) B a w := by
  intro b k cs hf hro
  obtain ⟨e, a₁, w₁, hq, harr⟩ := h b (.inBlock id :: k) cs hf hro
  have hb : Fence.wide.fn b.fn := trivial
  have hr : Fence.wide.room (cs.length + 1 + 0) := room_wide _
  cases e with
  | normal => exact ⟨.normal, a₁, w₁, hq.2, .of_steps (.one (fenced_calm hb hr rfl) stepR_block) (StepsIn.trans harr (.one (fenced_calm hb hr rfl) stepR_inBlock))⟩
  | exit id' => exact absurd rfl (hq.1 id')
  | goto l => exact ⟨.goto l, a₁, w₁, hq.2, .of_steps (.one (fenced_calm hb hr rfl) stepR_block) ⟨fun k' hk => harr.1 k' (by simpa [gotoIn] using hk), fun hr hk => harr.2 hr (by simpa [gotoIn] using hk)⟩⟩
  | ret => exact ⟨.ret, a₁, w₁, hq.2, .of_steps (.one (fenced_calm hb hr rfl) stepR_block) harr⟩
  | panic ch => exact ⟨.panic ch, a₁, w₁, hq.2, .of_steps (.one (fenced_calm hb hr rfl) stepR_block) harr⟩
  | outgrown => exact ⟨.outgrown, a₁, w₁, hq.2, .of_steps (.one (fenced_calm hb hr rfl) stepR_block) harr⟩
def VF (X : Cx) (f : FuncId) (c : Code) (B : Exit → Act → World → Prop) (E : Env) (H : List Chunk) : Prop := ∀ a w, Ok X E a → Holds X.w0 X.M H w → wpF X.P f c B a w
section
variable {X : Cx} {f : FuncId} {B : Exit → Act → World → Prop} {E : Env} {H : List Chunk}
theorem vf_of {c : Code} (h : VC X c (Raw X B) E H) : VF X f c B E H := fun a w ha hw => wpF_of (vw_of h a w ha hw)
theorem vf_seq {c d : Code} (h : VC X c (Post.seq (VF X f d B) (Raw X B)) E H) : VF X f (.seq c d) B E H := fun a w ha hw =>
  wpF_seq (wpF_of (wp_mono (h a w ha hw) fun e a' w' hh => by
    obtain ⟨E', H', h1, h2, h3⟩ := hh
    cases e <;> exact h3 a' w' h1 h2))
theorem vf_block {id : Nat} {c d : Code} (h : VF X f c (fun e a w => (∀ id, e ≠ .exit id) ∧ Exit.then (wpF X.P f d B) B e a w) E H) : VF X f (.seq (.block id c) d) B E H := fun a w ha hw => wpF_seq (wpF_block (h a w ha hw))
end
theorem fn_enterM {P : Program} {f : FuncId} {fn : Func} {c : Code} {n : Nat} {args : List Value} {C : List Chunk} {R : Ending → List Chunk → Prop} {w : World} (hf : P.funcs[f]? = some fn) (hb : fn.body = some c) (hn : fn.ntmps = n)
    (ha : Nat.ble args.length n = true) (h : VF ⟨P, w, fps C, n, []⟩ f c (bodyPostM Fence.wide 0 P fn (Ends R w (fps C))) (argEnv 0 args) C) : Fn P f args C R w := by
  have ha := Nat.le_of_ble_eq_true ha
  intro hw cs
  let b : Frame := { (default : Frame) with fn := f, kind := .normal, roundOf := none }
  have henter : Frame.enter P f args.toArray .normal = b.atR { tmps := args.toArray ++ Array.replicate (fn.ntmps - args.toArray.size) undef, defers := [] } [.code c] := by
    simp [Frame.enter, Frame.atR, hf, hb, b]
  have hr : Fence.wide.room (cs.length + 1 + 0) := room_wide _
  have hok : Ok ⟨P, w, fps C, n, []⟩ (argEnv 0 args) { tmps := args.toArray ++ Array.replicate (fn.ntmps - args.toArray.size) undef, defers := [] } := by
    refine ⟨by simp [hn]; omega, rfl, fun t v ht => ?_⟩
    obtain ⟨_, hv⟩ := argEnv_get args 0 t v ht
    simp only [Nat.sub_zero] at hv
    have hlt : t < args.length := by
      rcases Nat.lt_or_ge t args.length with h | h
      · exact h
      · simp [List.getElem?_eq_none h] at hv
    have : args[t] = v := by simpa [List.getElem?_eq_getElem hlt] using hv
    simp [Array.getElem?_append, hlt, this]
  obtain ⟨e, a', w', hq, harr⟩ := h _ w hok hw b [] cs rfl rfl
  · rw [← henter] at harr
    have fin : ∀ {m : Machine} {ds : List Deferred} {u : FrameMode} {fr : Frame}, fr.mode = u → fr.defers = ds → fr.tmps = a'.tmps → fr.fn = f → fr.kind = .normal → LeavesInM Fence.wide 0 P fn a'.tmps (Ends R w (fps C)) ds u w' → StepsIn (Machine.fenced P Fence.wide) P m (lone fr cs w') →
        ∃ e w'' fr', Ends R w (fps C) e w'' ∧ Comes P m (lone fr' cs w'') e ∧ fr'.fn = f ∧ fr'.leaving P w'' e := fun {m ds u fr} h1 h2 h3 h4 h5 hl hs => by
      obtain ⟨e', w'', fr', hR, hc, hfn, hlv⟩ := leaves_stepsInM (F := Fence.wide) (n := 0) ds u w' fr cs h1 h2 h3 (by rw [h4]; exact hf) h5 trivial hr hl
      exact ⟨e', w'', fr', hR, comesIn_wide.1 (ComesIn.of_steps hs hc), by rw [hfn, h4], hlv⟩
    cases e with
    | normal => exact fin (fr := { b.atR a' [] with mode := .returning }) rfl rfl rfl rfl rfl hq (StepsIn.trans harr (.one (fenced_calm (fr := b.atR a' []) trivial hr rfl) (stepR_end rfl)))
    | ret =>
      obtain ⟨todo, hs₀⟩ := harr.1 rfl
      exact fin (fr := { b.atR a' todo with mode := .returning }) rfl rfl rfl rfl rfl hq hs₀
    | panic chain =>
      obtain ⟨todo, hs₀⟩ := harr
      exact fin (fr := { b.atR a' todo with mode := .panicking chain }) rfl rfl rfl rfl rfl hq hs₀
    | exit id => exact hq.elim
    | goto l => exact hq.elim
    | outgrown => exact ⟨.outgrown, w', b, hq, harr.resolve_left (by simp [b]), rfl, trivial⟩
def Cx.mark (X : Cx) (D : Nat) : Cx := { X with D := ⟨.collected D, #[]⟩ :: X.D }
theorem Ok.mark {X : Cx} {E : Env} {a : Act} (h : Ok X E a) (D : Nat) : Ok (X.mark D) E { a with defers := ⟨.collected D, #[]⟩ :: a.defers } := ⟨h.size, by simp [Cx.mark, h.defers], h.vals⟩
theorem vf_rangeFunc {X : Cx} {f : FuncId} {g : Operand} {ps : Array Tmp} {assign body : Code} {B : Exit → Act → World → Prop} {E : Env} {H : List Chunk} {gf : FuncId} {lb : List Value} {R : Nat → Nat → Loop → Ending → List Chunk → Prop}
    (hg : E.ev g = some (.func (.func gf) #[] lb.toArray)) (hc : ∀ args w, (callFunc gf args).run X.P w = .ok (.enter gf args) w) (hlo : ∀ l D r H', ¬ R l D r .outgrown H')
    (hf : ∀ (l D : Nat) (tmps : Array Value) w, Ok X E { tmps := tmps, defers := X.D } → Holds X.w0 X.M (lp l ⟨.ready, none, f, tmps, ps, assign, body, D⟩ :: dfb D :: H) w → Fn X.P gf (.func (.yield l) #[] #[] :: lb) (lp l ⟨.ready, none, f, tmps, ps, assign, body, D⟩ :: dfb D :: H) (R l D ⟨.ready, none, f, tmps, ps, assign, body, D⟩) w)
    (hr : ∀ l D r v H', R l D r (.returned v) H' → ∃ r' H2, r'.state ≠ .busy ∧ r'.pending = none ∧ Take (lp l r') H' H2 ∧ Raw (X.mark D) B .normal E H2)
    (hp : ∀ l D r ch H', R l D r (.panicked ch) H' → Raw (X.mark D) B (.panic ch) E H') : VF X f (.rangeFunc g ps assign body) B E H := by
  intro a w ha hw b k cs hbf hro
  obtain ⟨l, hl⟩ : ∃ l, l = w.heap.size + 1 := ⟨_, rfl⟩
  obtain ⟨r, hrd⟩ : ∃ r : Loop, r = ⟨.ready, none, f, a.tmps, ps, assign, body, w.heap.size⟩ := ⟨_, rfl⟩
  obtain ⟨w1, hw1⟩ : ∃ w1, w1 = (w.alloc (.deferred (some []))).alloc (.loop r) := ⟨_, rfl⟩
  have hL1 : w1.heap[l]? = some (.loop r) := by
    have := World.alloc_heap_new (w.alloc (.deferred (some []))) (.loop r)
    rw [World.size_alloc] at this
    rw [hw1, hl]; exact this
  have h1 : Holds X.w0 X.M (dfb w.heap.size :: H) (w.alloc (.deferred (some []))) := hw.alloc _ (heap_alloc_new w _) rfl
  have h2 : Holds X.w0 X.M (lp l r :: dfb w.heap.size :: H) w1 := by rw [hw1]; exact h1.alloc _ (by rw [← hw1]; exact hL1) (by simp [lp, hl])
  have he : (Instr.enterLoop b.fn a.tmps ps assign body b.roundOf).run X.P w = .ok (l, [{ target := .collected w.heap.size, args := #[] }]) w1 := by
    rw [hbf, hro, hl, hw1, hrd]; exact run_enterLoop_outer _ _ _ _ _
  have hres : (resolve a.eval (rangeCall g l) 0).run X.P w1 = .ok { target := .fn (.func gf) lb.toArray, args := #[.func (.yield l) #[] #[]] } w1 := by
    simp only [resolve, ha.ev hg]
    simp [Act.eval, Deferred.ofValue]
  have hinv : (invoke (.fn (.func gf) lb.toArray) #[.func (.yield l) #[] #[]]).run X.P w1 = .ok (.enter gf (.func (.yield l) #[] #[] :: lb).toArray) w1 := by
    simp [invoke, hc]
  have henter := stepR_rangeFunc (P := X.P) (b := b) (a := a) (k := k) (cs := cs) (w := w) he hres hinv
  have i0 : ∀ m, Machine.fenced X.P Fence.wide m := fun m => fenced_wide _ m
  have h3 : Holds X.w0 X.M ((lp l r :: dfb w.heap.size :: H) ++ []) w1 := by simpa using h2
  have hok : Ok X E { tmps := a.tmps, defers := X.D } := ⟨ha.size, rfl, ha.vals⟩
  have hcall := hf l w.heap.size a.tmps w1 hok (by rw [← hrd]; exact h2) (by rw [← hrd]; exact h3.sub)
  obtain ⟨e, w3, fr, ⟨H', k1, k2⟩, hsteps, _, hleave⟩ := hcall (b.atR { a with defers := [{ target := .collected w.heap.size, args := #[] }] ++ a.defers } (.inRangeFunc l :: k) :: cs)
  rw [← hrd] at k1 k2
  have k3 := h3.called k2
  rw [List.append_nil] at k3
  cases e with
  | returned v =>
    obtain ⟨r', H2, hb, hpe, ht, hB⟩ := hr _ _ _ _ _ k1
    have k4 := k3.perm ht.perm
    have hL := k4.chunk (lp l r') (by simp)
    have hend : (Instr.endLoop l).run X.P w3 = .ok none (w3.putObj l (.loop { r' with state := .exhausted })) := by rw [run_endLoop hL hb, hpe]
    refine ⟨.normal, _, _, hB _ _ (ha.mark _) (Holds.right (H := [lp l { r' with state := .exhausted }]) (k4.putLp .head)), ?_⟩
    have hs5 := stepR_endRangeFunc (b := b) (a := { a with defers := [{ target := .collected w.heap.size, args := #[] }] ++ a.defers }) (k := k) (cs := cs) hend
    simp only [Option.map_none, Option.toList_none, List.nil_append] at hs5
    refine .head (i0 _) henter (StepsIn.trans (stepsIn_wide.2 hsteps) (.head (i0 _) ?_ (.one (i0 _) hs5)))
    rw [← finish_atR_inRangeFunc l v]; exact step_leave_returned hleave
  | panicked ch =>
    refine ⟨.panic ch, _, w3, hp _ _ _ _ _ k1 _ _ (ha.mark _) k3, .inRangeFunc l :: k, .head (i0 _) henter (StepsIn.trans (stepsIn_wide.2 hsteps) (.one (i0 _) ?_))⟩
    rw [← Frame.raise_atR]; exact step_leave_panicked hleave
  | outgrown => exact (hlo _ _ _ _ k1).elim
/-- The way out behind one such loop. -/
theorem leaves_mark {X : Cx} {fn : Func} {R : Ending → List Chunk → Prop} {D : Nat} {a : Act} {w : World} {E : Env} {H H1 : List Chunk} {v : Value} (hk : Ok X E a) (hw : Holds X.w0 X.M H w) (hD : X.D = [⟨.collected D, #[]⟩]) (ht : Take (dfb D) H H1)
    (hr : ∀ w, Holds X.w0 X.M H1 w → (results fn a.tmps).run X.P w = .ok v w) (h : ∃ H2 F, Sub H2 H1 F ∧ R (.returned v) H2) : LeavesInM Fence.wide 0 X.P fn a.tmps (Ends R X.w0 X.M) a.defers .returning w := by
  rw [hk.defers, hD]
  have k4 := hw.perm ht.perm
  have hb : w.heap[D]? = some (.deferred (some [])) := k4.chunk (dfb D) (by simp)
  have k5 : Holds X.w0 X.M H1 (w.putObj D (.deferred none)) := by
    have := Holds.change (w := w) (C := [dfb D]) (C' := []) (F := H1) (w' := w.putObj D (.deferred none)) (by simpa using k4) (by simp) rfl rfl rfl
      (fun b _ hbC => World.putObj_heap_other (fun e => hbC (by simp [fps, dfb, e]))) (by simp) (by simp [fps]) (by simp [fps])
    simpa using this
  obtain ⟨H2, F, hs, hR⟩ := h
  exact ⟨by simp, .inl ⟨D, _, rfl, run_takeDeferred hb, v, hr _ k5, H2, hR, (k5.perm hs.perm).left⟩⟩
theorem leaves_markP {X : Cx} {fn : Func} {R : Ending → List Chunk → Prop} {D : Nat} {a : Act} {w : World} {E : Env} {H H1 : List Chunk} {ch : List PanicEntry} (hk : Ok X E a) (hw : Holds X.w0 X.M H w) (hD : X.D = [⟨.collected D, #[]⟩]) (ht : Take (dfb D) H H1)
    (h : ∃ H2 F, Sub H2 H1 F ∧ R (.panicked ch) H2) : LeavesInM Fence.wide 0 X.P fn a.tmps (Ends R X.w0 X.M) a.defers (.panicking ch) w := by
  rw [hk.defers, hD]
  have k4 := hw.perm ht.perm
  have hb : w.heap[D]? = some (.deferred (some [])) := k4.chunk (dfb D) (by simp)
  have k5 : Holds X.w0 X.M H1 (w.putObj D (.deferred none)) := by
    have := Holds.change (w := w) (C := [dfb D]) (C' := []) (F := H1) (w' := w.putObj D (.deferred none)) (by simpa using k4) (by simp) rfl rfl rfl
      (fun b _ hbC => World.putObj_heap_other (fun e => hbC (by simp [fps, dfb, e]))) (by simp) (by simp [fps]) (by simp [fps])
    simpa using this
  obtain ⟨H2, F, hs, hR⟩ := h
  exact ⟨by simp, .inl ⟨D, _, rfl, run_takeDeferred hb, H2, hR, (k5.perm hs.perm).left⟩⟩
end Go.Proofs.YtdehjgpdcdjhjaaDoor.K
