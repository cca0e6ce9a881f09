/- A framework of our own for walks over the model: Kw. -/
import Derived.Test.YtclnhfdgiaamhaaKv
import Derived.Recover
namespace Go.Proofs.Ytclnhfdgiaamhaa.K
open Go Go.RowKit
set_option linter.unusedVariables false
set_option linter.unusedSimpArgs false
/-! ### Functions with deferred calls -/
/-- Code whose end is told in the machine's own words. -/
def VW (X : Cx) (c : Code) (B : Exit → Act → World → Prop) (E : Env) (H : List Chunk) : Prop := ∀ a w, Ok X E a → Holds X.w0 X.M H w → c.wp X.P B a w
def VLW (X : Cx) (ops : Array Oper) (l : List Oper) (B : Exit → Act → World → Prop) (E : Env) (H : List Chunk) : Prop := ∀ a w, Ok X E a → Holds X.w0 X.M H w → wpList X.P ops B l a w
def Ends (R : Ending → List Chunk → Prop) (w : World) (M : List Nat) : Ending → World → Prop := fun e w' => ∃ H', R e H' ∧ Holds w M H' w'
theorem fn_enterD {P : Program} {f : FuncId} {fn : Func} {c : Code} {n : Nat} {args : List Value} {C : List Chunk} {R : Ending → List Chunk → Prop} {w : World} (hf : P.funcs[f]? = some fn) (hb : fn.body = some c) (hn : fn.ntmps = n)
    (ha : Nat.ble args.length n = true) (h : VW ⟨P, w, fps C, n, []⟩ c (bodyPostD P fn (Ends R w (fps C))) (argEnv 0 args) C) : Fn P f args C R w := by
  have ha := Nat.le_of_ble_eq_true ha
  intro hw
  refine calls_of_wp_defers hf hb (h _ w ?_ hw)
  refine ⟨by simp [hn]; omega, rfl, fun t v ht => ?_⟩
  obtain ⟨_, hv⟩ := argEnv_get args 0 t v ht
  simp only [Nat.sub_zero] at hv
  have hlt : t < args.length := by
    rcases Nat.lt_or_ge t args.length with h | h
    · exact h
    · simp [List.getElem?_eq_none h] at hv
  have : args[t] = v := by simpa [List.getElem?_eq_getElem hlt] using hv
  simp [Array.getElem?_append, hlt, this]
section
variable {X : Cx} {Q : Post} {B : Exit → Act → World → Prop} {E : Env} {H : List Chunk} {ops : Array Oper} {rest : List Oper}
/-- What a raw end asks of a way out. -/
def Raw (X : Cx) (B : Exit → Act → World → Prop) : Post := fun e E H => ∀ a w, Ok X E a → Holds X.w0 X.M H w → B e a w
theorem vw_of {c : Code} (h : VC X c (Raw X B) E H) : VW X c B E H := fun a w ha hw => wp_mono (h a w ha hw) fun _ _ _ ⟨_, _, h1, h2, h3⟩ => h3 _ _ h1 h2
theorem vw_seq {c d : Code} (h : VC X c (Post.seq (VW X d B) (Raw X B)) E H) : VW X (.seq c d) B E H := fun a w ha hw =>
  wp_seq (wp_mono (h a w ha hw) fun e a' w' hh => by
    obtain ⟨E', H', h1, h2, h3⟩ := hh
    cases e <;> exact h3 a' w' h1 h2)
/-- A region with a 'defer', and what follows it. -/
theorem vw_seqD {id : Nat} {l : List Oper} {d : Code} (h : VLW X l.toArray l (Exit.then (d.wp X.P B) B) E H) : VW X (.seq (.region id l.toArray false) d) B E H :=
  fun a w ha hw => wp_seq (wp_region_lit (h a w ha hw))
theorem vlw_nil (h : Raw X B .normal E H) : VLW X ops [] B E H := fun a w ha hw => h a w ha hw
theorem vlw_op {o : Oper} (hno : ¬ LetsOut (lift X Q)) (h : VL X ops [o] (Post.seq (VLW X ops rest B) Q) E H) (hp : ∀ ch E H, Q (.panic ch) E H → Raw X B (.panic ch) E H) : VLW X ops (o :: rest) B E H := by
  intro a w ha hw
  have h1 := h a w ha hw
  unfold wpList at h1 ⊢
  have conv : ∀ a' w', wpList X.P ops (lift X (Post.seq (VLW X ops rest B) Q)) [] a' w' → wpList X.P ops B rest a' w' := fun a' w' hh => by
    obtain ⟨E', H', h1, h2, h3⟩ := hh
    exact h3 a' w' h1 h2
  split
  · rename_i hw'
    rw [if_pos hw'] at h1
    rcases h1 with h1 | ⟨_, h2⟩
    · left
      exact wp_mono2 conv (fun ch a w hq => by obtain ⟨E', H', h1, h2, h3⟩ := hq; exact hp _ _ _ h3 _ _ h1 h2) (fun hq => absurd hq hno) h1
    · exact absurd h2 hno
  · rename_i hw'
    rw [if_neg hw'] at h1
    exact conv _ _ h1
theorem no_lets (h : ∀ E H, ¬ Q .outgrown E H) : ¬ LetsOut (lift X Q) := fun ⟨_, _, _, _, _, _, h3⟩ => h _ _ h3
/-- A closure is deferred: fs, cs: what it has caught. -/
theorem vlw_defer {o : Oper} {f : Go.Fn} {x : Operand} {xs : Array Operand} {ats : Array TypeId} {args fs cs : List Value} (ho : o.op = .defer { callee := .value x, args := xs, argTypes := ats }) (hg : o.guard = none) (hd : o.dst = none)
    (hx : E.ev x = some (.func f fs.toArray cs.toArray)) (ha : E.evs xs.toList = some args) (h : VLW { X with D := ⟨.fn f cs.toArray, (fs ++ args).toArray⟩ :: X.D } ops rest B E H) : VLW X ops (o :: rest) B E H := by
  intro a w hk hw
  have h1 : xs.map a.eval = args.toArray := by rw [← evs_map hk _ _ ha, ← Array.toList_map]
  refine wpList_plain hg fun K hK => ?_
  unfold Oper.wp
  have : (execOp a.eval o).run X.P w = .ok (.defer ⟨.fn f cs.toArray, (fs ++ args).toArray⟩) w := by
    simp [execOp, ho, resolve, h1, hk.ev hx, Deferred.ofValue]
  rw [this]
  refine hK _ _ (h _ w ?_ hw)
  rw [hd]
  exact ⟨hk.size, by simp [Act.put, hk.defers], hk.vals⟩
end
theorem resCC {X : Cx} {fn : Func} {E : Env} {H : List Chunk} {t T u U : Nat} {a b : Addr} {v v' : Value} (hr : fn.results = #[.cell t T, .cell u U]) (ht : E.get t = some (.pointer (some a))) (hu : E.get u = some (.pointer (some b))) (hw : Whole X H T a v) (hw' : Whole X H U b v') : Res X fn E H (.tuple #[v, v']) := by
  intro ac w ha h
  have h1 := ha.vals t _ ht
  have h2 := ha.vals u _ hu
  simp at h1 h2
  simp [results, hr, h1, h2, asAddr, hw w h, hw' w h]
theorem whole_cell {X : Cx} {H : List Chunk} {T : TypeId} {a : Addr} {v : Value} (hg : ∀ w, (isAgg T).run X.P w = .ok false w) (hc : Cell X H a v) : Whole X H T a v := by
  intro w hw
  simp [loadVar, hg, hc w hw]
theorem bin_ifnil_eq {P : Program} {T : TypeId} {ms : Array (String × TypeId)} (hu : ∀ w, (underlying T).run P w = .ok (.interface ms) w) (w : World) : (binOp .eql T .nilIface .nilIface).run P w = .ok (.bool true) w := by
  have h : ∀ d, (Op.equalIn (d + 1) T .nilIface .nilIface).run P w = .ok true w := fun d => by simp [Op.equalIn, hu]
  have h := h 9999
  show ((do pure (.bool (← Op.equal T .nilIface .nilIface)) : Sem Value)).run P w = _
  rw [Sem.run_bind, show Op.equal T .nilIface .nilIface = Op.equalIn (9999 + 1) T .nilIface .nilIface from rfl, h]
  rfl
theorem guard_ifnil {P : Program} {op : BinOp} {T : TypeId} {x : Operand} {v : Value} (w : World) : (eqGuard op T x (.const v) .nilIface .nilIface).run P w = .ok () w := by cases op <;> cases x <;> rfl
theorem sub_app : ∀ (L : List Chunk) {C F F2 : List Chunk}, Sub C F F2 → Sub C (L ++ F) (L ++ F2)
  | [], _, _, _, h => h
  | _ :: L, _, _, _, h => sub_skip (sub_app L h)
/-! ### A deferred closure that asks what the panic was -/
def FnD (P : Program) (f : FuncId) (args : List Value) (u : FrameMode) (C : List Chunk) (R : Ending → FrameMode → List Chunk → Prop) (w : World) : Prop :=
  Holds w (fps C) C w → CallsD P f args.toArray u w fun e u' w' => ∃ H', R e u' H' ∧ Holds w (fps C) H' w'
theorem callsD_mono {P : Program} {f : FuncId} {args : Array Value} {u : FrameMode} {w : World} {R R' : Ending → FrameMode → World → Prop} (h : CallsD P f args u w R) (hr : ∀ e u w, R e u w → R' e u w) : CallsD P f args u w R' :=
  fun c cs hc => let ⟨e, u', w', fr, r, s⟩ := h c cs hc; ⟨e, u', w', fr, hr _ _ _ r, s⟩
def VS (X : Cx) (c : Code) (B : Exit → Act → List Frame → World → Prop) (E : Env) (H : List Chunk) (cs : List Frame) : Prop := ∀ a w, Ok X E a → Holds X.w0 X.M H w → c.wpS X.P B a cs w
def VLS (X : Cx) (ops : Array Oper) (l : List Nat) (B : Exit → Act → List Frame → World → Prop) (E : Env) (H : List Chunk) (cs : List Frame) : Prop := ∀ a w, Ok X E a → Holds X.w0 X.M H w → wpOpsS X.P ops B l a cs w
/-- The function's end, in words of the heap. -/
def endS (X : Cx) (fn : Func) (R : Ending → FrameMode → List Chunk → Prop) (u' : FrameMode) : Post
  | .normal, E, H | .ret, E, H => ∃ v H' F, Res X fn E H v ∧ Sub H' H F ∧ R (.returned v) u' H'
  | .panic ch, _, H => ∃ H' F, Sub H' H F ∧ R (.panicked ch) u' H'
  | _, _, _ => False
section
variable {X : Cx} {Q : Post} {B : Exit → Act → List Frame → World → Prop} {E : Env} {H : List Chunk} {ops : Array Oper} {cs : List Frame}
def RawS (X : Cx) (B : Exit → Act → List Frame → World → Prop) (cs : List Frame) : Post := fun e E H => ∀ a w, Ok X E a → Holds X.w0 X.M H w → B e a cs w
theorem vs_of {c : Code} (h : VC X c (RawS X B cs) E H) : VS X c B E H cs := fun a w ha hw => wpS_of_wp (wp_mono (h a w ha hw) fun _ _ _ ⟨_, _, h1, h2, h3⟩ => h3 _ _ h1 h2)
theorem vs_seqS {id : Nat} {l : List Oper} {d : Code} (h : VLS X l.toArray (List.range l.length) (Exit.thenS (d.wpS X.P B) B) E H cs) : VS X (.seq (.region id l.toArray false) d) B E H cs :=
  fun a w ha hw => wpS_seq (wpS_region (by simpa using h a w ha hw))
theorem vls_nil (h : RawS X B cs .normal E H) : VLS X ops [] B E H cs := fun a w ha hw => h a w ha hw
theorem vls_recover {i : Nat} {rest : List Nat} {o : Oper} {fE : Value → Env} (ho : ops[i]? = some o) (hg : o.guard = none) (hd : DstF X E o.dst fE) (hr : ∀ a : Act, ∀ w, (execOp a.eval o).run X.P w = .ok .recover w)
    {v : Value} {cs' : List Frame} (hc : (match recoverD cs with | some (v, cs') => (v, cs') | none => (.nilIface, cs)) = (v, cs')) (h : VLS X ops rest B (fE v) H cs') : VLS X ops (i :: rest) B E H cs := by
  intro a w ha hw
  simp only [wpOpsS, ho, Region.wanted, hg, if_true, hr]
  revert hc
  cases recoverD cs with
  | none =>
    intro hc
    simp only [Prod.mk.injEq] at hc
    obtain ⟨rfl, rfl⟩ := hc
    exact h _ _ (ha.setF hd) hw
  | some p =>
    intro hc
    obtain ⟨v', cs''⟩ := p
    simp only [Prod.mk.injEq] at hc
    obtain ⟨rfl, rfl⟩ := hc
    exact h _ _ (ha.setF hd) hw
end
theorem fnD_enter {P : Program} {f : FuncId} {fn : Func} {c : Code} {n : Nat} {args : List Value} {u : FrameMode} {C : List Chunk} {R : Ending → FrameMode → List Chunk → Prop} {w : World} (hf : P.funcs[f]? = some fn) (hb : fn.body = some c) (hn : fn.ntmps = n)
    (ha : Nat.ble args.length n = true) (h : ∀ (c₀ : Frame) (cs : List Frame), c₀.mode = u → VS ⟨P, w, fps C, n, []⟩ c (bodyPostS P fn c₀ cs (fun e u' w' => ∃ H', R e u' H' ∧ Holds w (fps C) H' w')) (argEnv 0 args) C (c₀ :: cs)) : FnD P f args u C R w := by
  have ha := Nat.le_of_ble_eq_true ha
  intro hw
  refine callsD_of_wpS hf hb fun c₀ cs hc => h c₀ cs hc _ w ?_ hw
  refine ⟨by simp [hn]; omega, rfl, fun t v ht => ?_⟩
  obtain ⟨_, hv⟩ := argEnv_get args 0 t v ht
  simp only [Nat.sub_zero] at hv
  have hlt : t < args.length := by
    rcases Nat.lt_or_ge t args.length with h | h
    · exact h
    · simp [List.getElem?_eq_none h] at hv
  have : args[t] = v := by simpa [List.getElem?_eq_getElem hlt] using hv
  simp [Array.getElem?_append, hlt, this]
/-- The deferred closure's end, told in words of the heap. -/
theorem raw_endS {P : Program} {w : World} {M : List Nat} {n : Nat} {fn : Func} {c₀ : Frame} {cs : List Frame} {R : Ending → FrameMode → List Chunk → Prop} {u' : FrameMode} {e : Exit} {E : Env} {H : List Chunk} (h : endS ⟨P, w, M, n, []⟩ fn R u' e E H) :
    RawS ⟨P, w, M, n, []⟩ (bodyPostS P fn c₀ cs (fun e u' w' => ∃ H', R e u' H' ∧ Holds w M H' w')) ({ c₀ with mode := u' } :: cs) e E H := by
  intro a w' ha hw
  cases e with
  | normal =>
    obtain ⟨v, H', F, hr, hs, hR⟩ := h
    exact ⟨ha.defers, u', rfl, v, hr a w' ha hw, H', hR, (hw.perm hs.perm).left⟩
  | ret =>
    obtain ⟨v, H', F, hr, hs, hR⟩ := h
    exact ⟨ha.defers, u', rfl, v, hr a w' ha hw, H', hR, (hw.perm hs.perm).left⟩
  | panic ch =>
    obtain ⟨H', F, hs, hR⟩ := h
    exact ⟨ha.defers, u', rfl, H', hR, (hw.perm hs.perm).left⟩
  | exit id => exact h.elim
  | goto l => exact h.elim
  | outgrown => exact h.elim
/-- The way out of a function that has deferred one closure. -/
theorem leaves_one {X : Cx} {fn : Func} {R : Ending → List Chunk → Prop} {f : FuncId} {fs cs : List Value} {u : FrameMode} {C F : List Chunk} {Rd : Ending → FrameMode → List Chunk → Prop} {a : Act} {w : World} {E : Env} {H : List Chunk}
    (hk : Ok X E a) (hw : Holds X.w0 X.M H w) (hD : X.D = [⟨.fn (.func f) cs.toArray, fs.toArray⟩]) (hu : u ≠ .run) (hc : ∀ args w, (callFunc f args).run X.P w = .ok (.enter f args) w)
    (hs : Sub C H F) (hf : ∀ w, FnD X.P f (fs ++ cs) u C Rd w)
    (hr : ∀ v u' H', Rd (.returned v) u' H' → (settle u' = .returning ∧ ∃ v, (∀ a w, Ok X E a → Holds X.w0 X.M (H' ++ F) w → (results fn a.tmps).run X.P w = .ok v w) ∧ ∃ H2 F2, Sub H2 (H' ++ F) F2 ∧ R (.returned v) H2) ∨ ∃ ch, settle u' = .panicking ch ∧ ∃ H2 F2, Sub H2 (H' ++ F) F2 ∧ R (.panicked ch) H2)
    (hp : ∀ ch u' H', ¬ Rd (.panicked ch) u' H') (ho : ∀ u' H', ¬ Rd .outgrown u' H') : Leaves X.P fn a.tmps (Ends R X.w0 X.M) a.defers u w := by
  rw [hk.defers, hD]
  refine ⟨hu, .func f, cs.toArray, f, (fs ++ cs).toArray, rfl, by simp [invoke, hc], ?_⟩
  have hw' := hw.perm hs.perm
  refine callsD_mono (hf w hw'.sub) fun e u' w' ⟨H', h1, h2⟩ => ?_
  have h3 := hw'.called h2
  cases e with
  | returned v =>
    rcases hr v u' H' h1 with ⟨hset, v', hres, H2, F2, hs2, hR⟩ | ⟨ch, hset, H2, F2, hs2, hR⟩
    · simp only [hset]
      exact ⟨v', hres a w' hk h3, H2, hR, (h3.perm hs2.perm).left⟩
    · simp only [hset]
      exact ⟨H2, hR, (h3.perm hs2.perm).left⟩
  | panicked ch => exact (hp _ _ _ h1).elim
  | outgrown => exact (ho _ _ h1).elim
end Go.Proofs.Ytclnhfdgiaamhaa.K
