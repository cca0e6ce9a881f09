/- A framework of our own for walks over the model: Kd. -/
import Derived.Test.YtdehjgpdcdjhjaaKc
import Derived.Laws.BytesString
import Derived.Lib.ConvBytes
import Derived.Great.BuildSlice
namespace Go.Proofs.Ytdehjgpdcdjhjaa.K
open Go Go.RowKit
set_option linter.unusedVariables false
set_option linter.unusedSimpArgs false

/-! ### Functions -/
def Fn (P : Program) (f : FuncId) (args : List Value) (C : List Chunk) (R : Ending → List Chunk → Prop) (w : World) : Prop :=
  Holds w (fps C) C w → Calls P f args.toArray w fun e w' => ∃ H', R e H' ∧ Holds w (fps C) H' w'
/-- It returns, and then φ. -/
def ret (φ : Value → List Chunk → Prop) : Ending → List Chunk → Prop
  | .returned v, H => φ v H
  | _, _ => False
/-- It returns v and leaves all that was there. -/
def FnV (P : Program) (f : FuncId) (args : List Value) (v : Value) (w : World) : Prop := Fn P f args [] (ret fun u _ => u = v) w
theorem Fn.mono {P : Program} {f : FuncId} {args : List Value} {C : List Chunk} {R R' : Ending → List Chunk → Prop} {w : World} (h : Fn P f args C R w) (hr : ∀ e H, R e H → R' e H) : Fn P f args C R' w :=
  fun hw => (h hw).mono fun _ _ ⟨H', h1, h2⟩ => ⟨H', hr _ _ h1, h2⟩
theorem FnV.below {P : Program} {f : FuncId} {args : List Value} {v : Value} {w : World} (h : FnV P f args v w) : Calls P f args.toArray w fun e w' => e = .returned v ∧ Below w.heap.size w w' :=
  (h (.start0 w)).mono fun e w' ⟨H', h1, h2⟩ => by
    cases e <;> simp only [ret] at h1
    exact ⟨by rw [h1], h2.below⟩
theorem FnV.of {P : Program} {f : FuncId} {args : List Value} {v : Value} {w : World} (h : Calls P f args.toArray w fun e w' => e = .returned v ∧ Below w.heap.size w w') : FnV P f args v w :=
  fun _ => h.mono fun e w' ⟨he, hb⟩ => ⟨[], by subst he; rfl, ⟨by simp, by simp [fps], by simp [fps], hb.size, fun b hb' _ => hb.block b hb', hb.os, hb.tape, hb.output⟩⟩

def argEnv : Nat → List Value → Env
  | _, [] => []
  | i, v :: vs => (i, v) :: argEnv (i + 1) vs
theorem argEnv_get : ∀ (vs : List Value) (i t : Nat) (v : Value), (argEnv i vs).get t = some v → i ≤ t ∧ vs[t - i]? = some v
  | [], i, t, v, h => by simp [argEnv, Env.get] at h
  | u :: us, i, t, v, h => by
    simp only [argEnv, Env.get] at h
    by_cases e : i = t
    · subst e
      simp at h
      simp [h]
    · rw [beq_ne e] at h
      obtain ⟨h1, h2⟩ := argEnv_get us (i + 1) t v h
      refine ⟨by omega, ?_⟩
      rw [show t - i = (t - (i + 1)) + 1 by omega]
      simpa using h2
def Res (X : Cx) (fn : Func) (E : Env) (H : List Chunk) (v : Value) : Prop :=
  ∀ a w, Ok X E a → Holds X.w0 X.M H w → (results fn a.tmps).run X.P w = .ok v w
def bodyQ (X : Cx) (fn : Func) (R : Ending → List Chunk → Prop) : Post
  | .normal, E, H | .ret, E, H => ∃ v H' F, Res X fn E H v ∧ Sub H' H F ∧ R (.returned v) H'
  | .panic ch, _, H => ∃ H' F, Sub H' H F ∧ R (.panicked ch) H'
  | _, _, _ => False
theorem fn_enter {P : Program} {f : FuncId} {fn : Func} {c : Code} {n : Nat} {args : List Value} {C : List Chunk} {R : Ending → List Chunk → Prop} {w : World} (hf : P.funcs[f]? = some fn) (hb : fn.body = some c) (hn : fn.ntmps = n)
    (ha : Nat.ble args.length n = true) (h : VC ⟨P, w, fps C, n, []⟩ c (bodyQ ⟨P, w, fps C, n, []⟩ fn R) (argEnv 0 args) C) : Fn P f args C R w := by
  have ha := Nat.le_of_ble_eq_true ha
  intro hw
  refine calls_of_wp hf hb (wp_mono (h _ w ?_ hw) ?_)
  · refine ⟨by simp [hn]; omega, rfl, fun t v ht => ?_⟩
    obtain ⟨_, hv⟩ := argEnv_get args 0 t v ht
    simp only [Nat.sub_zero] at hv
    have hlt : t < args.length := by
      rcases Nat.lt_or_ge t args.length with h | h
      · exact h
      · simp [List.getElem?_eq_none h] at hv
    have : args[t] = v := by simpa [List.getElem?_eq_getElem hlt] using hv
    simp [Array.getElem?_append, hlt, this]
  · rintro e a w' ⟨E, H, h1, h2, hq⟩
    cases e with
    | normal =>
      obtain ⟨v, H', F, hr, hs, hR⟩ := hq
      exact ⟨h1.defers, v, hr a w' h1 h2, H', hR, (h2.perm hs.perm).left⟩
    | ret =>
      obtain ⟨v, H', F, hr, hs, hR⟩ := hq
      exact ⟨h1.defers, v, hr a w' h1 h2, H', hR, (h2.perm hs.perm).left⟩
    | panic ch =>
      obtain ⟨H', F, hs, hR⟩ := hq
      exact ⟨h1.defers, H', hR, (h2.perm hs.perm).left⟩
    | exit id => exact hq.elim
    | goto l => exact hq.elim
    | outgrown => exact hq.elim
theorem res1 {X : Cx} {fn : Func} {E : Env} {H : List Chunk} {t : Nat} {v : Value} (hr : fn.results = #[.tmp t]) (ht : E.get t = some v) : Res X fn E H v := by
  intro a w ha _
  have := ha.vals t v ht
  simp only [results, hr]
  simp at this
  simp [this]
theorem res2 {X : Cx} {fn : Func} {E : Env} {H : List Chunk} {t u : Nat} {v v' : Value} (hr : fn.results = #[.tmp t, .tmp u]) (ht : E.get t = some v) (hu : E.get u = some v') : Res X fn E H (.tuple #[v, v']) := by
  intro a w ha _
  have h1 := ha.vals t v ht
  have h2 := ha.vals u v' hu
  simp at h1 h2
  simp [results, hr, h1, h2]
theorem res0 {X : Cx} {fn : Func} {E : Env} {H : List Chunk} (hr : fn.results = #[]) : Res X fn E H (.tuple #[]) := by
  intro a w ha _
  simp [results, hr]
/-- Reading a struct that lies in a cell. -/
def Whole (X : Cx) (H : List Chunk) (T : TypeId) (a : Addr) (v : Value) : Prop := ∀ w, Holds X.w0 X.M H w → (loadVar T a).run X.P w = .ok v w
theorem whole_agg {X : Cx} {H : List Chunk} {T n : Nat} {a : Addr} {vs : List Value} (hg : ∀ w, (isAgg T).run X.P w = .ok true w) (hs : ∀ w, (sizeOf T).run X.P w = .ok n w)
    (hc : ∀ i v, vs[i]? = some v → Cell X H (a.add i) v) (hn : vs.length = n) : Whole X H T a (.agg vs.toArray) := by
  intro w hw
  subst hn
  have := run_loadCells_list (P := X.P) w a vs (fun j v hv => hc j v hv w hw)
  simp [loadVar, hg, hs, this]
theorem resC {X : Cx} {fn : Func} {E : Env} {H : List Chunk} {t T : Nat} {a : Addr} {v : Value} (hr : fn.results = #[.cell t T]) (ht : E.get t = some (.pointer (some a))) (hw : Whole X H T a v) : Res X fn E H v := by
  intro ac w ha h
  have h1 := ha.vals t _ ht
  simp at h1
  simp [results, hr, h1, asAddr, hw w h]
theorem resC2 {X : Cx} {fn : Func} {E : Env} {H : List Chunk} {t T u : Nat} {a : Addr} {v v' : Value} (hr : fn.results = #[.cell t T, .tmp u]) (ht : E.get t = some (.pointer (some a))) (hw : Whole X H T a v) (hu : E.get u = some v') : Res X fn E H (.tuple #[v, v']) := by
  intro ac w ha h
  have h1 := ha.vals t _ ht
  have h2 := ha.vals u _ hu
  simp at h1 h2
  simp [results, hr, h1, h2, asAddr, hw w h]

section eff
variable {X : Cx} {Q : Post} {E : Env} {H H' : List Chunk} {ops : Array Oper} {rest : List Oper}
/-- The values of operands, one by one (a form that computes). -/
def Env.evs (E : Env) : List Operand → Option (List Value)
  | [] => some []
  | x :: xs => match E.ev x, Env.evs E xs with
    | some v, some vs => some (v :: vs)
    | _, _ => none
theorem evs_map {X : Cx} {E : Env} {ac : Act} (ha : Ok X E ac) : ∀ (l : List Operand) (us : List Value), E.evs l = some us → l.map ac.eval = us
  | [], us, h => by simp [Env.evs] at h; simp [h]
  | x :: xs, us, h => by
    simp only [Env.evs] at h
    cases h1 : E.ev x with
    | none => simp [h1] at h
    | some v =>
      cases h2 : E.evs xs with
      | none => simp [h1, h2] at h
      | some vs =>
        simp [h1, h2] at h
        subst h
        simp [ha.ev h1, evs_map ha xs vs h2]
theorem vl_callA {fE : Value → Env} {o : Oper} {f : FuncId} {args : List Value} {C F : List Chunk} {R : Ending → List Chunk → Prop}
    (hrun : ∀ (a : Act) (w : World), Ok X E a → (execOp a.eval o).run X.P w = .ok (.enter f args.toArray) w) (hg : o.guard = none) (hd : DstF X E o.dst fE)
    (hs : Sub C H F) (hf : ∀ w, Holds X.w0 X.M H w → Fn X.P f args C R w)
    (hR : ∀ v H', R (.returned v) H' → VL X ops rest Q (fE v) (H' ++ F)) (hp : ∀ ch H', R (.panicked ch) H' → Q (.panic ch) E (H' ++ F)) (ho : ∀ H', ¬ R .outgrown H') : VL X ops (o :: rest) Q E H := by
  intro a w ha hw
  refine wpList_plain hg fun K hK => ?_
  unfold Oper.wp
  rw [hrun a w ha]
  have hw' := hw.perm hs.perm
  refine (hf w hw hw'.sub).mono fun e w' ⟨H', h1, h2⟩ => ?_
  have h3 := hw'.called h2
  cases e with
  | returned v => exact hK _ _ (hR v H' h1 _ _ (ha.setF hd) h3)
  | panicked ch => exact ⟨E, _, ha, h3, hp ch H' h1⟩
  | outgrown => exact (ho H' h1).elim
theorem run_call {o : Oper} {f : FuncId} {xs : Array Operand} {ats : Array TypeId} {args : List Value} (ho : o.op = .call { callee := .value (.func f), args := xs, argTypes := ats })
    (hc : ∀ args w, (callFunc f args).run X.P w = .ok (.enter f args) w) (hx : E.evs xs.toList = some args) : ∀ (a : Act) (w : World), Ok X E a → (execOp a.eval o).run X.P w = .ok (.enter f args.toArray) w := by
  intro a w ha
  have h1 : xs.map a.eval = args.toArray := by rw [← evs_map ha _ _ hx, ← Array.toList_map]
  simp [execOp, ho, resolve, h1, Act.eval, Deferred.ofValue, invoke, hc]
theorem run_callv {o : Oper} {f : FuncId} {x : Operand} {xs : Array Operand} {ats : Array TypeId} {args fs cs : List Value} (ho : o.op = .call { callee := .value x, args := xs, argTypes := ats })
    (hfx : E.ev x = some (.func (.func f) fs.toArray cs.toArray)) (hc : ∀ args w, (callFunc f args).run X.P w = .ok (.enter f args) w) (hx : E.evs xs.toList = some args) : ∀ (a : Act) (w : World), Ok X E a → (execOp a.eval o).run X.P w = .ok (.enter f (fs ++ args ++ cs).toArray) w := by
  intro a w ha
  have h1 : xs.map a.eval = args.toArray := by rw [← evs_map ha _ _ hx, ← Array.toList_map]
  simp [execOp, ho, resolve, h1, ha.ev hfx, Deferred.ofValue, invoke, hc]
/-- A call that returns. -/
theorem vl_call {fE : Value → Env} {o : Oper} {f : FuncId} {xs : Array Operand} {ats : Array TypeId} {args : List Value} {C F : List Chunk} {φ : Value → List Chunk → Prop} (ho : o.op = .call { callee := .value (.func f), args := xs, argTypes := ats })
    (hg : o.guard = none) (hd : DstF X E o.dst fE) (hc : ∀ args w, (callFunc f args).run X.P w = .ok (.enter f args) w) (hx : E.evs xs.toList = some args)
    (hs : Sub C H F) (hf : ∀ w, Holds X.w0 X.M H w → Fn X.P f args C (ret φ) w) (h : ∀ v H', φ v H' → VL X ops rest Q (fE v) (H' ++ F)) : VL X ops (o :: rest) Q E H :=
  vl_callA (run_call ho hc hx) hg hd hs hf h (fun _ _ h => h.elim) (fun _ h => h)
/-- A call that returns the value v and leaves all that was there. -/
theorem vl_callV {fE : Value → Env} {o : Oper} {f : FuncId} {xs : Array Operand} {ats : Array TypeId} {args : List Value} {v : Value} (ho : o.op = .call { callee := .value (.func f), args := xs, argTypes := ats })
    (hg : o.guard = none) (hd : DstF X E o.dst fE) (hc : ∀ args w, (callFunc f args).run X.P w = .ok (.enter f args) w) (hx : E.evs xs.toList = some args)
    (hf : ∀ w, Holds X.w0 X.M H w → FnV X.P f args v w) (h : VL X ops rest Q (fE v) H) : VL X ops (o :: rest) Q E H := by
  intro a w ha hw
  refine wpList_plain hg fun K hK => ?_
  unfold Oper.wp
  rw [run_call ho hc hx a w ha]
  refine (hf w hw (.start0 w)).mono fun e w' ⟨H', h1, h2⟩ => ?_
  cases e <;> simp only [ret] at h1
  subst h1
  have h3 := Holds.called (C := []) (by simpa using hw) h2
  exact hK _ _ (h _ _ (ha.setF hd) h3.right)
/-! ### Rows that are made -/
theorem evs_zip {X : Cx} {E : Env} {ac : Act} (ha : Ok X E ac) : ∀ (l : List (Nat × Operand)) (us : List Value), E.evs (l.map (·.2)) = some us → l.map (fun p => (p.1, ac.eval p.2)) = (l.map (·.1)).zip us
  | [], us, h => by simp
  | p :: l, us, h => by
    simp only [List.map_cons, Env.evs] at h
    cases h1 : E.ev p.2 with
    | none => simp [h1] at h
    | some v =>
      cases h2 : E.evs (l.map (·.2)) with
      | none => simp [h1, h2] at h
      | some vs =>
        simp [h1, h2] at h
        subst h
        simp [ha.ev h1, evs_zip ha l vs h2]
theorem vl_buildSlice {fE : Value → Env} {o : Oper} {T e len sz by_ : Nat} {z : Value} {ps : Array (Nat × Operand)} {us : List Value} {cs : Array Value} (ht : SlT X.P T e sz by_ z)
    (ho : o.op = .buildSlice T len ps) (hg : o.guard = none) (hd : DstF X E o.dst fE) (hx : E.evs (ps.toList.map (·.2)) = some us)
    (hpos : 0 < len) (hsm : len * sz ≤ 16777216) (hf : Instr.fill (fun i => some (i * sz, sz)) ((Array.range (len * sz)).map (z.cells[· % z.cells.size]!)) ((ps.toList.map (·.1)).zip us) = some cs) (hcs : cs.size = len * sz)
    (h : ∀ r, VL X ops rest Q (fE (.slice (some ⟨r, 0, none⟩) len len)) (sl (some ⟨r, 0, none⟩) len len e sz cs.toList :: H)) : VL X ops (o :: rest) Q E H := by
  intro a w ha hw
  refine wpList_plain hg fun K hK => ?_
  unfold Oper.wp
  obtain ⟨i, hi2, hz, hsz, hby⟩ := ht.i
  have hparts : (ps.map fun p => (p.1, a.eval p.2)).toList = (ps.toList.map (·.1)).zip us := by
    rw [Array.toList_map]
    exact evs_zip ha _ _ hx
  have hne : ¬ len * i.size = 0 := by
    rw [hsz]
    exact Nat.ne_of_gt (Nat.mul_pos hpos ht.pos)
  have := run_buildSlice (P := X.P) w T e len (ps.map fun p => (p.1, a.eval p.2)) cs i z ht.u hi2 hz (by rw [hsz]; omega) hne (by rw [hsz, hparts]; exact hf)
  have : (execOp a.eval o).run X.P w = .ok (.value (.slice (some ⟨w.heap.size, 0, none⟩) len len)) (w.alloc (.cells cs e)) := by
    simp only [execOp, ho, Sem.run_bind, this, Result.andThen_ok, Sem.run_pure]
  rw [this]
  have hml : len ≤ maxLen := by
    have := ht.pos
    have := Nat.le_mul_of_pos_right len this
    unfold maxLen; omega
  exact hK _ _ (h w.heap.size _ _ (ha.setF hd) (hw.alloc _ (World.ownsRow_lit w cs len (Nat.zero_le _) hml hcs) rfl))
theorem foldl_set (us : List Value) : ∀ (off j : Nat) (cs : Array Value), off + j + us.length ≤ cs.size →
    ((us.zipIdx j).foldl (fun cs (p : Value × Nat) => cs.setIfInBounds (off + p.2) p.1) cs).toList = cs.toList.take (off + j) ++ us ++ cs.toList.drop (off + j + us.length) := by
  induction us with
  | nil => intro off j cs _; simp
  | cons u us ih =>
    intro off j cs h
    simp only [List.length_cons] at h
    simp only [List.zipIdx_cons, List.foldl_cons]
    rw [ih off (j + 1) _ (by simp; omega)]
    apply List.ext_getElem?
    intro i
    simp only [Array.toList_setIfInBounds, List.getElem?_append, List.getElem?_take, List.getElem?_drop, List.length_take, List.length_append, List.length_set, Array.length_toList, List.getElem?_set, List.length_cons, List.getElem?_cons]
    have e1 : min (off + (j + 1)) cs.size = off + j + 1 := by omega
    have e2 : min (off + j) cs.size = off + j := by omega
    rw [e1, e2]
    by_cases c1 : i < off + j
    · rw [if_pos (by omega), if_pos (by omega), if_pos (by omega), if_neg (by omega), if_pos (by omega), if_pos c1, if_pos c1]
    · by_cases c2 : i = off + j
      · subst c2
        rw [if_pos (by omega), if_pos (by omega), if_pos (by omega), if_pos rfl, if_pos (by omega), if_pos (by omega), if_neg (by omega), if_pos (by omega)]
      · by_cases c3 : i < off + j + 1 + us.length
        · rw [if_pos (by omega), if_neg (by omega), if_pos (by omega), if_neg (by omega), if_neg (by omega)]
          (try rw [show i - (off + j + 1) = i - (off + j) - 1 by omega])
        · rw [if_neg (by omega), if_neg (by omega), if_neg (by omega)]
          congr 1 <;> omega
theorem fill_full (sz : Nat) : ∀ (us : List Value) (k : Nat) (cs : Array Value), (∀ u ∈ us, u.cells.size = sz) → (k + us.length) * sz ≤ cs.size →
    Instr.fill (fun i => some (i * sz, sz)) cs ((List.range' k us.length).zip us) = some (cs.toList.take (k * sz) ++ us.flatMap (·.cells.toList) ++ cs.toList.drop ((k + us.length) * sz)).toArray
  | [], k, cs, _, _ => by simp [Instr.fill]
  | u :: us, k, cs, h, hb => by
    have hu := h u (by simp)
    have hb1 : k * sz + sz ≤ cs.size := by
      have : (k + 1) * sz ≤ (k + (u :: us).length) * sz := Nat.mul_le_mul_right _ (by simp)
      rw [Nat.add_mul, Nat.one_mul] at this
      omega
    have hset := foldl_set u.cells.toList (k * sz) 0 cs (by simp [hu]; omega)
    simp only [List.length_cons, List.range'_succ, List.zip_cons_cons, Instr.fill]
    rw [if_neg (by rw [hu]; simp; omega)]
    have e0 : (u.cells.zipIdx.foldl (fun cs (x : Value × Nat) => match x with | (c, j) => cs.setIfInBounds (k * sz + j) c) cs) = (cs.toList.take (k * sz) ++ u.cells.toList ++ cs.toList.drop (k * sz + sz)).toArray := by
      apply Array.ext'
      rw [← Array.foldl_toList, Array.toList_zipIdx]
      have : (u.cells.toList.length) = sz := by simp [hu]
      rw [this] at hset
      simpa using hset
    rw [e0, fill_full sz us (k + 1) _ (fun v hv => h v (by simp [hv])) (by
      simp only [List.size_toArray, List.length_append, List.length_take, List.length_drop, Array.length_toList, hu]
      simp only [List.length_cons] at hb
      have : (k + 1 + us.length) = (k + (us.length + 1)) := by omega
      rw [this]; omega)]
    congr 2
    simp only [List.toList_toArray, List.flatMap_cons]
    have e3 : (k + 1) * sz = k * sz + sz := by rw [Nat.add_mul, Nat.one_mul]
    have e4 : (k + 1 + us.length) * sz = (k + (us.length + 1)) * sz := by congr 1; omega
    have e5 : k * sz + sz ≤ (k + (us.length + 1)) * sz := by rw [← e3]; exact Nat.mul_le_mul_right _ (by omega)
    have l1 : (cs.toList.take (k * sz) ++ u.cells.toList).length = k * sz + sz := by simp [hu]; omega
    rw [e3, e4, List.take_append_of_le_length (by omega), List.take_of_length_le (by omega), List.drop_append, l1, List.drop_of_length_le (l := cs.toList.take (k * sz) ++ u.cells.toList) (by omega), List.drop_drop]
    have e6 : k * sz + sz + ((k + (us.length + 1)) * sz - (k * sz + sz)) = (k + (us.length + 1)) * sz := by omega
    simp only [List.nil_append, List.append_assoc, List.append_cancel_left_eq, e6]
theorem flat_len (sz : Nat) : ∀ us : List Value, (∀ u ∈ us, u.cells.size = sz) → (us.flatMap (·.cells.toList)).length = us.length * sz
  | [], _ => by simp
  | u :: us, h => by
    have := flat_len sz us (fun v hv => h v (by simp [hv]))
    simp only [List.flatMap_cons, List.length_append, Array.length_toList, List.length_cons, this, h u (by simp)]
    rw [Nat.add_mul, Nat.one_mul]; omega
/-- A literal of elements. -/
theorem vl_lit {fE : Value → Env} {o : Oper} {T e len sz by_ : Nat} {z : Value} {ps : Array (Nat × Operand)} {us vs : List Value} (ht : SlT X.P T e sz by_ z)
    (ho : o.op = .buildSlice T len ps) (hg : o.guard = none) (hd : DstF X E o.dst fE) (hx : E.evs (ps.toList.map (·.2)) = some us) (hi : ps.toList.map (·.1) = List.range' 0 us.length) (hlen : us.length = len)
    (hpos : 0 < len) (hsm : len * sz ≤ 16777216) (hsz : us.all (fun u => Nat.beq u.cells.size sz) = true) (hvs : us.flatMap (·.cells.toList) = vs)
    (h : ∀ r, VL X ops rest Q (fE (.slice (some ⟨r, 0, none⟩) len len)) (sl (some ⟨r, 0, none⟩) len len e sz vs :: H)) : VL X ops (o :: rest) Q E H := by
  subst hlen
  have hall : ∀ u ∈ us, u.cells.size = sz := fun u hu => Nat.eq_of_beq_eq_true (List.all_eq_true.1 hsz u hu)
  have hfl : (us.flatMap (·.cells.toList)).length = us.length * sz := flat_len sz us hall
  have hf := fill_full sz us 0 ((Array.range (us.length * sz)).map (z.cells[· % z.cells.size]!)) hall (by simp)
  simp only [Nat.zero_mul, List.take_zero, List.nil_append, Nat.zero_add] at hf
  rw [List.drop_of_length_le (by simp), List.append_nil] at hf
  refine vl_buildSlice ht ho hg hd hx hpos hsm (by rw [hi]; exact hf) (by simpa using hfl) (fun r => ?_)
  have := h r
  rw [← hvs] at this
  simpa using this
theorem flat_one {us : List Value} (h : us.all (fun u => match u with | .agg _ => false | _ => true) = true) : us.flatMap (·.cells.toList) = us := by
  induction us with
  | nil => rfl
  | cons u us ih =>
    simp only [List.all_cons, Bool.and_eq_true] at h
    rw [List.flatMap_cons, ih h.2]
    cases u <;> simp_all [Value.cells]
theorem vl_makeSlice {fE : Value → Env} {o : Oper} {T e sz by_ : Nat} {z : Value} {x y : Operand} {k j : IntKind} {n : Int} (ht : SlT X.P T e sz by_ z)
    (ho : o.op = .makeSlice T x y) (hg : o.guard = none) (hd : DstF X E o.dst fE) (hx : E.ev x = some (.int k n)) (hy : E.ev y = some (.int j n)) (h0 : 0 ≤ n) (hb : n * by_ ≤ 140737488355328) (h63 : n < 9223372036854775808)
    {vs : List Value} (hvs : (madeCells z.cells (n.toNat * sz)).toList = vs)
    (h : ∀ r, VL X ops rest Q (fE (.slice (some ⟨r, 0, none⟩) n.toNat n.toNat)) (sl (some ⟨r, 0, none⟩) n.toNat n.toNat e sz vs :: H)) : VL X ops (o :: rest) Q E H := by
  intro a w ha hw
  refine wpList_plain hg fun K hK => ?_
  unfold Oper.wp
  subst hvs
  obtain ⟨i, hi2, hz, hsz, hby⟩ := ht.i
  obtain ⟨m, rfl⟩ : ∃ m : Nat, n = m := ⟨n.toNat, by omega⟩
  have hb' : i.bytes * m ≤ 281474976710656 := by rw [hby, Nat.mul_comm]; have : ((m * by_ : Nat) : Int) ≤ 140737488355328 := by simpa using hb
                                                 omega
  obtain ⟨w', hr, hown, hgr⟩ := run_make_full (P := X.P) w 0 T e i z sz ht.u hi2 hz hsz k j m hb' (by unfold maxLen; omega) (Nat.zero_le _)
  have : (execOp a.eval o).run X.P w = .ok (.value (.slice (some ⟨w.heap.size, 0, none⟩) m m)) w' := by
    simp [execOp, ho, ha.ev hx, ha.ev hy, hr]
  rw [this]
  refine hK _ _ (h w.heap.size _ _ (ha.setF hd) (hw.grownNew hgr hown (by simp [sl, ownFp]) ?_))
  intro b hb
  simp [sl, ownFp] at hb
  subst hb
  exact ⟨(hown.lt w.heap.size (by simp [Value.ownBlock])).2, Nat.le_refl _⟩
theorem vl_appendStr {F : List Chunk} {fE : Value → Env} {o : Oper} {T U e : TypeId} {x y : Operand} {A : Option Addr} {n c : Nat} {vs : List Value} {s : ByteArray} (ht : SlT X.P T e 1 1 (.int .u8 0)) (hU : X.P.underlying U = some .string)
    (ho : o.op = .call { callee := .builtin .append, args := #[x, y], argTypes := #[T, U] }) (hg : o.guard = none) (hd : DstF X E o.dst fE)
    (hx : E.ev x = some (.slice A n c)) (hy : E.ev y = some (.string s)) (hb : n + s.size ≤ 140737488355328)
    (hin : Take (sl A n c e 1 vs) H F) (h : ∀ A' k, VL X ops rest Q (fE (.slice A' (n + s.size) k)) (sl A' (n + s.size) k e 1 (vs ++ Lib.strCells s) :: F)) : VL X ops (o :: rest) Q E H := by
  intro a w ha hw
  refine wpList_plain hg fun K hK => ?_
  have hp := hw.perm hin.perm
  have hown : w.ownsRow 0 e 1 (.slice A n c) n vs := hp.chunk (sl A n c e 1 vs) (by simp)
  obtain ⟨i, hi, hz, hsz, hby⟩ := ht.i
  obtain ⟨v', w', hrun, hown', hgr, hnil⟩ := Lib.run_append_own_string (P := X.P) w 0 T U o.type e i ht.u hU hi hz hsz hby (.slice A n c) n vs hown s (by unfold maxLen; omega) hb (Nat.zero_le _)
  have hfresh : ∀ k, v'.ownBlock = some k → (Value.slice A n c).ownBlock = some k ∨ w.heap.size ≤ k := by
    intro k hk
    rcases hown.2 with ⟨he, h0⟩ | ⟨g, cap, cur, he, hbg, hgg, hnc, hcm, hcs, htk⟩
    · right
      simp only [Value.slice.injEq] at he
      obtain ⟨rfl, rfl, rfl⟩ := he
      rcases Nat.eq_zero_or_pos s.size with hm | hm
      · have := hnil.2 ⟨rfl, hm⟩
        rw [this] at hk
        simp [Value.ownBlock] at hk
      · have hr0 := run_append_nil_string (P := X.P) w T U o.type e i (.int .u8 0) ht.u hU hi hz s hm (by omega) (by rw [hby]; omega)
        rw [hr0] at hrun
        simp only [Result.ok.injEq] at hrun
        rw [← hrun.1] at hk
        simp [Value.ownBlock] at hk
        omega
    · simp only [Value.slice.injEq] at he
      obtain ⟨rfl, _, rfl⟩ := he
      by_cases hroom : n + s.size ≤ c
      · have hr0 := Lib.run_append_room_string (P := X.P) w T U o.type e i ht.u hU hi hsz g n c cur hgg s hroom (by rw [hcs]; omega)
        rw [hr0] at hrun
        simp only [Result.ok.injEq] at hrun
        rw [← hrun.1] at hk
        left
        simpa [Value.ownBlock] using hk
      · have holds : ∀ j u, vs[j]? = some u → w.cell? ((⟨g, 0, none⟩ : Addr).add j) = some u := hown.cells (g := g) rfl
        have hr0 := Lib.run_append_grow_string (P := X.P) w T U o.type e i (.int .u8 0) ht.u hU hi hz ⟨g, 0, none⟩ n c vs (by rw [hsz]; exact hown.1) holds s (by omega) (by omega) (growslice_fits (by omega) (by rw [hby]; omega))
        rw [hr0] at hrun
        simp only [Result.ok.injEq] at hrun
        rw [← hrun.1] at hk
        right
        simp [Value.ownBlock] at hk
        omega
  unfold Oper.wp execOp
  simp only [ho, resolve, invoke, builtin, Sem.run_bind, Sem.run_pure, Result.andThen_ok, List.map_toArray, List.map_cons, List.map_nil, ha.ev hx, ha.ev hy, hrun]
  obtain ⟨A', k, rfl⟩ : ∃ A' k, v' = .slice A' (n + s.size) k := by
    rcases hown'.2 with ⟨he, h0⟩ | ⟨g, cap, cur, he, _⟩
    · exact ⟨none, 0, by rw [he, h0]⟩
    · exact ⟨_, cap, he⟩
  refine hK _ _ (h A' k _ _ (ha.setF hd) (hp.grown (.head (c' := sl A' (n + s.size) k e 1 (vs ++ Lib.strCells s))) hgr ?_ hown' ?_ ?_))
  · intro k hk; cases A <;> simp_all [Value.ownBlock, sl, ownFp]
  · cases A' <;> simp [sl, ownFp]
  · intro b hb'
    cases A' with
    | none => simp [sl, ownFp] at hb'
    | some x =>
      simp [sl, ownFp] at hb'
      subst hb'
      refine ⟨(hown'.lt x.block (by simp [Value.ownBlock])).2, ?_⟩
      rcases hfresh x.block (by simp [Value.ownBlock]) with h | h
      · left; cases A <;> simp_all [Value.ownBlock, sl, ownFp]
      · exact .inr h
theorem made_one {z : Value} (h : z.cells = #[z]) (n : Nat) : (madeCells z.cells (n * 1)).toList = List.replicate n z := by
  rw [h, Nat.mul_one]
  simp only [madeCells, Array.toList_map, Array.toList_range]
  apply List.ext_getElem
  · simp
  · intro i h1 h2
    simp [Nat.mod_one]
/-! ### Strings and bytes -/
/-- The cells of bytes. -/
def bcells (l : List UInt8) : List Value := l.map fun b => .int .u8 b.toNat
theorem made_u8 (n : Nat) : (madeCells (Value.int .u8 0).cells (n * 1)).toList = bcells (List.replicate n 0) := by
  rw [made_one rfl]; simp [bcells]
theorem val_bytesToStr {T U e ty : TypeId} {x : Operand} {A : Option Addr} {n c : Nat} {l : List UInt8} (hT : ∀ w, (underlying T).run X.P w = .ok (.slice e) w) (he : ∀ w, (underlying e).run X.P w = .ok (.int .u8) w) (hU : ∀ w, (underlying U).run X.P w = .ok .string w)
    (hx : E.ev x = some (.slice A n c)) (hr : Rd X H A (bcells l)) (hn : l.length = n) : Val X E H (.convert T U x) ty (.string ⟨l.toArray⟩) := by
  intro ac w o ho _ ha hw
  have hr := hr w hw
  cases A with
  | none =>
    have : l = [] := by
      rcases l with _ | ⟨b, l⟩
      · rfl
      · obtain ⟨x, hx', _⟩ := hr 0 _ (by simp [bcells]; rfl); cases hx'
    subst this
    simp [execOp, ho, ha.ev hx, convert, hT, he, hU, Conv.bytesToString]
    rfl
  | some a =>
    have hl : (loadCells a n).run X.P w = .ok ((l.map fun b => (b.toNat : Int)).map (Value.int .u8)).toArray w := by
      subst hn
      have := run_loadCells_list (P := X.P) w a (bcells l) (fun j u hu => by
        obtain ⟨x, hx', hc⟩ := hr j u hu
        cases hx'
        exact hc)
      simpa [bcells, Function.comp_def] using this
    have h1 := run_bytesToString (P := X.P) w a n c _ hl
    have h2 : (l.map fun b => (b.toNat : Int)).foldl (fun r n => r.push (UInt8.ofNat n.toNat)) ByteArray.empty = ⟨l.toArray⟩ := by
      have key : ∀ (l : List UInt8) (s : ByteArray), (l.map fun b => (b.toNat : Int)).foldl (fun r n => r.push (UInt8.ofNat n.toNat)) s = ⟨s.data ++ l.toArray⟩ := by
        intro l
        induction l with
        | nil => intro s; simp
        | cons b l ih =>
          intro s
          simp only [List.map_cons, List.foldl_cons, ih]
          simp [ByteArray.push]
      rw [key]
      simp [ByteArray.empty, ByteArray.emptyWithCapacity]; rfl
    simp [execOp, ho, ha.ev hx, convert, hT, he, hU, h1, h2]
end eff
end Go.Proofs.Ytdehjgpdcdjhjaa.K
