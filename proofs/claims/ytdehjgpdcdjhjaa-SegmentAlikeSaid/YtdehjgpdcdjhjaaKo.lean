/- A framework of our own for walks over the model: Ko. -/
import Derived.Test.YtdehjgpdcdjhjaaKm
import Derived.Test.YtdehjgpdcdjhjaaKj
namespace Go.Proofs.Ytdehjgpdcdjhjaa.K
open Go Go.RowKit
set_option linter.unusedVariables false
set_option linter.unusedSimpArgs false
/-! ### Maps -/
section maps
variable {κ : Type} [DecidableEq κ]
/-- A map's keys ks and values vs, in the order in which they came. -/
def mp (key : κ → Value) (a : Nat) (ks : List κ) (vs : List Value) : Chunk :=
  ⟨[a], fun w => ∃ es : Array MapEntry, w.heap[a]? = some (.map es es.size) ∧ es.toList.map (·.key) = ks.map key ∧ es.toList.map (·.val) = vs ∧ es.toList.map (·.born) = List.range es.size, fun w w' h hA => by rw [h a (by simp)]; exact hA⟩
def kfind (x : κ) : List κ → List Value → Nat → Option (Nat × Value)
  | k :: ks, v :: vs, i => if x = k then some (i, v) else kfind x ks vs (i + 1)
  | _, _, _ => none
structure KeyT (P : Program) (mt kt et : TypeId) (key : κ → Value) (z : Value) : Prop where
  u : ∀ w, (underlying mt).run P w = .ok (.map kt et) w
  z : ∀ w, (zeroValue et).run P w = .ok z w
  chk : ∀ e x w, (Instr.checkKey e 10000 kt (key x)).run P w = .ok () w
  eq : ∀ x y w, (Op.equal kt (key x) (key y)).run P w = .ok (decide (x = y)) w
  now : ∃ d, (∀ w, (underlying kt).run P w = .ok d w) ∧ ∀ x y, Instr.sameNow d (key x) (key y) = none
  same : ∀ x, Instr.sameBits 10000 (key x) (key x) = true
variable {P : Program} {mt kt et : TypeId} {key : κ → Value} {z : Value}
theorem findAsking_run (K : KeyT P mt kt et key z) (x : κ) (w : World) : ∀ (es : List MapEntry) (ks : List κ) (i : Nat), es.map (·.key) = ks.map key → (Instr.findAsking kt (key x) es i).run P w = .ok (kfind x ks (es.map (·.val)) i) w
  | [], [], i, _ => by simp [Instr.findAsking, kfind]
  | [], _ :: _, _, h => by simp at h
  | _ :: _, [], _, h => by simp at h
  | e :: es, k :: ks, i, h => by
    simp only [List.map_cons, List.cons.injEq] at h
    have ih := findAsking_run K x w es ks (i + 1) h.2
    unfold Instr.findAsking kfind
    rw [h.1]
    simp only [Sem.run_bind, K.eq, Result.andThen_ok, List.map_cons]
    by_cases e : x = k
    · simp [e]
    · simp [e, ih]
theorem findKey_run (K : KeyT P mt kt et key z) (x : κ) (w : World) (es : List MapEntry) (ks : List κ) (h : es.map (·.key) = ks.map key) : (Instr.findKey kt (key x) es).run P w = .ok (kfind x ks (es.map (·.val)) 0) w := by
  obtain ⟨d, hd, hn⟩ := K.now
  unfold Instr.findKey
  cases es with
  | nil =>
    cases ks with
    | nil => simp [hd, Instr.findNow, kfind]
    | cons => simp at h
  | cons e es =>
    cases ks with
    | nil => simp at h
    | cons k ks =>
      have h' := h
      simp only [List.map_cons, List.cons.injEq] at h'
      have : Instr.findNow d (key x) (e :: es) 0 = none := by unfold Instr.findNow; rw [h'.1, hn]
      simp only [Sem.run_bind, hd, Result.andThen_ok, this]
      exact findAsking_run K x w _ _ 0 h
variable {X : Cx} {E : Env} {H H' : List Chunk}
/-- What a lookup finds. -/
def kval (x : κ) (ks : List κ) (vs : List Value) (z : Value) : Value := match kfind x ks vs 0 with | some p => p.2 | none => z
def kin (x : κ) (ks : List κ) (vs : List Value) : Bool := (kfind x ks vs 0).isSome
theorem val_lookup {ty a : Nat} {x y : Operand} {k : κ} {ks : List κ} {vs : List Value} (K : KeyT X.P mt kt et key z) (hx : E.ev x = some (.map (some a))) (hy : E.ev y = some (key k)) (hm : In (mp key a ks vs) H) :
    Val X E H (.lookup mt x y false) ty (kval k ks vs z) := by
  intro ac w o ho _ ha hw
  obtain ⟨es, h1, h2, h3, h4⟩ := hw.chunk _ hm.mem
  have hf := findKey_run K k w es.toList ks h2
  rw [h3] at hf
  simp only [execOp, ho, ha.ev hx, ha.ev hy, Instr.lookup, Sem.run_bind, K.u, Result.andThen_ok, MapKept.run_getObj_map h1, Sem.run_pure, K.chk, hf, kval]
  cases kfind k ks vs 0 <;> simp [K.z]
theorem val_lookupOk {ty a : Nat} {x y : Operand} {k : κ} {ks : List κ} {vs : List Value} (K : KeyT X.P mt kt et key z) (hx : E.ev x = some (.map (some a))) (hy : E.ev y = some (key k)) (hm : In (mp key a ks vs) H) :
    Val X E H (.lookup mt x y true) ty (.tuple #[kval k ks vs z, .bool (kin k ks vs)]) := by
  intro ac w o ho _ ha hw
  obtain ⟨es, h1, h2, h3, h4⟩ := hw.chunk _ hm.mem
  have hf := findKey_run K k w es.toList ks h2
  rw [h3] at hf
  simp only [execOp, ho, ha.ev hx, ha.ev hy, Instr.lookup, Sem.run_bind, K.u, Result.andThen_ok, MapKept.run_getObj_map h1, Sem.run_pure, K.chk, hf, kval, kin]
  cases kfind k ks vs 0 <;> simp [K.z]
omit [DecidableEq κ] in
theorem val_lenMap {ty a T : Nat} {k e : TypeId} {x : Operand} {ks : List κ} {vs : List Value} (hu : ∀ w, (underlying T).run X.P w = .ok (.map k e) w) (hx : E.ev x = some (.map (some a))) (hm : In (mp key a ks vs) H) :
    Val X E H (.call { callee := .builtin .len, args := #[x], argTypes := #[T] }) ty (.int .i64 ks.length) := by
  intro ac w o ho _ ha hw
  obtain ⟨es, h1, h2, h3, h4⟩ := hw.chunk _ hm.mem
  have : es.size = ks.length := by have := congrArg List.length h2; simpa using this
  simp [execOp, ho, ha.ev hx, resolve, invoke, builtin, Builtin.len_, hu, goInt, MapKept.run_getObj_map h1, this]
variable {Q : Post} {ops : Array Oper} {rest : List Oper}
omit [DecidableEq κ] in
theorem vl_makeMap {fE : Value → Env} {o : Oper} (key : κ → Value) (ho : o.op = .makeMap mt none) (hg : o.guard = none) (hd : DstF X E o.dst fE)
    (h : ∀ r, VL X ops rest Q (fE (.map (some r))) (mp key r [] [] :: H)) : VL X ops (o :: rest) Q E H := by
  intro a w ha hw
  refine wpList_plain hg fun K hK => ?_
  unfold Oper.wp
  have : (execOp a.eval o).run X.P w = .ok (.value (.map (some w.heap.size))) (w.alloc (.map #[] 0)) := by
    simp [execOp, ho, Instr.makeMap, newObj]
    rfl
  rw [this]
  exact hK _ _ (h w.heap.size _ _ (ha.setF hd) (hw.alloc _ ⟨#[], heap_alloc_new w _, rfl, rfl, rfl⟩ rfl))
omit [DecidableEq κ] in
theorem Holds.setMap {w0 w : World} {M : List Nat} {a : Nat} {ks ks' : List κ} {vs vs' : List Value} (h : Holds w0 M H w) (hu : Upd (mp key a ks vs) (mp key a ks' vs') H H') {es : Array MapEntry}
    (h2 : es.toList.map (·.key) = ks'.map key) (h3 : es.toList.map (·.val) = vs') (h4 : es.toList.map (·.born) = List.range es.size) :
    Holds w0 M H' { w with heap := w.heap.setIfInBounds a (.map es es.size) } := by
  obtain ⟨F, p1, p2⟩ := hu.perm
  have ha : a < w.heap.size := (h.mine a ((fps_perm p1).mem_iff.2 (by simp [fps, mp]))).1
  refine h.grown (b := some a) hu ⟨rfl, rfl, rfl, by simp, fun k _ hk => ?_⟩ (by simp [mp]) ⟨es, by simp [ha], h2, h3, h4⟩ (by simp [mp]) ?_
  · have : a ≠ k := fun e => hk (by rw [e])
    simp [Array.getElem?_setIfInBounds_ne this]
  · intro k hk
    simp [mp] at hk
    subst hk
    simp [mp, ha]
theorem vl_mapNew {fE : Value → Env} {o : Oper} {a : Nat} {x y v : Operand} {k : κ} {ks : List κ} {vs : List Value} {u : Value} (K : KeyT X.P mt kt et key z) (ho : o.op = .mapUpdate mt x y v) (hg : o.guard = none) (hd : DstF X E o.dst fE)
    (hx : E.ev x = some (.map (some a))) (hy : E.ev y = some (key k)) (hv : E.ev v = some u) (hn : kfind k ks vs 0 = none) (hm : Upd (mp key a ks vs) (mp key a (ks ++ [k]) (vs ++ [u])) H H')
    (h : VL X ops rest Q (fE undef) H') : VL X ops (o :: rest) Q E H := by
  intro ac w ha hw
  refine wpList_plain hg fun K' hK => ?_
  unfold Oper.wp
  obtain ⟨F, p1, p2⟩ := hm.perm
  obtain ⟨es, h1, h2, h3, h4⟩ := (hw.perm p1).chunk (mp key a ks vs) (by simp)
  have hf := findKey_run K k w es.toList ks h2
  rw [h3, hn] at hf
  have : (execOp ac.eval o).run X.P w = .ok .skip { w with heap := w.heap.setIfInBounds a (.map (es.push { key := key k, val := u, born := es.size }) (es.push { key := key k, val := u, born := es.size }).size) } := by
    simp [execOp, ho, ha.ev hx, ha.ev hy, ha.ev hv, Instr.mapUpdate, K.u, MapKept.run_getObj_map h1, K.chk, hf, MapKept.run_setObj_map _ h1]
  rw [this]
  exact hK _ _ (h _ _ (ha.setF hd) (hw.setMap hm (by simp [h2]) (by simp [h3]) (by simp [h4, List.range_succ])))
end maps
/-! ### The dynamic type asked -/
section asked
variable {X : Cx} {E : Env} {H : List Chunk}
theorem val_isType {xT T t ty : TypeId} {x : Operand} {d : TypeDesc} {v z : Value} (hu : ∀ w, (underlying T).run X.P w = .ok d w) (hd : (match d with | .interface _ => false | _ => true) = true) (hz : ∀ w, (zeroValue T).run X.P w = .ok z w)
    (hx : E.ev x = some (.iface t v)) : Val X E H (.typeAssert x xT T true) ty (if t = T then .tuple #[v, .bool true] else .tuple #[z, .bool false]) := by
  intro ac w o ho _ ha hw
  by_cases e : t = T
  · cases d <;> simp_all [execOp, ha.ev hx, Instr.typeAssert]
  · cases d <;> simp_all [execOp, ha.ev hx, Instr.typeAssert]
theorem val_isTypeNil {xT T ty : TypeId} {x : Operand} {d : TypeDesc} {z : Value} (hu : ∀ w, (underlying T).run X.P w = .ok d w) (hz : ∀ w, (zeroValue T).run X.P w = .ok z w)
    (hx : E.ev x = some .nilIface) : Val X E H (.typeAssert x xT T true) ty (.tuple #[z, .bool false]) := by
  intro ac w o ho _ ha hw
  cases d <;> simp_all [execOp, ha.ev hx, Instr.typeAssert]
end asked
end Go.Proofs.Ytdehjgpdcdjhjaa.K
namespace Go.Proofs.Ytdehjgpdcdjhjaa.K
open Go Go.RowKit
section more
variable {X : Cx} {E : Env} {H H0 F C : List Chunk} {Q : Post} {ops : Array Oper} {rest : List Oper}
theorem vc_drawsS {id : Nat} {l : List Oper} (S T ord : List Nat) (H0 : List Chunk) (hs : Sub H0 H F) (hm : X.P.follows .mixedOrders = true) (hB : orderB l.toArray S T ord = true) (hQ : ∀ ch E H, Q (.panic ch) E H → Q (.panic ch) [] H)
    (h : VD X l.toArray S T Q H0 ord E H) : VC X (.region id l.toArray true) Q E H := by
  intro a w ha hw
  simp only [orderB, Bool.and_eq_true, decide_eq_true_eq] at hB
  have hw' : Holds X.w0 X.M H { w with drawn := w.drawn + 1 } := hw.drewn rfl rfl rfl rfl
  have h1 := VD.sound hB.1.1 hQ ord _ E H h hB.2 a _ ha hw' (.inl (hw'.perm hs.perm).left)
  rw [hB.1.2] at h1
  exact wp_region_any hm (wpAny_of_C _ _ _ _ h1)
/-- It reads C, returns v and leaves all that was there. -/
def FnR (P : Program) (f : FuncId) (args : List Value) (C : List Chunk) (v : Value) (w : World) : Prop := Fn P f args C (ret fun u H' => u = v ∧ H' = C) w
theorem vl_callR {fE : Value → Env} {o : Oper} {f : FuncId} {xs : Array Operand} {ats : Array TypeId} {args : List Value} {v : Value} (C : List Chunk) (ho : o.op = .call { callee := .value (.func f), args := xs, argTypes := ats })
    (hg : o.guard = none) (hd : DstF X E o.dst fE) (hc : ∀ args w, (callFunc f args).run X.P w = .ok (.enter f args) w) (hx : E.evs xs.toList = some args)
    (hs : Sub C H F) (hf : ∀ w, Holds X.w0 X.M H w → FnR X.P f args C v w) (h : VL X ops rest Q (fE v) H) : VL X ops (o :: rest) Q E H := by
  refine vl_call ho hg hd hc hx hs hf fun u H' hu => ?_
  obtain ⟨rfl, rfl⟩ := hu
  exact fun a w ha hw => h a w ha (hw.perm hs.perm.symm)
theorem vl_nilSl (e sz : Nat) (h : VL X ops rest Q E (sl none 0 0 e sz [] :: H)) : VL X ops rest Q E H := by
  intro a w ha hw
  refine h a w ha ?_
  have := Holds.change (w := w) (C := []) (C' := [sl none 0 0 e sz []]) (F := H) (w' := w) (by simpa using hw) (Nat.le_refl _) rfl rfl rfl (fun _ _ _ => rfl) (by
    intro c hc
    simp at hc
    subst hc
    simp [sl, World.ownsRow]) (by simp [fps, sl, ownFp]) (by simp [fps, sl, ownFp])
  simpa using this
/-! A guard that was itself passed by -/
theorem yielded_un {E : Env} {a : Act} (ha : Ok X E a) {j t : Nat} (hj : (ops[j]?).bind (·.dst) = some t) (ht : E.get t = some undef) (hn : Nat.blt t X.n = true) : yielded ops a.tmps j = none := by
  have h1 := ha.vals t _ ht
  have hlt : t < a.tmps.size := by rw [ha.size]; simpa [Nat.blt_eq] using hn
  have h2 : a.tmps[t] = undef := by simpa [hlt] using h1
  simp [yielded, hj, hlt, h2, undef]
theorem vl_offU {fE : Value → Env} {o : Oper} {j t : Nat} {b : Bool} (hg : o.guard = some (j, b)) (hj : (ops[j]?).bind (·.dst) = some t) (ht : E.get t = some undef) (hn : Nat.blt t X.n = true) (hd : DstF X E o.dst fE) (h : VL X ops rest Q (fE undef) H) : VL X ops (o :: rest) Q E H := by
  intro a w ha hw
  have h1 := h _ w (ha.setF (v := undef) hd) hw
  unfold wpList
  rw [if_neg (by simp [Region.wanted, hg, yielded_un ha hj ht hn])]
  exact h1
/-! equality of what is no number -/
theorem val_opO {op : BinOp} {T yT ty : TypeId} {x y : Operand} {vx vy v : Value} (hx : E.ev x = some vx) (hy : E.ev y = some vy) (hg : ∀ w, (eqGuard op T x y vx vy).run X.P w = .ok () w) (he : ∀ w, (binOp op T vx vy).run X.P w = .ok v w) :
    Val X E H (.binOp op T x y yT) ty v := by
  intro ac w o ho _ ha hw
  simp only [execOp, ho, ha.ev hx, ha.ev hy, Sem.run_bind, hg, Result.andThen_ok, he, Sem.run_pure]
theorem bin_ptr_ne {P : Program} {T e : TypeId} {a : Addr} (hu : ∀ w, (underlying T).run P w = .ok (.pointer e) w) (w : World) : (binOp .neq T (.pointer (some a)) (.pointer none)).run P w = .ok (.bool true) w := by
  have h : ∀ d, (Op.equalIn (d + 1) T (.pointer (some a)) (.pointer none)).run P w = .ok false w := fun d => by simp [Op.equalIn, hu]
  have h := h 9999
  show ((do pure (.bool (!(← Op.equal T (.pointer (some a)) (.pointer none)))) : Sem Value)).run P w = _
  rw [Sem.run_bind, show Op.equal T (.pointer (some a)) (.pointer none) = Op.equalIn (9999 + 1) T (.pointer (some a)) (.pointer none) from rfl, h]
  rfl
theorem bin_nil_ne {P : Program} {T e : TypeId} (hu : ∀ w, (underlying T).run P w = .ok (.pointer e) w) (w : World) : (binOp .neq T (.pointer none) (.pointer none)).run P w = .ok (.bool false) w := by
  have h : ∀ d, (Op.equalIn (d + 1) T (.pointer none) (.pointer none)).run P w = .ok true w := fun d => by simp [Op.equalIn, hu]
  have h := h 9999
  show ((do pure (.bool (!(← Op.equal T (.pointer none) (.pointer none)))) : Sem Value)).run P w = _
  rw [Sem.run_bind, show Op.equal T (.pointer none) (.pointer none) = Op.equalIn (9999 + 1) T (.pointer none) (.pointer none) from rfl, h]
  rfl
theorem bin_map_ne {P : Program} {T k e : TypeId} {a : Nat} (hu : ∀ w, (underlying T).run P w = .ok (.map k e) w) (w : World) : (binOp .neq T (.map (some a)) (.map none)).run P w = .ok (.bool true) w := by
  have h : ∀ d, (Op.equalIn (d + 1) T (.map (some a)) (.map none)).run P w = .ok false w := fun d => by simp [Op.equalIn, hu]
  have h := h 9999
  show ((do pure (.bool (!(← Op.equal T (.map (some a)) (.map none)))) : Sem Value)).run P w = _
  rw [Sem.run_bind, show Op.equal T (.map (some a)) (.map none) = Op.equalIn (9999 + 1) T (.map (some a)) (.map none) from rfl, h]
  rfl
theorem bin_agg_eq {P : Program} {T : TypeId} {cs ds : Array Value} {b : Bool} (he : ∀ w, (Op.equal T (.agg cs) (.agg ds)).run P w = .ok b w) (w : World) : (binOp .eql T (.agg cs) (.agg ds)).run P w = .ok (.bool b) w := by
  simp [binOp, he]
theorem bin_agg_ne {P : Program} {T : TypeId} {cs ds : Array Value} {b : Bool} (he : ∀ w, (Op.equal T (.agg cs) (.agg ds)).run P w = .ok b w) (w : World) : (binOp .neq T (.agg cs) (.agg ds)).run P w = .ok (.bool (!b)) w := by
  simp [binOp, he]
theorem guard_ptr {P : Program} {op : BinOp} {T : TypeId} {x y : Operand} {a b : Option Addr} (w : World) : (eqGuard op T x y (.pointer a) (.pointer b)).run P w = .ok () w := by cases op <;> rfl
theorem guard_map {P : Program} {op : BinOp} {T : TypeId} {x y : Operand} {a b : Option Nat} (w : World) : (eqGuard op T x y (.map a) (.map b)).run P w = .ok () w := by cases op <;> rfl
end more
/-! what a key finds -/
theorem kfind_none {κ : Type} [DecidableEq κ] {x : κ} : ∀ (ks : List κ) (vs : List Value) (i : Nat), x ∉ ks → kfind x ks vs i = none
  | [], [], _, _ => rfl
  | [], _ :: _, _, _ => rfl
  | _ :: _, [], _, _ => rfl
  | k :: ks, v :: vs, i, h => by
    simp only [List.mem_cons, not_or] at h
    unfold kfind
    rw [if_neg h.1]
    exact kfind_none ks vs (i + 1) h.2
def ids (a n : Nat) : List Value := (List.range' a n).map fun i : Nat => .int .i64 (i : Int)
theorem kfind_ids {κ : Type} [DecidableEq κ] {x : κ} : ∀ (ks : List κ) (a i : Nat), x ∈ ks → kfind x ks (ids a ks.length) i = some (i + ks.idxOf x, .int .i64 ((a + ks.idxOf x : Nat) : Int))
  | k :: ks, a, i, h => by
    have e : ids a (k :: ks).length = .int .i64 (a : Int) :: ids (a + 1) ks.length := by simp [ids, List.range'_succ]
    rw [e]
    unfold kfind
    by_cases hk : x = k
    · subst hk; simp
    · rw [if_neg hk, kfind_ids ks (a + 1) (i + 1) (by simpa [hk] using h), List.idxOf_cons]
      have : (k == x) = false := by simpa using Ne.symm hk
      rw [this]
      simp
      omega
theorem kin_ids {κ : Type} [DecidableEq κ] (x : κ) (ks : List κ) : kin x ks (ids 0 ks.length) = decide (x ∈ ks) := by
  unfold kin
  by_cases h : x ∈ ks
  · rw [kfind_ids ks 0 0 h]; simp [h]
  · rw [kfind_none _ _ _ h]; simp [h]
theorem kval_ids {κ : Type} [DecidableEq κ] (x : κ) (ks : List κ) : kval x ks (ids 0 ks.length) (.int .i64 0) = .int .i64 ((if x ∈ ks then ks.idxOf x else 0 : Nat) : Int) := by
  unfold kval
  by_cases h : x ∈ ks
  · rw [kfind_ids ks 0 0 h, if_pos h]; simp
  · rw [kfind_none _ _ _ h, if_neg h]; rfl
theorem ids_push (n : Nat) : ids 0 n ++ [.int .i64 (n : Int)] = ids 0 (n + 1) := by simp [ids, List.range'_concat]
end Go.Proofs.Ytdehjgpdcdjhjaa.K
namespace Go.Proofs.Ytdehjgpdcdjhjaa.K
open Go Go.RowKit
section more2
variable {X : Cx} {E : Env} {H : List Chunk}
theorem rd_part {A : Option Addr} {cs us : List Value} {k : Nat} (h : Rd X H A cs) (hu : (cs.drop k).take us.length = us) : ∀ i v, us[i]? = some v → Cell X H (((adr A).add k).add i) v := by
  intro i v hv
  rw [Addr.add_add]
  refine cell_rd h ?_
  have hi : i < us.length := by
    have := List.getElem?_eq_some_iff.1 hv
    exact this.1
  rw [← hu, List.getElem?_take, if_pos hi, List.getElem?_drop] at hv
  exact hv
theorem val_lookupIds {κ : Type} [DecidableEq κ] {key : κ → Value} {mt kt et : TypeId} {ty a : Nat} {x y : Operand} {k : κ} {ks : List κ} (K : KeyT X.P mt kt et key (.int .i64 0)) (hx : E.ev x = some (.map (some a))) (hy : E.ev y = some (key k)) (hm : In (mp key a ks (ids 0 ks.length)) H) :
    Val X E H (.lookup mt x y true) ty (.tuple #[.int .i64 ((if k ∈ ks then ks.idxOf k else 0 : Nat) : Int), .bool (decide (k ∈ ks))]) := by
  have h := val_lookupOk (ty := ty) K hx hy hm
  rw [kval_ids, kin_ids] at h
  exact h
end more2
end Go.Proofs.Ytdehjgpdcdjhjaa.K
namespace Go.Proofs.Ytdehjgpdcdjhjaa.K
theorem sub_self : ∀ C : List Chunk, Sub C C []
  | [] => .nil
  | _ :: C => .cons .head (sub_self C)
theorem sub_skip {c : Chunk} {C H F : List Chunk} (h : Sub C H F) : Sub C (c :: H) (c :: F) := by
  have : ∀ {C H F : List Chunk}, Sub C H F → Sub C (c :: H) (c :: F) := by
    intro C H F h
    induction h with
    | nil => exact .nil
    | cons ht _ ih => exact .cons (.tail ht) ih
  exact this h
end Go.Proofs.Ytdehjgpdcdjhjaa.K
