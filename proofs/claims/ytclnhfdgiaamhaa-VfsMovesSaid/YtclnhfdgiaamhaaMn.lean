/- A framework of our own for walks over the model: Mn. -/
import Derived.Test.YtclnhfdgiaamhaaKq
import Derived.Maps.RangeRun
namespace Go.Proofs.Ytclnhfdgiaamhaa.K
open Go Go.RowKit
set_option linter.unusedVariables false
set_option linter.unusedSimpArgs false
/-! ### Maps that lose entries, and ranging over them -/
section maps
variable {κ : Type} [DecidableEq κ]
/-- What a map's entries are: keys, values; each was born ahead of the clock, no two at one time. -/
structure MapIs (key : κ → Value) (ks : List κ) (vs : List Value) (es : Array MapEntry) (cl : Nat) : Prop where
  k : es.toList.map (·.key) = ks.map key
  v : es.toList.map (·.val) = vs
  b : ∀ e ∈ es.toList, e.born < cl
  n : (es.toList.map (·.born)).Nodup
structure KeyQ (P : Program) (mt kt et : TypeId) (key : κ → Value) (z : Value) : Prop where
  u : ∀ w, (underlying mt).run P w = .ok (.map kt et) w
  z : ∀ w, (zeroValue et).run P w = .ok z w
  chk : ∀ e x w, (Instr.checkKey e 10000 kt (key x)).run P w = .ok () w
  same : ∀ x, Instr.sameBits 10000 (key x) (key x) = true
  find : ∀ x w (es : List MapEntry) ks, es.map (·.key) = ks.map key → (Instr.findKey kt (key x) es).run P w = .ok (kfind x ks (es.map (·.val)) 0) w
abbrev kS (l : List UInt8) : Value := .string ⟨l.toArray⟩
theorem beqQ (a b : ByteArray) : (a == b) = decide (a = b) := by
  cases a with | mk a => cases b with | mk b =>
  show (a == b) = _
  by_cases h : a = b
  · subst h; simp
  · rw [decide_eq_false (fun hc => h (by injection hc))]; simp [h]
theorem findNow_str (x : List UInt8) : ∀ (es : List MapEntry) (ks : List (List UInt8)) (i : Nat), es.map (·.key) = ks.map kS → Instr.findNow .string (kS x) es i = some (kfind x ks (es.map (·.val)) i)
  | [], [], i, _ => rfl
  | [], _ :: _, _, h => by simp at h
  | _ :: _, [], _, h => by simp at h
  | e :: es, k :: ks, i, h => by
    simp only [List.map_cons, List.cons.injEq] at h
    have ih := findNow_str x es ks (i + 1) h.2
    unfold Instr.findNow kfind
    rw [h.1]
    by_cases hx : x = k
    · subst hx
      simp [Instr.sameNow, beqQ]
    · have hne : ((⟨x.toArray⟩ : ByteArray) == ⟨k.toArray⟩) = false := by
        rw [beqQ]
        exact decide_eq_false (fun hc => hx (by simpa using hc))
      simp [Instr.sameNow, hne, hx, ih]
theorem keyQ_str {P : Program} {mt kt et : TypeId} {z : Value} (hu : ∀ w, (underlying mt).run P w = .ok (.map kt et) w) (hk : ∀ w, (underlying kt).run P w = .ok .string w) (hz : ∀ w, (zeroValue et).run P w = .ok z w) : KeyQ P mt kt et kS z :=
  ⟨hu, hz, fun e x w => by
    show (Instr.checkKey e (9999 + 1) kt (kS x)).run P w = _
    unfold Instr.checkKey
    simp [hk], fun x => by
    show Instr.sameBits (9999 + 1) (kS x) (kS x) = true
    unfold Instr.sameBits
    rw [beqQ]; simp, fun x w es ks h => by
    unfold Instr.findKey
    simp only [Sem.run_bind, hk, Result.andThen_ok, findNow_str x es ks 0 h]
    rfl⟩
def mq (key : κ → Value) (a : Nat) (ks : List κ) (vs : List Value) : Chunk :=
  ⟨[a], fun w => ∃ (es : Array MapEntry) (cl : Nat), w.heap[a]? = some (.map es cl) ∧ MapIs key ks vs es cl, fun w w' h hA => by rw [h a (by simp)]; exact hA⟩
variable {P : Program} {mt kt et : TypeId} {key : κ → Value} {z : Value}
variable {X : Cx} {E : Env} {H H' F : List Chunk} {Q : Post} {ops : Array Oper} {rest : List Oper}
theorem val_lookupQ {ty a : Nat} {x y : Operand} {k : κ} {ks : List κ} {vs : List Value} (K : KeyQ X.P mt kt et key z) (hx : E.ev x = some (.map (some a))) (hy : E.ev y = some (key k)) (hm : In (mq key a ks vs) H) :
    Val X E H (.lookup mt x y false) ty (kval k ks vs z) := by
  intro ac w o ho _ ha hw
  obtain ⟨es, cl, h1, hi⟩ := hw.chunk _ hm.mem
  have hf := K.find k w es.toList ks hi.k
  rw [hi.v] at hf
  simp only [execOp, ho, ha.ev hx, ha.ev hy, Instr.lookup, Sem.run_bind, K.u, Result.andThen_ok, MapKept.run_getObj_map h1, Sem.run_pure, K.chk, hf, kval]
  cases kfind k ks vs 0 <;> simp [K.z]
omit [DecidableEq κ] in
theorem val_lenMapQ {ty a T : Nat} {k e : TypeId} {x : Operand} {ks : List κ} {vs : List Value} (hu : ∀ w, (underlying T).run X.P w = .ok (.map k e) w) (hx : E.ev x = some (.map (some a))) (hm : In (mq key a ks vs) H) :
    Val X E H (.call { callee := .builtin .len, args := #[x], argTypes := #[T] }) ty (.int .i64 ks.length) := by
  intro ac w o ho _ ha hw
  obtain ⟨es, cl, h1, hi⟩ := hw.chunk _ hm.mem
  have : es.size = ks.length := by have := congrArg List.length hi.k; simpa using this
  simp [execOp, ho, ha.ev hx, resolve, invoke, builtin, Builtin.len_, hu, goInt, MapKept.run_getObj_map h1, this]
omit [DecidableEq κ] in
theorem vl_makeMapQ {fE : Value → Env} {o : Oper} (key : κ → Value) (ho : o.op = .makeMap mt none) (hg : o.guard = none) (hd : DstF X E o.dst fE)
    (h : ∀ r, VL X ops rest Q (fE (.map (some r))) (mq key r [] [] :: H)) : VL X ops (o :: rest) Q E H := by
  intro a w ha hw
  refine wpList_plain hg fun K hK => ?_
  unfold Oper.wp
  have : (execOp a.eval o).run X.P w = .ok (.value (.map (some w.heap.size))) (w.alloc (.map #[] 0)) := by
    simp [execOp, ho, Instr.makeMap, newObj]
    rfl
  rw [this]
  exact hK _ _ (h w.heap.size _ _ (ha.setF hd) (hw.alloc _ ⟨#[], 0, heap_alloc_new w _, rfl, rfl, by simp, by simp⟩ rfl))
omit [DecidableEq κ] in
theorem Holds.setMapQ {w0 w : World} {M : List Nat} {a : Nat} {ks ks' : List κ} {vs vs' : List Value} (h : Holds w0 M H w) (hu : Upd (mq key a ks vs) (mq key a ks' vs') H H') {es : Array MapEntry} {cl : Nat}
    (hi : MapIs key ks' vs' es cl) : Holds w0 M H' { w with heap := w.heap.setIfInBounds a (.map es cl) } := by
  obtain ⟨F, p1, p2⟩ := hu.perm
  have ha : a < w.heap.size := (h.mine a ((fps_perm p1).mem_iff.2 (by simp [fps, mq]))).1
  refine h.grown (b := some a) hu ⟨rfl, rfl, rfl, by simp, fun k _ hk => ?_⟩ (by simp [mq]) ⟨es, cl, by simp [ha], hi⟩ (by simp [mq]) ?_
  · have : a ≠ k := fun e => hk (by rw [e])
    simp [Array.getElem?_setIfInBounds_ne this]
  · intro k hk
    simp [mq] at hk
    subst hk
    simp [mq, ha]
theorem vl_mapNewQ {fE : Value → Env} {o : Oper} {a : Nat} {x y v : Operand} {k : κ} {ks : List κ} {vs : List Value} {u : Value} (K : KeyQ X.P mt kt et key z) (ho : o.op = .mapUpdate mt x y v) (hg : o.guard = none) (hd : DstF X E o.dst fE)
    (hx : E.ev x = some (.map (some a))) (hy : E.ev y = some (key k)) (hv : E.ev v = some u) (hn : kfind k ks vs 0 = none) (hm : Upd (mq key a ks vs) (mq key a (ks ++ [k]) (vs ++ [u])) H H')
    (h : VL X ops rest Q (fE undef) H') : VL X ops (o :: rest) Q E H := by
  intro ac w ha hw
  refine wpList_plain hg fun K' hK => ?_
  unfold Oper.wp
  obtain ⟨F, p1, p2⟩ := hm.perm
  obtain ⟨es, cl, h1, hi⟩ := (hw.perm p1).chunk (mq key a ks vs) (by simp)
  have hf := K.find k w es.toList ks hi.k
  rw [hi.v, hn] at hf
  have : (execOp ac.eval o).run X.P w = .ok .skip { w with heap := w.heap.setIfInBounds a (.map (es.push { key := key k, val := u, born := cl }) (cl + 1)) } := by
    simp [execOp, ho, ha.ev hx, ha.ev hy, ha.ev hv, Instr.mapUpdate, K.u, MapKept.run_getObj_map h1, K.chk, hf, MapKept.run_setObj_map _ h1]
  rw [this]
  refine hK _ _ (h _ _ (ha.setF hd) (hw.setMapQ hm ⟨by simp [hi.k], by simp [hi.v], fun e he => ?_, ?_⟩))
  · rw [Array.toList_push] at he
    rcases List.mem_append.1 he with he | he
    · have := hi.b e he; omega
    · rw [List.mem_singleton.1 he]; exact Nat.lt_succ_self _
  · rw [Array.toList_push, List.map_append]
    refine List.nodup_append.2 ⟨hi.n, by simp, fun x hx y hy => ?_⟩
    obtain ⟨e, he, rfl⟩ := List.mem_map.1 hx
    have := hi.b e he
    have hy : y = cl := by simpa using hy
    omega
theorem vl_deleteQ {fE : Value → Env} {o : Oper} {a i T kT : Nat} {x y : Operand} {k : κ} {ks : List κ} {vs : List Value} {v0 : Value} (K : KeyQ X.P T kt et key z) (ho : o.op = .call { callee := .builtin .delete, args := #[x, y], argTypes := #[T, kT] }) (hg : o.guard = none) (hd : DstF X E o.dst fE)
    (hx : E.ev x = some (.map (some a))) (hy : E.ev y = some (key k)) (hn : kfind k ks vs 0 = some (i, v0)) (hm : Upd (mq key a ks vs) (mq key a (ks.eraseIdx i) (vs.eraseIdx i)) H H')
    (h : VL X ops rest Q (fE (.tuple #[])) H') : VL X ops (o :: rest) Q E H := by
  intro ac w ha hw
  refine wpList_plain hg fun K' hK => ?_
  unfold Oper.wp
  obtain ⟨F, p1, p2⟩ := hm.perm
  obtain ⟨es, cl, h1, hi⟩ := (hw.perm p1).chunk (mq key a ks vs) (by simp)
  have hf := K.find k w es.toList ks hi.k
  rw [hi.v, hn] at hf
  have hc : ∀ e w, (Instr.checkKey e 10000 kt (key k)).run X.P w = .ok () w := fun e w => K.chk e k w
  have : (execOp ac.eval o).run X.P w = .ok (.value (.tuple #[])) { w with heap := w.heap.setIfInBounds a (.map (es.eraseIdxIfInBounds i) cl) } := by
    simp [execOp, ho, ha.ev hx, ha.ev hy, resolve, invoke, builtin, Builtin.delete_, K.u, MapKept.run_getObj_map h1, hc, hf, MapKept.run_setObj_map _ h1]
  rw [this]
  have hl : (es.eraseIdxIfInBounds i).toList = es.toList.eraseIdx i := by simp
  have hml : ∀ {β : Type} (f : MapEntry → β), ((es.eraseIdxIfInBounds i).toList.map f) = (es.toList.map f).eraseIdx i := fun f => by rw [hl, ChangeMaps.map_eraseIdx]
  refine hK _ _ (h _ _ (ha.setF hd) (hw.setMapQ hm ⟨by rw [hml, hi.k, ← ChangeMaps.map_eraseIdx], by rw [hml, hi.v], fun e he => ?_, ?_⟩))
  · rw [hl] at he
    exact hi.b e (List.mem_of_mem_eraseIdx he)
  · rw [hml]
    exact hi.n.sublist (List.eraseIdx_sublist _ _)
end maps
/-! ### Ranging -/
section ranging
variable {κ : Type} {key : κ → Value} {X : Cx} {E : Env} {H H' F : List Chunk} {Q : Post} {ops : Array Oper} {rest : List Oper}
/-- A map and an iterator over it: the keys that are left, and the entry that was handed out last. -/
def mi (key : κ → Value) (a r : Nat) (ks : List κ) (vs : List Value) (ls : List κ) (cur : Option (κ × Value)) : Chunk :=
  ⟨[a, r], fun w => ∃ (es : Array MapEntry) (cl since c0 : Nat) (seen : Array Nat), a ≠ r ∧ w.heap[a]? = some (.map es cl) ∧ MapIs key ks vs es cl ∧ w.heap[r]? = some (.mapIter (some a) since seen c0) ∧ (∀ e ∈ es.toList, e.born < since) ∧ (since ≤ c0 ∧ since ≤ cl) ∧ ((leftOf es seen).toList.map (·.key)).Perm (ls.map key) ∧
    (match cur with | none => True | some p => ∃ e ∈ es.toList, e.key = key p.1 ∧ e.val = p.2 ∧ ∃ s0 : Array Nat, seen = s0.push e.born ∧ c0 = cl),
    fun w w' h hA => by rw [h a (by simp), h r (by simp)]; exact hA⟩
theorem alloc_sizeQ (w : World) (o : Obj) : (w.alloc o).heap.size = w.heap.size + 1 := by
  show (w.heap.push o).size = _
  simp
theorem vl_rangeMap {fE : Value → Env} {o : Oper} {T k e : TypeId} {a : Nat} {x : Operand} {ks : List κ} {vs : List Value} (ho : o.op = .range T x) (hg : o.guard = none) (hd : DstF X E o.dst fE) (hu : X.P.underlying T = some (.map k e)) (hx : E.ev x = some (.map (some a))) (ht : Take (mq key a ks vs) H F)
    (h : ∀ r, VL X ops rest Q (fE (.pointer (some ⟨r, 0, none⟩))) (mi key a r ks vs ks none :: F)) : VL X ops (o :: rest) Q E H := by
  intro ac w ha hw
  refine wpList_plain hg fun K hK => ?_
  unfold Oper.wp
  have hp := hw.perm ht.perm
  obtain ⟨es, cl, h1, hi⟩ := hp.chunk (mq key a ks vs) (by simp)
  have hlt : a < w.heap.size := (Array.getElem?_eq_some_iff.1 h1).1
  have : (execOp ac.eval o).run X.P w = .ok (.value (.pointer (some ⟨w.heap.size, 0, none⟩))) (w.alloc (.mapIter (some a) cl #[] cl)) := by
    simp [execOp, ho, ha.ev hx, run_range_map w T k e a es cl hu h1]
  rw [this]
  refine hK _ _ (h w.heap.size _ _ (ha.setF hd) ?_)
  refine Holds.change (w := w) (w' := w.alloc (.mapIter (some a) cl #[] cl)) (C := [mq key a ks vs]) (C' := [mi key a w.heap.size ks vs ks none]) (F := F) (by simpa using hp) (by rw [alloc_sizeQ]; omega) rfl rfl rfl (fun b hb _ => heap_alloc_old w _ hb) ?_ ?_ ?_
  · intro c hc
    rw [List.mem_singleton.1 hc]
    refine ⟨es, cl, cl, cl, #[], by omega, by rw [heap_alloc_old w _ hlt]; exact h1, hi, heap_alloc_new w _, hi.b, ⟨Nat.le_refl _, Nat.le_refl _⟩, ?_, trivial⟩
    have : (leftOf es #[]) = es := by unfold leftOf; simp
    rw [this, hi.k]
  · simp [fps, mi]; omega
  · intro b hb
    simp [fps, mi] at hb
    rcases hb with rfl | rfl
    · exact ⟨by rw [alloc_sizeQ]; omega, .inl (by simp [fps, mq])⟩
    · exact ⟨by rw [alloc_sizeQ]; omega, .inr (Nat.le_refl _)⟩
theorem leftOf_push {es : Array MapEntry} {seen : Array Nat} {e : MapEntry} (hn : (es.toList.map (·.born)).Nodup) (he : e ∈ (leftOf es seen).toList) : (leftOf es seen).toList.Perm (e :: (leftOf es (seen.push e.born)).toList) := by
  have h1 : ∀ l : List MapEntry, (l.map (·.born)).Nodup → e ∈ l → seen.contains e.born = false → (l.filter fun x => !seen.contains x.born).Perm (e :: l.filter fun x => !(seen.push e.born).contains x.born) := by
    intro l
    induction l with
    | nil => intro _ h _; cases h
    | cons x l ih =>
      intro hnd hm hs
      rw [List.map_cons, List.nodup_cons] at hnd
      rcases List.mem_cons.1 hm with rfl | hm
      · have hrest : (l.filter fun x => !seen.contains x.born) = l.filter fun x => !(seen.push e.born).contains x.born := by
          apply List.filter_congr
          intro y hy
          have : y.born ≠ e.born := fun h => hnd.1 (List.mem_map.2 ⟨y, hy, h⟩)
          rw [contains_push]
          simp [this]
        rw [List.filter_cons, if_pos (by rw [hs]; rfl), List.filter_cons, if_neg (by rw [contains_push]; simp), hrest]
      · have hne : x.born ≠ e.born := fun h => hnd.1 (List.mem_map.2 ⟨e, hm, h.symm⟩)
        have := ih hnd.2 hm hs
        rw [List.filter_cons, List.filter_cons]
        have hc : (seen.push e.born).contains x.born = seen.contains x.born := by rw [contains_push]; simp [hne]
        rw [hc]
        split
        · exact (this.cons x).trans (List.Perm.swap _ _ _)
        · exact this
  have hm := mem_left he
  have h2 := h1 es.toList hn hm.1 hm.2
  unfold leftOf
  simpa using h2
theorem vl_nextMap {fE : Value → Env} {o : Oper} {a r : Nat} {x : Operand} {ks ls : List κ} {vs : List Value} {cur : Option (κ × Value)} (ho : o.op = .next x false) (hg : o.guard = none) (hd : DstF X E o.dst fE) (hx : E.ev x = some (.pointer (some ⟨r, 0, none⟩))) (ht : Take (mi key a r ks vs ls cur) H F)
    (h1 : ∀ k v ls', ls.Perm (k :: ls') → (∃ i : Nat, ks[i]? = some k ∧ vs[i]? = some v) → VL X ops rest Q (fE (.tuple #[.bool true, key k, v])) (mi key a r ks vs ls' (some (k, v)) :: F))
    (h2 : ls = [] → VL X ops rest Q (fE (.tuple #[.bool false])) (mi key a r ks vs ls cur :: F)) (hinj : ∀ x y, key x = key y → x = y) : VL X ops (o :: rest) Q E H := by
  intro ac w ha hw
  refine wpList_plain hg fun K hK => ?_
  unfold Oper.wp
  have hp := hw.perm ht.perm
  obtain ⟨es, cl, since, c0, seen, hne, g1, hi, g2, g3, g4, g5, g6⟩ := hp.chunk (mi key a r ks vs ls cur) (by simp)
  rcases run_next_at (P := X.P) w o.type r a since c0 seen es cl g2 g1 g3 g4.1 with ⟨hz, hrun⟩ | ⟨e, he, w1, hw1, hrun⟩
  · have hls : ls = [] := by
      have : (leftOf es seen).toList = [] := List.length_eq_zero_iff.1 (by simpa using hz)
      rw [this] at g5
      have := g5.length_eq
      exact List.length_eq_zero_iff.1 (by simpa using this.symm)
    have : (execOp ac.eval o).run X.P w = .ok (.value (.tuple #[.bool false])) w := by
      simp [execOp, ho, ha.ev hx, hrun]
    rw [this]
    exact hK _ _ (h2 hls _ _ (ha.setF hd) (by simpa using hp))
  · have hm := mem_left he
    have hp2 := leftOf_push hi.n he
    have hp3 := (g5.symm.trans (hp2.map (·.key)))
    rw [List.map_cons] at hp3
    have hmem : e.key ∈ ls.map key := hp3.mem_iff.2 (List.Mem.head _)
    obtain ⟨k, hk, hke⟩ := List.mem_map.1 hmem
    obtain ⟨l1, l2, hl⟩ := List.append_of_mem hk
    have hperm : ls.Perm (k :: (l1 ++ l2)) := by rw [hl]; exact List.perm_middle
    have hleft : ((leftOf es (seen.push e.born)).toList.map (·.key)).Perm ((l1 ++ l2).map key) := by
      have h9 := hp3.symm.trans (hperm.map key)
      rw [List.map_cons, hke] at h9
      exact h9.cons_inv
    obtain ⟨i, hil, hie⟩ := List.getElem_of_mem hm.1
    have hki : ks[i]? = some k := by
      have h5 := congrArg (fun l : List Value => l[i]?) hi.k
      simp only [List.getElem?_map, List.getElem?_eq_getElem hil, hie, Option.map_some] at h5
      cases hq : ks[i]? with
      | none => rw [hq] at h5; cases h5
      | some k2 =>
        rw [hq] at h5
        simp only [Option.map_some, Option.some.injEq] at h5
        rw [hinj k2 k (by rw [← h5, hke])]
    have hvi : vs[i]? = some e.val := by
      have h5 := congrArg (fun l : List Value => l[i]?) hi.v
      simp only [List.getElem?_map, List.getElem?_eq_getElem hil, hie, Option.map_some] at h5
      exact h5.symm
    have : (execOp ac.eval o).run X.P w = .ok (.value (.tuple #[.bool true, e.key, e.val])) (ChangeMaps.setBlock w1 r (.mapIter (some a) since (seen.push e.born) cl)) := by
      simp [execOp, ho, ha.ev hx, hrun]
    rw [this, ← hke]
    have hrlt : r < w.heap.size := (Array.getElem?_eq_some_iff.1 g2).1
    have halt : a < w.heap.size := (Array.getElem?_eq_some_iff.1 g1).1
    have hh1 : w1.heap = w.heap := by rcases hw1 with rfl | rfl <;> rfl
    refine hK _ _ (h1 k e.val (l1 ++ l2) hperm ⟨i, hki, hvi⟩ _ _ (ha.setF hd) ?_)
    refine Holds.change (w := w) (w' := ChangeMaps.setBlock w1 r (.mapIter (some a) since (seen.push e.born) cl)) (C := [mi key a r ks vs ls cur]) (C' := [mi key a r ks vs (l1 ++ l2) (some (k, e.val))]) (F := F) (by simpa using hp) (by simp [ChangeMaps.setBlock, hh1]) (by rcases hw1 with rfl | rfl <;> rfl) (by rcases hw1 with rfl | rfl <;> rfl) (by rcases hw1 with rfl | rfl <;> rfl) (fun b hb hc => ?_) ?_ ?_ ?_
    · have hbr : ¬ r = b := fun e => hc (by simp [fps, mi, e])
      show (w1.heap.setIfInBounds r _)[b]? = _
      rw [hh1]; simp [hbr]
    · intro c hc
      rw [List.mem_singleton.1 hc]
      refine ⟨es, cl, since, cl, seen.push e.born, hne, ?_, hi, ?_, g3, ?_, hleft, e, hm.1, hke.symm, rfl, seen, rfl, rfl⟩
      · show (w1.heap.setIfInBounds r _)[a]? = _
        rw [hh1]; simp [Ne.symm hne, g1]
      · show (w1.heap.setIfInBounds r _)[r]? = _
        rw [hh1]; simp [hrlt]
      · exact ⟨g4.2, g4.2⟩
    · simp [fps, mi]; exact hne
    · intro b hb
      simp [fps, mi] at hb
      refine ⟨?_, .inl (by simpa [fps, mi] using hb)⟩
      show b < (w1.heap.setIfInBounds r _).size
      rw [hh1]
      rcases hb with rfl | rfl <;> simpa
theorem vl_entryMap {fE : Value → Env} {o : Oper} {a r : Nat} {x : Operand} {ks ls : List κ} {vs : List Value} {k : κ} {v : Value} (ho : o.op = .entry x) (hg : o.guard = none) (hd : DstF X E o.dst fE) (hx : E.ev x = some (.pointer (some ⟨r, 0, none⟩))) (hm : In (mi key a r ks vs ls (some (k, v))) H)
    (h : VL X ops rest Q (fE (.tuple #[key k, v])) H) : VL X ops (o :: rest) Q E H := by
  intro ac w ha hw
  refine wpList_plain hg fun K hK => ?_
  unfold Oper.wp
  obtain ⟨es, cl, since, c0, seen, hne, g1, hi, g2, g3, g4, g5, e, he, e1, e2, s0, rfl, rfl⟩ := hw.chunk _ hm.mem
  have hrun := run_entry_at (P := X.P) w r a since s0 es c0 e g2 g1 he hi.n
  have : (execOp ac.eval o).run X.P w = .ok (.value (.tuple #[key k, v])) w := by
    simp [execOp, ho, ha.ev hx, hrun, e1, e2]
  rw [this]
  exact hK _ _ (h _ _ (ha.setF hd) hw)
/-- Behind the loop the iterator is forgotten. -/
theorem vc_endRange {c : Code} {a r : Nat} {ks ls : List κ} {vs : List Value} {cur : Option (κ × Value)} (ht : Take (mi key a r ks vs ls cur) H F) (h : VC X c Q E (mq key a ks vs :: F)) : VC X c Q E H := by
  intro ac w ha hw
  refine h ac w ha ?_
  have hp := hw.perm ht.perm
  obtain ⟨es, cl, since, c0, seen, hne, g1, hi, _⟩ := hp.chunk (mi key a r ks vs ls cur) (by simp)
  have := Holds.change (w := w) (C := [mi key a r ks vs ls cur]) (C' := [mq key a ks vs]) (F := F) (w' := w) (by simpa using hp) (Nat.le_refl _) rfl rfl rfl (fun _ _ _ => rfl) (by
    intro c hc
    rw [List.mem_singleton.1 hc]
    exact ⟨es, cl, g1, hi⟩) (by simp [fps, mq]) (by
    intro b hb
    simp [fps, mq] at hb
    subst hb
    exact ⟨(Array.getElem?_eq_some_iff.1 g1).1, .inl (by simp [fps, mi])⟩)
  simpa using this
end ranging
end Go.Proofs.Ytclnhfdgiaamhaa.K
