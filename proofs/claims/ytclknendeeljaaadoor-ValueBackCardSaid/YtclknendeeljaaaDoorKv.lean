/- A framework of our own for walks over the model: Kv. -/
import Derived.Lib.MakeNoZero
import Derived.Lib.UnsafeStr
import Derived.Laws.CopyRow
import Derived.Test.YtclknendeeljaaaDoorKu
namespace Go.Proofs.YtclknendeeljaaaDoor.K
open Go Go.RowKit
set_option linter.unusedVariables false
set_option linter.unusedSimpArgs false
/-! Methods called through an interface value; interface values and nil. -/
section
variable {X : Cx} {E : Env} {H : List Chunk} {Q : Post} {ops : Array Oper} {rest : List Oper}
theorem run_invoke {o : Oper} {f : FuncId} {recv : Operand} {name : String} {xs : Array Operand} {ats : Array TypeId} {args : List Value} {r v : Value} (ho : o.op = .call { callee := .invoke recv name, args := xs, argTypes := ats })
    (hr : E.ev recv = some r) (hx : E.evs xs.toList = some args) (hm : ∀ args w, (callMethod r name args).run X.P w = .ok (.enter f (#[v] ++ args)) w) (a : Act) (w : World) (ha : Ok X E a) : (execOp a.eval o).run X.P w = .ok (.enter f (v :: args).toArray) w := by
  have h1 : xs.map a.eval = args.toArray := by rw [← evs_map ha _ _ hx, ← Array.toList_map]
  have h2 := hm args.toArray w
  simp [execOp, ho, resolve, h1, ha.ev hr, invoke, h2]
theorem vl_invokeV {fE : Value → Env} {o : Oper} {f : FuncId} {recv : Operand} {name : String} {xs : Array Operand} {ats : Array TypeId} {args : List Value} {r v u : Value} (ho : o.op = .call { callee := .invoke recv name, args := xs, argTypes := ats })
    (hg : o.guard = none) (hd : DstF X E o.dst fE) (hr : E.ev recv = some r) (hx : E.evs xs.toList = some args) (hm : ∀ args w, (callMethod r name args).run X.P w = .ok (.enter f (#[v] ++ args)) w)
    (hf : ∀ w, Holds X.w0 X.M H w → FnV X.P f (v :: args) u w) (h : VL X ops rest Q (fE u) H) : VL X ops (o :: rest) Q E H := by
  intro a w ha hw
  refine wpList_plain hg fun K hK => ?_
  unfold Oper.wp
  rw [run_invoke ho hr hx hm a w ha]
  refine (hf w hw (.start0 w)).mono fun e w' ⟨H', h1, h2⟩ => ?_
  cases e <;> simp only [ret] at h1
  subst h1
  have h3 := Holds.called (C := []) (by simpa using hw) h2
  exact hK _ _ (h _ _ (ha.setF hd) h3.right)
theorem bin_iface_eq {P : Program} {T t : TypeId} {ms : Array (String × TypeId)} {v : Value} (hu : ∀ w, (underlying T).run P w = .ok (.interface ms) w) (w : World) : (binOp .eql T (.iface t v) .nilIface).run P w = .ok (.bool false) w := by
  have h : ∀ d, (Op.equalIn (d + 1) T (.iface t v) .nilIface).run P w = .ok false w := fun d => by simp [Op.equalIn, hu]
  have h := h 9999
  show ((do pure (.bool (← Op.equal T (.iface t v) .nilIface)) : Sem Value)).run P w = _
  rw [Sem.run_bind, show Op.equal T (.iface t v) .nilIface = Op.equalIn (9999 + 1) T (.iface t v) .nilIface from rfl, h]
  rfl
theorem guard_iface {P : Program} {op : BinOp} {T t : TypeId} {x y : Operand} {v : Value} (w : World) : (eqGuard op T x y (.iface t v) .nilIface).run P w = .ok () w := by cases op <;> rfl
end
end Go.Proofs.YtclknendeeljaaaDoor.K
namespace Go.Proofs.YtclknendeeljaaaDoor.K
open Go Go.RowKit
/-! What strings.Builder asks for -/
section
variable {X : Cx} {E : Env} {H H' F : List Chunk} {Q : Post} {ops : Array Oper} {rest : List Oper}
theorem val_capSl {x : Operand} {T e ty : TypeId} {A : Option Addr} {n c : Nat} (hu : ∀ w, (underlying T).run X.P w = .ok (.slice e) w) (hx : E.ev x = some (.slice A n c)) : Val X E H (.call { callee := .builtin .cap, args := #[x], argTypes := #[T] }) ty (.int .i64 c) := by
  intro ac w o ho _ ha hw
  simp [execOp, ho, ha.ev hx, resolve, invoke, builtin, Builtin.cap_, hu, goInt]
theorem val_copyNil {x y : Operand} {dT sT elem ty : TypeId} {a : Addr} {n c : Nat} (hu : X.P.underlying dT = some (.slice elem)) (hs : ((X.P.info? elem).map (·.size)).isSome = true) (hx : E.ev x = some (.slice (some a) n c)) (hy : E.ev y = some (.slice none 0 0)) :
    Val X E H (.call { callee := .builtin .copy, args := #[x, y], argTypes := #[dT, sT] }) ty (.int .i64 0) := by
  intro ac w o ho _ ha hw
  have := run_copy_nil (P := X.P) w dT sT o.type elem a n c hu hs
  simp [execOp, ho, ha.ev hx, ha.ev hy, resolve, invoke, builtin, this, goInt]
theorem val_sliceData {x : Operand} {T ty : TypeId} {a : Addr} {n c : Nat} (hc : c ≠ 0) (hx : E.ev x = some (.slice (some a) n c)) : Val X E H (.call { callee := .builtin .unsafeSliceData, args := #[x], argTypes := #[T] }) ty (.pointer (some a)) := by
  intro ac w o ho _ ha hw
  have : (Builtin.unsafeSliceData_ #[T] o.type #[.slice (some a) n c]).run X.P w = .ok (.pointer (some a)) w := by
    show ((if c ≠ 0 then pure (.pointer (some a)) else _ : Sem Value)).run X.P w = _
    rw [if_pos hc]
    rfl
  simp [execOp, ho, ha.ev hx, resolve, invoke, builtin, this]
theorem vl_noZero {fE : Value → Env} {o : Oper} {f : FuncId} {xs : Array Operand} {ats : Array TypeId} {n : Nat} {e : TypeId} (ho : o.op = .call { callee := .value (.func f), args := xs, argTypes := ats })
    (hg : o.guard = none) (hd : DstF X E o.dst fE) (hx : E.evs xs.toList = some [.int .i64 (n : Int)])
    (hrun : ∀ w, ∃ cs : Array Value, (callFunc f #[.int .i64 (n : Int)]).run X.P w = .ok (.value (.slice (some ⟨w.heap.size, 0, none⟩) n cs.size)) (w.drew.drew.alloc (.cells cs e)) ∧ n ≤ cs.size ∧ cs.size ≤ maxLen)
    (h : ∀ g c, n ≤ c → VL X ops rest Q (fE (.slice (some ⟨g, 0, none⟩) n c)) (sl (some ⟨g, 0, none⟩) 0 c e 1 [] :: H)) : VL X ops (o :: rest) Q E H := by
  intro a w ha hw
  refine wpList_plain hg fun K hK => ?_
  unfold Oper.wp
  have h1 : xs.map a.eval = #[.int .i64 (n : Int)] := by rw [← Array.toList_inj, Array.toList_map, evs_map ha _ _ hx]
  obtain ⟨cs, hr, hle, hmax⟩ := hrun w
  have : (execOp a.eval o).run X.P w = .ok (.value (.slice (some ⟨w.heap.size, 0, none⟩) n cs.size)) (w.drew.drew.alloc (.cells cs e)) := by
    simp [execOp, ho, resolve, h1, Act.eval, Deferred.ofValue, invoke, hr]
  rw [this]
  have hw3 : Holds X.w0 X.M H w.drew.drew := hw.drewn rfl rfl rfl rfl
  refine hK _ _ (h w.heap.size cs.size hle _ _ (ha.setF hd) (hw3.alloc (.cells cs e) ?_ rfl))
  exact ⟨by simp, .inr ⟨w.heap.size, cs.size, cs, rfl, Nat.zero_le _, heap_alloc_new w.drew.drew _, Nat.zero_le _, hmax, by simp, by simp⟩⟩
theorem vl_unsafeStr {fE : Value → Env} {o : Oper} {x y : Operand} {pt it e : TypeId} {g c : Nat} {l : List UInt8} (ho : o.op = .call { callee := .builtin .unsafeString, args := #[x, y], argTypes := #[pt, it] }) (hg : o.guard = none) (hd : DstF X E o.dst fE)
    (hp : X.P.underlying pt = some (.pointer e)) (hc : X.P.cellsOf e = 1) (hx : E.ev x = some (.pointer (some ⟨g, 0, none⟩))) (hy : E.ev y = some (.int .i64 l.length)) (h0 : l ≠ []) (h63 : l.length ≤ 9223372036854775807)
    (ht : Take (sl (some ⟨g, 0, none⟩) l.length c e 1 (bcells l)) H F) (h : VL X ops rest Q (fE (.string ⟨l.toArray⟩)) F) : VL X ops (o :: rest) Q E H := by
  intro a w ha hw
  refine wpList_plain hg fun K hK => ?_
  have hp' := hw.perm ht.perm
  have hown : w.ownsRow 0 e 1 (.slice (some ⟨g, 0, none⟩) l.length c) l.length (bcells l) := hp'.chunk (sl (some ⟨g, 0, none⟩) l.length c e 1 (bcells l)) (by simp)
  obtain ⟨hl, hn | ⟨g', cap, cur, hv, _, hgg, hnc, hcm, hcs, htk⟩⟩ := hown
  · cases hn.1
  · simp only [Value.slice.injEq, Option.some.injEq, Addr.mk.injEq, and_true, true_and] at hv
    obtain ⟨rfl, rfl⟩ := hv
    have hsh : w.shape? g = some (e, cur.size) := by simp [World.shape?, hgg]
    have hrd := reads_own (w := w) (A := some ⟨g, 0, none⟩) (hp'.chunk (sl (some ⟨g, 0, none⟩) l.length c e 1 (bcells l)) (by simp))
    have hcell : ∀ j b, l[j]? = some b → w.cell? ((⟨g, 0, none⟩ : Addr).add j) = some (.int .u8 b.toNat) := fun j b hj => by
      obtain ⟨x', e', hx'⟩ := hrd j (.int .u8 b.toNat) (by simp [bcells, hj])
      cases e'
      exact hx'
    have hrun := Lib.run_unsafeString_row (P := X.P) (w := w) pt it o.type e hp hc g cur.size hsh l h0 (by omega) h63 hcell
    have : (execOp a.eval o).run X.P w = .ok (.value (.string ⟨l.toArray⟩)) (w.freeze ⟨g, 0, none⟩ l.length) := by
      simp [execOp, ho, ha.ev hx, ha.ev hy, resolve, invoke, builtin, hrun]
    unfold Oper.wp
    rw [this]
    have hsz : (w.freeze ⟨g, 0, none⟩ l.length).heap.size = w.heap.size := by unfold World.freeze; split <;> simp
    refine hK _ _ (h _ _ (ha.setF hd) ?_)
    have := Holds.change (w := w) (C := [sl (some ⟨g, 0, none⟩) l.length c e 1 (bcells l)]) (C' := []) (F := F) (w' := w.freeze ⟨g, 0, none⟩ l.length) (by simpa using hp') (by omega) (by unfold World.freeze; split <;> rfl) (by unfold World.freeze; split <;> rfl) (by unfold World.freeze; split <;> rfl)
      (fun k hk hkC => by
        have : k ≠ g := fun e => hkC (by simp [fps, sl, ownFp, e])
        unfold World.freeze
        split
        · rfl
        · simp only [Array.getElem?_modify]
          rw [if_neg (by omega)])
      (by simp) (by simp [fps]) (by simp [fps])
    simpa using this
end
end Go.Proofs.YtclknendeeljaaaDoor.K
namespace Go.Proofs.YtclknendeeljaaaDoor.K
open Go Go.RowKit
section
variable {X : Cx} {E : Env} {H : List Chunk}
theorem bin_same_ne {P : Program} {T e n : TypeId} {a : Addr} (hu : ∀ w, (underlying T).run P w = .ok (.pointer e) w) (hs : ∀ w, (sizeOf e).run P w = .ok n w) (w : World) : (binOp .neq T (.pointer (some a)) (.pointer (some a))).run P w = .ok (.bool false) w := by
  have h : ∀ d, (Op.equalIn (d + 1) T (.pointer (some a)) (.pointer (some a))).run P w = .ok true w := fun d => by simp [Op.equalIn, hu, hs, sameAddr]
  have h := h 9999
  show ((do pure (.bool (!(← Op.equal T (.pointer (some a)) (.pointer (some a))))) : Sem Value)).run P w = _
  rw [Sem.run_bind, show Op.equal T (.pointer (some a)) (.pointer (some a)) = Op.equalIn (9999 + 1) T (.pointer (some a)) (.pointer (some a)) from rfl, h]
  rfl
end
end Go.Proofs.YtclknendeeljaaaDoor.K
namespace Go.Proofs.YtclknendeeljaaaDoor.K
open Go Go.RowKit
/-! Pointers to whole variables, seen as unsafe pointers and back -/
section
variable {P : Program} {w : World}
theorem shape_run {b : Nat} {cs : Array Value} {T : TypeId} {fr : Nat × Nat} (hb : w.heap[b]? = some (.cells cs T fr)) : (shape b).run P w = .ok (some (T, cs.size)) w := by
  simp [shape, Sem.run, World.shape?, hb]
theorem seen_run {b : Nat} {cs : Array Value} {T : TypeId} {fr : Nat × Nat} (hb : w.heap[b]? = some (.cells cs T fr)) : (Conv.seenAt ⟨b, 0, none⟩).run P w = .ok ⟨b, 0, none⟩ w := by
  simp [Conv.seenAt, viewAt, shape_run hb]
theorem toUn_run {s d t : TypeId} {b n : Nat} {cs : Array Value} {T : TypeId} {fr : Nat × Nat} (hs : ∀ w, (underlying s).run P w = .ok (.pointer t) w) (hd : ∀ w, (underlying d).run P w = .ok .unsafePointer w) (hn : ∀ w, (sizeOf t).run P w = .ok n w) (h0 : n ≠ 0)
    (hb : w.heap[b]? = some (.cells cs T fr)) (hc : 0 < cs.size) : (Conv.unsafePointer s d (.pointer (some ⟨b, 0, none⟩))).run P w = .ok (.pointer (some ⟨b, 0, none⟩)) w := by
  have h2 : ¬ cs.size = 0 := by omega
  have hsh : w.shape? b = some (T, cs.size) := by simp [World.shape?, hb]
  simp [Conv.unsafePointer, hs, hd, seen_run hb, cellsIn, hsh, hn, h0, h2]
theorem ofUn_run {s d t : TypeId} {b n : Nat} {cs : Array Value} {T : TypeId} {fr : Nat × Nat} (hs : ∀ w, (underlying s).run P w = .ok .unsafePointer w) (hd : ∀ w, (underlying d).run P w = .ok (.pointer t) w) (hn : ∀ w, (sizeOf t).run P w = .ok n w) (h0 : n ≠ 0)
    (hb : w.heap[b]? = some (.cells cs T fr)) (hl : liesAt P P.depth T (cs.size / P.cellsOf T) 0 t 1 = true) : (Conv.unsafePointer s d (.pointer (some ⟨b, 0, none⟩))).run P w = .ok (.pointer (some ⟨b, 0, none⟩)) w := by
  have hsh : w.shape? b = some (T, cs.size) := by simp [World.shape?, hb]
  simp [Conv.unsafePointer, hs, hd, seen_run hb, variablesAt, hsh, hn, h0, hl]
end
end Go.Proofs.YtclknendeeljaaaDoor.K
namespace Go.Proofs.YtclknendeeljaaaDoor.K
open Go Go.RowKit
section
variable {X : Cx} {E : Env} {H : List Chunk}
theorem val_toUn {s d t ty : TypeId} {x : Operand} {b n : Nat} {vs : List Value} {T : TypeId} (hs : ∀ w, (underlying s).run X.P w = .ok (.pointer t) w) (hd : ∀ w, (underlying d).run X.P w = .ok .unsafePointer w) (hn : ∀ w, (sizeOf t).run X.P w = .ok n w) (h0 : Nat.beq n 0 = false)
    (hx : E.ev x = some (.pointer (some ⟨b, 0, none⟩))) (hm : In (cells b vs T) H) (hc : Nat.beq vs.length 0 = false) : Val X E H (.convert s d x) ty (.pointer (some ⟨b, 0, none⟩)) := by
  intro ac w o ho _ ha hw
  have hb : w.heap[b]? = some (.cells vs.toArray T (0, 0)) := hw.chunk _ hm.mem
  have h1 : n ≠ 0 := fun e => by rw [e] at h0; cases h0
  have h2 : 0 < vs.toArray.size := by
    rw [List.size_toArray]
    exact Nat.pos_of_ne_zero fun e => by rw [e] at hc; cases hc
  have := toUn_run (w := w) hs hd hn h1 hb h2
  simp [execOp, ho, ha.ev hx, convert, hs, hd, this]
theorem val_ofUn {s d t ty : TypeId} {x : Operand} {b n : Nat} {vs : List Value} {T : TypeId} (hs : ∀ w, (underlying s).run X.P w = .ok .unsafePointer w) (hd : ∀ w, (underlying d).run X.P w = .ok (.pointer t) w) (hn : ∀ w, (sizeOf t).run X.P w = .ok n w) (h0 : Nat.beq n 0 = false)
    (hx : E.ev x = some (.pointer (some ⟨b, 0, none⟩))) (hm : In (cells b vs T) H) (hl : liesAt X.P X.P.depth T (vs.length / X.P.cellsOf T) 0 t 1 = true) : Val X E H (.convert s d x) ty (.pointer (some ⟨b, 0, none⟩)) := by
  intro ac w o ho _ ha hw
  have hb : w.heap[b]? = some (.cells vs.toArray T (0, 0)) := hw.chunk _ hm.mem
  have h1 : n ≠ 0 := fun e => by rw [e] at h0; cases h0
  have := ofUn_run (w := w) hs hd hn h1 hb (by rw [List.size_toArray]; exact hl)
  simp [execOp, ho, ha.ev hx, convert, hs, hd, this]
end
end Go.Proofs.YtclknendeeljaaaDoor.K
namespace Go.Proofs.YtclknendeeljaaaDoor.K
open Go Go.RowKit
section
variable {X : Cx} {E : Env} {H : List Chunk} {Q : Post} {ops : Array Oper} {rest : List Oper}
/-- A slice that is not empty has a row of its own. -/
theorem vl_slSome {A : Option Addr} {n c sz : Nat} {e : TypeId} {vs : List Value} (hin : In (sl A n c e sz vs) H) (hn : n ≠ 0) (h : ∀ g, A = some ⟨g, 0, none⟩ → n ≤ c → VL X ops rest Q E H) : VL X ops rest Q E H := by
  intro a w ha hw
  have := hw.chunk _ hin.mem
  rcases this.2 with ⟨h1, h2⟩ | ⟨g, cap, cur, h1, _, _, h2, _⟩
  · exact absurd h2 hn
  · cases h1
    exact h g rfl h2 a w ha hw
end
end Go.Proofs.YtclknendeeljaaaDoor.K
