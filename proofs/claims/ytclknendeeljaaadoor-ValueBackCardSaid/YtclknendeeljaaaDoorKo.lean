/- A framework of our own for walks over the model: Ko. -/
import Derived.Test.YtclknendeeljaaaDoorKm
import Derived.Test.YtclknendeeljaaaDoorKj
namespace Go.Proofs.YtclknendeeljaaaDoor.K
open Go Go.RowKit
set_option linter.unusedVariables false
set_option linter.unusedSimpArgs false
/-! ### Maps -/
section maps
variable {κ : Type} [DecidableEq κ]
variable {P : Program} {mt kt et : TypeId} {key : κ → Value} {z : Value}
variable {X : Cx} {E : Env} {H H' : List Chunk}
variable {Q : Post} {ops : Array Oper} {rest : List Oper}
end maps
/-! ### The dynamic type asked -/
section asked
variable {X : Cx} {E : Env} {H : List Chunk}
theorem val_isType {xT T t ty : TypeId} {x : Operand} {d : TypeDesc} {v z : Value} (hu : ∀ w, (underlying T).run X.P w = .ok d w) (hd : (match d with | .interface _ => false | _ => true) = true) (hz : ∀ w, (zeroValue T).run X.P w = .ok z w)
    (hx : E.ev x = some (.iface t v)) : Val X E H (.typeAssert x xT T true) ty (if t = T then .tuple #[v, .bool true] else .tuple #[z, .bool false]) := by
  intro ac w o ho _ ha hw
  by_cases e : t = T
  · cases d <;> simp_all [execOp, ha.ev hx, Instr.typeAssert]
  · cases d <;> simp_all [execOp, ha.ev hx, Instr.typeAssert]
theorem val_isTypeNil {xT T ty : TypeId} {x : Operand} {d : TypeDesc} {z : Value} (hu : ∀ w, (underlying T).run X.P w = .ok d w) (hz : ∀ w, (zeroValue T).run X.P w = .ok z w)
    (hx : E.ev x = some .nilIface) : Val X E H (.typeAssert x xT T true) ty (.tuple #[z, .bool false]) := by
  intro ac w o ho _ ha hw
  cases d <;> simp_all [execOp, ha.ev hx, Instr.typeAssert]
end asked
end Go.Proofs.YtclknendeeljaaaDoor.K
namespace Go.Proofs.YtclknendeeljaaaDoor.K
open Go Go.RowKit
section more
variable {X : Cx} {E : Env} {H H0 F C : List Chunk} {Q : Post} {ops : Array Oper} {rest : List Oper}
theorem vc_drawsS {id : Nat} {l : List Oper} (S T ord : List Nat) (H0 : List Chunk) (hs : Sub H0 H F) (hm : X.P.follows .mixedOrders = true) (hB : orderB l.toArray S T ord = true) (hQ : ∀ ch E H, Q (.panic ch) E H → Q (.panic ch) [] H)
    (h : VD X l.toArray S T Q H0 ord E H) : VC X (.region id l.toArray true) Q E H := by
  intro a w ha hw
  simp only [orderB, Bool.and_eq_true, decide_eq_true_eq] at hB
  have hw' : Holds X.w0 X.M H { w with drawn := w.drawn + 1 } := hw.drewn rfl rfl rfl rfl
  have h1 := VD.sound hB.1.1 hQ ord _ E H h hB.2 a _ ha hw' (.inl (hw'.perm hs.perm).left)
  rw [hB.1.2] at h1
  exact wp_region_any hm (wpAny_of_C _ _ _ _ h1)
/-- It reads C, returns v and leaves all that was there. -/
def FnR (P : Program) (f : FuncId) (args : List Value) (C : List Chunk) (v : Value) (w : World) : Prop := Fn P f args C (ret fun u H' => u = v ∧ H' = C) w
theorem vl_callR {fE : Value → Env} {o : Oper} {f : FuncId} {xs : Array Operand} {ats : Array TypeId} {args : List Value} {v : Value} (C : List Chunk) (ho : o.op = .call { callee := .value (.func f), args := xs, argTypes := ats })
    (hg : o.guard = none) (hd : DstF X E o.dst fE) (hc : ∀ args w, (callFunc f args).run X.P w = .ok (.enter f args) w) (hx : E.evs xs.toList = some args)
    (hs : Sub C H F) (hf : ∀ w, Holds X.w0 X.M H w → FnR X.P f args C v w) (h : VL X ops rest Q (fE v) H) : VL X ops (o :: rest) Q E H := by
  refine vl_call ho hg hd hc hx hs hf fun u H' hu => ?_
  obtain ⟨rfl, rfl⟩ := hu
  exact fun a w ha hw => h a w ha (hw.perm hs.perm.symm)
theorem vl_nilSl (e sz : Nat) (h : VL X ops rest Q E (sl none 0 0 e sz [] :: H)) : VL X ops rest Q E H := by
  intro a w ha hw
  refine h a w ha ?_
  have := Holds.change (w := w) (C := []) (C' := [sl none 0 0 e sz []]) (F := H) (w' := w) (by simpa using hw) (Nat.le_refl _) rfl rfl rfl (fun _ _ _ => rfl) (by
    intro c hc
    simp at hc
    subst hc
    simp [sl, World.ownsRow]) (by simp [fps, sl, ownFp]) (by simp [fps, sl, ownFp])
  simpa using this
/-! A guard that was itself passed by -/
theorem yielded_un {E : Env} {a : Act} (ha : Ok X E a) {j t : Nat} (hj : (ops[j]?).bind (·.dst) = some t) (ht : E.get t = some undef) (hn : Nat.blt t X.n = true) : yielded ops a.tmps j = none := by
  have h1 := ha.vals t _ ht
  have hlt : t < a.tmps.size := by rw [ha.size]; simpa [Nat.blt_eq] using hn
  have h2 : a.tmps[t] = undef := by simpa [hlt] using h1
  simp [yielded, hj, hlt, h2, undef]
theorem vl_offU {fE : Value → Env} {o : Oper} {j t : Nat} {b : Bool} (hg : o.guard = some (j, b)) (hj : (ops[j]?).bind (·.dst) = some t) (ht : E.get t = some undef) (hn : Nat.blt t X.n = true) (hd : DstF X E o.dst fE) (h : VL X ops rest Q (fE undef) H) : VL X ops (o :: rest) Q E H := by
  intro a w ha hw
  have h1 := h _ w (ha.setF (v := undef) hd) hw
  unfold wpList
  rw [if_neg (by simp [Region.wanted, hg, yielded_un ha hj ht hn])]
  exact h1
/-! equality of what is no number -/
theorem val_opO {op : BinOp} {T yT ty : TypeId} {x y : Operand} {vx vy v : Value} (hx : E.ev x = some vx) (hy : E.ev y = some vy) (hg : ∀ w, (eqGuard op T x y vx vy).run X.P w = .ok () w) (he : ∀ w, (binOp op T vx vy).run X.P w = .ok v w) :
    Val X E H (.binOp op T x y yT) ty v := by
  intro ac w o ho _ ha hw
  simp only [execOp, ho, ha.ev hx, ha.ev hy, Sem.run_bind, hg, Result.andThen_ok, he, Sem.run_pure]
theorem bin_ptr_eq {P : Program} {T e : TypeId} {a : Addr} (hu : ∀ w, (underlying T).run P w = .ok (.pointer e) w) (w : World) : (binOp .eql T (.pointer (some a)) (.pointer none)).run P w = .ok (.bool false) w := by
  have h : ∀ d, (Op.equalIn (d + 1) T (.pointer (some a)) (.pointer none)).run P w = .ok false w := fun d => by simp [Op.equalIn, hu]
  have h := h 9999
  show ((do pure (.bool (← Op.equal T (.pointer (some a)) (.pointer none))) : Sem Value)).run P w = _
  rw [Sem.run_bind, show Op.equal T (.pointer (some a)) (.pointer none) = Op.equalIn (9999 + 1) T (.pointer (some a)) (.pointer none) from rfl, h]
  rfl
theorem bin_nil_eq {P : Program} {T e : TypeId} (hu : ∀ w, (underlying T).run P w = .ok (.pointer e) w) (w : World) : (binOp .eql T (.pointer none) (.pointer none)).run P w = .ok (.bool true) w := by
  have h : ∀ d, (Op.equalIn (d + 1) T (.pointer none) (.pointer none)).run P w = .ok true w := fun d => by simp [Op.equalIn, hu]
  have h := h 9999
  show ((do pure (.bool (← Op.equal T (.pointer none) (.pointer none))) : Sem Value)).run P w = _
  rw [Sem.run_bind, show Op.equal T (.pointer none) (.pointer none) = Op.equalIn (9999 + 1) T (.pointer none) (.pointer none) from rfl, h]
  rfl
theorem bin_agg_eq {P : Program} {T : TypeId} {cs ds : Array Value} {b : Bool} (he : ∀ w, (Op.equal T (.agg cs) (.agg ds)).run P w = .ok b w) (w : World) : (binOp .eql T (.agg cs) (.agg ds)).run P w = .ok (.bool b) w := by
  simp [binOp, he]
theorem bin_agg_ne {P : Program} {T : TypeId} {cs ds : Array Value} {b : Bool} (he : ∀ w, (Op.equal T (.agg cs) (.agg ds)).run P w = .ok b w) (w : World) : (binOp .neq T (.agg cs) (.agg ds)).run P w = .ok (.bool (!b)) w := by
  simp [binOp, he]
theorem guard_ptr {P : Program} {op : BinOp} {T : TypeId} {x y : Operand} {a b : Option Addr} (w : World) : (eqGuard op T x y (.pointer a) (.pointer b)).run P w = .ok () w := by cases op <;> rfl
end more
end Go.Proofs.YtclknendeeljaaaDoor.K
namespace Go.Proofs.YtclknendeeljaaaDoor.K
open Go Go.RowKit
section more2
variable {X : Cx} {E : Env} {H : List Chunk}
end more2
end Go.Proofs.YtclknendeeljaaaDoor.K
namespace Go.Proofs.YtclknendeeljaaaDoor.K
theorem sub_self : ∀ C : List Chunk, Sub C C []
  | [] => .nil
  | _ :: C => .cons .head (sub_self C)
theorem sub_skip {c : Chunk} {C H F : List Chunk} (h : Sub C H F) : Sub C (c :: H) (c :: F) := by
  have : ∀ {C H F : List Chunk}, Sub C H F → Sub C (c :: H) (c :: F) := by
    intro C H F h
    induction h with
    | nil => exact .nil
    | cons ht _ ih => exact .cons (.tail ht) ih
  exact this h
end Go.Proofs.YtclknendeeljaaaDoor.K
