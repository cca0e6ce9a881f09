/- A framework of our own for walks over the model: Kv. -/
import Derived.Lib.MakeNoZero
import Derived.Lib.UnsafeStr
import Derived.Laws.CopyRow
import Derived.Test.YtclnhfdgiaamhaaKu
namespace Go.Proofs.Ytclnhfdgiaamhaa.K
open Go Go.RowKit
set_option linter.unusedVariables false
set_option linter.unusedSimpArgs false
/-! Methods called through an interface value; interface values and nil. -/
section
variable {X : Cx} {E : Env} {H : List Chunk} {Q : Post} {ops : Array Oper} {rest : List Oper}
theorem run_invoke {o : Oper} {f : FuncId} {recv : Operand} {name : String} {xs : Array Operand} {ats : Array TypeId} {args : List Value} {r v : Value} (ho : o.op = .call { callee := .invoke recv name, args := xs, argTypes := ats })
    (hr : E.ev recv = some r) (hx : E.evs xs.toList = some args) (hm : ∀ args w, (callMethod r name args).run X.P w = .ok (.enter f (#[v] ++ args)) w) (a : Act) (w : World) (ha : Ok X E a) : (execOp a.eval o).run X.P w = .ok (.enter f (v :: args).toArray) w := by
  have h1 : xs.map a.eval = args.toArray := by rw [← evs_map ha _ _ hx, ← Array.toList_map]
  have h2 := hm args.toArray w
  simp [execOp, ho, resolve, h1, ha.ev hr, invoke, h2]
theorem vl_invokeV {fE : Value → Env} {o : Oper} {f : FuncId} {recv : Operand} {name : String} {xs : Array Operand} {ats : Array TypeId} {args : List Value} {r v u : Value} (ho : o.op = .call { callee := .invoke recv name, args := xs, argTypes := ats })
    (hg : o.guard = none) (hd : DstF X E o.dst fE) (hr : E.ev recv = some r) (hx : E.evs xs.toList = some args) (hm : ∀ args w, (callMethod r name args).run X.P w = .ok (.enter f (#[v] ++ args)) w)
    (hf : ∀ w, Holds X.w0 X.M H w → FnV X.P f (v :: args) u w) (h : VL X ops rest Q (fE u) H) : VL X ops (o :: rest) Q E H := by
  intro a w ha hw
  refine wpList_plain hg fun K hK => ?_
  unfold Oper.wp
  rw [run_invoke ho hr hx hm a w ha]
  refine (hf w hw (.start0 w)).mono fun e w' ⟨H', h1, h2⟩ => ?_
  cases e <;> simp only [ret] at h1
  subst h1
  have h3 := Holds.called (C := []) (by simpa using hw) h2
  exact hK _ _ (h _ _ (ha.setF hd) h3.right)
theorem bin_iface_eq {P : Program} {T t : TypeId} {ms : Array (String × TypeId)} {v : Value} (hu : ∀ w, (underlying T).run P w = .ok (.interface ms) w) (w : World) : (binOp .eql T (.iface t v) .nilIface).run P w = .ok (.bool false) w := by
  have h : ∀ d, (Op.equalIn (d + 1) T (.iface t v) .nilIface).run P w = .ok false w := fun d => by simp [Op.equalIn, hu]
  have h := h 9999
  show ((do pure (.bool (← Op.equal T (.iface t v) .nilIface)) : Sem Value)).run P w = _
  rw [Sem.run_bind, show Op.equal T (.iface t v) .nilIface = Op.equalIn (9999 + 1) T (.iface t v) .nilIface from rfl, h]
  rfl
theorem guard_iface {P : Program} {op : BinOp} {T t : TypeId} {x y : Operand} {v : Value} (w : World) : (eqGuard op T x y (.iface t v) .nilIface).run P w = .ok () w := by cases op <;> rfl
end
end Go.Proofs.Ytclnhfdgiaamhaa.K
namespace Go.Proofs.Ytclnhfdgiaamhaa.K
open Go Go.RowKit
/-! What strings.Builder asks for -/
section
variable {X : Cx} {E : Env} {H H' F : List Chunk} {Q : Post} {ops : Array Oper} {rest : List Oper}
end
end Go.Proofs.Ytclnhfdgiaamhaa.K
namespace Go.Proofs.Ytclnhfdgiaamhaa.K
open Go Go.RowKit
section
variable {X : Cx} {E : Env} {H : List Chunk}
end
end Go.Proofs.Ytclnhfdgiaamhaa.K
namespace Go.Proofs.Ytclnhfdgiaamhaa.K
open Go Go.RowKit
/-! Pointers to whole variables, seen as unsafe pointers and back -/
section
variable {P : Program} {w : World}
end
end Go.Proofs.Ytclnhfdgiaamhaa.K
namespace Go.Proofs.Ytclnhfdgiaamhaa.K
open Go Go.RowKit
section
variable {X : Cx} {E : Env} {H : List Chunk}
end
end Go.Proofs.Ytclnhfdgiaamhaa.K
namespace Go.Proofs.Ytclnhfdgiaamhaa.K
open Go Go.RowKit
section
variable {X : Cx} {E : Env} {H : List Chunk} {Q : Post} {ops : Array Oper} {rest : List Oper}
end
end Go.Proofs.Ytclnhfdgiaamhaa.K
