/- A framework of our own for walks over the model: Ce. -/
import Derived.Test.YtclnhfdgiaamhaaCd
import Derived.Lib.MinMax
namespace Go.Proofs.Ytclnhfdgiaamhaa.K
open Go Go.RowKit
set_option linter.unusedVariables false
set_option linter.unusedSimpArgs false
/-! ### Slices of arrays, least and greatest -/
section
variable {X : Cx} {E : Env} {H : List Chunk}
theorem val_max {x y : Operand} {ts : Array TypeId} {ty : TypeId} {k : IntKind} {p q r : Int} (hx : E.ev x = some (.int k p)) (hy : E.ev y = some (.int k q)) (hr : (if q > p then q else p) = r) : Val X E H (.call { callee := .builtin .max, args := #[x, y], argTypes := ts }) ty (.int k r) := by
  subst hr
  intro ac w o ho _ ha hw
  simp [execOp, ho, ha.ev hx, ha.ev hy, resolve, invoke, builtin, Builtin.max_, Builtin.max2]
end
theorem vl_callv {X : Cx} {E : Env} {H : List Chunk} {ops : Array Oper} {rest : List Oper} {Q : Post} {fE : Value → Env} {o : Oper} {f : FuncId} {x : Operand} {xs : Array Operand} {ats : Array TypeId} {args fs cs : List Value} {C F : List Chunk} {φ : Value → List Chunk → Prop} (ho : o.op = .call { callee := .value x, args := xs, argTypes := ats })
    (hg : o.guard = none) (hd : DstF X E o.dst fE) (hfx : E.ev x = some (.func (.func f) fs.toArray cs.toArray)) (hc : ∀ args w, (callFunc f args).run X.P w = .ok (.enter f args) w) (hx : E.evs xs.toList = some args)
    (hs : Sub C H F) (hf : ∀ w, Holds X.w0 X.M H w → Fn X.P f (fs ++ args ++ cs) C (ret φ) w) (h : ∀ v H', φ v H' → VL X ops rest Q (fE v) (H' ++ F)) : VL X ops (o :: rest) Q E H :=
  vl_callA (run_callv ho hfx hc hx) hg hd hs hf h (fun _ _ h => h.elim) (fun _ h => h)
def okV (nl : List Bool) (il : List Int) : Prop := nl.length = il.length ∧ il.length ≤ 1000 ∧ ∀ i, i < il.length → 0 ≤ il.getD i 0 ∧ il.getD i 0 < 512 ∧ (nl.getD i false = true → il.getD i 0 = 0)
instance (nl : List Bool) (il : List Int) : Decidable (okV nl il) := by unfold okV; infer_instance
theorem okV.mem {nl : List Bool} {il : List Int} (h : okV nl il) : ∀ n ∈ il, 0 ≤ n ∧ n < 512 := by
  intro n hn
  obtain ⟨i, hi, rfl⟩ := List.mem_iff_getElem.1 hn
  have := h.2.2 i hi
  rw [List.getD_eq_getElem?_getD, List.getElem?_eq_getElem hi] at this
  exact ⟨this.1, this.2.1⟩
end Go.Proofs.Ytclnhfdgiaamhaa.K
