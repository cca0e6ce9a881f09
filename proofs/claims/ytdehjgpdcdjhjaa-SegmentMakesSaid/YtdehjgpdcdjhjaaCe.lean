/- A framework of our own for walks over the model: Ce. -/
import Derived.Test.YtdehjgpdcdjhjaaCd
import Derived.Lib.MinMax
namespace Go.Proofs.Ytdehjgpdcdjhjaa.K
open Go Go.RowKit
set_option linter.unusedVariables false
set_option linter.unusedSimpArgs false
/-! ### Slices of arrays, least and greatest -/
section
variable {X : Cx} {E : Env} {H : List Chunk}
end
theorem vl_callv {X : Cx} {E : Env} {H : List Chunk} {ops : Array Oper} {rest : List Oper} {Q : Post} {fE : Value → Env} {o : Oper} {f : FuncId} {x : Operand} {xs : Array Operand} {ats : Array TypeId} {args fs cs : List Value} {C F : List Chunk} {φ : Value → List Chunk → Prop} (ho : o.op = .call { callee := .value x, args := xs, argTypes := ats })
    (hg : o.guard = none) (hd : DstF X E o.dst fE) (hfx : E.ev x = some (.func (.func f) fs.toArray cs.toArray)) (hc : ∀ args w, (callFunc f args).run X.P w = .ok (.enter f args) w) (hx : E.evs xs.toList = some args)
    (hs : Sub C H F) (hf : ∀ w, Holds X.w0 X.M H w → Fn X.P f (fs ++ args ++ cs) C (ret φ) w) (h : ∀ v H', φ v H' → VL X ops rest Q (fE v) (H' ++ F)) : VL X ops (o :: rest) Q E H :=
  vl_callA (run_callv ho hfx hc hx) hg hd hs hf h (fun _ _ h => h.elim) (fun _ h => h)
/-! ### A list that is written place by place -/
def fillG {α : Type} (d : α) (n : Nat) (f : Nat → α) (i : Nat) : List α := (List.range n).map fun j => if j < i then f j else d
theorem fillG_length {α : Type} {d : α} {n i : Nat} {f : Nat → α} : (fillG d n f i).length = n := by simp [fillG]
def okV (nl : List Bool) (il : List Int) : Prop := nl.length = il.length ∧ il.length ≤ 1000 ∧ ∀ i, i < il.length → 0 ≤ il.getD i 0 ∧ il.getD i 0 < 512 ∧ (nl.getD i false = true → il.getD i 0 = 0)
instance (nl : List Bool) (il : List Int) : Decidable (okV nl il) := by unfold okV; infer_instance
theorem okV.mem {nl : List Bool} {il : List Int} (h : okV nl il) : ∀ n ∈ il, 0 ≤ n ∧ n < 512 := by
  intro n hn
  obtain ⟨i, hi, rfl⟩ := List.mem_iff_getElem.1 hn
  have := h.2.2 i hi
  rw [List.getD_eq_getElem?_getD, List.getElem?_eq_getElem hi] at this
  exact ⟨this.1, this.2.1⟩
def less (a b : List UInt8) : List UInt8 := if b.length < a.length then b else a
end Go.Proofs.Ytdehjgpdcdjhjaa.K
