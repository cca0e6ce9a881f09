/- A framework of our own for walks over the model: Kx. -/
import Derived.Test.YtdehjgpdcdjhjaaKw
import Derived.RangeFuncLeaves
import Derived.RangeFuncRecord
import Derived.TacticsIn
namespace Go.Proofs.Ytdehjgpdcdjhjaa.K
open Go Go.RowKit
set_option linter.unusedVariables false
set_option linter.unusedSimpArgs false
/-! ### Ranges over a function: rounds -/
/-- A fence that asks nothing. -/
inductive Free : Fence → Prop
  | wide : Free Fence.wide
  | round (l : Nat) : Free (Fence.wide.inRound l)
theorem Free.fn {F : Fence} (h : Free F) (f : FuncId) : F.fn f := by cases h <;> exact trivial
theorem Free.depth {F : Fence} (h : Free F) : ¬ F.depth.isSome = true := by cases h <;> simp [Fence.wide]
theorem Free.calls {F : Fence} (h : Free F) {n : Nat} {P : Program} {f : FuncId} {args : Array Value} {w : World} {R : Ending → World → Prop} (hc : Calls P f args w R) : CallsIn F n P f args w R := by
  cases h
  · exact callsIn_wide.2 hc
  · exact (callsIn_wide (n := n)).2 hc
theorem Free.rows {F : Fence} (h : Free F) {n : Nat} {P : Program} {row : String} {args : Array Value} {w : World} {R : Value → World → Prop} (hc : Rows P row args w R) : RowsIn F n P row args w R := by
  cases h
  · exact fun c cs _ => let ⟨v, w', r, s⟩ := hc c cs; ⟨v, w', r, stepsIn_wide.2 s⟩
  · exact fun c cs _ => let ⟨v, w', r, s⟩ := hc c cs; ⟨v, w', r, stepsIn_wide.2 s⟩
theorem Free.upon {F : Fence} (h : Free F) {n : Nat} {P : Program} {o : Oper} {a : Act} {next : Act → World → Prop} {Q : Exit → Act → World → Prop} {r : Result Next} (hu : o.upon P a next Q r) : o.uponIn F n P a next Q r := by
  cases r with
  | ok x w =>
    cases x <;> simp only [Oper.upon, Oper.uponIn] at hu ⊢ <;> first
      | exact hu
      | exact ⟨fun hd => absurd hd h.depth, h.calls hu⟩
      | exact ⟨fun hd => absurd hd h.depth, h.rows hu⟩
      | exact hu.elim
  | halt x w => cases x <;> simp only [Oper.upon, Oper.uponIn] at hu ⊢ <;> exact hu
def noDefer (o : Oper) : Bool := match o.op with | .defer _ => false | _ => true
theorem noDefer_ne {o : Oper} (h : noDefer o = true) : ∀ c, o.op ≠ .defer c := fun c e => by simp [noDefer, e] at h
def noOut (Q : Post) : Prop := ∀ E H, ¬ Q .outgrown E H
theorem noOut.seq {N : Env → List Chunk → Prop} {Q : Post} (h : noOut Q) : noOut (Post.seq N Q) := h
theorem noOut.blk {id : Nat} {Q : Post} (h : noOut Q) : noOut (Post.blk id Q) := h

section
variable {X : Cx} {Q : Post} {E : Env} {H : List Chunk} {ops : Array Oper} {rest : List Oper}
end

section
variable {X : Cx} {Q : Post} {E E' : Env} {H H' : List Chunk} {l : Nat}
end

section
variable {X : Cx} {f : FuncId} {B : Exit → Act → World → Prop} {E : Env} {H : List Chunk}
end
end Go.Proofs.Ytdehjgpdcdjhjaa.K
