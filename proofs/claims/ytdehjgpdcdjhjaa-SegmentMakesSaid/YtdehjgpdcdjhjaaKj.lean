/- A framework of our own for walks over the model: Kj. -/
import Derived.Test.YtdehjgpdcdjhjaaKi
namespace Go.Proofs.Ytdehjgpdcdjhjaa.K
open Go Go.RowKit
set_option linter.unusedVariables false
set_option linter.unusedSimpArgs false
section eqt
variable {X : Cx} {E : Env} {H : List Chunk} {T yT ty : TypeId} {x y : Operand} {k : IntKind} {p q : Int}
theorem val_net (hx : E.ev x = some (.int k p)) (hy : E.ev y = some (.int k q)) (h : p = q) : Val X E H (.binOp .neq T x y yT) ty (.bool false) := by
  have := val_ne (X := X) (H := H) (T := T) (yT := yT) (ty := ty) hx hy
  rwa [decide_eq_false (by simpa using h)] at this
end eqt
theorem Holds.swap {w0 w : World} {M : List Nat} {H F : List Chunk} {C C' : Chunk} (h : Holds w0 M H w) (ht : Take C H F) (hf : C'.fp = C.fp) (hA : C.A w → C'.A w) : Holds w0 M (C' :: F) w := by
  have hp := h.perm ht.perm
  refine ⟨fun c hc => ?_, ?_, fun b hb => ?_, hp.size, hp.old, hp.os, hp.tape, hp.output⟩
  · rcases List.mem_cons.1 hc with rfl | hc
    · exact hA (hp.chunk C (by simp))
    · exact hp.chunk c (by simp [hc])
  · have := hp.nodup; rw [fps_cons] at this ⊢; rw [hf]; exact this
  · have := hp.mine b; rw [fps_cons] at this hb; rw [hf] at hb; exact this hb
section
variable {X : Cx} {Q : Post} {E : Env} {H F : List Chunk} {ops : Array Oper} {rest : List Oper}
end
end Go.Proofs.Ytdehjgpdcdjhjaa.K
