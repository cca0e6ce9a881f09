/- A framework of our own for walks over the model: Kj. -/
import Derived.Test.YtdehjgpdcdjhjaaKi
namespace Go.Proofs.Ytdehjgpdcdjhjaa.K
open Go Go.RowKit
set_option linter.unusedVariables false
set_option linter.unusedSimpArgs false
section eqt
variable {X : Cx} {E : Env} {H : List Chunk} {T yT ty : TypeId} {x y : Operand} {k : IntKind} {p q : Int}
theorem val_net (hx : E.ev x = some (.int k p)) (hy : E.ev y = some (.int k q)) (h : p = q) : Val X E H (.binOp .neq T x y yT) ty (.bool false) := by
  have := val_ne (X := X) (H := H) (T := T) (yT := yT) (ty := ty) hx hy
  rwa [decide_eq_false (by simpa using h)] at this
end eqt
/-! Rows marked behind their end ([]byte("..")) -/
def slq (A : Option Addr) (n c : Nat) (e : TypeId) (vs : List Value) : Chunk :=
  ⟨ownFp A, fun w => w.ownsRow 0 e 1 (.slice A n c) n vs ∨ ∃ g, A = some ⟨g, 0, none⟩ ∧ c = n ∧ vs.length = n ∧ ∃ fr, w.heap[g]? = some (.cells vs.toArray e fr), fun w w' h hA => by
    rcases hA with hA | ⟨g, rfl, hc, hl, fr, hg⟩
    · left; exact (sl A n c e 1 vs).loc w w' h hA
    · right; exact ⟨g, rfl, hc, hl, fr, by rw [h g (by simp [ownFp])]; exact hg⟩⟩
theorem Holds.swap {w0 w : World} {M : List Nat} {H F : List Chunk} {C C' : Chunk} (h : Holds w0 M H w) (ht : Take C H F) (hf : C'.fp = C.fp) (hA : C.A w → C'.A w) : Holds w0 M (C' :: F) w := by
  have hp := h.perm ht.perm
  refine ⟨fun c hc => ?_, ?_, fun b hb => ?_, hp.size, hp.old, hp.os, hp.tape, hp.output⟩
  · rcases List.mem_cons.1 hc with rfl | hc
    · exact hA (hp.chunk C (by simp))
    · exact hp.chunk c (by simp [hc])
  · have := hp.nodup; rw [fps_cons] at this ⊢; rw [hf]; exact this
  · have := hp.mine b; rw [fps_cons] at this hb; rw [hf] at hb; exact this hb
section
variable {X : Cx} {Q : Post} {E : Env} {H F : List Chunk} {ops : Array Oper} {rest : List Oper}
theorem rd_slq {A : Option Addr} {n c : Nat} {e : TypeId} {vs : List Value} (h : In (slq A n c e vs) H) : Rd X H A vs := by
  intro w hw
  rcases hw.chunk _ h.mem with h | ⟨g, rfl, hc, hl, fr, hg⟩
  · exact reads_own h
  · intro j u hu
    refine ⟨_, rfl, ?_⟩
    rw [Addr.add_lit, Nat.zero_add, cell_of_row w g j _ e fr hg]
    simpa using hu
end
end Go.Proofs.Ytdehjgpdcdjhjaa.K
