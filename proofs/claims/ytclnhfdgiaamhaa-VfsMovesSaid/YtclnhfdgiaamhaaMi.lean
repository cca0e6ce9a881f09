/- A framework of our own for walks over the model: Mi. -/
import Derived.Test.YtclnhfdgiaamhaaMh
import Derived.Test.YtclnhfdgiaamhaaCe
import Derived.Test.YtclnhfdgiaamhaaMc
import Derived.Test.YtclnhfdgiaamhaaKy
import Derived.Test.YtclnhfdgiaamhaaMb
namespace Go.Proofs.Ytclnhfdgiaamhaa.K
open Go Go.RowKit
set_option linter.unusedVariables false
set_option linter.unusedSimpArgs false
/-! ### Function values that are handed on: what each answers, on chunks that stay -/
/-- All that was there in w0 is as it was. -/
def Old (w0 w : World) : Prop := w0.heap.size ≤ w.heap.size ∧ ∀ b, b < w0.heap.size → w.heap[b]? = w0.heap[b]?
theorem Old.refl (w : World) : Old w w := ⟨Nat.le_refl _, fun _ _ => rfl⟩
/-- The function value q, called with args while C stands, answers v and leaves all as it was. -/
def Ans (P : Program) (w0 : World) (C : List Chunk) (q : Value) (args : List Value) (v : Value) : Prop :=
  ∃ (f : FuncId) (fs cs : List Value), q = .func (.func f) fs.toArray cs.toArray ∧ (∀ args w, (callFunc f args).run P w = .ok (.enter f args) w) ∧ ∀ w, Old w0 w → FnR P f (fs ++ args ++ cs) C v w
theorem Ans.frame {P : Program} {w0 : World} {C : List Chunk} {q : Value} {args : List Value} {v : Value} (h : Ans P w0 C q args v) (F : List Chunk) : Ans P w0 (C ++ F) q args v := by
  obtain ⟨f, fs, cs, e, hc, hf⟩ := h
  refine ⟨f, fs, cs, e, hc, fun w hw => ?_⟩
  refine (Fn.frame (F := F) (hf w hw)).mono fun en H hh => ?_
  cases en <;> simp only [ret] at hh ⊢
  obtain ⟨H2, ⟨rfl, rfl⟩, rfl⟩ := hh
  exact ⟨rfl, rfl⟩
theorem Ans.perm {P : Program} {w0 : World} {C C' : List Chunk} {q : Value} {args : List Value} {v : Value} (p : C.Perm C') (h : Ans P w0 C q args v) : Ans P w0 C' q args v := by
  obtain ⟨f, fs, cs, e, hc, hf⟩ := h
  exact ⟨f, fs, cs, e, hc, fun w hw => Fn.out (Fn.perm p (hf w hw)) fun u H hu => ⟨C', [], by rw [List.append_nil, hu.2]; exact Eqv.perm p, hu.1, rfl⟩⟩
theorem Ans.sub {P : Program} {w0 : World} {C C' F : List Chunk} {q : Value} {args : List Value} {v : Value} (hs : Sub C' C F) (h : Ans P w0 C' q args v) : Ans P w0 C q args v := (h.frame F).perm hs.perm.symm
end Go.Proofs.Ytclnhfdgiaamhaa.K
