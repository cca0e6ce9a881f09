/- A framework of our own for walks over the model: Mb. -/
import Derived.Test.YtclknendeeljaaaDoorKr
import Derived.Test.YtclknendeeljaaaDoorKt
import Derived.Test.YtclknendeeljaaaDoorCa
import Derived.Lib.AppendZerosOnto
import Derived.Lib.Overlaps
namespace Go.Proofs.YtclknendeeljaaaDoor.K
open Go Go.RowKit
set_option linter.unusedVariables false
set_option linter.unusedSimpArgs false
structure Eqv (H H' : List Chunk) : Prop where
  fp : (fps H).Perm (fps H')
  to : ∀ w, (∀ c ∈ H, c.A w) → ∀ c ∈ H', c.A w
  back : ∀ w, (∀ c ∈ H', c.A w) → ∀ c ∈ H, c.A w
theorem Eqv.symm {H H' : List Chunk} (e : Eqv H H') : Eqv H' H := ⟨e.fp.symm, e.back, e.to⟩
theorem Eqv.trans {H H' H2 : List Chunk} (e : Eqv H H') (e2 : Eqv H' H2) : Eqv H H2 := ⟨e.fp.trans e2.fp, fun w h => e2.to w (e.to w h), fun w h => e.back w (e2.back w h)⟩
theorem Eqv.refl (H : List Chunk) : Eqv H H := ⟨.refl _, fun _ h => h, fun _ h => h⟩
theorem Eqv.perm {H H' : List Chunk} (p : H.Perm H') : Eqv H H' := ⟨fps_perm p, fun _ h c hc => h c (p.mem_iff.2 hc), fun _ h c hc => h c (p.mem_iff.1 hc)⟩
theorem Eqv.cons {H H' : List Chunk} (d : Chunk) (e : Eqv H H') : Eqv (d :: H) (d :: H') := by
  refine ⟨e.fp.append_left _, fun w h c hc => ?_, fun w h c hc => ?_⟩
  · rcases List.mem_cons.1 hc with rfl | hc
    · exact h _ (by simp)
    · exact e.to w (fun d hd => h d (by simp [hd])) c hc
  · rcases List.mem_cons.1 hc with rfl | hc
    · exact h _ (by simp)
    · exact e.back w (fun d hd => h d (by simp [hd])) c hc
theorem Holds.eqv {w0 w : World} {M : List Nat} {H H' : List Chunk} (h : Holds w0 M H w) (e : Eqv H H') : Holds w0 M H' w :=
  ⟨e.to w h.chunk, e.fp.nodup_iff.1 h.nodup, fun b hb => h.mine b (e.fp.mem_iff.2 hb), h.size, h.old, h.os, h.tape, h.output⟩
theorem Holds.mem {w0 w : World} {M M' : List Nat} {H : List Chunk} (h : Holds w0 M H w) (e : ∀ b, b ∈ M ↔ b ∈ M') : Holds w0 M' H w :=
  ⟨h.chunk, h.nodup, fun b hb => ⟨(h.mine b hb).1, by rw [← e]; exact (h.mine b hb).2⟩, h.size, fun b hb hm => h.old b hb (by rw [e]; exact hm), h.os, h.tape, h.output⟩
theorem Fn.eqv {P : Program} {f : FuncId} {args : List Value} {C C' : List Chunk} {R : Ending → List Chunk → Prop} {w : World} (h : Fn P f args C' R w) (e : Eqv C C') : Fn P f args C R w := fun hw =>
  (h ((hw.eqv e).mem fun b => e.fp.mem_iff)).mono fun _ _ ⟨H', h1, h2⟩ => ⟨H', h1, h2.mem fun b => e.fp.symm.mem_iff⟩
theorem Fn.out {P : Program} {f : FuncId} {args : List Value} {C : List Chunk} {φ ψ : Value → List Chunk → Prop} {w : World} (h : Fn P f args C (ret φ) w) (e : ∀ v H, φ v H → ∃ H' F, Eqv H (H' ++ F) ∧ ψ v H') : Fn P f args C (ret ψ) w := fun hw =>
  (h hw).mono fun en _ ⟨H', h1, h2⟩ => by
    cases en with
    | returned v =>
      obtain ⟨H2, F, e1, e2⟩ := e v H' h1
      exact ⟨H2, e2, (h2.eqv e1).left⟩
    | panicked ch => exact h1.elim
    | outgrown => exact h1.elim
section
variable {X : Cx} {Q : Post} {E : Env} {H H' : List Chunk} {ops : Array Oper} {rest : List Oper}
theorem Reads.m {w : World} {A : Option Addr} {vs : List Value} (h : Reads w A vs) : ReadsM w [] A vs := fun j u hu => by
  obtain ⟨x, e, hx⟩ := h j u hu
  exact ⟨x, e, by simp, hx⟩
theorem vl_extW {fE : Value → Env} {o : Oper} {f : FuncId} {xs : Array Operand} {ats : Array TypeId} {args : List Value} {v : Value} (ho : o.op = .call { callee := .value (.func f), args := xs, argTypes := ats })
    (hg : o.guard = none) (hd : DstF X E o.dst fE) (hx : E.evs xs.toList = some args) (hc : ∀ w, Holds X.w0 X.M H w → (callFunc f args.toArray).run X.P w = .ok (.value v) w) (h : VL X ops rest Q (fE v) H) : VL X ops (o :: rest) Q E H := by
  intro a w ha hw
  refine wpList_plain hg fun K hK => ?_
  unfold Oper.wp
  have h1 : xs.map a.eval = args.toArray := by rw [← evs_map ha _ _ hx, ← Array.toList_map]
  have : (execOp a.eval o).run X.P w = .ok (.value v) w := by simp [execOp, ho, resolve, h1, Act.eval, Deferred.ofValue, invoke, hc w hw]
  rw [this]
  exact hK _ _ (h _ _ (ha.setF hd) hw)
end
end Go.Proofs.YtclknendeeljaaaDoor.K
