/- A framework of our own for walks over the model: Mb. -/
import Derived.Test.YtclnhfdgiaamhaaKr
import Derived.Test.YtclnhfdgiaamhaaKt
import Derived.Test.YtclnhfdgiaamhaaCa
import Derived.Lib.AppendZerosOnto
import Derived.Lib.Overlaps
namespace Go.Proofs.Ytclnhfdgiaamhaa.K
open Go Go.RowKit
set_option linter.unusedVariables false
set_option linter.unusedSimpArgs false
/-! ### Chunks under one name; the same memory in other pieces -/
def big (l : List Chunk) : Chunk := ⟨fps l, fun w => ∀ c ∈ l, c.A w, fun w w' h hA c hc => c.loc w w' (fun b hb => h b (List.mem_flatMap.2 ⟨c, hc, hb⟩)) (hA c hc)⟩
structure Eqv (H H' : List Chunk) : Prop where
  fp : (fps H).Perm (fps H')
  to : ∀ w, (∀ c ∈ H, c.A w) → ∀ c ∈ H', c.A w
  back : ∀ w, (∀ c ∈ H', c.A w) → ∀ c ∈ H, c.A w
theorem Eqv.symm {H H' : List Chunk} (e : Eqv H H') : Eqv H' H := ⟨e.fp.symm, e.back, e.to⟩
theorem Eqv.trans {H H' H2 : List Chunk} (e : Eqv H H') (e2 : Eqv H' H2) : Eqv H H2 := ⟨e.fp.trans e2.fp, fun w h => e2.to w (e.to w h), fun w h => e.back w (e2.back w h)⟩
theorem Eqv.refl (H : List Chunk) : Eqv H H := ⟨.refl _, fun _ h => h, fun _ h => h⟩
theorem Eqv.perm {H H' : List Chunk} (p : H.Perm H') : Eqv H H' := ⟨fps_perm p, fun _ h c hc => h c (p.mem_iff.2 hc), fun _ h c hc => h c (p.mem_iff.1 hc)⟩
theorem Eqv.cons {H H' : List Chunk} (d : Chunk) (e : Eqv H H') : Eqv (d :: H) (d :: H') := by
  refine ⟨e.fp.append_left _, fun w h c hc => ?_, fun w h c hc => ?_⟩
  · rcases List.mem_cons.1 hc with rfl | hc
    · exact h _ (by simp)
    · exact e.to w (fun d hd => h d (by simp [hd])) c hc
  · rcases List.mem_cons.1 hc with rfl | hc
    · exact h _ (by simp)
    · exact e.back w (fun d hd => h d (by simp [hd])) c hc
theorem Holds.eqv {w0 w : World} {M : List Nat} {H H' : List Chunk} (h : Holds w0 M H w) (e : Eqv H H') : Holds w0 M H' w :=
  ⟨e.to w h.chunk, e.fp.nodup_iff.1 h.nodup, fun b hb => h.mine b (e.fp.mem_iff.2 hb), h.size, h.old, h.os, h.tape, h.output⟩
theorem Holds.mem {w0 w : World} {M M' : List Nat} {H : List Chunk} (h : Holds w0 M H w) (e : ∀ b, b ∈ M ↔ b ∈ M') : Holds w0 M' H w :=
  ⟨h.chunk, h.nodup, fun b hb => ⟨(h.mine b hb).1, by rw [← e]; exact (h.mine b hb).2⟩, h.size, fun b hb hm => h.old b hb (by rw [e]; exact hm), h.os, h.tape, h.output⟩
theorem Fn.eqv {P : Program} {f : FuncId} {args : List Value} {C C' : List Chunk} {R : Ending → List Chunk → Prop} {w : World} (h : Fn P f args C' R w) (e : Eqv C C') : Fn P f args C R w := fun hw =>
  (h ((hw.eqv e).mem fun b => e.fp.mem_iff)).mono fun _ _ ⟨H', h1, h2⟩ => ⟨H', h1, h2.mem fun b => e.fp.symm.mem_iff⟩
theorem Fn.out {P : Program} {f : FuncId} {args : List Value} {C : List Chunk} {φ ψ : Value → List Chunk → Prop} {w : World} (h : Fn P f args C (ret φ) w) (e : ∀ v H, φ v H → ∃ H' F, Eqv H (H' ++ F) ∧ ψ v H') : Fn P f args C (ret ψ) w := fun hw =>
  (h hw).mono fun en _ ⟨H', h1, h2⟩ => by
    cases en with
    | returned v =>
      obtain ⟨H2, F, e1, e2⟩ := e v H' h1
      exact ⟨H2, e2, (h2.eqv e1).left⟩
    | panicked ch => exact h1.elim
    | outgrown => exact h1.elim
theorem eqv_big (l F : List Chunk) : Eqv (big l :: F) (l ++ F) := by
  refine ⟨by rw [fps_append]; exact .refl _, fun w h c hc => ?_, fun w h c hc => ?_⟩
  · rcases List.mem_append.1 hc with hc | hc
    · exact h (big l) (by simp) c hc
    · exact h c (by simp [hc])
  · rcases List.mem_cons.1 hc with rfl | hc
    · exact fun d hd => h d (by simp [hd])
    · exact h c (by simp [hc])
section
variable {X : Cx} {Q : Post} {E : Env} {H H' : List Chunk} {ops : Array Oper} {rest : List Oper}
theorem vl_eqv (e : Eqv H H') (h : VL X ops rest Q E H') : VL X ops rest Q E H := fun a w ha hw => h a w ha (hw.eqv e)
theorem readsM_old {A : Option Addr} {vs : List Value} {C F : List Chunk} {w : World} (h : ReadsM X.w0 X.M A vs) (hs : Sub C H F) (hw : Holds X.w0 X.M H w) : ReadsM w (fps C) A vs := by
  intro j u hu
  obtain ⟨x, rfl, hm, hx⟩ := h j u hu
  have hlt := World.block_lt_of_cell? _ _ hx
  refine ⟨x, rfl, fun hc => ?_, ?_⟩
  · have := (hw.perm hs.perm).mine _ (by rw [fps_append]; exact List.mem_append_left _ hc)
    rcases this.2 with h | h
    · exact hm h
    · omega
  · rw [World.cell?_of_block (w := X.w0) (hw.old _ hlt hm)]; exact hx
theorem Reads.m {w : World} {A : Option Addr} {vs : List Value} (h : Reads w A vs) : ReadsM w [] A vs := fun j u hu => by
  obtain ⟨x, e, hx⟩ := h j u hu
  exact ⟨x, e, by simp, hx⟩
end
end Go.Proofs.Ytclnhfdgiaamhaa.K
