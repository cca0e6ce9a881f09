/- A framework of our own for walks over the model: Mb. -/
import Derived.Test.YtdehjgpdcdjhjaaKr
import Derived.Test.YtdehjgpdcdjhjaaKt
import Derived.Test.YtdehjgpdcdjhjaaCa
import Derived.Lib.AppendZerosOnto
import Derived.Lib.Overlaps
namespace Go.Proofs.Ytdehjgpdcdjhjaa.K
open Go Go.RowKit
set_option linter.unusedVariables false
set_option linter.unusedSimpArgs false
/-! ### Chunks under one name; the same memory in other pieces -/
def big (l : List Chunk) : Chunk := ⟨fps l, fun w => ∀ c ∈ l, c.A w, fun w w' h hA c hc => c.loc w w' (fun b hb => h b (List.mem_flatMap.2 ⟨c, hc, hb⟩)) (hA c hc)⟩
structure Eqv (H H' : List Chunk) : Prop where
  fp : (fps H).Perm (fps H')
  to : ∀ w, (∀ c ∈ H, c.A w) → ∀ c ∈ H', c.A w
  back : ∀ w, (∀ c ∈ H', c.A w) → ∀ c ∈ H, c.A w
theorem Eqv.symm {H H' : List Chunk} (e : Eqv H H') : Eqv H' H := ⟨e.fp.symm, e.back, e.to⟩
theorem Eqv.trans {H H' H2 : List Chunk} (e : Eqv H H') (e2 : Eqv H' H2) : Eqv H H2 := ⟨e.fp.trans e2.fp, fun w h => e2.to w (e.to w h), fun w h => e.back w (e2.back w h)⟩
theorem Eqv.refl (H : List Chunk) : Eqv H H := ⟨.refl _, fun _ h => h, fun _ h => h⟩
theorem Eqv.perm {H H' : List Chunk} (p : H.Perm H') : Eqv H H' := ⟨fps_perm p, fun _ h c hc => h c (p.mem_iff.2 hc), fun _ h c hc => h c (p.mem_iff.1 hc)⟩
theorem Eqv.app {H H' : List Chunk} (e : Eqv H H') (F : List Chunk) : Eqv (H ++ F) (H' ++ F) := by
  refine ⟨by rw [fps_append, fps_append]; exact e.fp.append_right _, fun w h c hc => ?_, fun w h c hc => ?_⟩
  · rcases List.mem_append.1 hc with hc | hc
    · exact e.to w (fun d hd => h d (by simp [hd])) c hc
    · exact h c (by simp [hc])
  · rcases List.mem_append.1 hc with hc | hc
    · exact e.back w (fun d hd => h d (by simp [hd])) c hc
    · exact h c (by simp [hc])
theorem Eqv.cons {H H' : List Chunk} (d : Chunk) (e : Eqv H H') : Eqv (d :: H) (d :: H') := by
  refine ⟨e.fp.append_left _, fun w h c hc => ?_, fun w h c hc => ?_⟩
  · rcases List.mem_cons.1 hc with rfl | hc
    · exact h _ (by simp)
    · exact e.to w (fun d hd => h d (by simp [hd])) c hc
  · rcases List.mem_cons.1 hc with rfl | hc
    · exact h _ (by simp)
    · exact e.back w (fun d hd => h d (by simp [hd])) c hc
theorem Holds.eqv {w0 w : World} {M : List Nat} {H H' : List Chunk} (h : Holds w0 M H w) (e : Eqv H H') : Holds w0 M H' w :=
  ⟨e.to w h.chunk, e.fp.nodup_iff.1 h.nodup, fun b hb => h.mine b (e.fp.mem_iff.2 hb), h.size, h.old, h.os, h.tape, h.output⟩
theorem Holds.mem {w0 w : World} {M M' : List Nat} {H : List Chunk} (h : Holds w0 M H w) (e : ∀ b, b ∈ M ↔ b ∈ M') : Holds w0 M' H w :=
  ⟨h.chunk, h.nodup, fun b hb => ⟨(h.mine b hb).1, by rw [← e]; exact (h.mine b hb).2⟩, h.size, fun b hb hm => h.old b hb (by rw [e]; exact hm), h.os, h.tape, h.output⟩
theorem Fn.eqv {P : Program} {f : FuncId} {args : List Value} {C C' : List Chunk} {R : Ending → List Chunk → Prop} {w : World} (h : Fn P f args C' R w) (e : Eqv C C') : Fn P f args C R w := fun hw =>
  (h ((hw.eqv e).mem fun b => e.fp.mem_iff)).mono fun _ _ ⟨H', h1, h2⟩ => ⟨H', h1, h2.mem fun b => e.fp.symm.mem_iff⟩
theorem Fn.out {P : Program} {f : FuncId} {args : List Value} {C : List Chunk} {φ ψ : Value → List Chunk → Prop} {w : World} (h : Fn P f args C (ret φ) w) (e : ∀ v H, φ v H → ∃ H' F, Eqv H (H' ++ F) ∧ ψ v H') : Fn P f args C (ret ψ) w := fun hw =>
  (h hw).mono fun en _ ⟨H', h1, h2⟩ => by
    cases en with
    | returned v =>
      obtain ⟨H2, F, e1, e2⟩ := e v H' h1
      exact ⟨H2, e2, (h2.eqv e1).left⟩
    | panicked ch => exact h1.elim
    | outgrown => exact h1.elim
theorem eqv_big (l F : List Chunk) : Eqv (big l :: F) (l ++ F) := by
  refine ⟨by rw [fps_append]; exact .refl _, fun w h c hc => ?_, fun w h c hc => ?_⟩
  · rcases List.mem_append.1 hc with hc | hc
    · exact h (big l) (by simp) c hc
    · exact h c (by simp [hc])
  · rcases List.mem_cons.1 hc with rfl | hc
    · exact fun d hd => h d (by simp [hd])
    · exact h c (by simp [hc])
section
variable {X : Cx} {Q : Post} {E : Env} {H H' : List Chunk} {ops : Array Oper} {rest : List Oper}
theorem vl_eqv (e : Eqv H H') (h : VL X ops rest Q E H') : VL X ops rest Q E H := fun a w ha hw => h a w ha (hw.eqv e)
/-- Memory beside what a callee is given reads the same in it. -/
theorem readsM_in {A : Option Addr} {vs : List Value} {C F : List Chunk} {c : Chunk} {w : World} (hs : Sub C H F) (hc : In c F) (hr : ∀ w, c.A w → ∀ j u, vs[j]? = some u → ∃ x, A = some x ∧ (x.add j).block ∈ c.fp ∧ w.cell? (x.add j) = some u) (hw : Holds X.w0 X.M H w) : ReadsM w (fps C) A vs := by
  have hp := hw.perm hs.perm
  have hnd := hp.nodup
  rw [fps_append] at hnd
  intro j u hu
  obtain ⟨x, rfl, hx, hcell⟩ := hr w (hp.chunk c (by simp [hc.mem])) j u hu
  refine ⟨x, rfl, fun hm => ?_, hcell⟩
  exact (List.nodup_append.1 hnd).2.2 _ hm _ (List.mem_flatMap.2 ⟨c, hc.mem, hx⟩) rfl
theorem readsM_sl {A : Option Addr} {n c sz : Nat} {e : TypeId} {vs : List Value} {C F : List Chunk} {w : World} (hs : Sub C H F) (hc : In (sl A n c e sz vs) F) (hw : Holds X.w0 X.M H w) : ReadsM w (fps C) A vs := by
  refine readsM_in hs hc (fun w hA j u hu => ?_) hw
  have hA : w.ownsRow 0 e sz (.slice A n c) n vs := hA
  obtain ⟨x, rfl, hx⟩ := reads_own hA j u hu
  exact ⟨x, rfl, by simp only [sl, ownFp, List.mem_singleton, Addr.add]; split <;> rfl, hx⟩
theorem readsM_old {A : Option Addr} {vs : List Value} {C F : List Chunk} {w : World} (h : ReadsM X.w0 X.M A vs) (hs : Sub C H F) (hw : Holds X.w0 X.M H w) : ReadsM w (fps C) A vs := by
  intro j u hu
  obtain ⟨x, rfl, hm, hx⟩ := h j u hu
  have hlt := World.block_lt_of_cell? _ _ hx
  refine ⟨x, rfl, fun hc => ?_, ?_⟩
  · have := (hw.perm hs.perm).mine _ (by rw [fps_append]; exact List.mem_append_left _ hc)
    rcases this.2 with h | h
    · exact hm h
    · omega
  · rw [World.cell?_of_block (w := X.w0) (hw.old _ hlt hm)]; exact hx
theorem Reads.m {w : World} {A : Option Addr} {vs : List Value} (h : Reads w A vs) : ReadsM w [] A vs := fun j u hu => by
  obtain ⟨x, e, hx⟩ := h j u hu
  exact ⟨x, e, by simp, hx⟩
/-- A big chunk's rows read. -/
theorem rd_big {l : List Chunk} {A : Option Addr} {n c sz : Nat} {e : TypeId} {vs : List Value} (h : In (big l) H) (hm : sl A n c e sz vs ∈ l) : Rd X H A vs := fun w hw =>
  reads_own (n := n) (c := c) (e := e) (sz := sz) (hw.chunk _ h.mem _ hm)
end
theorem flat_atM {α : Type} {f : α → List Value} {m : Nat} (hm : ∀ a, (f a).length = m) (d : α) : ∀ (l : List α) (i : Nat), i < l.length → ((l.flatMap f).drop (i * m)).take m = f (l.getD i d)
  | [], i, h => absurd h (by simp)
  | a :: l, 0, _ => by
    rw [Nat.zero_mul, List.drop_zero, List.flatMap_cons, List.take_append_of_le_length (by rw [hm]; omega), List.take_of_length_le (by rw [hm]; omega)]
    rfl
  | a :: l, i + 1, h => by
    rw [List.flatMap_cons, List.drop_append, List.drop_of_length_le (by rw [hm, Nat.add_mul]; omega), hm, Nat.add_mul, Nat.one_mul, Nat.add_sub_cancel, List.nil_append]
    exact flat_atM hm d l i (by simpa using h)
end Go.Proofs.Ytdehjgpdcdjhjaa.K
