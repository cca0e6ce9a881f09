/- A framework of our own for walks over the model: Ky. -/
import Derived.Test.YtdehjgpdcdjhjaaKx
import Derived.OrdersIn
namespace Go.Proofs.Ytdehjgpdcdjhjaa.K
open Go Go.RowKit
set_option linter.unusedVariables false
set_option linter.unusedSimpArgs false
theorem Holds.reM {w0 w : World} {M M' : List Nat} {H : List Chunk} (h : Holds w0 M H w) (hm : ∀ b, b ∈ M ↔ b ∈ M') : Holds w0 M' H w :=
  ⟨h.chunk, h.nodup, fun b hb => by rw [← hm]; exact h.mine b hb, h.size, fun b hb hn => h.old b hb (fun hh => hn ((hm b).1 hh)), h.os, h.tape, h.output⟩
theorem Fn.perm {P : Program} {f : FuncId} {args : List Value} {C C' : List Chunk} {R : Ending → List Chunk → Prop} {w : World} (p : C.Perm C') (h : Fn P f args C R w) : Fn P f args C' R w := fun hw => by
  have hm : ∀ b, b ∈ fps C ↔ b ∈ fps C' := fun b => (fps_perm p).mem_iff
  exact (h ((hw.perm p.symm).reM (fun b => (hm b).symm))).mono fun e w' ⟨H', h1, h2⟩ => ⟨H', h1, h2.reM hm⟩
section
variable {X : Cx} {Q : Post} {E : Env} {H : List Chunk} {ops : Array Oper} {rest : List Oper}
end
/-! Drawn regions in a round -/
theorem Free.op {F : Fence} (h : Free F) {n : Nat} {P : Program} {ops : Array Oper} {Q : Exit → Act → World → Prop} (hno : ¬ LetsOut Q) (hd : ∀ (i : Nat) (o : Oper), ops[i]? = some o → noDefer o = true) {i : Nat} {K : Act → World → Prop} {a : Act} {w : World} (hq : wpOp P ops Q i K a w) : wpOpIn F n P ops Q i K a w := by
  unfold wpOp at hq
  unfold wpOpIn
  cases ho : ops[i]? with
  | none => simpa [ho] using hq
  | some o =>
    simp only [ho] at hq ⊢
    split
    · rename_i hw
      rw [if_pos hw] at hq
      rcases hq with hq | ⟨_, hq⟩
      · refine ⟨fun f _ => h.fn f, ?_⟩
        rw [Oper.semAt_eq _ _ _ (noDefer_ne (hd i o ho))]
        exact h.upon hq
      · exact absurd hq hno
    · rename_i hw
      rw [if_neg hw] at hq
      exact ⟨fun f _ => h.fn f, hq⟩
theorem Free.any {F : Fence} (h : Free F) {n : Nat} {P : Program} {md : Region.Mode} {ops : Array Oper} {Q : Exit → Act → World → Prop} (hno : ¬ LetsOut Q) (hd : ∀ (i : Nat) (o : Oper), ops[i]? = some o → noDefer o = true) :
    ∀ (fuel : Nat) (listed : Array Bool) (a : Act) (w : World), wpAny P md ops Q fuel listed a w → wpAnyIn F n P md ops Q fuel listed a w
  | 0, _, _, _, hq => hq
  | fuel + 1, _, _, _, hq => ⟨hq.1, fun i hi => h.op hno hd (wpOp_mono (fun a' w' h' => Free.any h hno hd fuel _ a' w' h') (hq.2 i hi))⟩
/-! The frames of one function: more rules -/
section
variable {X : Cx} {f : FuncId} {B : Exit → Act → World → Prop} {E : Env} {H : List Chunk}
end
end Go.Proofs.Ytdehjgpdcdjhjaa.K
