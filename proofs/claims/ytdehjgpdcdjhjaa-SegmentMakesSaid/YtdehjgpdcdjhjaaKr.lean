/- A framework of our own for walks over the model: Kr. -/
import Derived.Test.YtdehjgpdcdjhjaaKq
namespace Go.Proofs.Ytdehjgpdcdjhjaa.K
open Go Go.RowKit
set_option linter.unusedVariables false
set_option linter.unusedSimpArgs false
section
variable {X : Cx} {E : Env} {H : List Chunk} {Q : Post} {ops : Array Oper} {rest : List Oper}
theorem vl_lit0 {fE : Value → Env} {o : Oper} {T e sz by_ : Nat} {z : Value} (ht : SlT X.P T e sz by_ z) (hs : ∀ w, (sizeOf e).run X.P w = .ok sz w) (ho : o.op = .buildSlice T 0 #[]) (hg : o.guard = none) (hd : DstF X E o.dst fE)
    (h : ∀ r, VL X ops rest Q (fE (.slice (some ⟨r, 0, none⟩) 0 0)) (sl (some ⟨r, 0, none⟩) 0 0 e sz [] :: H)) : VL X ops (o :: rest) Q E H := by
  intro a w ha hw
  refine wpList_plain hg fun K hK => ?_
  unfold Oper.wp
  obtain ⟨i, hi2, hz, hsz, hby⟩ := ht.i
  have hss : (sizeOf e).run X.P w = .ok sz w := hs w
  have : (execOp a.eval o).run X.P w = .ok (.value (.slice (some ⟨w.heap.size, 0, none⟩) 0 0)) (w.alloc (.cells #[] e)) := by
    simp [execOp, ho, Instr.buildSlice, run_underlying ht.u, hss, Instr.fill, newRow]
    rw [show Array.map (fun _ => (default : Value)) (Array.range 0) = #[] from Array.eq_empty_of_size_eq_zero (by simp)]
  rw [this]
  refine hK _ _ (h w.heap.size _ _ (ha.setF hd) (hw.alloc _ ?_ rfl))
  refine ⟨by simp, .inr ⟨w.heap.size, 0, #[], rfl, Nat.zero_le _, ?_, Nat.le_refl _, Nat.zero_le _, by simp, by simp⟩⟩
  exact heap_alloc_new w _
end
end Go.Proofs.Ytdehjgpdcdjhjaa.K
