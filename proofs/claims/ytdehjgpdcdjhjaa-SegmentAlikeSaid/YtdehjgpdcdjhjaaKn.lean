/- A framework of our own for walks over the model: Kn. -/
import Derived.Test.YtdehjgpdcdjhjaaKd
namespace Go.Proofs.Ytdehjgpdcdjhjaa.K
open Go Go.RowKit
set_option linter.unusedVariables false
set_option linter.unusedSimpArgs false
/-! Values of several cells, built. -/
variable {X : Cx} {E : Env} {H : List Chunk}
theorem val_buildArr {T e ty sz n : Nat} {z : Value} {ps : Array (Nat × Operand)} {us : List Value} {cs : Array Value} (hu : ∀ w, (underlying T).run X.P w = .ok (.array n e) w) (hz : ∀ w, (zeroValue T).run X.P w = .ok z w)
    (hs : ∀ w, (sizeOf e).run X.P w = .ok sz w) (hx : E.evs (ps.toList.map (·.2)) = some us) (hf : Instr.fill (fun i => some (i * sz, sz)) z.cells ((ps.toList.map (·.1)).zip us) = some cs) : Val X E H (.build T ps) ty (.agg cs) := by
  intro ac w o ho _ ha hw
  have hparts : (ps.map fun p => (p.1, ac.eval p.2)).toList = (ps.toList.map (·.1)).zip us := by
    rw [Array.toList_map]
    exact evs_zip ha _ _ hx
  simp [execOp, ho, Instr.build, hu, hz, hs]
  simp at hparts
  rw [hparts, hf]
  simp
theorem val_buildSt {T ty : Nat} {z : Value} {fs : Array Field} {pl : Array (Nat × Nat)} {ps : Array (Nat × Operand)} {us : List Value} {cs : Array Value} (hu : ∀ w, (underlying T).run X.P w = .ok (.struct fs) w) (hz : ∀ w, (zeroValue T).run X.P w = .ok z w)
    (hp : ∀ w, (fs.mapM fun f => (do pure (f.offset, ← sizeOf f.type) : Sem (Nat × Nat))).run X.P w = .ok pl w) (hx : E.evs (ps.toList.map (·.2)) = some us) (hf : Instr.fill (pl[·]?) z.cells ((ps.toList.map (·.1)).zip us) = some cs) : Val X E H (.build T ps) ty (.agg cs) := by
  intro ac w o ho _ ha hw
  have hparts : (ps.map fun p => (p.1, ac.eval p.2)).toList = (ps.toList.map (·.1)).zip us := by
    rw [Array.toList_map]
    exact evs_zip ha _ _ hx
  have hp' := hp w
  simp only [execOp, ho, Instr.build, Sem.run_bind, hu, hz, Result.andThen_ok] at hp' ⊢
  rw [hp']
  simp only [Result.andThen_ok]
  rw [hparts, hf]
  simp
end Go.Proofs.Ytdehjgpdcdjhjaa.K
