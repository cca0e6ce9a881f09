/- A framework of our own for walks over the model: Kt. -/
import Derived.Test.YtclknendeeljaaaDoorKr
namespace Go.Proofs.YtclknendeeljaaaDoor.K
open Go Go.RowKit
set_option linter.unusedVariables false
set_option linter.unusedSimpArgs false
/-- Memory that is older than the call, and not handed to it to write. -/
def ReadsM (w : World) (M : List Nat) (A : Option Addr) (vs : List Value) : Prop := ∀ j u, vs[j]? = some u → ∃ x, A = some x ∧ (x.add j).block ∉ M ∧ w.cell? (x.add j) = some u
theorem rd_oldM {X : Cx} {H : List Chunk} {A : Option Addr} {vs : List Value} (h : ReadsM X.w0 X.M A vs) : Rd X H A vs := by
  intro w hw j u hu
  obtain ⟨x, rfl, hx, hc⟩ := h j u hu
  exact ⟨x, rfl, cell_old hc hx w hw⟩
theorem reads_callee {X : Cx} {H C F : List Chunk} {A : Option Addr} {vs : List Value} {w : World} (h : Reads X.w0 A vs) (hm : X.M = []) (hs : Sub C H F) (hw : Holds X.w0 X.M H w) : ReadsM w (fps C) A vs := by
  intro j u hu
  obtain ⟨x, rfl, hc⟩ := h j u hu
  have hlt := World.block_lt_of_cell? _ _ hc
  refine ⟨x, rfl, fun hb => ?_, ?_⟩
  · have := (hw.mine (x.add j).block ((fps_perm hs.perm).mem_iff.2 (by rw [fps_append]; simp [hb]))).2
    rw [hm] at this
    rcases this with h | h
    · simp at h
    · omega
  · obtain ⟨y, e, hy⟩ := rd_old (X := X) (H := H) h hm w hw j u hu
    cases e
    exact hy
end Go.Proofs.YtclknendeeljaaaDoor.K
