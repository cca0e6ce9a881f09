/- A framework of our own for walks over the model: Mj. -/
import Derived.Test.YtdehjgpdcdjhjaaDoorKs
namespace Go.Proofs.YtdehjgpdcdjhjaaDoor.K
open Go Go.RowKit
set_option linter.unusedVariables false
set_option linter.unusedSimpArgs false
theorem weights_field {H : Type} {P : Program} {fs : Array Field} {k : Nat} {f : Field} {parts : List (DataW H)} {d : DataW H} (hf : fs[k]? = some f) (hd : parts[k]? = some d) : ∀ n ∈ d.weights P f.type, n ∈ DataW.weightsEach P (fs.toList.map (·.type)) parts :=
  DataW.weights_mem_each (by simp [hf]) hd
/-- A slice that is a field of an argument is no longer than its weight allows. -/
theorem sized_field {H : Type} {enc : TypeId × Value → H} {P : Program} {W : World} {base : Nat} {spare : Nat → Bool} {held : Bool} {t e : TypeId} {a : Option Addr} {len cap : Nat} {d : DataW H} {ps : List MemPlace} {ts : List TypeId} {ds : List (DataW H)} {j k fuel : Nat} {fs : Array Field} {f : Field} {cs : List Value}
    (hsz : (DataW.weightsEach P ts ds).all (· ≤ reachBytes) = true) (ht : ts[j]? = some t) (hd : ds[j]? = some d) (hu : P.underlying t = some (.struct fs)) (hf : fs[k]? = some f) (hue : P.underlying f.type = some (.slice e)) {B : Nat} (hB : P.bytesOf e = B)
    (h : DataW.trod enc P W base spare held fuel t cs = some (d, ps)) (hc : (cs.drop f.offset).take (P.cellsOf f.type) = [.slice a len cap]) : len * B ≤ 140737488351232 := by
  obtain ⟨xs, n, rfl, hx, hlen, hxl, hall⟩ := DataW.trod_struct hu h
  obtain ⟨hd2, _⟩ := Prod.mk.inj hx
  have h1 := hall k f hf
  rw [hc] at h1
  have hk : k < fs.size := (Array.getElem?_eq_some_iff.1 hf).1
  have hxk : xs[k]? = some (xs[k]'(by omega)) := List.getElem?_eq_getElem _
  rw [hxk] at h1
  rcases DataW.trod_slice hue h1 with ⟨hcs, _⟩ | ⟨a', len', cap', elems, rest, m, _, hcs, hx2, _, _, _, hl2, _⟩
  · simp at hcs
    obtain ⟨rfl, rfl, rfl⟩ := hcs
    simp
  · simp at hcs
    obtain ⟨rfl, rfl, rfl⟩ := hcs
    have hx3 := congrArg Prod.fst hx2
    simp only at hx3
    have hw : (len + rest.length) * P.bytesOf e ∈ DataW.weights P t d := by
      rw [hd2]
      simp only [DataW.weights, hu]
      refine weights_field hf (d := (xs[k]'(by omega)).1) (by simp [hxk]) _ ?_
      rw [hx3]
      simp [DataW.weights, hue, hl2]
    have z := List.all_eq_true.1 hsz _ (DataW.weights_mem_each ht hd _ hw)
    have z2 : (len + rest.length) * P.bytesOf e ≤ 140737488351232 := of_decide_eq_true z
    rw [hB] at z2
    exact Nat.le_trans (Nat.mul_le_mul_right _ (Nat.le_add_right _ _)) z2
end Go.Proofs.YtdehjgpdcdjhjaaDoor.K
