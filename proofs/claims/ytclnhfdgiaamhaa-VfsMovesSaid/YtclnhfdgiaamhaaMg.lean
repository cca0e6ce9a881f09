/- A framework of our own for walks over the model: Mg. -/
import Derived.Test.YtclnhfdgiaamhaaMf
import Derived.Test.YtclnhfdgiaamhaaCe
namespace Go.Proofs.Ytclnhfdgiaamhaa.K
open Go Go.RowKit
set_option linter.unusedVariables false
set_option linter.unusedSimpArgs false
/-! ### Digits -/
abbrev sL (l : List UInt8) : ByteArray := ⟨l.toArray⟩
/-! texts as lists -/
theorem sL_size (l : List UInt8) : (sL l).size = l.length := by simp [ByteArray.size]
theorem sL_eta (s : ByteArray) : sL s.data.toList = s := by simp [sL]
theorem sL_inj {a b : List UInt8} : sL a = sL b ↔ a = b := ⟨fun h => by simpa [sL] using h, fun h => by rw [h]⟩
section
variable {X : Cx} {E : Env} {H : List Chunk}
end
end Go.Proofs.Ytclnhfdgiaamhaa.K
