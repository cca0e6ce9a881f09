/- A framework of our own for walks over the model: Mj. -/
import Derived.Test.YtdehjgpdcdjhjaaKs
namespace Go.Proofs.Ytdehjgpdcdjhjaa.K
open Go Go.RowKit
set_option linter.unusedVariables false
set_option linter.unusedSimpArgs false
theorem weights_field {H : Type} {P : Program} {fs : Array Field} {k : Nat} {f : Field} {parts : List (DataW H)} {d : DataW H} (hf : fs[k]? = some f) (hd : parts[k]? = some d) : ∀ n ∈ d.weights P f.type, n ∈ DataW.weightsEach P (fs.toList.map (·.type)) parts :=
  DataW.weights_mem_each (by simp [hf]) hd
end Go.Proofs.Ytdehjgpdcdjhjaa.K
