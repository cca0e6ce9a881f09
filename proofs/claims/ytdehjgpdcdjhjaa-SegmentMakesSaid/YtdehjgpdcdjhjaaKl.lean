/- A framework of our own for walks over the model: Kl. -/
import Derived.Test.YtdehjgpdcdjhjaaKk
namespace Go.Proofs.Ytdehjgpdcdjhjaa.K
open Go Go.RowKit
set_option linter.unusedVariables false
set_option linter.unusedSimpArgs false
theorem bytes_ext {s t : ByteArray} (h : s.data.toList = t.data.toList) : s = t := by
  obtain ⟨⟨x⟩⟩ := s
  obtain ⟨⟨y⟩⟩ := t
  simpa using h
end Go.Proofs.Ytdehjgpdcdjhjaa.K
