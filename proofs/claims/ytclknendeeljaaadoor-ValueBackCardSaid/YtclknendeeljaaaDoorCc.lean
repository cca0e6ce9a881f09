/- A framework of our own for walks over the model: Cc. -/
import Derived.Test.YtclknendeeljaaaDoorCb
namespace Go.Proofs.YtclknendeeljaaaDoor.K
open Go Go.RowKit
set_option linter.unusedVariables false
set_option linter.unusedSimpArgs false
theorem reads_cutB {w : World} {A : Option Addr} {b : List UInt8} {c n : Nat} (h : Reads w A (bcells b)) (hc : b.length ≤ c) : Reads w (cutA A c n 1) (bcells (b.drop n)) := by
  rw [← bdrop]; exact h.cut (by rw [bcells_length]; omega)
end Go.Proofs.YtclknendeeljaaaDoor.K
