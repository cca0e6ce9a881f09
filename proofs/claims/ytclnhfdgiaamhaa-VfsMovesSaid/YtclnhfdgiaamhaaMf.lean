/- A framework of our own for walks over the model: Mf. -/
import Derived.Laws.Externs
import Derived.Test.YtclnhfdgiaamhaaFb
import Derived.Test.YtclnhfdgiaamhaaMe
import Derived.Test.YtclnhfdgiaamhaaKh
namespace Go.Proofs.Ytclnhfdgiaamhaa.K
open Go Go.RowKit
set_option linter.unusedVariables false
set_option linter.unusedSimpArgs false
/-! ### Numbers of 128 bits: two halves -/
def hW (x : Int) : Int := (x / 18446744073709551616 + 9223372036854775808) % 18446744073709551616 - 9223372036854775808
def inW (x : Int) : Prop := -170141183460469231731687303715884105728 ≤ x ∧ x < 170141183460469231731687303715884105728
instance (x : Int) : Decidable (inW x) := by unfold inW; infer_instance
def inI (x : Int) : Prop := -9223372036854775808 ≤ x ∧ x < 9223372036854775808
instance (x : Int) : Decidable (inI x) := by unfold inI; infer_instance
end Go.Proofs.Ytclnhfdgiaamhaa.K
