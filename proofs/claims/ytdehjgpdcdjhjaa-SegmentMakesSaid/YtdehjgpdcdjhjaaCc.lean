/- A framework of our own for walks over the model: Cc. -/
import Derived.Test.YtdehjgpdcdjhjaaCb
namespace Go.Proofs.Ytdehjgpdcdjhjaa.K
open Go Go.RowKit
set_option linter.unusedVariables false
set_option linter.unusedSimpArgs false
structure RS where
  acc : List Nat
  last : Nat
  half : Bool
end Go.Proofs.Ytdehjgpdcdjhjaa.K
