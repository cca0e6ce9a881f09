/- A framework of our own for walks over the model: Kg. -/
/-
  Plain facts on the order of floats of 64 bits: it is that of their signed lower bits. No program in sight.
-/
import Derived.Test.YtclnhfdgiaamhaaKf
import Ieee.Arith
namespace Go.Proofs.Ytclnhfdgiaamhaa.K
open Go Go.RowKit
set_option linter.unusedVariables false
set_option linter.unusedSimpArgs false

/-- The lower 63 bits; the sign bit; is it a NaN; the signed number that stands as the float does. -/
def rg (x : Nat) : Nat := x % 9223372036854775808
def isN (x : Nat) : Prop := 9218868437227405312 < rg x
instance (x : Nat) : Decidable (isN x) := inferInstanceAs (Decidable (_ < _))
end Go.Proofs.Ytclnhfdgiaamhaa.K
