/- A framework of our own for walks over the model: Mf. -/
import Derived.Laws.Externs
import Derived.Test.YtclknendeeljaaaDoorFb
import Derived.Test.YtclknendeeljaaaDoorMe
import Derived.Test.YtclknendeeljaaaDoorKh
namespace Go.Proofs.YtclknendeeljaaaDoor.K
open Go Go.RowKit
set_option linter.unusedVariables false
set_option linter.unusedSimpArgs false
/-! ### Numbers of 128 bits: two halves -/
def hW (x : Int) : Int := (x / 18446744073709551616 + 9223372036854775808) % 18446744073709551616 - 9223372036854775808
def hP (x : Int) : Int := x / 18446744073709551616 % 18446744073709551616
def lW (x : Int) : Int := x % 18446744073709551616
abbrev wV (x : Int) : Value := .agg #[.int .i64 (hW x), .int .u64 (lW x)]
abbrev pV (x : Int) : Value := .agg #[.int .u64 (hP x), .int .u64 (lW x)]
def inW (x : Int) : Prop := -170141183460469231731687303715884105728 ≤ x ∧ x < 170141183460469231731687303715884105728
instance (x : Int) : Decidable (inW x) := by unfold inW; infer_instance
def inI (x : Int) : Prop := -9223372036854775808 ≤ x ∧ x < 9223372036854775808
instance (x : Int) : Decidable (inI x) := by unfold inI; infer_instance
theorem hP_b (x : Int) : 0 ≤ hP x ∧ hP x < 18446744073709551616 := by unfold hP; omega
theorem lW_b (x : Int) : 0 ≤ lW x ∧ lW x < 18446744073709551616 := by unfold lW; omega
theorem w_mod64 (x : Int) : IntKind.u64.wrap x = x % 18446744073709551616 := by unfold IntKind.wrap; simp [IntKind.signed, IntKind.bits]
theorem w_smod64 (x : Int) : IntKind.i64.wrap x = (x + 9223372036854775808) % 18446744073709551616 - 9223372036854775808 := by
  unfold IntKind.wrap; simp [IntKind.signed, IntKind.bits]; omega
theorem hP_of (x : Int) : IntKind.u64.wrap (hW x) = hP x := by rw [w_mod64]; unfold hW hP; omega
theorem hW_of (x : Int) : IntKind.i64.wrap (hP x) = hW x := by rw [w_smod64]; unfold hW hP; omega
theorem hW_neg (x : Int) : hW x < 0 ↔ 9223372036854775808 ≤ hP x := by unfold hW hP; omega
theorem hW_in {x : Int} (h : inW x) : hW x = x / 18446744073709551616 := by unfold inW at h; unfold hW; omega
theorem neg_in {x : Int} (h : inW x) : hW x < 0 ↔ x < 0 := by rw [hW_in h]; omega
theorem add_lo (x y : Int) : (lW x + lW y) % 18446744073709551616 = lW (x + y) := by unfold lW; omega
theorem add_hi (x y : Int) : (hP x + hP y + (lW x + lW y) / 18446744073709551616) % 18446744073709551616 = hP (x + y) := by unfold hP lW; omega
theorem sub_lo (x y : Int) : (lW x - lW y) % 18446744073709551616 = lW (x - y) := by unfold lW; omega
theorem sub_hi (x y : Int) : (hP x - hP y - (if lW x < lW y then 1 else 0)) % 18446744073709551616 = hP (x - y) := by unfold hP lW; split <;> omega
theorem fdiv63 {n : Int} (h : inI n) : n / 9223372036854775808 = hW n := by unfold inI at h; unfold hW; omega
end Go.Proofs.YtclknendeeljaaaDoor.K
