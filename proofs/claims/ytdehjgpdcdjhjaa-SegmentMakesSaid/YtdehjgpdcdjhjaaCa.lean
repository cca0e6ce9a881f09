/- A framework of our own for walks over the model: Ca. -/
import Derived.Test.YtdehjgpdcdjhjaaKy
namespace Go.Proofs.Ytdehjgpdcdjhjaa.K
open Go Go.RowKit
set_option linter.unusedVariables false
set_option linter.unusedSimpArgs false
theorem bcells_at {l : List UInt8} {i : Nat} (h : i < l.length) : (bcells l)[Int.toNat (i : Int) * 1]? = some (.int .u8 (l.getD i 0).toNat) := by
  rw [Int.toNat_natCast, Nat.mul_one]; exact bcells_get h
theorem icells_at {k : IntKind} {l : List Int} {i : Nat} (h : i < l.length) : (icells k l)[Int.toNat (i : Int) * 1]? = some (.int k (l.getD i 0)) := by
  rw [Int.toNat_natCast, Nat.mul_one]; exact icells_get h
theorem tcells_at {l : List Bool} {i : Nat} (h : i < l.length) : (tcells l)[Int.toNat (i : Int) * 1]? = some (.bool (l.getD i false)) := by
  rw [Int.toNat_natCast, Nat.mul_one]; exact tcells_get h
/-! the cells of numbers without a sign -/
def ucells (l : List Nat) : List Value := l.map fun n : Nat => Value.int .u64 (n : Int)
theorem ucells_get {l : List Nat} {i : Nat} (h : i < l.length) : (ucells l)[i]? = some (.int .u64 (l.getD i 0 : Nat)) := cells_get (fun n : Nat => Value.int .u64 (n : Int)) l 0 h
theorem ucells_at {l : List Nat} {i : Nat} (h : i < l.length) : (ucells l)[Int.toNat (i : Int) * 1]? = some (.int .u64 (l.getD i 0 : Nat)) := by
  rw [Int.toNat_natCast, Nat.mul_one]; exact ucells_get h
theorem ucells_length (l : List Nat) : (ucells l).length = l.length := by simp [ucells]
theorem tcells_length (l : List Bool) : (tcells l).length = l.length := by simp [tcells]
theorem one_b (l : List UInt8) : (bcells l).all (·.oneCell') = true := by simp [bcells, List.all_map]; intros; rfl
theorem one_u (l : List Nat) : (ucells l).all (·.oneCell') = true := by simp [ucells, List.all_map]; intros; rfl
theorem one_i {k : IntKind} (l : List Int) : (icells k l).all (·.oneCell') = true := by simp [icells, List.all_map]; intros; rfl
theorem one_t (l : List Bool) : (tcells l).all (·.oneCell') = true := List.all_eq_true.2 fun v hv => by obtain ⟨b, _, rfl⟩ := List.mem_map.1 hv; rfl
theorem rdw {X : Cx} {H : List Chunk} {A : Option Addr} {vs : List Value} {w : World} (h : Rd X H A vs) (hw : Holds X.w0 X.M H w) : Reads w A vs := h w hw
end Go.Proofs.Ytdehjgpdcdjhjaa.K
