/- A framework of our own for walks over the model: Mk. -/
import Derived.Test.YtdehjgpdcdjhjaaKw
import Derived.Test.YtdehjgpdcdjhjaaKv
import Derived.Test.YtdehjgpdcdjhjaaKr
import Derived.Test.YtdehjgpdcdjhjaaCb
import Derived.Laws.MakeOwn
namespace Go.Proofs.Ytdehjgpdcdjhjaa.K
open Go Go.RowKit
set_option linter.unusedVariables false
set_option linter.unusedSimpArgs false
section
variable {X : Cx} {Q : Post} {E : Env} {H : List Chunk} {ops : Array Oper} {rest : List Oper}
/-- make([]T, 0, n): a row of its own, with nothing in it. -/
theorem vl_make0 {fE : Value → Env} {o : Oper} {T e sz by_ : Nat} {z : Value} {x y : Operand} {k j : IntKind} {n : Nat} {p q : Int} (ht : SlT X.P T e sz by_ z)
    (ho : o.op = .makeSlice T x y) (hg : o.guard = none) (hd : DstF X E o.dst fE) (hx : E.ev x = some (.int k p)) (hp : p = 0) (hy : E.ev y = some (.int j q)) (hq : q = (n : Int)) (hb : n * by_ ≤ 140737488355328) (h63 : n < 9223372036854775808)
    (h : ∀ r, VL X ops rest Q (fE (.slice (some ⟨r, 0, none⟩) 0 n)) (sl (some ⟨r, 0, none⟩) 0 n e sz [] :: H)) : VL X ops (o :: rest) Q E H := by
  intro a w ha hw
  refine wpList_plain hg fun K hK => ?_
  unfold Oper.wp
  subst hp; subst hq
  obtain ⟨i, hi2, hz, hsz, hby⟩ := ht.i
  have hb' : i.bytes * n ≤ 281474976710656 := by rw [hby, Nat.mul_comm]; omega
  obtain ⟨w', hr, hown, hgr⟩ := run_make_own (P := X.P) w 0 T e i z sz ht.u hi2 hz hsz k j n hb' (by unfold maxLen; omega) (Nat.zero_le _)
  have : (execOp a.eval o).run X.P w = .ok (.value (.slice (some ⟨w.heap.size, 0, none⟩) 0 n)) w' := by
    simp [execOp, ho, ha.ev hx, ha.ev hy, hr]
  rw [this]
  refine hK _ _ (h w.heap.size _ _ (ha.setF hd) (hw.grownNew hgr hown (by simp [sl, ownFp]) ?_))
  intro b hb
  simp [sl, ownFp] at hb
  subst hb
  exact ⟨(hown.lt w.heap.size (by simp [Value.ownBlock])).2, Nat.le_refl _⟩
end
/-! ### Frames -/
theorem wr_u8 (n : Nat) : IntKind.u8.wrap (n : Int) = ((n % 256 : Nat) : Int) := by unfold IntKind.wrap; simp [IntKind.signed, IntKind.bits]
def four4 (n : Nat) : List UInt8 := [UInt8.ofNat (n % 256), UInt8.ofNat (n / 256 % 256), UInt8.ofNat (n / 65536 % 256), UInt8.ofNat (n / 16777216 % 256)]
theorem four_len (n : Nat) : (four4 n).length = 4 := rfl
theorem four_cells (n : Nat) : [Value.int .u8 ((n % 256 : Nat) : Int), .int .u8 ((n / 256 % 256 : Nat) : Int), .int .u8 ((n / 65536 % 256 : Nat) : Int), .int .u8 ((n / 16777216 % 256 : Nat) : Int)] = bcells (four4 n) := by
  unfold four4 bcells
  simp only [List.map_cons, List.map_nil]
  rw [u8_ofNat (by omega), u8_ofNat (by omega), u8_ofNat (by omega), u8_ofNat (by omega)]
def frameL (b : List UInt8) : List UInt8 := if 262144 < b.length then [] else (four4 b.length ++ b) ++ four4 (sumS (four4 b.length ++ b))
end Go.Proofs.Ytdehjgpdcdjhjaa.K
namespace Go.Proofs.Ytdehjgpdcdjhjaa.K
open Go Go.RowKit
/-! ### Methods called through an interface value, whatever they make; nil -/
section
variable {X : Cx} {E : Env} {H F C : List Chunk} {Q : Post} {ops : Array Oper} {rest : List Oper}
end
end Go.Proofs.Ytdehjgpdcdjhjaa.K
