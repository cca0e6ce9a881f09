/- A framework of our own for walks over the model: Cg. -/
import Derived.Test.YtibfngjfjddaiaaCf
namespace Go.Proofs.Ytibfngjfjddaiaa.K
open Go Go.RowKit
set_option linter.unusedVariables false
set_option linter.unusedSimpArgs false
theorem val_indexAddrA {X : Cx} {E : Env} {H : List Chunk} {T e ty : TypeId} {x y : Operand} {a : Addr} {n c sz : Nat} {k : IntKind} {i : Int} (hu : ∀ w, (underlying T).run X.P w = .ok (.slice e) w) (hs : ∀ w, (sizeOf e).run X.P w = .ok sz w)
    (hx : E.ev x = some (.slice (some a) n c)) (hy : E.ev y = some (.int k i)) (h0 : 0 ≤ i) (h1 : i < n) :
    Val X E H (.indexAddr T x y) ty (.pointer (some ((adr (some a)).add (i.toNat * sz)))) := by
  intro ac w o ho _ ha hw
  simp [execOp, ho, ha.ev hx, ha.ev hy, Instr.indexAt, asIntOf, hu, hs, h0, h1, adr]
def inR (n : Nat) (rl : List Int) : Prop := ∀ i, i < rl.length → 0 ≤ rl.getD i 0 ∧ rl.getD i 0 < (n : Int)
instance (n : Nat) (rl : List Int) : Decidable (inR n rl) := by unfold inR; infer_instance
def pkN (nl : List Bool) (rl : List Int) : List Bool := rl.map fun r => nl.getD r.toNat false
def pkI (il rl : List Int) : List Int := rl.map fun r => il.getD r.toNat 0
theorem pkN_len (nl : List Bool) (rl : List Int) : (pkN nl rl).length = rl.length := by simp [pkN]
theorem pkI_len (il rl : List Int) : (pkI il rl).length = rl.length := by simp [pkI]
theorem fill_pkN {nl : List Bool} {rl : List Int} : fillG false rl.length (fun i => nl.getD (rl.getD i 0).toNat false) rl.length = pkN nl rl := by rw [fillG_all]; exact map_getD 0 rl (fun r => nl.getD r.toNat false)
theorem fill_pkI {il rl : List Int} : fillG 0 rl.length (fun i => il.getD (rl.getD i 0).toNat 0) rl.length = pkI il rl := by rw [fillG_all]; exact map_getD 0 rl (fun r => il.getD r.toNat 0)
theorem push_pkN {nl : List Bool} {rl : List Int} {i : Nat} (h : i < rl.length) : tcells (pkN nl (rl.take i)) ++ [Value.bool (nl.getD (rl.getD i 0).toNat false)] = tcells (pkN nl (rl.take (i + 1))) := by
  rw [tpush, take_push 0 h]; simp [pkN]
theorem push_pkI {il rl : List Int} {i : Nat} (h : i < rl.length) : icells .i64 (pkI il (rl.take i)) ++ [Value.int .i64 (il.getD (rl.getD i 0).toNat 0)] = icells .i64 (pkI il (rl.take (i + 1))) := by
  rw [ipush, take_push 0 h]; simp [pkI]
def okP (nl : List Bool) (il rl : List Int) : Prop := okV nl il ∧ rl.length ≤ 1000 ∧ inR il.length rl
instance (nl : List Bool) (il rl : List Int) : Decidable (okP nl il rl) := by unfold okP; infer_instance
def pickN (nl : List Bool) (il rl : List Int) : List Bool := if okP nl il rl then pkN nl rl else []
def pickI (nl : List Bool) (il rl : List Int) : List Int := if okP nl il rl then pkI il rl else []
def pickE (nl : List Bool) (il rl : List Int) : Int := if okP nl il rl then 0 else 2
theorem pick_no {nl : List Bool} {il rl : List Int} (h : ¬ okP nl il rl) : pickN nl il rl = [] ∧ pickI nl il rl = [] ∧ pickE nl il rl = 2 := ⟨if_neg h, if_neg h, if_neg h⟩
theorem pick_ok {nl : List Bool} {il rl : List Int} (h : okP nl il rl) : pickN nl il rl = pkN nl rl ∧ pickI nl il rl = pkI il rl ∧ pickE nl il rl = 0 := ⟨if_pos h, if_pos h, if_pos h⟩
theorem pick_len (nl : List Bool) (il rl : List Int) : (pickN nl il rl).length ≤ 1000 ∧ (pickI nl il rl).length ≤ 1000 := by
  by_cases h : okP nl il rl
  · obtain ⟨e1, e2, _⟩ := pick_ok h
    rw [e1, e2, pkN_len, pkI_len]; exact ⟨h.2.1, h.2.1⟩
  · obtain ⟨e1, e2, _⟩ := pick_no h
    rw [e1, e2]; simp
end Go.Proofs.Ytibfngjfjddaiaa.K
