/- Walks of the program's functions, printed by a program of this session; Lean checks them. -/
import Derived.Lib.Bytealg
import Derived.Lib.IndexEntry
import Derived.Test.YtclknendeeljaaaDoorKu
import Derived.Test.YtclknendeeljaaaDoorKv
import Derived.Test.YtclknendeeljaaaDoorMg
import Derived.Test.YtclknendeeljaaaDoorMb
import Derived.Test.YtclknendeeljaaaDoorProg
namespace Go.Proofs.YtclknendeeljaaaDoor.K
open Go Go.RowKit Go.Proofs
set_option linter.unusedVariables false
set_option linter.unusedSimpArgs false

def sgnI (a b : Int) : Int := if a < b then -1 else if a > b then 1 else 0
def rkI (a : Int) : Int := sgnI a 0
def andI (a b : Int) : Int := if a = 0 ∨ b = 0 then 0 else if a < 0 ∨ b < 0 then -1 else 1
def orI (a b : Int) : Int := if a > 0 ∨ b > 0 then 1 else if a < 0 ∨ b < 0 then -1 else 0
def notI (a : Int) : Int := if a < 0 then -1 else if a > 0 then 0 else 1
theorem rk_cases (a : Int) : (a < 0 ∧ rkI a = -1) ∨ (a = 0 ∧ rkI a = 0) ∨ (a > 0 ∧ rkI a = 1) := by
  unfold rkI sgnI
  by_cases h : a < 0
  · exact .inl ⟨h, if_pos h⟩
  · rw [if_neg h]
    by_cases h2 : a > 0
    · exact .inr (.inr ⟨h2, if_pos h2⟩)
    · rw [if_neg h2]; exact .inr (.inl ⟨by omega, rfl⟩)

set_option maxRecDepth 20000 in
theorem cNaN (a : Int) (w : World) : FnV Tryd.prog 43 [.int .i64 a] (.bool false) w := by
  refine fn_enter Tryd.func43 rfl Tryd.ntmps43 rfl ?_
  refine vc_seq ?_
  refine vc_region ?_
  refine vl_val rfl (.some rfl) (val_assign rfl) ?_
  refine vl_nil ?_
  refine vc_seq ?_
  refine vc_region ?_
  refine vl_val rfl (.some rfl) (val_move rfl) ?_
  refine vl_val rfl (.some rfl) (val_move rfl) ?_
  refine vl_val rfl (.some rfl) (val_net rfl rfl (rfl)) ?_
  refine vl_val rfl (.some rfl) (val_assign rfl) ?_
  refine vl_nil ?_
  refine vc_ret ?_
  refine ⟨_, [], _, res1 Tryd.results43 rfl, .nil, ?_⟩
  rfl
set_option maxRecDepth 20000 in
theorem cCompare (a b : Int) (w : World) : FnV Tryd.prog 27 [.int .i64 a, .int .i64 b] (.int .i64 (sgnI a b)) w := by
  refine fn_enter Tryd.func27 rfl Tryd.ntmps27 rfl ?_
  refine vc_seq ?_
  refine vc_region ?_
  refine vl_val rfl (.some rfl) (val_assign rfl) ?_
  refine vl_nil ?_
  refine vc_seq ?_
  refine vc_region ?_
  refine vl_val rfl (.some rfl) (val_move rfl) ?_
  refine vl_callV rfl rfl (.some rfl) Tryd.call43 rfl (fun w hw => cNaN _ w) ?_
  refine vl_val rfl (.some rfl) (val_assign rfl) ?_
  refine vl_nil ?_
  refine vc_seq ?_
  refine vc_region ?_
  refine vl_val rfl (.some rfl) (val_move rfl) ?_
  refine vl_callV rfl rfl (.some rfl) Tryd.call43 rfl (fun w hw => cNaN _ w) ?_
  refine vl_val rfl (.some rfl) (val_assign rfl) ?_
  refine vl_nil ?_
  refine vc_seq ?_
  refine vc_seq ?_
  refine vc_region ?_
  refine vl_val rfl (.some rfl) (val_move rfl) ?_
  refine vl_nil ?_
  refine vc_cond rfl (fun h => by cases h) (fun _ => ?_)
  refine vc_skip ?_
  refine vc_seq ?_
  refine vc_seq ?_
  refine vc_region ?_
  refine vl_val rfl (.some rfl) (val_move rfl) ?_
  refine vl_nil ?_
  refine vc_cond rfl (fun h => by cases h) (fun _ => ?_)
  refine vc_skip ?_
  refine vc_seq ?_
  refine vc_seq ?_
  refine vc_region ?_
  refine vl_val rfl (.some rfl) (val_move rfl) ?_
  refine vl_val rfl (.some rfl) (val_move rfl) ?_
  refine vl_val rfl (.some rfl) (val_lt rfl rfl) ?_
  refine vl_nil ?_
  refine vc_cond rfl (fun hc3 => ?_) (fun hc3 => ?_)
  · (try replace hc3 := of_decide_eq_true hc3)
    refine vc_seq ?_
    refine vc_region ?_
    refine vl_val rfl (.some rfl) (val_assign rfl) ?_
    refine vl_nil ?_
    refine vc_ret ?_
    refine ⟨_, [], _, res1 Tryd.results27 rfl, .nil, ?_⟩
    show _ = _; unfold sgnI; first | rw [if_pos (by omega)] | rw [if_neg (by omega), if_pos (by omega)] | rw [if_neg (by omega), if_neg (by omega)]
  · (try replace hc3 := of_decide_eq_false hc3)
    refine vc_skip ?_
    refine vc_seq ?_
    refine vc_seq ?_
    refine vc_region ?_
    refine vl_val rfl (.some rfl) (val_move rfl) ?_
    refine vl_val rfl (.some rfl) (val_move rfl) ?_
    refine vl_val rfl (.some rfl) (val_gt rfl rfl) ?_
    refine vl_nil ?_
    refine vc_cond rfl (fun hc4 => ?_) (fun hc4 => ?_)
    · (try replace hc4 := of_decide_eq_true hc4)
      refine vc_seq ?_
      refine vc_region ?_
      refine vl_val rfl (.some rfl) (val_assign rfl) ?_
      refine vl_nil ?_
      refine vc_ret ?_
      refine ⟨_, [], _, res1 Tryd.results27 rfl, .nil, ?_⟩
      show _ = _; unfold sgnI; first | rw [if_pos (by omega)] | rw [if_neg (by omega), if_pos (by omega)] | rw [if_neg (by omega), if_neg (by omega)]
    · (try replace hc4 := of_decide_eq_false hc4)
      refine vc_skip ?_
      refine vc_seq ?_
      refine vc_region ?_
      refine vl_val rfl (.some rfl) (val_assign rfl) ?_
      refine vl_nil ?_
      refine vc_ret ?_
      refine ⟨_, [], _, res1 Tryd.results27 rfl, .nil, ?_⟩
      show _ = _; unfold sgnI; first | rw [if_pos (by omega)] | rw [if_neg (by omega), if_pos (by omega)] | rw [if_neg (by omega), if_neg (by omega)]
set_option maxRecDepth 20000 in
theorem vRank (a : Int) (w : World) : FnV Tryd.prog 25 [.int .i64 a] (.int .i64 (rkI a)) w := by
  refine fn_enter Tryd.func25 rfl Tryd.ntmps25 rfl ?_
  refine vc_seq ?_
  refine vc_region ?_
  refine vl_val rfl (.some rfl) (val_assign rfl) ?_
  refine vl_nil ?_
  refine vc_seq ?_
  refine vc_region ?_
  refine vl_val rfl (.some rfl) (val_move rfl) ?_
  refine vl_callV rfl rfl (.some rfl) Tryd.call27 rfl (fun w hw => cCompare _ _ w) ?_
  refine vl_val rfl (.some rfl) (val_assign rfl) ?_
  refine vl_nil ?_
  refine vc_ret ?_
  refine ⟨_, [], _, res1 Tryd.results25 rfl, .nil, ?_⟩
  rfl
set_option maxRecDepth 20000 in
theorem vAnd (a b : Int) (w : World) : FnV Tryd.prog 11 [.int .i64 a, .int .i64 b] (.int .i64 (andI a b)) w := by
  have hA := rk_cases a
  have hB := rk_cases b
  refine fn_enter Tryd.func11 rfl Tryd.ntmps11 rfl ?_
  refine vc_seq ?_
  refine vc_region ?_
  refine vl_val rfl (.some rfl) (val_assign rfl) ?_
  refine vl_nil ?_
  refine vc_seq ?_
  refine vc_region ?_
  refine vl_val rfl (.some rfl) (val_move rfl) ?_
  refine vl_callV rfl rfl (.some rfl) Tryd.call25 rfl (fun w hw => vRank _ w) ?_
  refine vl_val rfl (.some rfl) (val_move rfl) ?_
  refine vl_callV rfl rfl (.some rfl) Tryd.call25 rfl (fun w hw => vRank _ w) ?_
  refine vl_val rfl (.some rfl) (val_assign rfl) ?_
  refine vl_val rfl (.some rfl) (val_assign rfl) ?_
  refine vl_nil ?_
  refine vc_seq ?_
  refine vc_seq ?_
  refine vc_region ?_
  refine vl_val rfl (.some rfl) (val_move rfl) ?_
  refine vl_val rfl (.some rfl) (val_eq rfl rfl) ?_
  refine vl_val rfl (.some rfl) (val_move rfl) ?_
  refine vl_split (t := 11) rfl (fun hg11 => ?_) (fun hg11 => ?_)
  · (try replace hg11 := of_decide_eq_true hg11)
    refine vl_off rfl rfl rfl rfl (.some rfl) ?_
    refine vl_off rfl rfl rfl rfl (.some rfl) ?_
    refine vl_val rfl (.some rfl) (val_pick rfl rfl) ?_
    refine vl_nil ?_
    refine vc_cond rfl (fun _ => ?_) (fun h => by cases h)
    refine vc_seq ?_
    refine vc_region ?_
    refine vl_val rfl (.some rfl) (val_assign rfl) ?_
    refine vl_nil ?_
    refine vc_ret ?_
    refine ⟨_, [], _, res1 Tryd.results11 rfl, .nil, ?_⟩
    show _ = _; congr 1; unfold andI; (repeat' split) <;> omega
  · (try replace hg11 := of_decide_eq_false hg11)
    refine vl_on rfl rfl rfl rfl ?_
    refine vl_val rfl (.some rfl) (val_move rfl) ?_
    refine vl_on rfl rfl rfl rfl ?_
    refine vl_val rfl (.some rfl) (val_eq rfl rfl) ?_
    refine vl_val rfl (.some rfl) (val_pick rfl rfl) ?_
    refine vl_nil ?_
    refine vc_cond rfl (fun hc0 => ?_) (fun hc0 => ?_)
    · (try replace hc0 := of_decide_eq_true hc0)
      refine vc_seq ?_
      refine vc_region ?_
      refine vl_val rfl (.some rfl) (val_assign rfl) ?_
      refine vl_nil ?_
      refine vc_ret ?_
      refine ⟨_, [], _, res1 Tryd.results11 rfl, .nil, ?_⟩
      show _ = _; congr 1; unfold andI; (repeat' split) <;> omega
    · (try replace hc0 := of_decide_eq_false hc0)
      refine vc_skip ?_
      refine vc_seq ?_
      refine vc_region ?_
      refine vl_val rfl (.some rfl) (val_move rfl) ?_
      refine vl_val rfl (.some rfl) (val_move rfl) ?_
      refine vl_val rfl (.some rfl) (val_min rfl rfl) ?_
      refine vl_val rfl (.some rfl) (val_assign rfl) ?_
      refine vl_nil ?_
      refine vc_ret ?_
      refine ⟨_, [], _, res1 Tryd.results11 rfl, .nil, ?_⟩
      show _ = _; congr 1; unfold andI; (repeat' split) <;> omega
set_option maxRecDepth 20000 in
theorem vNot (a : Int) (w : World) : FnV Tryd.prog 26 [.int .i64 a] (.int .i64 (notI a)) w := by
  have hA := rk_cases a
  refine fn_enter Tryd.func26 rfl Tryd.ntmps26 rfl ?_
  refine vc_seq ?_
  refine vc_region ?_
  refine vl_val rfl (.some rfl) (val_assign rfl) ?_
  refine vl_nil ?_
  refine vc_seq ?_
  refine vc_seq ?_
  refine vc_region ?_
  refine vl_val rfl (.some rfl) (val_move rfl) ?_
  refine vl_callV rfl rfl (.some rfl) Tryd.call25 rfl (fun w hw => vRank _ w) ?_
  refine vl_val rfl (.some rfl) (val_assign rfl) ?_
  refine vl_nil ?_
  refine vc_seq ?_
  refine vc_region ?_
  refine vl_val rfl (.some rfl) (val_move rfl) ?_
  refine vl_val rfl (.some rfl) (val_lt rfl rfl) ?_
  refine vl_nil ?_
  refine vc_cond rfl (fun hc0 => ?_) (fun hc0 => ?_)
  · (try replace hc0 := of_decide_eq_true hc0)
    refine vc_seq ?_
    refine vc_region ?_
    refine vl_val rfl (.some rfl) (val_assign rfl) ?_
    refine vl_nil ?_
    refine vc_ret ?_
    refine ⟨_, [], _, res1 Tryd.results26 rfl, .nil, ?_⟩
    show _ = _; congr 1; unfold notI; (repeat' split) <;> omega
  · (try replace hc0 := of_decide_eq_false hc0)
    refine vc_skip ?_
    refine vc_seq ?_
    refine vc_region ?_
    refine vl_val rfl (.some rfl) (val_move rfl) ?_
    refine vl_val rfl (.some rfl) (val_sub rfl rfl (by first | exact w_i64 (by omega) (by omega) | rfl)) ?_
    refine vl_val rfl (.some rfl) (val_assign rfl) ?_
    refine vl_nil ?_
    refine vc_ret ?_
    refine ⟨_, [], _, res1 Tryd.results26 rfl, .nil, ?_⟩
    show _ = _; congr 1; unfold notI; (repeat' split) <;> omega
set_option maxRecDepth 20000 in
theorem vOr (a b : Int) (w : World) : FnV Tryd.prog 12 [.int .i64 a, .int .i64 b] (.int .i64 (orI a b)) w := by
  refine fn_enter Tryd.func12 rfl Tryd.ntmps12 rfl ?_
  refine vc_seq ?_
  refine vc_region ?_
  refine vl_val rfl (.some rfl) (val_assign rfl) ?_
  refine vl_nil ?_
  refine vc_seq ?_
  refine vc_region ?_
  refine vl_val rfl (.some rfl) (val_move rfl) ?_
  refine vl_callV rfl rfl (.some rfl) Tryd.call26 rfl (fun w hw => vNot _ w) ?_
  refine vl_val rfl (.some rfl) (val_move rfl) ?_
  refine vl_callV rfl rfl (.some rfl) Tryd.call26 rfl (fun w hw => vNot _ w) ?_
  refine vl_callV rfl rfl (.some rfl) Tryd.call11 rfl (fun w hw => vAnd _ _ w) ?_
  refine vl_callV rfl rfl (.some rfl) Tryd.call26 rfl (fun w hw => vNot _ w) ?_
  refine vl_val rfl (.some rfl) (val_assign rfl) ?_
  refine vl_nil ?_
  refine vc_ret ?_
  refine ⟨_, [], _, res1 Tryd.results12 rfl, .nil, ?_⟩
  show _ = _; congr 1; unfold orI andI notI; (repeat' split) <;> omega



/-! floats: bits -/
theorem frombits_run (n : Int) (w : World) : (callFunc 52 #[.int .u64 n]).run Tryd.prog w = .ok (.value (.float .f64 n.toNat)) w := by
  rw [run_callFunc_extern (e := Extern.MathFloatBits.float64frombits) Tryd.func52 (by kernel_rfl) (by kernel_rfl) (by kernel_rfl) (by kernel_rfl)]; rfl
structure Vk where
  k : Int
  n : Int
  s : ByteArray
  deriving DecidableEq
abbrev vk (p : Vk) : Value := .agg #[.int .i64 p.k, .int .i64 p.n, .string p.s]
def WV (p : Vk) : Prop := -9223372036854775808 ≤ p.n ∧ p.n < 9223372036854775808
def cB (a b : ByteArray) : Int := Lib.compareBytes a.data.toList b.data.toList
theorem cmpstring_run (a b : ByteArray) (w : World) : (callFunc 61 #[.string a, .string b]).run Tryd.prog w = .ok (.value (.int .i64 (cB a b))) w := by
  rw [run_callFunc_extern (e := Extern.BytealgCompare.compare) Tryd.func61 (by kernel_rfl) (by kernel_rfl) (by kernel_rfl) (by kernel_rfl), Lib.run_compareString]
  rfl
def cmpV (p q : Vk) : Int := if p.k ≠ q.k then sgnI p.k q.k else if p.k = 0 then 0 else if p.k = 2 then cmpS (ub p.n) (ub q.n) else if p.k = 3 then cB p.s q.s else sgnI p.n q.n
theorem sgn_zero (a b : Int) : sgnI a b = 0 ↔ a = b := by unfold sgnI; split; omega; split <;> omega

set_option maxRecDepth 20000 in
theorem ofloat (n : Int) (w : World) : FnV Tryd.prog 44 [.int .i64 n] (.float .f64 (ub n)) w := by
  refine fn_enter Tryd.func44 rfl Tryd.ntmps44 rfl ?_
  refine vc_seq ?_
  refine vc_region ?_
  refine vl_val rfl (.some rfl) (val_assign rfl) ?_
  refine vl_nil ?_
  refine vc_seq ?_
  refine vc_region ?_
  refine vl_val rfl (.some rfl) (val_move rfl) ?_
  refine vl_val rfl (.some rfl) (val_convInt Tryd.runUnderlying3 Tryd.runUnderlying49 rfl (by first | exact w_u64 (by omega) (by omega) | rfl)) ?_
  refine vl_ext rfl rfl (.some rfl) rfl (frombits_run _) ?_
  refine vl_val rfl (.some rfl) (val_assign rfl) ?_
  refine vl_nil ?_
  refine vc_ret ?_
  refine ⟨_, [], _, res1 Tryd.results44 rfl, .nil, ?_⟩
  rfl
set_option maxRecDepth 20000 in
theorem oCmp (a b : Int) (w : World) : FnV Tryd.prog 28 [.int .i64 a, .int .i64 b] (.int .i64 (cmpS (ub a) (ub b))) w := by
  refine fn_enter Tryd.func28 rfl Tryd.ntmps28 rfl ?_
  refine vc_seq ?_
  refine vc_region ?_
  refine vl_val rfl (.some rfl) (val_assign rfl) ?_
  refine vl_nil ?_
  refine vc_seq ?_
  refine vc_region ?_
  refine vl_val rfl (.some rfl) (val_move rfl) ?_
  refine vl_callV rfl rfl (.some rfl) Tryd.call44 rfl (fun w hw => ofloat _ w) ?_
  refine vl_val rfl (.some rfl) (val_move rfl) ?_
  refine vl_callV rfl rfl (.some rfl) Tryd.call44 rfl (fun w hw => ofloat _ w) ?_
  refine vl_val rfl (.some rfl) (val_assign rfl) ?_
  refine vl_val rfl (.some rfl) (val_assign rfl) ?_
  refine vl_nil ?_
  refine vc_seq ?_
  refine vc_block ?_
  refine vc_seq ?_
  refine vc_region ?_
  refine vl_val rfl (.some rfl) (val_move rfl) ?_
  refine vl_val rfl (.some rfl) (val_move rfl) ?_
  refine vl_val rfl (.some rfl) (val_flt rfl rfl) ?_
  refine vl_val rfl (.some rfl) (val_assign rfl) ?_
  refine vl_nil ?_
  refine vc_cond rfl (fun hc0 => ?_) (fun hc0 => ?_)
  · (try replace hc0 := of_decide_eq_true hc0)
    rw [lt_is] at hc0; replace hc0 := of_decide_eq_true hc0
    refine vc_seq ?_
    refine vc_region ?_
    refine vl_val rfl (.some rfl) (val_assign rfl) ?_
    refine vl_nil ?_
    refine vc_ret ?_
    refine ⟨_, [], _, res1 Tryd.results28 rfl, .nil, ?_⟩
    show _ = _; congr 1; unfold cmpS; (try (rw [self_is] at hc3)); by_cases ha : isN (ub a) <;> by_cases hb : isN (ub b) <;> simp_all <;> omega
  · (try replace hc0 := of_decide_eq_false hc0)
    rw [lt_is] at hc0; replace hc0 := of_decide_eq_false hc0
    refine vc_seq ?_
    refine vc_region ?_
    refine vl_val rfl (.some rfl) (val_move rfl) ?_
    refine vl_val rfl (.some rfl) (val_move rfl) ?_
    refine vl_val rfl (.some rfl) (val_fgt rfl rfl) ?_
    refine vl_val rfl (.some rfl) (val_assign rfl) ?_
    refine vl_nil ?_
    refine vc_cond rfl (fun hc1 => ?_) (fun hc1 => ?_)
    · (try replace hc1 := of_decide_eq_true hc1)
      rw [gt_is] at hc1; replace hc1 := of_decide_eq_true hc1
      refine vc_seq ?_
      refine vc_region ?_
      refine vl_val rfl (.some rfl) (val_assign rfl) ?_
      refine vl_nil ?_
      refine vc_ret ?_
      refine ⟨_, [], _, res1 Tryd.results28 rfl, .nil, ?_⟩
      show _ = _; congr 1; unfold cmpS; (try (rw [self_is] at hc3)); by_cases ha : isN (ub a) <;> by_cases hb : isN (ub b) <;> simp_all <;> omega
    · (try replace hc1 := of_decide_eq_false hc1)
      rw [gt_is] at hc1; replace hc1 := of_decide_eq_false hc1
      refine vc_seq ?_
      refine vc_region ?_
      refine vl_val rfl (.some rfl) (val_move rfl) ?_
      refine vl_val rfl (.some rfl) (val_move rfl) ?_
      refine vl_val rfl (.some rfl) (val_feq rfl rfl) ?_
      refine vl_val rfl (.some rfl) (val_assign rfl) ?_
      refine vl_nil ?_
      refine vc_cond rfl (fun hc2 => ?_) (fun hc2 => ?_)
      · (try replace hc2 := of_decide_eq_true hc2)
        rw [eq_is] at hc2; replace hc2 := of_decide_eq_true hc2
        refine vc_seq ?_
        refine vc_region ?_
        refine vl_val rfl (.some rfl) (val_assign rfl) ?_
        refine vl_nil ?_
        refine vc_ret ?_
        refine ⟨_, [], _, res1 Tryd.results28 rfl, .nil, ?_⟩
        show _ = _; congr 1; unfold cmpS; (try (rw [self_is] at hc3)); by_cases ha : isN (ub a) <;> by_cases hb : isN (ub b) <;> simp_all <;> omega
      · (try replace hc2 := of_decide_eq_false hc2)
        rw [eq_is] at hc2; replace hc2 := of_decide_eq_false hc2
        refine vc_seq ?_
        refine vc_region ?_
        refine vl_val rfl (.some rfl) (val_move rfl) ?_
        refine vl_val rfl (.some rfl) (val_move rfl) ?_
        refine vl_val rfl (.some rfl) (val_fne rfl rfl) ?_
        refine vl_val rfl (.some rfl) (val_move rfl) ?_
        refine vl_split (t := 27) rfl (fun hg27 => ?_) (fun hg27 => ?_)
        · (try replace hg27 := of_decide_eq_true hg27)
          rw [self_is] at hg27; replace hg27 := of_decide_eq_true hg27
          refine vl_on rfl rfl rfl rfl ?_
          refine vl_val rfl (.some rfl) (val_move rfl) ?_
          refine vl_on rfl rfl rfl rfl ?_
          refine vl_val rfl (.some rfl) (val_move rfl) ?_
          refine vl_on rfl rfl rfl rfl ?_
          refine vl_val rfl (.some rfl) (val_fne rfl rfl) ?_
          refine vl_val rfl (.some rfl) (val_pick rfl rfl) ?_
          refine vl_val rfl (.some rfl) (val_assign rfl) ?_
          refine vl_nil ?_
          refine vc_cond rfl (fun hc3 => ?_) (fun hc3 => ?_)
          · (try replace hc3 := of_decide_eq_true hc3)
            refine vc_seq ?_
            refine vc_region ?_
            refine vl_val rfl (.some rfl) (val_assign rfl) ?_
            refine vl_nil ?_
            refine vc_ret ?_
            refine ⟨_, [], _, res1 Tryd.results28 rfl, .nil, ?_⟩
            show _ = _; congr 1; unfold cmpS; (try (rw [self_is] at hc3)); by_cases ha : isN (ub a) <;> by_cases hb : isN (ub b) <;> simp_all <;> omega
          · (try replace hc3 := of_decide_eq_false hc3)
            refine vc_seq ?_
            refine vc_region ?_
            refine vl_val rfl (.some rfl) (val_move rfl) ?_
            refine vl_val rfl (.some rfl) (val_move rfl) ?_
            refine vl_val rfl (.some rfl) (val_fne rfl rfl) ?_
            refine vl_val rfl (.some rfl) (val_assign rfl) ?_
            refine vl_nil ?_
            refine vc_cond rfl (fun hc4 => ?_) (fun hc4 => ?_)
            · (try replace hc4 := of_decide_eq_true hc4)
              rw [self_is] at hc4; replace hc4 := of_decide_eq_true hc4
              refine vc_seq ?_
              refine vc_region ?_
              refine vl_val rfl (.some rfl) (val_assign rfl) ?_
              refine vl_nil ?_
              refine vc_ret ?_
              refine ⟨_, [], _, res1 Tryd.results28 rfl, .nil, ?_⟩
              show _ = _; congr 1; unfold cmpS; (try (rw [self_is] at hc3)); by_cases ha : isN (ub a) <;> by_cases hb : isN (ub b) <;> simp_all <;> omega
            · (try replace hc4 := of_decide_eq_false hc4)
              rw [self_is] at hc4; replace hc4 := of_decide_eq_false hc4
              refine vc_skip ?_
              refine vc_seq ?_
              refine vc_region ?_
              refine vl_val rfl (.some rfl) (val_assign rfl) ?_
              refine vl_nil ?_
              refine vc_ret ?_
              refine ⟨_, [], _, res1 Tryd.results28 rfl, .nil, ?_⟩
              show _ = _; congr 1; unfold cmpS; (try (rw [self_is] at hc3)); by_cases ha : isN (ub a) <;> by_cases hb : isN (ub b) <;> simp_all <;> omega
        · (try replace hg27 := of_decide_eq_false hg27)
          rw [self_is] at hg27; replace hg27 := of_decide_eq_false hg27
          refine vl_off rfl rfl rfl rfl (.some rfl) ?_
          refine vl_off rfl rfl rfl rfl (.some rfl) ?_
          refine vl_off rfl rfl rfl rfl (.some rfl) ?_
          refine vl_val rfl (.some rfl) (val_pick rfl rfl) ?_
          refine vl_val rfl (.some rfl) (val_assign rfl) ?_
          refine vl_nil ?_
          refine vc_cond rfl (fun h => by cases h) (fun _ => ?_)
          refine vc_seq ?_
          refine vc_region ?_
          refine vl_val rfl (.some rfl) (val_move rfl) ?_
          refine vl_val rfl (.some rfl) (val_move rfl) ?_
          refine vl_val rfl (.some rfl) (val_fne rfl rfl) ?_
          refine vl_val rfl (.some rfl) (val_assign rfl) ?_
          refine vl_nil ?_
          refine vc_cond rfl (fun hc4 => ?_) (fun hc4 => ?_)
          · (try replace hc4 := of_decide_eq_true hc4)
            rw [self_is] at hc4; replace hc4 := of_decide_eq_true hc4
            refine vc_seq ?_
            refine vc_region ?_
            refine vl_val rfl (.some rfl) (val_assign rfl) ?_
            refine vl_nil ?_
            refine vc_ret ?_
            refine ⟨_, [], _, res1 Tryd.results28 rfl, .nil, ?_⟩
            show _ = _; congr 1; unfold cmpS; (try (rw [self_is] at hc3)); by_cases ha : isN (ub a) <;> by_cases hb : isN (ub b) <;> simp_all <;> omega
          · (try replace hc4 := of_decide_eq_false hc4)
            rw [self_is] at hc4; replace hc4 := of_decide_eq_false hc4
            refine vc_skip ?_
            refine vc_seq ?_
            refine vc_region ?_
            refine vl_val rfl (.some rfl) (val_assign rfl) ?_
            refine vl_nil ?_
            refine vc_ret ?_
            refine ⟨_, [], _, res1 Tryd.results28 rfl, .nil, ?_⟩
            show _ = _; congr 1; unfold cmpS; (try (rw [self_is] at hc3)); by_cases ha : isN (ub a) <;> by_cases hb : isN (ub b) <;> simp_all <;> omega
set_option maxRecDepth 20000 in
theorem oCanon (n : Int) (w : World) : FnV Tryd.prog 30 [.int .i64 n] (.int .i64 (canS n)) w := by
  refine fn_enter Tryd.func30 rfl Tryd.ntmps30 rfl ?_
  refine vc_seq ?_
  refine vc_region ?_
  refine vl_val rfl (.some rfl) (val_assign rfl) ?_
  refine vl_nil ?_
  refine vc_seq ?_
  refine vc_seq ?_
  refine vc_region ?_
  refine vl_val rfl (.some rfl) (val_move rfl) ?_
  refine vl_callV rfl rfl (.some rfl) Tryd.call44 rfl (fun w hw => ofloat _ w) ?_
  refine vl_val rfl (.some rfl) (val_assign rfl) ?_
  refine vl_nil ?_
  refine vc_block ?_
  refine vc_seq ?_
  refine vc_region ?_
  refine vl_val rfl (.some rfl) (val_move rfl) ?_
  refine vl_val rfl (.some rfl) (val_move rfl) ?_
  refine vl_val rfl (.some rfl) (val_fne rfl rfl) ?_
  refine vl_val rfl (.some rfl) (val_assign rfl) ?_
  refine vl_nil ?_
  refine vc_cond rfl (fun hc0 => ?_) (fun hc0 => ?_)
  · (try replace hc0 := of_decide_eq_true hc0)
    rw [self_is] at hc0; replace hc0 := of_decide_eq_true hc0
    refine vc_seq ?_
    refine vc_region ?_
    refine vl_val rfl (.some rfl) (val_assign rfl) ?_
    refine vl_nil ?_
    refine vc_ret ?_
    refine ⟨_, [], _, res1 Tryd.results30 rfl, .nil, ?_⟩
    show _ = _; simp [canS, hc0]
  · (try replace hc0 := of_decide_eq_false hc0)
    rw [self_is] at hc0; replace hc0 := of_decide_eq_false hc0
    refine vc_seq ?_
    refine vc_region ?_
    refine vl_val rfl (.some rfl) (val_move rfl) ?_
    refine vl_val rfl (.some rfl) (val_feq rfl rfl) ?_
    refine vl_val rfl (.some rfl) (val_assign rfl) ?_
    refine vl_nil ?_
    refine vc_cond rfl (fun hc1 => ?_) (fun hc1 => ?_)
    · (try replace hc1 := of_decide_eq_true hc1)
      rw [eq_is] at hc1; replace hc1 := of_decide_eq_true hc1
      refine vc_seq ?_
      refine vc_region ?_
      refine vl_val rfl (.some rfl) (val_assign rfl) ?_
      refine vl_nil ?_
      refine vc_ret ?_
      refine ⟨_, [], _, res1 Tryd.results30 rfl, .nil, ?_⟩
      show _ = _; have h0 : rg (ub n) = 0 := sv_zero.1 (hc1.2.2.trans sv0)
      simp [canS, hc0, h0]
    · (try replace hc1 := of_decide_eq_false hc1)
      rw [eq_is] at hc1; replace hc1 := of_decide_eq_false hc1
      refine vc_skip ?_
      refine vc_seq ?_
      refine vc_region ?_
      refine vl_val rfl (.some rfl) (val_move rfl) ?_
      refine vl_val rfl (.some rfl) (val_assign rfl) ?_
      refine vl_nil ?_
      refine vc_ret ?_
      refine ⟨_, [], _, res1 Tryd.results30 rfl, .nil, ?_⟩
      show _ = _; have h0 : ¬ rg (ub n) = 0 := fun e => hc1 ⟨hc0, isN0, (sv_zero.2 e).trans sv0.symm⟩
      simp [canS, hc0, h0]
set_option maxRecDepth 20000 in
theorem oGood (n : Int) (w : World) : FnV Tryd.prog 15 [.int .i64 n] (.bool (decide (canS n = n))) w := by
  refine fn_enter Tryd.func15 rfl Tryd.ntmps15 rfl ?_
  refine vc_seq ?_
  refine vc_region ?_
  refine vl_val rfl (.some rfl) (val_assign rfl) ?_
  refine vl_nil ?_
  refine vc_seq ?_
  refine vc_region ?_
  refine vl_val rfl (.some rfl) (val_move rfl) ?_
  refine vl_callV rfl rfl (.some rfl) Tryd.call30 rfl (fun w hw => oCanon _ w) ?_
  refine vl_val rfl (.some rfl) (val_move rfl) ?_
  refine vl_val rfl (.some rfl) (val_eq rfl rfl) ?_
  refine vl_val rfl (.some rfl) (val_assign rfl) ?_
  refine vl_nil ?_
  refine vc_ret ?_
  refine ⟨_, [], _, res1 Tryd.results15 rfl, .nil, ?_⟩
  rfl
set_option maxRecDepth 20000 in
theorem bCompare (a b : ByteArray) (w : World) : FnV Tryd.prog 45 [.string a, .string b] (.int .i64 (cB a b)) w := by
  refine fn_enter Tryd.func45 rfl Tryd.ntmps45 rfl ?_
  refine vc_seq ?_
  refine vc_region ?_
  refine vl_val rfl (.some rfl) (val_assign rfl) ?_
  refine vl_nil ?_
  refine vc_seq ?_
  refine vc_region ?_
  refine vl_val rfl (.some rfl) (val_move rfl) ?_
  refine vl_val rfl (.some rfl) (val_move rfl) ?_
  refine vl_ext rfl rfl (.some rfl) rfl (cmpstring_run _ _) ?_
  refine vl_val rfl (.some rfl) (val_assign rfl) ?_
  refine vl_nil ?_
  refine vc_ret ?_
  refine ⟨_, [], _, res1 Tryd.results45 rfl, .nil, ?_⟩
  rfl
set_option maxRecDepth 20000 in
theorem sCompare (a b : ByteArray) (w : World) : FnV Tryd.prog 29 [.string a, .string b] (.int .i64 (cB a b)) w := by
  refine fn_enter Tryd.func29 rfl Tryd.ntmps29 rfl ?_
  refine vc_seq ?_
  refine vc_region ?_
  refine vl_val rfl (.some rfl) (val_assign rfl) ?_
  refine vl_nil ?_
  refine vc_seq ?_
  refine vc_region ?_
  refine vl_val rfl (.some rfl) (val_move rfl) ?_
  refine vl_val rfl (.some rfl) (val_move rfl) ?_
  refine vl_callV rfl rfl (.some rfl) Tryd.call45 rfl (fun w hw => bCompare _ _ w) ?_
  refine vl_val rfl (.some rfl) (val_assign rfl) ?_
  refine vl_nil ?_
  refine vc_ret ?_
  refine ⟨_, [], _, res1 Tryd.results29 rfl, .nil, ?_⟩
  rfl
set_option maxRecDepth 20000 in
theorem vCmp (p q : Vk) (w : World) : FnV Tryd.prog 13 [vk p, vk q] (.int .i64 (cmpV p q)) w := by
  refine fn_enter Tryd.func13 rfl Tryd.ntmps13 rfl ?_
  refine vc_seq ?_
  refine vc_region ?_
  refine vl_box rfl rfl (.some rfl) rfl (fun r2 => ?_)
  refine vl_box rfl rfl (.some rfl) rfl (fun r3 => ?_)
  refine vl_val rfl (.some rfl) (val_assign rfl) ?_
  refine vl_nil ?_
  refine vc_seq ?_
  refine vc_seq ?_
  refine vc_region ?_
  refine vl_val rfl (.some rfl) (by first | exact val_fieldAddr Tryd.runUnderlying25 rfl Tryd.sizeOf3 rfl | exact val_fieldAddrR Tryd.runUnderlying25 rfl Tryd.sizeOf3 rfl) ?_
  refine vl_val rfl (.some rfl) (val_load Tryd.isAgg3 rfl (by first | exact cell_cells (by repeat constructor) rfl | exact cell_rd (by first | exact rd_sl (by repeat constructor) | exact rd_old (by assumption) rfl) (by first | exact bcells_at (by omega) | exact ucells_at (by omega) | exact icells_at (by omega) | exact tcells_at (by omega) | exact bcells_get (by omega) | exact icells_get (by omega) | exact tcells_get (by omega) | exact ucells_get (by omega)) | exact cell_old (by assumption) (by simp [fps]))) ?_
  refine vl_val rfl (.some rfl) (by first | exact val_fieldAddr Tryd.runUnderlying25 rfl Tryd.sizeOf3 rfl | exact val_fieldAddrR Tryd.runUnderlying25 rfl Tryd.sizeOf3 rfl) ?_
  refine vl_val rfl (.some rfl) (val_load Tryd.isAgg3 rfl (by first | exact cell_cells (by repeat constructor) rfl | exact cell_rd (by first | exact rd_sl (by repeat constructor) | exact rd_old (by assumption) rfl) (by first | exact bcells_at (by omega) | exact ucells_at (by omega) | exact icells_at (by omega) | exact tcells_at (by omega) | exact bcells_get (by omega) | exact icells_get (by omega) | exact tcells_get (by omega) | exact ucells_get (by omega)) | exact cell_old (by assumption) (by simp [fps]))) ?_
  refine vl_callV rfl rfl (.some rfl) Tryd.call27 rfl (fun w hw => cCompare _ _ w) ?_
  refine vl_val rfl (.some rfl) (val_assign rfl) ?_
  refine vl_nil ?_
  refine vc_seq ?_
  refine vc_region ?_
  refine vl_val rfl (.some rfl) (val_move rfl) ?_
  refine vl_val rfl (.some rfl) (val_ne rfl rfl) ?_
  refine vl_nil ?_
  refine vc_cond rfl (fun hc0 => ?_) (fun hc0 => ?_)
  · (try replace hc0 := of_decide_eq_true hc0)
    have hne : p.k ≠ q.k := fun e => hc0 ((sgn_zero _ _).2 e)
    refine vc_seq ?_
    refine vc_region ?_
    refine vl_val rfl (.some rfl) (val_move rfl) ?_
    refine vl_val rfl (.some rfl) (val_assign rfl) ?_
    refine vl_nil ?_
    refine vc_ret ?_
    refine ⟨_, [], _, res1 Tryd.results13 rfl, .nil, ?_⟩
    show _ = _; unfold cmpV; rw [if_pos hne]
  · (try replace hc0 := of_decide_eq_false hc0)
    have heq : ¬ p.k ≠ q.k := fun e => hc0 (fun h => e ((sgn_zero _ _).1 h))
    refine vc_skip ?_
    refine vc_seq ?_
    refine vc_seq ?_
    refine vc_region ?_
    refine vl_val rfl (.some rfl) (by first | exact val_fieldAddr Tryd.runUnderlying25 rfl Tryd.sizeOf3 rfl | exact val_fieldAddrR Tryd.runUnderlying25 rfl Tryd.sizeOf3 rfl) ?_
    refine vl_val rfl (.some rfl) (val_load Tryd.isAgg3 rfl (by first | exact cell_cells (by repeat constructor) rfl | exact cell_rd (by first | exact rd_sl (by repeat constructor) | exact rd_old (by assumption) rfl) (by first | exact bcells_at (by omega) | exact ucells_at (by omega) | exact icells_at (by omega) | exact tcells_at (by omega) | exact bcells_get (by omega) | exact icells_get (by omega) | exact tcells_get (by omega) | exact ucells_get (by omega)) | exact cell_old (by assumption) (by simp [fps]))) ?_
    refine vl_nil ?_
    refine vc_block ?_
    refine vc_seq ?_
    refine vc_region ?_
    refine vl_val rfl (.some rfl) (val_eq rfl rfl) ?_
    refine vl_val rfl (.some rfl) (val_assign rfl) ?_
    refine vl_nil ?_
    refine vc_cond rfl (fun hc1 => ?_) (fun hc1 => ?_)
    · (try replace hc1 := of_decide_eq_true hc1)
      refine vc_seq ?_
      refine vc_region ?_
      refine vl_val rfl (.some rfl) (val_assign rfl) ?_
      refine vl_nil ?_
      refine vc_ret ?_
      refine ⟨_, [], _, res1 Tryd.results13 rfl, .nil, ?_⟩
      show _ = _; unfold cmpV; rw [if_neg heq, if_pos hc1]
    · (try replace hc1 := of_decide_eq_false hc1)
      refine vc_seq ?_
      refine vc_region ?_
      refine vl_val rfl (.some rfl) (val_eq rfl rfl) ?_
      refine vl_val rfl (.some rfl) (val_assign rfl) ?_
      refine vl_nil ?_
      refine vc_cond rfl (fun hc2 => ?_) (fun hc2 => ?_)
      · (try replace hc2 := of_decide_eq_true hc2)
        refine vc_seq ?_
        refine vc_region ?_
        refine vl_val rfl (.some rfl) (by first | exact val_fieldAddr Tryd.runUnderlying25 rfl Tryd.sizeOf3 rfl | exact val_fieldAddrR Tryd.runUnderlying25 rfl Tryd.sizeOf3 rfl) ?_
        refine vl_val rfl (.some rfl) (val_load Tryd.isAgg3 rfl (by first | exact cell_cells (by repeat constructor) rfl | exact cell_rd (by first | exact rd_sl (by repeat constructor) | exact rd_old (by assumption) rfl) (by first | exact bcells_at (by omega) | exact ucells_at (by omega) | exact icells_at (by omega) | exact tcells_at (by omega) | exact bcells_get (by omega) | exact icells_get (by omega) | exact tcells_get (by omega) | exact ucells_get (by omega)) | exact cell_old (by assumption) (by simp [fps]))) ?_
        refine vl_val rfl (.some rfl) (by first | exact val_fieldAddr Tryd.runUnderlying25 rfl Tryd.sizeOf3 rfl | exact val_fieldAddrR Tryd.runUnderlying25 rfl Tryd.sizeOf3 rfl) ?_
        refine vl_val rfl (.some rfl) (val_load Tryd.isAgg3 rfl (by first | exact cell_cells (by repeat constructor) rfl | exact cell_rd (by first | exact rd_sl (by repeat constructor) | exact rd_old (by assumption) rfl) (by first | exact bcells_at (by omega) | exact ucells_at (by omega) | exact icells_at (by omega) | exact tcells_at (by omega) | exact bcells_get (by omega) | exact icells_get (by omega) | exact tcells_get (by omega) | exact ucells_get (by omega)) | exact cell_old (by assumption) (by simp [fps]))) ?_
        refine vl_callV rfl rfl (.some rfl) Tryd.call28 rfl (fun w hw => oCmp _ _ w) ?_
        refine vl_val rfl (.some rfl) (val_assign rfl) ?_
        refine vl_nil ?_
        refine vc_ret ?_
        refine ⟨_, [], _, res1 Tryd.results13 rfl, .nil, ?_⟩
        show _ = _; unfold cmpV; rw [if_neg heq, if_neg hc1, if_pos hc2]
      · (try replace hc2 := of_decide_eq_false hc2)
        refine vc_seq ?_
        refine vc_region ?_
        refine vl_val rfl (.some rfl) (val_eq rfl rfl) ?_
        refine vl_val rfl (.some rfl) (val_assign rfl) ?_
        refine vl_nil ?_
        refine vc_cond rfl (fun hc3 => ?_) (fun hc3 => ?_)
        · (try replace hc3 := of_decide_eq_true hc3)
          refine vc_seq ?_
          refine vc_region ?_
          refine vl_val rfl (.some rfl) (by first | exact val_fieldAddr Tryd.runUnderlying25 rfl Tryd.sizeOf9 rfl | exact val_fieldAddrR Tryd.runUnderlying25 rfl Tryd.sizeOf9 rfl) ?_
          refine vl_val rfl (.some rfl) (val_load Tryd.isAgg9 rfl (by first | exact cell_cells (by repeat constructor) rfl | exact cell_rd (by first | exact rd_sl (by repeat constructor) | exact rd_old (by assumption) rfl) (by first | exact bcells_at (by omega) | exact ucells_at (by omega) | exact icells_at (by omega) | exact tcells_at (by omega) | exact bcells_get (by omega) | exact icells_get (by omega) | exact tcells_get (by omega) | exact ucells_get (by omega)) | exact cell_old (by assumption) (by simp [fps]))) ?_
          refine vl_val rfl (.some rfl) (by first | exact val_fieldAddr Tryd.runUnderlying25 rfl Tryd.sizeOf9 rfl | exact val_fieldAddrR Tryd.runUnderlying25 rfl Tryd.sizeOf9 rfl) ?_
          refine vl_val rfl (.some rfl) (val_load Tryd.isAgg9 rfl (by first | exact cell_cells (by repeat constructor) rfl | exact cell_rd (by first | exact rd_sl (by repeat constructor) | exact rd_old (by assumption) rfl) (by first | exact bcells_at (by omega) | exact ucells_at (by omega) | exact icells_at (by omega) | exact tcells_at (by omega) | exact bcells_get (by omega) | exact icells_get (by omega) | exact tcells_get (by omega) | exact ucells_get (by omega)) | exact cell_old (by assumption) (by simp [fps]))) ?_
          refine vl_callV rfl rfl (.some rfl) Tryd.call29 rfl (fun w hw => sCompare _ _ w) ?_
          refine vl_val rfl (.some rfl) (val_assign rfl) ?_
          refine vl_nil ?_
          refine vc_ret ?_
          refine ⟨_, [], _, res1 Tryd.results13 rfl, .nil, ?_⟩
          show _ = _; unfold cmpV; rw [if_neg heq, if_neg hc1, if_neg hc2, if_pos hc3]
        · (try replace hc3 := of_decide_eq_false hc3)
          refine vc_skip ?_
          refine vc_seq ?_
          refine vc_region ?_
          refine vl_val rfl (.some rfl) (by first | exact val_fieldAddr Tryd.runUnderlying25 rfl Tryd.sizeOf3 rfl | exact val_fieldAddrR Tryd.runUnderlying25 rfl Tryd.sizeOf3 rfl) ?_
          refine vl_val rfl (.some rfl) (val_load Tryd.isAgg3 rfl (by first | exact cell_cells (by repeat constructor) rfl | exact cell_rd (by first | exact rd_sl (by repeat constructor) | exact rd_old (by assumption) rfl) (by first | exact bcells_at (by omega) | exact ucells_at (by omega) | exact icells_at (by omega) | exact tcells_at (by omega) | exact bcells_get (by omega) | exact icells_get (by omega) | exact tcells_get (by omega) | exact ucells_get (by omega)) | exact cell_old (by assumption) (by simp [fps]))) ?_
          refine vl_val rfl (.some rfl) (by first | exact val_fieldAddr Tryd.runUnderlying25 rfl Tryd.sizeOf3 rfl | exact val_fieldAddrR Tryd.runUnderlying25 rfl Tryd.sizeOf3 rfl) ?_
          refine vl_val rfl (.some rfl) (val_load Tryd.isAgg3 rfl (by first | exact cell_cells (by repeat constructor) rfl | exact cell_rd (by first | exact rd_sl (by repeat constructor) | exact rd_old (by assumption) rfl) (by first | exact bcells_at (by omega) | exact ucells_at (by omega) | exact icells_at (by omega) | exact tcells_at (by omega) | exact bcells_get (by omega) | exact icells_get (by omega) | exact tcells_get (by omega) | exact ucells_get (by omega)) | exact cell_old (by assumption) (by simp [fps]))) ?_
          refine vl_callV rfl rfl (.some rfl) Tryd.call27 rfl (fun w hw => cCompare _ _ w) ?_
          refine vl_val rfl (.some rfl) (val_assign rfl) ?_
          refine vl_nil ?_
          refine vc_ret ?_
          refine ⟨_, [], _, res1 Tryd.results13 rfl, .nil, ?_⟩
          show _ = _; unfold cmpV; rw [if_neg heq, if_neg hc1, if_neg hc2, if_neg hc3]



set_option maxRecDepth 20000 in
theorem sT33 : SlT Tryd.prog 33 5 1 1 (.int .u8 0) := ⟨Tryd.underlying33, ⟨Tryd.t5, Tryd.type5, rfl, rfl, rfl⟩, rfl, Nat.lt_of_sub_eq_succ rfl⟩
abbrev BC (b : Nat) (o : Option Addr) (A : Option Addr) (n c : Nat) : Chunk := cells b [.pointer o, .slice A n c] 89
theorem noesc_run (v : Value) (w : World) : (callFunc 78 #[v]).run Tryd.prog w = .ok (.value v) w := by
  rw [run_callFunc_extern (e := Extern.AbiNoEscape.same) Tryd.func78 (by kernel_rfl) (by kernel_rfl) (by kernel_rfl) (by kernel_rfl)]; rfl
theorem noz_run (n : Nat) (hn : n ≤ 1000) (w : World) : ∃ cs : Array Value, (callFunc 79 #[.int .i64 (n : Int)]).run Tryd.prog w = .ok (.value (.slice (some ⟨w.heap.size, 0, none⟩) n cs.size)) (w.drew.drew.alloc (.cells cs 5)) ∧ n ≤ cs.size ∧ cs.size ≤ maxLen := by
  obtain ⟨cs, hrun, hle, hmax⟩ := Lib.run_makeNoZero (P := Tryd.prog) (w := w) #[3] 33 5 Tryd.underlying33 n (by omega)
  refine ⟨cs, ?_, hle, hmax (by unfold maxLen; omega)⟩
  rw [run_callFunc_extern (e := Extern.BytealgMakeNoZero.makeNoZero #[3] #[33]) Tryd.func79 (by kernel_rfl) (by kernel_rfl) (by kernel_rfl) (by kernel_rfl), hrun]
  rfl
def dblG : List UInt8 → List UInt8
  | [] => []
  | c :: l => if c = 39 then 39 :: 39 :: dblG l else c :: dblG l
theorem dbl_cat : ∀ a b : List UInt8, dblG (a ++ b) = dblG a ++ dblG b
  | [], b => rfl
  | c :: a, b => by
    rw [List.cons_append, dblG, dblG, dbl_cat a b]
    split <;> rfl
theorem dbl_plain : ∀ {l : List UInt8}, (39 : UInt8) ∉ l → dblG l = l
  | [], _ => rfl
  | c :: l, h => by
    rw [dblG, if_neg (fun e => h (by rw [e]; exact List.mem_cons_self ..)), dbl_plain (fun e => h (List.mem_cons_of_mem _ e))]
theorem dbl_quote (l : List UInt8) : dblG (39 :: l) = 39 :: 39 :: dblG l := by rw [dblG, if_pos rfl]
theorem dbl_len : ∀ l : List UInt8, (dblG l).length = l.length + l.count 39
  | [] => rfl
  | c :: l => by
    rw [dblG, List.count_cons]
    split
    · rename_i h; subst h; simp [dbl_len l]; omega
    · rename_i h; simp [dbl_len l, h]; omega
theorem cnt_le (l : List UInt8) : l.count 39 ≤ l.length := List.count_le_length
theorem dbl_inj : ∀ {a b : List UInt8}, dblG a = dblG b → a = b
  | [], [], _ => rfl
  | [], c :: b, h => by rw [dblG, dblG] at h; split at h <;> cases h
  | c :: a, [], h => by rw [dblG, dblG] at h; split at h <;> cases h
  | c :: a, d :: b, h => by
    rw [dblG, dblG] at h
    by_cases h1 : c = 39 <;> by_cases h2 : d = 39
    · rw [if_pos h1, if_pos h2] at h
      rw [h1, h2, dbl_inj (List.cons.inj (List.cons.inj h).2).2]
    · rw [if_pos h1, if_neg h2] at h
      exact absurd (List.cons.inj h).1.symm h2
    · rw [if_neg h1, if_pos h2] at h
      exact absurd (List.cons.inj h).1 h1
    · rw [if_neg h1, if_neg h2] at h
      rw [(List.cons.inj h).1, dbl_inj (List.cons.inj h).2]
def qI (v : List UInt8) : Int := Lib.indexByte v 39
theorem q_no : ∀ {v : List UInt8}, (39 : UInt8) ∉ v → qI v = -1
  | [], _ => rfl
  | c :: l, h => by
    have h1 : ¬ c = 39 := fun e => h (by rw [e]; exact List.mem_cons_self ..)
    have h2 := q_no (v := l) (fun e => h (List.mem_cons_of_mem _ e))
    unfold qI at h2 ⊢
    unfold Lib.indexByte
    rw [if_neg (by simpa using h1), h2]
    rfl
theorem q_at : ∀ {a r : List UInt8}, (39 : UInt8) ∉ a → qI (a ++ 39 :: r) = (a.length : Nat)
  | [], r, _ => by unfold qI Lib.indexByte; rfl
  | c :: a, r, h => by
    have h1 : ¬ c = 39 := fun e => h (by rw [e]; exact List.mem_cons_self ..)
    have h2 := q_at (a := a) (r := r) (fun e => h (List.mem_cons_of_mem _ e))
    unfold qI at h2 ⊢
    rw [List.cons_append]
    unfold Lib.indexByte
    rw [if_neg (by simpa using h1), h2, if_neg (by simp <;> omega)]
    simp
theorem q_split : ∀ (v : List UInt8), (39 : UInt8) ∉ v ∨ ∃ a r, v = a ++ 39 :: r ∧ (39 : UInt8) ∉ a
  | [] => .inl (by simp)
  | c :: v => by
    by_cases h : c = 39
    · exact .inr ⟨[], v, by rw [h]; rfl, by simp⟩
    · rcases q_split v with h1 | ⟨a, r, rfl, h1⟩
      · exact .inl (by simp; exact ⟨fun e => h e.symm, h1⟩)
      · exact .inr ⟨c :: a, r, rfl, by simp; exact ⟨fun e => h e.symm, h1⟩⟩
theorem cnt_zero {v : List UInt8} (h : v.count 39 = 0) : (39 : UInt8) ∉ v := List.count_eq_zero.1 h
theorem cnt_pos {v : List UInt8} (h : 0 < v.count 39) : ∃ a r, v = a ++ 39 :: r ∧ (39 : UInt8) ∉ a ∧ qI v = (a.length : Nat) ∧ v.count 39 = r.count 39 + 1 := by
  rcases q_split v with h1 | ⟨a, r, rfl, h1⟩
  · rw [List.count_eq_zero.2 h1] at h; omega
  · exact ⟨a, r, rfl, h1, q_at h1, by rw [List.count_append, List.count_eq_zero.2 h1, List.count_cons_self]; omega⟩

set_option maxRecDepth 20000 in
theorem bCheck0 (b : Nat) (w : World) : Fn Tryd.prog 69 [.pointer (some ⟨b, 0, none⟩)] [BC b none none 0 0] (ret fun u H' => H' = [BC b (some ⟨b, 0, none⟩) none 0 0]) w := by
  refine fn_enter Tryd.func69 rfl Tryd.ntmps69 rfl ?_
  refine vc_seq ?_
  refine vc_region ?_
  refine vl_val rfl (.some rfl) (val_move rfl) ?_
  refine vl_val rfl (.some rfl) (val_nil rfl rfl) ?_
  refine vl_val rfl (.some rfl) (by first | exact val_fieldAddr Tryd.runUnderlying89 rfl Tryd.sizeOf87 rfl | exact val_fieldAddrR Tryd.runUnderlying89 rfl Tryd.sizeOf87 rfl) ?_
  refine vl_val rfl (.some rfl) (val_load Tryd.isAgg87 rfl (by first | exact cell_cells (by repeat constructor) rfl | exact cell_rd (by first | exact rd_sl (by repeat constructor) | exact rd_old (by assumption) rfl) (by first | exact bcells_at (by omega) | exact ucells_at (by omega) | exact icells_at (by omega) | exact tcells_at (by omega) | exact bcells_get (by omega) | exact icells_get (by omega) | exact tcells_get (by omega) | exact ucells_get (by omega)) | exact cell_old (by assumption) (by simp [fps]))) ?_
  refine vl_val rfl (.some rfl) (val_opO rfl rfl guard_ptr (bin_nil_eq Tryd.runUnderlying87)) ?_
  refine vl_nil ?_
  refine vc_cond rfl (fun _ => ?_) (fun h => by cases h)
  refine vc_region ?_
  refine vl_val rfl (.some rfl) (val_move rfl) ?_
  refine vl_val rfl (.some rfl) (val_move rfl) ?_
  refine vl_val rfl (.some rfl) (val_toUn Tryd.runUnderlying87 Tryd.runUnderlying112 Tryd.sizeOf89 rfl rfl (by repeat constructor) rfl) ?_
  refine vl_ext rfl rfl (.some rfl) rfl (noesc_run _) ?_
  refine vl_val rfl (.some rfl) (val_ofUn Tryd.runUnderlying112 Tryd.runUnderlying87 Tryd.sizeOf89 rfl rfl (by repeat constructor) (by kernel_rfl)) ?_
  refine vl_val rfl (.some rfl) (val_nil rfl rfl) ?_
  refine vl_val rfl (.some rfl) (by first | exact val_fieldAddr Tryd.runUnderlying89 rfl Tryd.sizeOf87 rfl | exact val_fieldAddrR Tryd.runUnderlying89 rfl Tryd.sizeOf87 rfl) ?_
  first | refine vl_store rfl rfl .none rfl rfl Tryd.sizeOf87 rfl (by repeat constructor) (by first | decide | exact Nat.le_refl _ | exact Nat.le_of_ble_eq_true rfl | (simp; omega)) ?_ | refine vl_storeSl rfl rfl .none rfl rfl Tryd.sizeOf87 rfl (by simp [Value.cells]) (by repeat constructor) (by first | decide | (simp [Value.cells]; omega)) ?_
  refine vl_nil ?_
  refine ⟨_, [BC b (some ⟨b, 0, none⟩) none 0 0], _, res0 Tryd.results69, (by repeat constructor), ?_⟩
  rfl
set_option maxRecDepth 20000 in
theorem bCheck (b : Nat) (A : Option Addr) (n c : Nat) (w : World) : FnR Tryd.prog 69 [.pointer (some ⟨b, 0, none⟩)] [BC b (some ⟨b, 0, none⟩) A n c] (.tuple #[]) w := by
  refine fn_enter Tryd.func69 rfl Tryd.ntmps69 rfl ?_
  refine vc_seq ?_
  refine vc_region ?_
  refine vl_val rfl (.some rfl) (val_move rfl) ?_
  refine vl_val rfl (.some rfl) (val_nil rfl rfl) ?_
  refine vl_val rfl (.some rfl) (by first | exact val_fieldAddr Tryd.runUnderlying89 rfl Tryd.sizeOf87 rfl | exact val_fieldAddrR Tryd.runUnderlying89 rfl Tryd.sizeOf87 rfl) ?_
  refine vl_val rfl (.some rfl) (val_load Tryd.isAgg87 rfl (by first | exact cell_cells (by repeat constructor) rfl | exact cell_rd (by first | exact rd_sl (by repeat constructor) | exact rd_old (by assumption) rfl) (by first | exact bcells_at (by omega) | exact ucells_at (by omega) | exact icells_at (by omega) | exact tcells_at (by omega) | exact bcells_get (by omega) | exact icells_get (by omega) | exact tcells_get (by omega) | exact ucells_get (by omega)) | exact cell_old (by assumption) (by simp [fps]))) ?_
  refine vl_val rfl (.some rfl) (val_opO rfl rfl guard_ptr (bin_ptr_eq Tryd.runUnderlying87)) ?_
  refine vl_nil ?_
  refine vc_cond rfl (fun h => by cases h) (fun _ => ?_)
  refine vc_seq ?_
  refine vc_region ?_
  refine vl_val rfl (.some rfl) (val_move rfl) ?_
  refine vl_val rfl (.some rfl) (val_nil rfl rfl) ?_
  refine vl_val rfl (.some rfl) (by first | exact val_fieldAddr Tryd.runUnderlying89 rfl Tryd.sizeOf87 rfl | exact val_fieldAddrR Tryd.runUnderlying89 rfl Tryd.sizeOf87 rfl) ?_
  refine vl_val rfl (.some rfl) (val_load Tryd.isAgg87 rfl (by first | exact cell_cells (by repeat constructor) rfl | exact cell_rd (by first | exact rd_sl (by repeat constructor) | exact rd_old (by assumption) rfl) (by first | exact bcells_at (by omega) | exact ucells_at (by omega) | exact icells_at (by omega) | exact tcells_at (by omega) | exact bcells_get (by omega) | exact icells_get (by omega) | exact tcells_get (by omega) | exact ucells_get (by omega)) | exact cell_old (by assumption) (by simp [fps]))) ?_
  refine vl_val rfl (.some rfl) (val_move rfl) ?_
  refine vl_val rfl (.some rfl) (val_opO rfl rfl guard_ptr (bin_same_ne Tryd.runUnderlying87 Tryd.sizeOf89)) ?_
  refine vl_nil ?_
  refine vc_cond rfl (fun h => by cases h) (fun _ => ?_)
  refine vc_skip ?_
  refine ⟨_, [BC b (some ⟨b, 0, none⟩) A n c], _, res0 Tryd.results69, (by repeat constructor), ?_⟩
  exact ⟨rfl, rfl⟩
set_option maxRecDepth 20000 in
theorem bGrow0 (b g : Nat) (hg1 : 1 ≤ g) (hg2 : g ≤ 1000) (w : World) : Fn Tryd.prog 70 [.pointer (some ⟨b, 0, none⟩), .int .i64 (g : Int)] [BC b (some ⟨b, 0, none⟩) none 0 0] (ret fun u H' => ∃ G c, g ≤ c ∧ H' = [BC b (some ⟨b, 0, none⟩) (some ⟨G, 0, none⟩) 0 c, sl (some ⟨G, 0, none⟩) 0 c 5 1 (bcells [])]) w := by
  refine fn_enter Tryd.func70 rfl Tryd.ntmps70 rfl ?_
  refine vc_seq ?_
  refine vc_draws [0, 1, 2, 3, 4, 5, 6, 7, 9, 10, 11, 12, 13, 14, 15] [] [0, 1, 2, 3, 4, 5, 6, 7, 9, 10, 11, 12, 13, 8, 14, 15] rfl (by kernel_rfl) (fun _ _ _ h => h) ?_
  refine vd_val rfl rfl rfl (.some rfl) (val_move rfl) ?_
  refine vd_val rfl rfl rfl (.some rfl) (val_nil rfl rfl) ?_
  refine vd_val rfl rfl rfl (.some rfl) (by first | exact val_fieldAddr Tryd.runUnderlying89 rfl Tryd.sizeOf33 rfl | exact val_fieldAddrR Tryd.runUnderlying89 rfl Tryd.sizeOf33 rfl) ?_
  refine vd_val rfl rfl rfl (.some rfl) (val_load Tryd.isAgg33 rfl (by first | exact cell_cells (by repeat constructor) rfl | exact cell_rd (by first | exact rd_sl (by repeat constructor) | exact rd_old (by assumption) rfl) (by first | exact bcells_at (by omega) | exact ucells_at (by omega) | exact icells_at (by omega) | exact tcells_at (by omega) | exact bcells_get (by omega) | exact icells_get (by omega) | exact tcells_get (by omega) | exact ucells_get (by omega)) | exact cell_old (by assumption) (by simp [fps]))) ?_
  refine vd_val rfl rfl rfl (.some rfl) (val_capSl Tryd.runUnderlying33 rfl) ?_
  refine vd_val rfl rfl rfl (.some rfl) (val_mul rfl rfl (by first | exact w_i64 (by omega) (by omega) | rfl)) ?_
  refine vd_val rfl rfl rfl (.some rfl) (val_move rfl) ?_
  refine vd_val rfl rfl rfl (.some rfl) (val_add rfl rfl (show _ = ((g : Nat) : Int) by rw [w_i64 (by omega) (by omega)]; omega)) ?_
  refine vd_val rfl rfl rfl (.some rfl) (val_move rfl) ?_
  refine vd_val rfl rfl rfl (.some rfl) (val_nil rfl rfl) ?_
  refine vd_val rfl rfl rfl (.some rfl) (by first | exact val_fieldAddr Tryd.runUnderlying89 rfl Tryd.sizeOf33 rfl | exact val_fieldAddrR Tryd.runUnderlying89 rfl Tryd.sizeOf33 rfl) ?_
  refine vd_val rfl rfl rfl (.some rfl) (val_load Tryd.isAgg33 rfl (by first | exact cell_cells (by repeat constructor) rfl | exact cell_rd (by first | exact rd_sl (by repeat constructor) | exact rd_old (by assumption) rfl) (by first | exact bcells_at (by omega) | exact ucells_at (by omega) | exact icells_at (by omega) | exact tcells_at (by omega) | exact bcells_get (by omega) | exact icells_get (by omega) | exact tcells_get (by omega) | exact ucells_get (by omega)) | exact cell_old (by assumption) (by simp [fps]))) ?_
  refine vd_val rfl rfl rfl (.some rfl) (val_lenSl Tryd.runUnderlying33 rfl) ?_
  refine vd_op rfl rfl ?_
  refine vl_noZero (n := g) rfl rfl (.some rfl) rfl (noz_run g hg2) (fun G c hgc => ?_)
  refine vl_nil ?_
  refine ⟨fun _ => ⟨_, (by repeat (first | exact .nil | exact sub_self _ | exact sub_skip (sub_self _) | exact sub_skip (sub_skip (sub_self _)) | exact sub_skip (sub_skip (sub_skip (sub_self _))) | (apply Sub.cons; · repeat (first | exact .head | apply Take.tail))))⟩, ?_⟩
  refine vd_val rfl rfl rfl (.some rfl) (val_cutTo Tryd.runUnderlying33 Tryd.sizeOf5 rfl rfl (by decide) (by omega)) ?_
  refine vd_val rfl rfl rfl (.some rfl) (val_assign rfl) ?_
  refine vd_nil ?_
  refine vc_seq ?_
  refine vc_region ?_
  refine vl_val rfl (.some rfl) (val_move rfl) ?_
  refine vl_val rfl (.some rfl) (val_move rfl) ?_
  refine vl_val rfl (.some rfl) (val_nil rfl rfl) ?_
  refine vl_val rfl (.some rfl) (by first | exact val_fieldAddr Tryd.runUnderlying89 rfl Tryd.sizeOf33 rfl | exact val_fieldAddrR Tryd.runUnderlying89 rfl Tryd.sizeOf33 rfl) ?_
  refine vl_val rfl (.some rfl) (val_load Tryd.isAgg33 rfl (by first | exact cell_cells (by repeat constructor) rfl | exact cell_rd (by first | exact rd_sl (by repeat constructor) | exact rd_old (by assumption) rfl) (by first | exact bcells_at (by omega) | exact ucells_at (by omega) | exact icells_at (by omega) | exact tcells_at (by omega) | exact bcells_get (by omega) | exact icells_get (by omega) | exact tcells_get (by omega) | exact ucells_get (by omega)) | exact cell_old (by assumption) (by simp [fps]))) ?_
  refine vl_val rfl (.some rfl) (val_copyNil Tryd.underlying33 (by kernel_rfl) rfl rfl) ?_
  refine vl_nil ?_
  refine vc_region ?_
  refine vl_val rfl (.some rfl) (val_move rfl) ?_
  refine vl_val rfl (.some rfl) (val_move rfl) ?_
  refine vl_val rfl (.some rfl) (val_nil rfl rfl) ?_
  refine vl_val rfl (.some rfl) (by first | exact val_fieldAddr Tryd.runUnderlying89 rfl Tryd.sizeOf33 rfl | exact val_fieldAddrR Tryd.runUnderlying89 rfl Tryd.sizeOf33 rfl) ?_
  first | refine vl_store rfl rfl .none rfl rfl Tryd.sizeOf33 rfl (by repeat constructor) (by first | decide | exact Nat.le_refl _ | exact Nat.le_of_ble_eq_true rfl | (simp; omega)) ?_ | refine vl_storeSl rfl rfl .none rfl rfl Tryd.sizeOf33 rfl (by simp [Value.cells]) (by repeat constructor) (by first | decide | (simp [Value.cells]; omega)) ?_
  refine vl_nil ?_
  refine ⟨_, [BC b (some ⟨b, 0, none⟩) (some ⟨G, 0, none⟩) 0 c, sl (some ⟨G, 0, none⟩) 0 c 5 1 []], _, res0 Tryd.results70, (by repeat constructor), ?_⟩
  exact ⟨G, c, hgc, rfl⟩
set_option maxRecDepth 20000 in
theorem bGrow (b g : Nat) (hg1 : 1 ≤ g) (hg2 : g ≤ 1000) (w : World) : Fn Tryd.prog 56 [.pointer (some ⟨b, 0, none⟩), .int .i64 (g : Int)] [BC b none none 0 0] (ret fun u H' => ∃ G c, g ≤ c ∧ H' = [BC b (some ⟨b, 0, none⟩) (some ⟨G, 0, none⟩) 0 c, sl (some ⟨G, 0, none⟩) 0 c 5 1 (bcells [])]) w := by
  refine fn_enter Tryd.func56 rfl Tryd.ntmps56 rfl ?_
  refine vc_seq ?_
  refine vc_region ?_
  refine vl_val rfl (.some rfl) (val_move rfl) ?_
  refine vl_call (C := [BC b none none 0 0]) rfl rfl (.some rfl) Tryd.call69 rfl (by repeat constructor) (fun w hw => bCheck0 b w) (fun v H' h => ?_)
  obtain rfl := h
  show VL _ _ _ _ _ (_ :: _)
  refine vl_nil ?_
  refine vc_seq ?_
  refine vc_seq ?_
  refine vc_region ?_
  refine vl_val rfl (.some rfl) (val_move rfl) ?_
  refine vl_val rfl (.some rfl) (val_lt rfl rfl) ?_
  refine vl_nil ?_
  refine vc_cond rfl (fun hc0 => False.elim (by (try replace hc0 := of_decide_eq_true hc0); omega)) (fun hc0 => ?_)
  (try replace hc0 := of_decide_eq_false hc0)
  refine vc_skip ?_
  refine vc_seq ?_
  refine vc_draws [0, 1, 2, 3, 4, 5, 6, 7, 8, 9, 10, 11, 12] [] [0, 1, 2, 3, 4, 5, 6, 7, 8, 9, 10, 11, 12] rfl (by kernel_rfl) (fun _ _ _ h => h) ?_
  refine vd_val rfl rfl rfl (.some rfl) (val_move rfl) ?_
  refine vd_val rfl rfl rfl (.some rfl) (val_nil rfl rfl) ?_
  refine vd_val rfl rfl rfl (.some rfl) (by first | exact val_fieldAddr Tryd.runUnderlying89 rfl Tryd.sizeOf33 rfl | exact val_fieldAddrR Tryd.runUnderlying89 rfl Tryd.sizeOf33 rfl) ?_
  refine vd_val rfl rfl rfl (.some rfl) (val_load Tryd.isAgg33 rfl (by first | exact cell_cells (by repeat constructor) rfl | exact cell_rd (by first | exact rd_sl (by repeat constructor) | exact rd_old (by assumption) rfl) (by first | exact bcells_at (by omega) | exact ucells_at (by omega) | exact icells_at (by omega) | exact tcells_at (by omega) | exact bcells_get (by omega) | exact icells_get (by omega) | exact tcells_get (by omega) | exact ucells_get (by omega)) | exact cell_old (by assumption) (by simp [fps]))) ?_
  refine vd_val rfl rfl rfl (.some rfl) (val_capSl Tryd.runUnderlying33 rfl) ?_
  refine vd_val rfl rfl rfl (.some rfl) (val_move rfl) ?_
  refine vd_val rfl rfl rfl (.some rfl) (val_nil rfl rfl) ?_
  refine vd_val rfl rfl rfl (.some rfl) (by first | exact val_fieldAddr Tryd.runUnderlying89 rfl Tryd.sizeOf33 rfl | exact val_fieldAddrR Tryd.runUnderlying89 rfl Tryd.sizeOf33 rfl) ?_
  refine vd_val rfl rfl rfl (.some rfl) (val_load Tryd.isAgg33 rfl (by first | exact cell_cells (by repeat constructor) rfl | exact cell_rd (by first | exact rd_sl (by repeat constructor) | exact rd_old (by assumption) rfl) (by first | exact bcells_at (by omega) | exact ucells_at (by omega) | exact icells_at (by omega) | exact tcells_at (by omega) | exact bcells_get (by omega) | exact icells_get (by omega) | exact tcells_get (by omega) | exact ucells_get (by omega)) | exact cell_old (by assumption) (by simp [fps]))) ?_
  refine vd_val rfl rfl rfl (.some rfl) (val_lenSl Tryd.runUnderlying33 rfl) ?_
  refine vd_val rfl rfl rfl (.some rfl) (val_sub rfl rfl (by first | exact w_i64 (by omega) (by omega) | rfl)) ?_
  refine vd_val rfl rfl rfl (.some rfl) (val_move rfl) ?_
  refine vd_val rfl rfl rfl (.some rfl) (val_lt rfl rfl) ?_
  refine vd_nil ?_
  refine vc_cond rfl (fun hc1 => ?_) (fun hc1 => False.elim (by (try replace hc1 := of_decide_eq_false hc1); omega))
  (try replace hc1 := of_decide_eq_true hc1)
  refine vc_region ?_
  refine vl_val rfl (.some rfl) (val_move rfl) ?_
  refine vl_val rfl (.some rfl) (val_move rfl) ?_
  refine vl_call (C := [BC b (some ⟨b, 0, none⟩) none 0 0]) rfl rfl (.some rfl) Tryd.call70 rfl (by repeat constructor) (fun w hw => bGrow0 b g hg1 hg2 w) (fun v H' h => ?_)
  obtain ⟨G, c, hgc, rfl⟩ := h
  show VL _ _ _ _ _ (_ :: _ :: _)
  refine vl_nil ?_
  refine ⟨_, [BC b (some ⟨b, 0, none⟩) (some ⟨G, 0, none⟩) 0 c, sl (some ⟨G, 0, none⟩) 0 c 5 1 (bcells [])], _, res0 Tryd.results56, (by repeat constructor), ?_⟩
  exact ⟨G, c, hgc, rfl⟩
set_option maxRecDepth 20000 in
theorem bWrite (b : Nat) (A : Option Addr) (c : Nat) (l : List UInt8) (hl : l.length ≤ 1000000) (s : ByteArray) (hs : s.size ≤ 1000000) (w : World) : Fn Tryd.prog 58 [.pointer (some ⟨b, 0, none⟩), .string s] [BC b (some ⟨b, 0, none⟩) A l.length c, sl A l.length c 5 1 (bcells l)] (ret fun u H' => ∃ A' c', H' = [BC b (some ⟨b, 0, none⟩) A' (l ++ s.data.toList).length c', sl A' (l ++ s.data.toList).length c' 5 1 (bcells (l ++ s.data.toList))]) w := by
  refine fn_enter Tryd.func58 rfl Tryd.ntmps58 rfl ?_
  refine vc_seq ?_
  refine vc_region ?_
  refine vl_val rfl (.some rfl) (val_assign rfl) ?_
  refine vl_val rfl (.some rfl) (val_assign rfl) ?_
  refine vl_nil ?_
  refine vc_seq ?_
  refine vc_region ?_
  refine vl_val rfl (.some rfl) (val_move rfl) ?_
  refine vl_callR [BC b (some ⟨b, 0, none⟩) A l.length c] rfl rfl (.some rfl) Tryd.call69 rfl (by repeat constructor) (fun w hw => bCheck b A l.length c w) ?_
  refine vl_nil ?_
  refine vc_seq ?_
  refine vc_region ?_
  refine vl_val rfl (.some rfl) (val_move rfl) ?_
  refine vl_val rfl (.some rfl) (val_move rfl) ?_
  refine vl_val rfl (.some rfl) (val_nil rfl rfl) ?_
  refine vl_val rfl (.some rfl) (by first | exact val_fieldAddr Tryd.runUnderlying89 rfl Tryd.sizeOf33 rfl | exact val_fieldAddrR Tryd.runUnderlying89 rfl Tryd.sizeOf33 rfl) ?_
  refine vl_val rfl (.some rfl) (val_load Tryd.isAgg33 rfl (by first | exact cell_cells (by repeat constructor) rfl | exact cell_rd (by first | exact rd_sl (by repeat constructor) | exact rd_old (by assumption) rfl) (by first | exact bcells_at (by omega) | exact ucells_at (by omega) | exact icells_at (by omega) | exact tcells_at (by omega) | exact bcells_get (by omega) | exact icells_get (by omega) | exact tcells_get (by omega) | exact ucells_get (by omega)) | exact cell_old (by assumption) (by simp [fps]))) ?_
  refine vl_val rfl (.some rfl) (val_move rfl) ?_
  refine vl_appendStr sT33 Tryd.underlying9 rfl rfl (.some rfl) rfl rfl (by omega) (by repeat constructor) (fun A14 k14 => ?_)
  refine vl_val rfl (.some rfl) (val_nil rfl rfl) ?_
  refine vl_val rfl (.some rfl) (by first | exact val_fieldAddr Tryd.runUnderlying89 rfl Tryd.sizeOf33 rfl | exact val_fieldAddrR Tryd.runUnderlying89 rfl Tryd.sizeOf33 rfl) ?_
  first | refine vl_store rfl rfl .none rfl rfl Tryd.sizeOf33 rfl (by repeat constructor) (by first | decide | exact Nat.le_refl _ | exact Nat.le_of_ble_eq_true rfl | (simp; omega)) ?_ | refine vl_storeSl rfl rfl .none rfl rfl Tryd.sizeOf33 rfl (by simp [Value.cells]) (by repeat constructor) (by first | decide | (simp [Value.cells]; omega)) ?_
  refine vl_nil ?_
  refine vc_seq ?_
  refine vc_region ?_
  refine vl_val rfl (.some rfl) (val_move rfl) ?_
  refine vl_val rfl (.some rfl) (val_lenStr Tryd.runUnderlying9 rfl) ?_
  refine vl_val rfl (.some rfl) (val_assign rfl) ?_
  refine vl_val rfl (.some rfl) (val_assign rfl) ?_
  refine vl_nil ?_
  refine vc_ret ?_
  refine ⟨_, [BC b (some ⟨b, 0, none⟩) A14 (l.length + s.size) k14, sl A14 (l.length + s.size) k14 5 1 (bcells l ++ Lib.strCells s)], _, res2 Tryd.results58 rfl rfl, (by repeat constructor), ?_⟩
  exact ⟨A14, k14, by rw [List.length_append, size_list, show bcells l ++ Lib.strCells s = bcells (l ++ s.data.toList) by simp [bcells, Lib.strCells]]⟩
set_option maxRecDepth 20000 in
theorem bString (b : Nat) (A : Option Addr) (c : Nat) (l : List UInt8) (h0 : l ≠ []) (hl : l.length ≤ 1000000) (w : World) : Fn Tryd.prog 60 [.pointer (some ⟨b, 0, none⟩)] [BC b (some ⟨b, 0, none⟩) A l.length c, sl A l.length c 5 1 (bcells l)] (ret fun u H' => u = .string ⟨l.toArray⟩) w := by
  refine fn_enter Tryd.func60 rfl Tryd.ntmps60 rfl ?_
  refine vc_seq ?_
  refine vc_region ?_
  refine vl_val rfl (.some rfl) (val_assign rfl) ?_
  refine vl_slSome (A := A) (n := l.length) (c := c) (e := 5) (sz := 1) (vs := bcells l) (by repeat constructor) (fun e => h0 (List.length_eq_zero_iff.1 e)) (fun g hg hgc => ?_)
  subst hg
  have hlp : 0 < l.length := List.length_pos_iff.2 h0
  refine vl_nil ?_
  refine vc_seq ?_
  refine vc_drawsS [0, 1, 2, 3, 5, 6, 7, 8, 9, 11] [] [0, 1, 2, 3, 5, 6, 7, 8, 9, 4, 10, 11] [BC b (some ⟨b, 0, none⟩) (some ⟨g, 0, none⟩) l.length c] (by repeat constructor) rfl (by kernel_rfl) (fun _ _ _ h => h) ?_
  refine vd_val rfl rfl rfl (.some rfl) (val_move rfl) ?_
  refine vd_val rfl rfl rfl (.some rfl) (val_nil rfl rfl) ?_
  refine vd_val rfl rfl rfl (.some rfl) (by first | exact val_fieldAddr Tryd.runUnderlying89 rfl Tryd.sizeOf33 rfl | exact val_fieldAddrR Tryd.runUnderlying89 rfl Tryd.sizeOf33 rfl) ?_
  refine vd_val rfl rfl rfl (.some rfl) (val_load Tryd.isAgg33 rfl (by first | exact cell_cells (by repeat constructor) rfl | exact cell_rd (by first | exact rd_sl (by repeat constructor) | exact rd_old (by assumption) rfl) (by first | exact bcells_at (by omega) | exact ucells_at (by omega) | exact icells_at (by omega) | exact tcells_at (by omega) | exact bcells_get (by omega) | exact icells_get (by omega) | exact tcells_get (by omega) | exact ucells_get (by omega)) | exact cell_old (by assumption) (by simp [fps]))) ?_
  refine vd_val rfl rfl rfl (.some rfl) (val_move rfl) ?_
  refine vd_val rfl rfl rfl (.some rfl) (val_nil rfl rfl) ?_
  refine vd_val rfl rfl rfl (.some rfl) (by first | exact val_fieldAddr Tryd.runUnderlying89 rfl Tryd.sizeOf33 rfl | exact val_fieldAddrR Tryd.runUnderlying89 rfl Tryd.sizeOf33 rfl) ?_
  refine vd_val rfl rfl rfl (.some rfl) (val_load Tryd.isAgg33 rfl (by first | exact cell_cells (by repeat constructor) rfl | exact cell_rd (by first | exact rd_sl (by repeat constructor) | exact rd_old (by assumption) rfl) (by first | exact bcells_at (by omega) | exact ucells_at (by omega) | exact icells_at (by omega) | exact tcells_at (by omega) | exact bcells_get (by omega) | exact icells_get (by omega) | exact tcells_get (by omega) | exact ucells_get (by omega)) | exact cell_old (by assumption) (by simp [fps]))) ?_
  refine vd_val rfl rfl rfl (.some rfl) (val_lenSl Tryd.runUnderlying33 rfl) ?_
  refine vd_op rfl rfl ?_
  refine vl_val rfl (.some rfl) (val_sliceData (c := c) (by omega) rfl) ?_
  refine vl_nil ?_
  refine ⟨fun _ => ⟨_, (by repeat (first | exact .nil | exact sub_self _ | exact sub_skip (sub_self _) | exact sub_skip (sub_skip (sub_self _)) | exact sub_skip (sub_skip (sub_skip (sub_self _))) | (apply Sub.cons; · repeat (first | exact .head | apply Take.tail))))⟩, ?_⟩
  refine vd_op rfl rfl ?_
  refine vl_unsafeStr rfl rfl (.some rfl) Tryd.underlying104 (by kernel_rfl) rfl rfl h0 (by omega) (by repeat constructor) ?_
  refine vl_nil ?_
  refine ⟨fun _ => ⟨_, (by repeat (first | exact .nil | exact sub_self _ | exact sub_skip (sub_self _) | exact sub_skip (sub_skip (sub_self _)) | exact sub_skip (sub_skip (sub_skip (sub_self _))) | (apply Sub.cons; · repeat (first | exact .head | apply Take.tail))))⟩, ?_⟩
  refine vd_val rfl rfl rfl (.some rfl) (val_assign rfl) ?_
  refine vd_nil ?_
  refine vc_ret ?_
  refine ⟨_, [], _, res1 Tryd.results60 rfl, (by repeat constructor), ?_⟩
  rfl



theorem qi_sub1 {v : List UInt8} (h : dblG v = [39, 39]) : qI v = 0 := by
  rw [dbl_inj (a := v) (b := [39]) (by rw [h]; rfl)]; rfl
theorem qi_sub2 {v : List UInt8} (h : dblG v ≠ [39, 39]) (hl : (dblG v).length ≤ 2) : qI v = -1 := by
  rcases q_split v with h1 | ⟨a, r, rfl, h1⟩
  · exact q_no h1
  · exfalso
    rw [dbl_cat, dbl_quote] at h hl
    simp only [List.length_append, List.length_cons] at hl
    have e1 : dblG a = [] := List.length_eq_zero_iff.1 (by omega)
    have e2 : dblG r = [] := List.length_eq_zero_iff.1 (by omega)
    exact h (by rw [e1, e2]; rfl)
theorem index_dbl (v : List UInt8) : Lib.index (dblG v) [39, 39] = qI v := by
  rcases q_split v with h1 | ⟨a, r, rfl, h1⟩
  · rw [q_no h1]
    refine Lib.index_none fun j _ => ?_
    cases h : Lib.occAt (dblG v) [39, 39] j with
    | false => rfl
    | true =>
      have := Lib.occAt_head rfl h
      rw [dbl_plain h1] at this
      exact absurd (List.mem_of_getElem? this) h1
  · rw [q_at h1]
    rw [dbl_cat, dbl_quote, dbl_plain h1]
    refine Lib.index_first (by simp) ?_ fun j hj => ?_
    · unfold Lib.occAt
      rw [List.drop_left]
      simp
    · cases h : Lib.occAt (a ++ 39 :: 39 :: dblG r) [39, 39] j with
      | false => rfl
      | true =>
        have := Lib.occAt_head rfl h
        rw [List.getElem?_append_left hj] at this
        exact absurd (List.mem_of_getElem? this) h1
theorem qi_first {v : List UInt8} (h : (dblG v).getD 0 0 = 39) : ∃ r, v = [] ++ 39 :: r ∧ (39 : UInt8) ∉ ([] : List UInt8) := by
  cases v with
  | nil => exact absurd h (by decide)
  | cons c r =>
    by_cases e : c = 39
    · exact ⟨r, by rw [e]; rfl, by simp⟩
    · rw [dblG, if_neg e] at h
      exact absurd h e
theorem qi_next {v : List UInt8} (h : (dblG v).getD 0 0 ≠ 39) : (qI (((dblG v).take ((dblG v).length - 1)).drop 1) = -1 ∧ qI v = -1) ∨ ∃ a r, v = a ++ 39 :: r ∧ (39 : UInt8) ∉ a ∧ qI (((dblG v).take ((dblG v).length - 1)).drop 1) = ((a.length - 1 : Nat) : Int) ∧ 1 ≤ a.length := by
  rcases q_split v with h1 | ⟨a, r, rfl, h1⟩
  · refine .inl ⟨q_no fun hm => ?_, q_no h1⟩
    rw [dbl_plain h1] at hm
    exact h1 (List.mem_of_mem_take (List.mem_of_mem_drop hm))
  · refine .inr ⟨a, r, rfl, h1, ?_⟩
    cases a with
    | nil => exact absurd (by rw [List.nil_append, dbl_quote]; rfl) h
    | cons c a =>
      have h2 : (39 : UInt8) ∉ a := fun e => h1 (List.mem_cons_of_mem _ e)
      refine ⟨?_, by simp⟩
      rw [dbl_cat, dbl_quote, dbl_plain h1]
      have e : ((c :: a ++ 39 :: 39 :: dblG r).take ((c :: a ++ 39 :: 39 :: dblG r).length - 1)).drop 1 = a ++ 39 :: ((39 :: dblG r).take (dblG r).length) := by
        rw [show (c :: a ++ 39 :: 39 :: dblG r).length - 1 = a.length + (1 + (dblG r).length) + 1 by simp; omega, List.cons_append, List.take_succ_cons, List.drop_one, List.tail_cons, List.take_append, List.take_of_length_le (by omega)]
        rw [show a.length + (1 + (dblG r).length) - a.length = (dblG r).length + 1 by omega, List.take_succ_cons]
      rw [e, q_at h2]
      simp
theorem dbl_get {a r : List UInt8} (h : (39 : UInt8) ∉ a) : (dblG (a ++ 39 :: r)).getD a.length 0 = 39 ∧ (dblG (a ++ 39 :: r)).getD (a.length + 1) 0 = 39 ∧ a.length + 2 ≤ (dblG (a ++ 39 :: r)).length ∧ ((dblG (a ++ 39 :: r)).take (a.length + 2)).drop a.length = [39, 39] ∧ (dblG (a ++ 39 :: r)).drop (a.length + 2) = dblG r := by
  rw [dbl_cat, dbl_quote, dbl_plain h]
  refine ⟨by simp, by simp [List.getElem?_append_right], by simp, ?_, ?_⟩
  · rw [List.take_append, List.take_of_length_le (by omega), show a.length + 2 - a.length = 2 by omega, List.drop_left]; rfl
  · rw [List.drop_append, List.drop_of_length_le (by omega), show a.length + 2 - a.length = 2 by omega]; rfl

theorem valE {X : Cx} {E : Env} {H : List Chunk} {op : Op} {ty : TypeId} {v v' : Value} (h : v = v') (hv : Val X E H op ty v) : Val X E H op ty v' := h ▸ hv
theorem cntq_run (l : List UInt8) (w : World) : (callFunc 68 #[.string (sL l), .int .u8 39]).run Tryd.prog w = .ok (.value (.int .i64 (l.count 39 : Nat))) w := by
  rw [run_callFunc_extern (e := Extern.BytealgCount.count) Tryd.func68 (by kernel_rfl) (by kernel_rfl) (by kernel_rfl) (by kernel_rfl), Lib.run_countString]
  rfl
theorem idxq_run (l : List UInt8) (w : World) : (callFunc 65 #[.string (sL l), .int .u8 39]).run Tryd.prog w = .ok (.value (.int .i64 (qI l))) w := by
  rw [run_callFunc_extern (e := Extern.BytealgIndexByte.indexByte) Tryd.func65 (by kernel_rfl) (by kernel_rfl) (by kernel_rfl) (by kernel_rfl), Lib.run_indexByteString]
  rfl
theorem idxs_run (v : List UInt8) (hv : v.length ≤ 1000) (w : World) (m : Int) (hm : w.cell? ⟨1, 0, none⟩ = some (.int .i64 m)) (h2 : (2 : Int) ≤ m) : (callFunc 80 #[.string (sL (dblG v)), .string (sL [39, 39])]).run Tryd.prog w = .ok (.value (.int .i64 (qI v))) w := by
  have hc := cnt_le v
  have hd := dbl_len v
  rw [run_callFunc_extern (e := Extern.BytealgIndex.index) Tryd.func80 (by kernel_rfl) (by kernel_rfl) (by kernel_rfl) (by kernel_rfl), Lib.run_indexString (sL (dblG v)) (sL [39, 39]) w 1 m (by kernel_rfl) hm (by decide) h2 (by rw [sL_size]; omega)]
  rw [← index_dbl]
  rfl

set_option maxRecDepth 20000 in
theorem slQ (l : List UInt8) (w : World) : FnV Tryd.prog 53 [.string (sL l), .int .u8 39] (.int .i64 (qI l)) w := by
  refine fn_enter Tryd.func53 rfl Tryd.ntmps53 rfl ?_
  refine vc_seq ?_
  refine vc_region ?_
  refine vl_val rfl (.some rfl) (val_assign rfl) ?_
  refine vl_nil ?_
  refine vc_seq ?_
  refine vc_region ?_
  refine vl_val rfl (.some rfl) (val_move rfl) ?_
  refine vl_val rfl (.some rfl) (val_move rfl) ?_
  refine vl_ext rfl rfl (.some rfl) rfl (idxq_run l) ?_
  refine vl_val rfl (.some rfl) (val_assign rfl) ?_
  refine vl_nil ?_
  refine vc_ret ?_
  refine ⟨_, [], _, res1 Tryd.results53 rfl, .nil, ?_⟩
  rfl
set_option maxRecDepth 20000 in
theorem cnt1 (l : List UInt8) (w : World) : FnV Tryd.prog 55 [.string (sL l), .string (sL [39])] (.int .i64 (l.count 39 : Nat)) w := by
  refine fn_enter Tryd.func55 rfl Tryd.ntmps55 rfl ?_
  refine vc_seq ?_
  refine vc_region ?_
  refine vl_val rfl (.some rfl) (val_assign rfl) ?_
  refine vl_nil ?_
  refine vc_seq ?_
  refine vc_seq ?_
  refine vc_region ?_
  refine vl_val rfl (.some rfl) (val_move rfl) ?_
  refine vl_val rfl (.some rfl) (val_lenStr Tryd.runUnderlying9 rfl) ?_
  refine vl_val rfl (.some rfl) (val_eq rfl rfl) ?_
  refine vl_nil ?_
  refine vc_cond rfl (fun hc0 => False.elim (by (try replace hc0 := of_decide_eq_true hc0); revert hc0; decide)) (fun hc0 => ?_)
  (try replace hc0 := of_decide_eq_false hc0)
  refine vc_skip ?_
  refine vc_seq ?_
  refine vc_seq ?_
  refine vc_region ?_
  refine vl_val rfl (.some rfl) (val_move rfl) ?_
  refine vl_val rfl (.some rfl) (val_lenStr Tryd.runUnderlying9 rfl) ?_
  refine vl_val rfl (.some rfl) (val_eq rfl rfl) ?_
  refine vl_nil ?_
  refine vc_cond rfl (fun hc1 => ?_) (fun hc1 => False.elim (by (try replace hc1 := of_decide_eq_false hc1); revert hc1; decide))
  (try replace hc1 := of_decide_eq_true hc1)
  refine vc_seq ?_
  refine vc_region ?_
  refine vl_val rfl (.some rfl) (val_move rfl) ?_
  refine vl_val rfl (.some rfl) (val_move rfl) ?_
  refine vl_val rfl (.some rfl) (val_indexStr Tryd.runUnderlying9 rfl rfl (by decide) (by decide)) ?_
  refine vl_ext rfl rfl (.some rfl) rfl (cntq_run l) ?_
  refine vl_val rfl (.some rfl) (val_assign rfl) ?_
  refine vl_nil ?_
  refine vc_ret ?_
  refine ⟨_, [], _, res1 Tryd.results55 rfl, .nil, ?_⟩
  rfl
set_option maxRecDepth 20000 in
theorem idx1 (l : List UInt8) (w : World) : FnV Tryd.prog 71 [.string (sL l), .string (sL [39])] (.int .i64 (qI l)) w := by
  refine fn_enter Tryd.func71 rfl Tryd.ntmps71 rfl ?_
  refine vc_seq ?_
  refine vc_region ?_
  refine vl_val rfl (.some rfl) (val_assign rfl) ?_
  refine vl_nil ?_
  refine vc_seq ?_
  refine vc_region ?_
  refine vl_val rfl (.some rfl) (val_move rfl) ?_
  refine vl_val rfl (.some rfl) (val_lenStr Tryd.runUnderlying9 rfl) ?_
  refine vl_val rfl (.some rfl) (val_assign rfl) ?_
  refine vl_nil ?_
  refine vc_seq ?_
  refine vc_block ?_
  refine vc_seq ?_
  refine vc_region ?_
  refine vl_val rfl (.some rfl) (val_move rfl) ?_
  refine vl_val rfl (.some rfl) (val_eq rfl rfl) ?_
  refine vl_val rfl (.some rfl) (val_move rfl) ?_
  refine vl_split (t := 19) rfl (fun hg19 => ?_) (fun hg19 => ?_)
  · (try replace hg19 := of_decide_eq_true hg19)
    exfalso
    revert hg19; decide
  · (try replace hg19 := of_decide_eq_false hg19)
    refine vl_on rfl rfl rfl rfl ?_
    refine vl_val rfl (.some rfl) (val_move rfl) ?_
    refine vl_on rfl rfl rfl rfl ?_
    refine vl_val rfl (.some rfl) (val_move rfl) ?_
    refine vl_on rfl rfl rfl rfl ?_
    refine vl_val rfl (.some rfl) (val_seq rfl rfl) ?_
    refine vl_val rfl (.some rfl) (val_pick rfl rfl) ?_
    refine vl_val rfl (.some rfl) (val_assign rfl) ?_
    refine vl_nil ?_
    refine vc_cond rfl (fun hc0 => ?_) (fun hc0 => ?_)
    · (try replace hc0 := of_decide_eq_true hc0)
      refine vc_seq ?_
      refine vc_region ?_
      refine vl_val rfl (.some rfl) (val_assign rfl) ?_
      refine vl_nil ?_
      refine vc_ret ?_
      refine ⟨_, [], _, res1 Tryd.results71 rfl, .nil, ?_⟩
      show _ = _
      rw [sL_inj.1 hc0.symm]
      rfl
    · (try replace hc0 := of_decide_eq_false hc0)
      refine vc_seq ?_
      refine vc_region ?_
      refine vl_val rfl (.some rfl) (val_move rfl) ?_
      refine vl_val rfl (.some rfl) (val_eq rfl rfl) ?_
      refine vl_val rfl (.some rfl) (val_assign rfl) ?_
      refine vl_nil ?_
      refine vc_cond rfl (fun hc1 => ?_) (fun hc1 => False.elim (by (try replace hc1 := of_decide_eq_false hc1); revert hc1; decide))
      (try replace hc1 := of_decide_eq_true hc1)
      refine vc_seq ?_
      refine vc_region ?_
      refine vl_val rfl (.some rfl) (val_move rfl) ?_
      refine vl_val rfl (.some rfl) (val_move rfl) ?_
      refine vl_val rfl (.some rfl) (val_indexStr Tryd.runUnderlying9 rfl rfl (by decide) (by decide)) ?_
      refine vl_callV rfl rfl (.some rfl) Tryd.call53 rfl (fun w hw => slQ l w) ?_
      refine vl_val rfl (.some rfl) (val_assign rfl) ?_
      refine vl_nil ?_
      refine vc_ret ?_
      refine ⟨_, [], _, res1 Tryd.results71 rfl, .nil, ?_⟩
      rfl
set_option maxRecDepth 20000 in
set_option maxHeartbeats 1000000 in
theorem idx2 (v : List UInt8) (hv : v.length ≤ 1000) (w : World) (hm : ∃ m, w.cell? ⟨1, 0, none⟩ = some (.int .i64 m)) : FnV Tryd.prog 71 [.string (sL (dblG v)), .string (sL [39, 39])] (.int .i64 (qI v)) w := by
  obtain ⟨m, hm⟩ := hm
  have hc := cnt_le v
  have hd := dbl_len v
  have hsz := sL_size (dblG v)
  refine fn_enter Tryd.func71 rfl Tryd.ntmps71 rfl ?_
  refine vc_seq ?_
  refine vc_region ?_
  refine vl_val rfl (.some rfl) (val_assign rfl) ?_
  refine vl_nil ?_
  refine vc_seq ?_
  refine vc_region ?_
  refine vl_val rfl (.some rfl) (val_move rfl) ?_
  refine vl_val rfl (.some rfl) (val_lenStr Tryd.runUnderlying9 rfl) ?_
  refine vl_val rfl (.some rfl) (val_assign rfl) ?_
  refine vl_nil ?_
  refine vc_cut (fun E H => ∃ E0 H0 F, Env.le E0 E ∧ Sub H0 H F ∧ (fun E H => 3 ≤ (dblG v).length ∧ E = [(0, .string (sL (dblG v))), (1, .string (sL [39, 39])), (5, .int .i64 2)] ∧ H = []) E0 H0) ?_ (fun E H h => ?_)
  ·
    refine vc_block ?_
    refine vc_seq ?_
    refine vc_region ?_
    refine vl_val rfl (.some rfl) (val_move rfl) ?_
    refine vl_val rfl (.some rfl) (val_eq rfl rfl) ?_
    refine vl_val rfl (.some rfl) (val_move rfl) ?_
    refine vl_split (t := 19) rfl (fun hg19 => ?_) (fun hg19 => ?_)
    · (try replace hg19 := of_decide_eq_true hg19)
      exfalso
      revert hg19; decide
    · (try replace hg19 := of_decide_eq_false hg19)
      refine vl_on rfl rfl rfl rfl ?_
      refine vl_val rfl (.some rfl) (val_move rfl) ?_
      refine vl_on rfl rfl rfl rfl ?_
      refine vl_val rfl (.some rfl) (val_move rfl) ?_
      refine vl_on rfl rfl rfl rfl ?_
      refine vl_val rfl (.some rfl) (val_seq rfl rfl) ?_
      refine vl_val rfl (.some rfl) (val_pick rfl rfl) ?_
      refine vl_val rfl (.some rfl) (val_assign rfl) ?_
      refine vl_nil ?_
      refine vc_cond rfl (fun hc0 => ?_) (fun hc0 => ?_)
      · (try replace hc0 := of_decide_eq_true hc0)
        refine vc_seq ?_
        refine vc_region ?_
        refine vl_val rfl (.some rfl) (val_assign rfl) ?_
        refine vl_nil ?_
        refine vc_ret ?_
        refine ⟨_, [], _, res1 Tryd.results71 rfl, .nil, ?_⟩
        show _ = _
        first | rfl | (rw [qi_sub1 (sL_inj.1 hc0.symm)]; done) | (rw [qi_sub2 hne (by rw [hsz] at hc2; have e2 : ((sL [39, 39]).size : Int) = 2 := rfl; omega)]; done) | (rw [hq2]; done) | (rw [hv2, q_at ha]; done)
      · (try replace hc0 := of_decide_eq_false hc0)
        have hne : dblG v ≠ [39, 39] := fun e => hc0 (by rw [e])
        refine vc_seq ?_
        refine vc_region ?_
        refine vl_val rfl (.some rfl) (val_move rfl) ?_
        refine vl_val rfl (.some rfl) (val_eq rfl rfl) ?_
        refine vl_val rfl (.some rfl) (val_assign rfl) ?_
        refine vl_nil ?_
        refine vc_cond rfl (fun hc1 => False.elim (by (try replace hc1 := of_decide_eq_true hc1); revert hc1; decide)) (fun hc1 => ?_)
        (try replace hc1 := of_decide_eq_false hc1)
        refine vc_seq ?_
        refine vc_region ?_
        refine vl_val rfl (.some rfl) (val_move rfl) ?_
        refine vl_val rfl (.some rfl) (val_move rfl) ?_
        refine vl_val rfl (.some rfl) (val_lenStr Tryd.runUnderlying9 rfl) ?_
        refine vl_val rfl (.some rfl) (val_ge rfl rfl) ?_
        refine vl_val rfl (.some rfl) (val_assign rfl) ?_
        refine vl_nil ?_
        refine vc_cond rfl (fun hc2 => ?_) (fun hc2 => ?_)
        · (try replace hc2 := of_decide_eq_true hc2)
          refine vc_seq ?_
          refine vc_region ?_
          refine vl_val rfl (.some rfl) (val_assign rfl) ?_
          refine vl_nil ?_
          refine vc_ret ?_
          refine ⟨_, [], _, res1 Tryd.results71 rfl, .nil, ?_⟩
          show _ = _
          first | rfl | (rw [qi_sub1 (sL_inj.1 hc0.symm)]; done) | (rw [qi_sub2 hne (by rw [hsz] at hc2; have e2 : ((sL [39, 39]).size : Int) = 2 := rfl; omega)]; done) | (rw [hq2]; done) | (rw [hv2, q_at ha]; done)
        · (try replace hc2 := of_decide_eq_false hc2)
          have h3 : 3 ≤ (dblG v).length := by rw [hsz] at hc2; have e2 : ((sL [39, 39]).size : Int) = 2 := rfl; omega
          refine vc_seq ?_
          refine vc_region ?_
          refine vl_val rfl (.some rfl) (val_move rfl) ?_
          refine vl_val rfl (.some rfl) (val_load Tryd.isAgg3 rfl (cell_old hm (List.not_mem_nil))) ?_
          refine vl_val rfl (.some rfl) (val_le rfl rfl) ?_
          refine vl_val rfl (.some rfl) (val_move rfl) ?_
          refine vl_split (t := 40) rfl (fun hg40 => ?_) (fun hg40 => ?_)
          · (try replace hg40 := of_decide_eq_true hg40)
            refine vl_on rfl rfl rfl rfl ?_
            refine vl_val rfl (.some rfl) (val_move rfl) ?_
            refine vl_on rfl rfl rfl rfl ?_
            refine vl_val rfl (.some rfl) (val_lenStr Tryd.runUnderlying9 rfl) ?_
            refine vl_on rfl rfl rfl rfl ?_
            refine vl_val rfl (.some rfl) (val_le rfl rfl) ?_
            refine vl_val rfl (.some rfl) (val_pick rfl rfl) ?_
            refine vl_val rfl (.some rfl) (val_assign rfl) ?_
            refine vl_nil ?_
            refine vc_cond rfl (fun hc3 => ?_) (fun hc3 => ?_)
            · (try replace hc3 := of_decide_eq_true hc3)
              refine vc_seq ?_
              refine vc_region ?_
              refine vl_val rfl (.some rfl) (val_move rfl) ?_
              refine vl_val rfl (.some rfl) (val_move rfl) ?_
              refine vl_extW rfl rfl (.some rfl) rfl (fun w hw => idxs_run v hv w m (cell_old hm List.not_mem_nil w hw) hg40) ?_
              refine vl_val rfl (.some rfl) (val_assign rfl) ?_
              refine vl_nil ?_
              refine vc_ret ?_
              refine ⟨_, [], _, res1 Tryd.results71 rfl, .nil, ?_⟩
              show _ = _
              first | rfl | (rw [qi_sub1 (sL_inj.1 hc0.symm)]; done) | (rw [qi_sub2 hne (by rw [hsz] at hc2; have e2 : ((sL [39, 39]).size : Int) = 2 := rfl; omega)]; done) | (rw [hq2]; done) | (rw [hv2, q_at ha]; done)
            · (try replace hc3 := of_decide_eq_false hc3)
              refine vc_skip ?_
              exact ⟨_, _, _, (by repeat (first | exact trivial | refine ⟨rfl, ?_⟩ | refine ⟨le_item rfl (by first | rfl | (congr 1; omega) | (simp; done) | (simp; omega)), ?_⟩)), (by repeat constructor), ⟨h3, rfl, rfl⟩⟩
          · (try replace hg40 := of_decide_eq_false hg40)
            refine vl_off rfl rfl rfl rfl (.some rfl) ?_
            refine vl_off rfl rfl rfl rfl (.some rfl) ?_
            refine vl_off rfl rfl rfl rfl (.some rfl) ?_
            refine vl_val rfl (.some rfl) (val_pick rfl rfl) ?_
            refine vl_val rfl (.some rfl) (val_assign rfl) ?_
            refine vl_nil ?_
            refine vc_cond rfl (fun h => by cases h) (fun _ => ?_)
            refine vc_skip ?_
            exact ⟨_, _, _, (by repeat (first | exact trivial | refine ⟨rfl, ?_⟩ | refine ⟨le_item rfl (by first | rfl | (congr 1; omega) | (simp; done) | (simp; omega)), ?_⟩)), (by repeat constructor), ⟨h3, rfl, rfl⟩⟩
  · obtain ⟨E0, H0, F, hE0, hH0, hJ⟩ := h
    obtain ⟨h3, rfl, rfl⟩ := hJ
    refine vc_weak hE0 hH0 ?_
    refine vc_seq ?_
    refine vc_region ?_
    refine vl_val rfl (.some rfl) (val_move rfl) ?_
    refine vl_val rfl (.some rfl) (val_indexStr Tryd.runUnderlying9 rfl rfl (by decide) (by decide)) ?_
    refine vl_val rfl (.some rfl) (val_assign rfl) ?_
    refine vl_nil ?_
    refine vc_seq ?_
    refine vc_region ?_
    refine vl_val rfl (.some rfl) (val_move rfl) ?_
    refine vl_val rfl (.some rfl) (val_indexStr Tryd.runUnderlying9 rfl rfl (by decide) (by decide)) ?_
    refine vl_val rfl (.some rfl) (val_assign rfl) ?_
    refine vl_nil ?_
    refine vc_seq ?_
    refine vc_region ?_
    refine vl_val rfl (.some rfl) (val_assign rfl) ?_
    refine vl_nil ?_
    refine vc_seq ?_
    refine vc_region ?_
    refine vl_val rfl (.some rfl) (val_move rfl) ?_
    refine vl_val rfl (.some rfl) (val_lenStr Tryd.runUnderlying9 rfl) ?_
    refine vl_val rfl (.some rfl) (val_move rfl) ?_
    refine vl_val rfl (.some rfl) (val_sub rfl rfl (by first | exact w_i64 (by omega) (by omega) | rfl)) ?_
    refine vl_val rfl (.some rfl) (val_add rfl rfl (by first | exact w_i64 (by omega) (by omega) | rfl)) ?_
    refine vl_val rfl (.some rfl) (val_assign rfl) ?_
    refine vl_nil ?_
    refine vc_seq ?_
    refine vc_region ?_
    refine vl_val rfl (.some rfl) (val_assign rfl) ?_
    refine vl_nil ?_
    refine vc_seq ?_
    refine vc_block ?_
    refine vc_loopw (fun k E H => k = 0 ∧ E = [(0, .string (sL (dblG v))), (1, .string (sL [39, 39])), (5, .int .i64 2), (6, .int .u8 39), (7, .int .u8 39), (8, .int .i64 0), (9, .int .i64 ((dblG v).length - 1 : Nat)), (10, .int .i64 0)] ∧ H = []) (0) ⟨_, _, _, ⟨rfl, rfl, rfl⟩, (by repeat (first | exact trivial | refine ⟨rfl, ?_⟩ | refine ⟨le_item rfl (by first | rfl | (congr 1; omega) | (simp; done) | (simp; omega)), ?_⟩)), (by repeat constructor)⟩ ?_
    intro k E H hI
    obtain ⟨rfl, rfl, rfl⟩ := hI
    refine vc_seq ?_
    refine vc_seq ?_
    refine vc_region ?_
    refine vl_val rfl (.some rfl) (val_move rfl) ?_
    refine vl_val rfl (.some rfl) (val_move rfl) ?_
    refine vl_val rfl (.some rfl) (val_lt rfl rfl) ?_
    refine vl_nil ?_
    refine vc_cond rfl (fun hc4 => ?_) (fun hc4 => False.elim (by (try replace hc4 := of_decide_eq_false hc4); omega))
    (try replace hc4 := of_decide_eq_true hc4)
    refine vc_skip ?_
    refine vc_block ?_
    refine vc_cut (fun E H => ∃ E0 H0 F, Env.le E0 E ∧ Sub H0 H F ∧ (fun E H => ∃ a r, v = a ++ 39 :: r ∧ (39 : UInt8) ∉ a ∧ E = [(0, .string (sL (dblG v))), (1, .string (sL [39, 39])), (5, .int .i64 2), (6, .int .u8 39), (7, .int .u8 39), (8, .int .i64 (a.length : Nat)), (9, .int .i64 ((dblG v).length - 1 : Nat)), (10, .int .i64 0)] ∧ H = []) E0 H0) ?_ (fun E H h => ?_)
    ·
      refine vc_seq ?_
      refine vc_region ?_
      refine vl_val rfl (.some rfl) (val_move rfl) ?_
      refine vl_val rfl (.some rfl) (val_move rfl) ?_
      refine vl_val rfl (.some rfl) (val_indexStr Tryd.runUnderlying9 rfl rfl (by omega) (by first | omega | (simp; omega))) ?_
      refine vl_val rfl (.some rfl) (val_move rfl) ?_
      refine vl_val rfl (.some rfl) (val_ne rfl rfl) ?_
      refine vl_nil ?_
      refine vc_cond rfl (fun hc5 => ?_) (fun hc5 => ?_)
      · (try replace hc5 := of_decide_eq_true hc5)
        have hb0 : (dblG v).getD 0 0 ≠ 39 := fun e => hc5 (by rw [show Int.toNat (0 : Int) = 0 from rfl, bt_sL, e]; rfl)
        refine vc_seq ?_
        refine vc_region ?_
        refine vl_val rfl (.some rfl) (val_move rfl) ?_
        refine vl_val rfl (.some rfl) (val_move rfl) ?_
        refine vl_val rfl (.some rfl) (val_add rfl rfl (show _ = (1 : Int) by rfl)) ?_
        refine vl_val rfl (.some rfl) (val_move rfl) ?_
        refine vl_val rfl (.some rfl) (val_cutStr Tryd.runUnderlying9 rfl rfl rfl (by omega) (by omega) (by rw [hsz]; omega)) ?_
        rw [show Int.toNat (1 : Int) = 1 from rfl, Int.toNat_natCast, sL_cut]
        refine vl_val rfl (.some rfl) (val_move rfl) ?_
        refine vl_callV rfl rfl (.some rfl) Tryd.call53 rfl (fun w hw => slQ (((dblG v).take ((dblG v).length - 1)).drop 1) w) ?_
        refine vl_val rfl (.some rfl) (val_assign rfl) ?_
        refine vl_nil ?_
        refine vc_seq ?_
        refine vc_seq ?_
        refine vc_region ?_
        refine vl_val rfl (.some rfl) (val_move rfl) ?_
        refine vl_val rfl (.some rfl) (val_lt rfl rfl) ?_
        refine vl_nil ?_
        refine vc_cond rfl (fun hc6 => ?_) (fun hc6 => ?_)
        · (try replace hc6 := of_decide_eq_true hc6)
          have hq2 : qI v = -1 := by rcases qi_next hb0 with ⟨_, h⟩ | ⟨a, r, _, _, h, h1⟩; exact h; omega
          refine vc_seq ?_
          refine vc_region ?_
          refine vl_val rfl (.some rfl) (val_assign rfl) ?_
          refine vl_nil ?_
          refine vc_ret ?_
          refine ⟨_, [], _, res1 Tryd.results71 rfl, .nil, ?_⟩
          show _ = _
          first | rfl | (rw [qi_sub1 (sL_inj.1 hc0.symm)]; done) | (rw [qi_sub2 hne (by rw [hsz] at hc2; have e2 : ((sL [39, 39]).size : Int) = 2 := rfl; omega)]; done) | (rw [hq2]; done) | (rw [hv2, q_at ha]; done)
        · (try replace hc6 := of_decide_eq_false hc6)
          obtain ⟨a, r, hv2, ha, hq1, ha1⟩ : ∃ a r, v = a ++ 39 :: r ∧ (39 : UInt8) ∉ a ∧ qI (((dblG v).take ((dblG v).length - 1)).drop 1) = ((a.length - 1 : Nat) : Int) ∧ 1 ≤ a.length := by rcases qi_next hb0 with ⟨h, _⟩ | h; omega; exact h
          have hal : a.length ≤ v.length := by rw [hv2]; simp
          refine vc_skip ?_
          refine vc_region ?_
          refine vl_val rfl (.some rfl) (val_move rfl) ?_
          refine vl_val rfl (.some rfl) (val_move rfl) ?_
          refine vl_val rfl (.some rfl) (val_add rfl rfl (show _ = ((a.length : Nat) : Int) by rw [hq1, w_i64 (by omega) (by omega)]; omega)) ?_
          refine vl_val rfl (.some rfl) (val_add rfl rfl (show _ = ((a.length : Nat) : Int) by rw [w_i64 (by omega) (by omega)]; omega)) ?_
          refine vl_val rfl (.some rfl) (val_assign rfl) ?_
          refine vl_nil ?_
          first
            | exact ⟨_, _, _, (by repeat (first | exact trivial | refine ⟨rfl, ?_⟩ | refine ⟨le_item rfl (by first | rfl | (congr 1; omega) | (simp; done) | (simp; omega)), ?_⟩)), (by repeat constructor), ⟨a, r, hv2, ha, rfl, rfl⟩⟩
            | exact ⟨_, _, _, (by repeat (first | exact trivial | refine ⟨rfl, ?_⟩ | refine ⟨le_item rfl (by first | rfl | (congr 1; omega) | (simp; done) | (simp; omega)), ?_⟩)), (by repeat constructor), ⟨[], r, hv2, ha, rfl, rfl⟩⟩
      · (try replace hc5 := of_decide_eq_false hc5)
        have hb1 : ((bt (sL (dblG v)) (Int.toNat 0) : Nat) : Int) = 39 := by simpa using hc5
        rw [show Int.toNat (0 : Int) = 0 from rfl, bt_sL] at hb1
        obtain ⟨r, hv2, ha⟩ := qi_first (v := v) (UInt8.toNat_inj.1 (by show _ = 39; omega))
        refine vc_skip ?_
        first
          | exact ⟨_, _, _, (by repeat (first | exact trivial | refine ⟨rfl, ?_⟩ | refine ⟨le_item rfl (by first | rfl | (congr 1; omega) | (simp; done) | (simp; omega)), ?_⟩)), (by repeat constructor), ⟨a, r, hv2, ha, rfl, rfl⟩⟩
          | exact ⟨_, _, _, (by repeat (first | exact trivial | refine ⟨rfl, ?_⟩ | refine ⟨le_item rfl (by first | rfl | (congr 1; omega) | (simp; done) | (simp; omega)), ?_⟩)), (by repeat constructor), ⟨[], r, hv2, ha, rfl, rfl⟩⟩
    · obtain ⟨E0, H0, F, hE0, hH0, hJ⟩ := h
      obtain ⟨a, r, hv2, ha, rfl, rfl⟩ := hJ
      obtain ⟨g1, g2, g3, g4, g5⟩ := dbl_get (r := r) ha
      rw [← hv2] at g1 g2 g3 g4 g5
      refine vc_weak hE0 hH0 ?_
      refine vc_seq ?_
      refine vc_seq ?_
      refine vc_region ?_
      refine vl_val rfl (.some rfl) (val_move rfl) ?_
      refine vl_val rfl (.some rfl) (val_move rfl) ?_
      refine vl_val rfl (.some rfl) (val_add rfl rfl (show _ = ((a.length + 1 : Nat) : Int) by rw [w_i64 (by omega) (by omega)]; omega)) ?_
      refine vl_val rfl (.some rfl) (val_indexStr Tryd.runUnderlying9 rfl rfl (by omega) (by rw [hsz]; omega)) ?_
      refine vl_val rfl (.some rfl) (val_move rfl) ?_
      refine vl_val rfl (.some rfl) (valE (congrArg Value.bool (decide_eq_true (by rw [Int.toNat_natCast, bt_sL, g2]; rfl))) (val_eq rfl rfl)) ?_
      refine vl_val rfl (.some rfl) (val_move rfl) ?_
      refine vl_on rfl rfl rfl rfl ?_
      refine vl_val rfl (.some rfl) (val_move rfl) ?_
      refine vl_on rfl rfl rfl rfl ?_
      refine vl_val rfl (.some rfl) (val_move rfl) ?_
      refine vl_on rfl rfl rfl rfl ?_
      refine vl_val rfl (.some rfl) (val_move rfl) ?_
      refine vl_on rfl rfl rfl rfl ?_
      refine vl_val rfl (.some rfl) (val_move rfl) ?_
      refine vl_on rfl rfl rfl rfl ?_
      refine vl_val rfl (.some rfl) (val_add rfl rfl (show _ = ((a.length + 2 : Nat) : Int) by rw [w_i64 (by omega) (by omega)]; omega)) ?_
      refine vl_on rfl rfl rfl rfl ?_
      refine vl_val rfl (.some rfl) (val_cutStr Tryd.runUnderlying9 rfl rfl rfl (by omega) (by omega) (by rw [hsz]; omega)) ?_
      rw [Int.toNat_natCast, Int.toNat_natCast, sL_cut, g4]
      refine vl_on rfl rfl rfl rfl ?_
      refine vl_val rfl (.some rfl) (val_move rfl) ?_
      refine vl_on rfl rfl rfl rfl ?_
      refine vl_val rfl (.some rfl) (valE (congrArg Value.bool (decide_eq_true rfl)) (val_seq rfl rfl)) ?_
      refine vl_val rfl (.some rfl) (val_pick rfl rfl) ?_
      refine vl_nil ?_
      refine vc_cond rfl (fun _ => ?_) (fun h => by cases h)
      refine vc_seq ?_
      refine vc_region ?_
      refine vl_val rfl (.some rfl) (val_move rfl) ?_
      refine vl_val rfl (.some rfl) (val_assign rfl) ?_
      refine vl_nil ?_
      refine vc_ret ?_
      refine ⟨_, [], _, res1 Tryd.results71 rfl, .nil, ?_⟩
      show _ = _
      first | rfl | (rw [qi_sub1 (sL_inj.1 hc0.symm)]; done) | (rw [qi_sub2 hne (by rw [hsz] at hc2; have e2 : ((sL [39, 39]).size : Int) = 2 := rfl; omega)]; done) | (rw [hq2]; done) | (rw [hv2, q_at ha]; done)




theorem cnt_split {a r : List UInt8} (h : (39 : UInt8) ∉ a) : (a ++ 39 :: r).count 39 = r.count 39 + 1 := by rw [List.count_append, List.count_eq_zero.2 h, List.count_cons_self]; omega
theorem cnt_pos2 {v : List UInt8} (h : qI v ≠ -1) : ∃ a r, v = a ++ 39 :: r ∧ (39 : UInt8) ∉ a := by
  rcases q_split v with h1 | h1
  · exact absurd (q_no h1) h
  · exact h1
theorem cnt_neg2 {v : List UInt8} (h : qI v = -1) : v.count 39 = 0 := by
  rcases q_split v with h1 | ⟨a, r, rfl, h1⟩
  · exact List.count_eq_zero.2 h1
  · rw [q_at h1] at h; omega
theorem take_dbl {a r : List UInt8} (h : (39 : UInt8) ∉ a) : (dblG (a ++ 39 :: r)).take a.length = a := by rw [dbl_cat, dbl_plain h, List.take_left]
theorem drop_add2 {l v : List UInt8} {s a : Nat} (h : l.drop s = v) : l.drop (s + a) = v.drop a := by rw [← h, List.drop_drop]
theorem ext_take {l v : List UInt8} {s a : Nat} (h : l.drop s = v) : (l.take (s + a)).drop s = v.take a := by rw [← h, List.drop_take]; congr 1; omega

set_option maxRecDepth 20000 in
theorem sIdx1 (l : List UInt8) (w : World) : FnV Tryd.prog 57 [.string (sL l), .string (sL [39])] (.int .i64 (qI l)) w := by
  refine fn_enter Tryd.func57 rfl Tryd.ntmps57 rfl ?_
  refine vc_seq ?_
  refine vc_region ?_
  refine vl_val rfl (.some rfl) (val_assign rfl) ?_
  refine vl_nil ?_
  refine vc_seq ?_
  refine vc_region ?_
  refine vl_val rfl (.some rfl) (val_move rfl) ?_
  refine vl_val rfl (.some rfl) (val_move rfl) ?_
  refine vl_callV rfl rfl (.some rfl) Tryd.call71 rfl (fun w hw => idx1 l w) ?_
  refine vl_val rfl (.some rfl) (val_assign rfl) ?_
  refine vl_nil ?_
  refine vc_ret ?_
  refine ⟨_, [], _, res1 Tryd.results57 rfl, .nil, ?_⟩
  rfl
set_option maxRecDepth 20000 in
theorem sIdx2 (v : List UInt8) (hv : v.length ≤ 1000) (w : World) (hm : ∃ m, w.cell? ⟨1, 0, none⟩ = some (.int .i64 m)) : FnV Tryd.prog 57 [.string (sL (dblG v)), .string (sL [39, 39])] (.int .i64 (qI v)) w := by
  obtain ⟨m, hm⟩ := hm
  refine fn_enter Tryd.func57 rfl Tryd.ntmps57 rfl ?_
  refine vc_seq ?_
  refine vc_region ?_
  refine vl_val rfl (.some rfl) (val_assign rfl) ?_
  refine vl_nil ?_
  refine vc_seq ?_
  refine vc_region ?_
  refine vl_val rfl (.some rfl) (val_move rfl) ?_
  refine vl_val rfl (.some rfl) (val_move rfl) ?_
  refine vl_callV rfl rfl (.some rfl) Tryd.call71 rfl (fun w hw => idx2 v hv w ⟨m, (cell_old hm List.not_mem_nil w hw)⟩) ?_
  refine vl_val rfl (.some rfl) (val_assign rfl) ?_
  refine vl_nil ?_
  refine vc_ret ?_
  refine ⟨_, [], _, res1 Tryd.results57 rfl, .nil, ?_⟩
  rfl
set_option maxRecDepth 20000 in
theorem cnt2 (v : List UInt8) (hv : v.length ≤ 1000) (w : World) (hm : ∃ m, w.cell? ⟨1, 0, none⟩ = some (.int .i64 m)) : FnV Tryd.prog 55 [.string (sL (dblG v)), .string (sL [39, 39])] (.int .i64 (v.count 39 : Nat)) w := by
  obtain ⟨m, hm⟩ := hm
  refine fn_enter Tryd.func55 rfl Tryd.ntmps55 rfl ?_
  refine vc_seq ?_
  refine vc_region ?_
  refine vl_val rfl (.some rfl) (val_assign rfl) ?_
  refine vl_nil ?_
  refine vc_seq ?_
  refine vc_seq ?_
  refine vc_region ?_
  refine vl_val rfl (.some rfl) (val_move rfl) ?_
  refine vl_val rfl (.some rfl) (val_lenStr Tryd.runUnderlying9 rfl) ?_
  refine vl_val rfl (.some rfl) (val_eq rfl rfl) ?_
  refine vl_nil ?_
  refine vc_cond rfl (fun hc0 => False.elim (by (try replace hc0 := of_decide_eq_true hc0); revert hc0; decide)) (fun hc0 => ?_)
  (try replace hc0 := of_decide_eq_false hc0)
  refine vc_skip ?_
  refine vc_seq ?_
  refine vc_seq ?_
  refine vc_region ?_
  refine vl_val rfl (.some rfl) (val_move rfl) ?_
  refine vl_val rfl (.some rfl) (val_lenStr Tryd.runUnderlying9 rfl) ?_
  refine vl_val rfl (.some rfl) (val_eq rfl rfl) ?_
  refine vl_nil ?_
  refine vc_cond rfl (fun hc1 => False.elim (by (try replace hc1 := of_decide_eq_true hc1); revert hc1; decide)) (fun hc1 => ?_)
  (try replace hc1 := of_decide_eq_false hc1)
  refine vc_skip ?_
  refine vc_seq ?_
  refine vc_region ?_
  refine vl_val rfl (.some rfl) (val_assign rfl) ?_
  refine vl_nil ?_
  refine vc_block ?_
  refine vc_loopw (fun k E H => ∃ (j : Nat) (v2 : List UInt8), j + v2.count 39 = v.count 39 ∧ j ≤ 1000 ∧ j + v2.length ≤ 1000 ∧ k = v2.length ∧ E = [(0, .string (sL (dblG v2))), (1, .string (sL [39, 39])), (5, .int .i64 j)] ∧ H = []) (v.length) ⟨_, _, _, ⟨0, v, by omega, by omega, by omega, rfl, rfl, rfl⟩, (by repeat (first | exact trivial | refine ⟨rfl, ?_⟩ | refine ⟨le_item rfl (by first | rfl | (congr 1; omega) | (simp; done) | (simp; omega)), ?_⟩)), (by repeat constructor)⟩ ?_
  intro k E H hI
  obtain ⟨j, v2, hj, hj2, hl2, rfl, rfl, rfl⟩ := hI
  have hlj := hl2
  have hl2 : v2.length ≤ 1000 := by omega
  refine vc_block ?_
  refine vc_seq ?_
  refine vc_region ?_
  refine vl_val rfl (.some rfl) (val_move rfl) ?_
  refine vl_val rfl (.some rfl) (val_move rfl) ?_
  refine vl_callV rfl rfl (.some rfl) Tryd.call57 rfl (fun w hw => sIdx2 v2 hl2 w ⟨m, (cell_old hm List.not_mem_nil w hw)⟩) ?_
  refine vl_val rfl (.some rfl) (val_assign rfl) ?_
  refine vl_nil ?_
  refine vc_seq ?_
  refine vc_seq ?_
  refine vc_region ?_
  refine vl_val rfl (.some rfl) (val_move rfl) ?_
  refine vl_val rfl (.some rfl) (val_eq rfl rfl) ?_
  refine vl_nil ?_
  refine vc_cond rfl (fun hc2 => ?_) (fun hc2 => ?_)
  · (try replace hc2 := of_decide_eq_true hc2)
    have hz := cnt_neg2 hc2
    refine vc_seq ?_
    refine vc_region ?_
    refine vl_val rfl (.some rfl) (val_move rfl) ?_
    refine vl_val rfl (.some rfl) (val_assign rfl) ?_
    refine vl_nil ?_
    refine vc_ret ?_
    refine ⟨_, [], _, res1 Tryd.results55 rfl, .nil, ?_⟩
    show _ = _
    rw [show v.count 39 = j by omega]
  · (try replace hc2 := of_decide_eq_false hc2)
    obtain ⟨a, r, rfl, ha⟩ := cnt_pos2 hc2
    obtain ⟨g1, g2, g3, g4, g5⟩ := dbl_get (r := r) ha
    have hcs := cnt_split (r := r) ha
    have hlr := @List.length_append _ a (39 :: r)
    have hlr2 := @List.length_cons _ (39 : UInt8) r
    rw [q_at ha]
    refine vc_skip ?_
    refine vc_seq ?_
    refine vc_region ?_
    refine vl_val rfl (.some rfl) (val_move rfl) ?_
    refine vl_val rfl (.some rfl) (val_add rfl rfl (show _ = ((j + 1 : Nat) : Int) by rw [w_i64 (by omega) (by omega)]; omega)) ?_
    refine vl_val rfl (.some rfl) (val_assign rfl) ?_
    refine vl_nil ?_
    refine vc_region ?_
    refine vl_val rfl (.some rfl) (val_move rfl) ?_
    refine vl_val rfl (.some rfl) (val_move rfl) ?_
    refine vl_val rfl (.some rfl) (val_move rfl) ?_
    refine vl_val rfl (.some rfl) (val_lenStr Tryd.runUnderlying9 rfl) ?_
    refine vl_val rfl (.some rfl) (val_add rfl rfl (show _ = ((a.length + 2 : Nat) : Int) by rw [show ((sL [39, 39]).size : Int) = 2 from rfl, w_i64 (by omega) (by omega)]; omega)) ?_
    refine vl_val rfl (.some rfl) (val_cutStrFrom Tryd.runUnderlying9 rfl rfl (by omega) (by rw [sL_size]; omega)) ?_
    rw [sL_cut, sL_size, List.take_length, Int.toNat_natCast, g5]
    refine vl_val rfl (.some rfl) (val_assign rfl) ?_
    refine vl_nil ?_
    exact ⟨r.length, _, _, _, by omega, (by repeat (first | exact trivial | refine ⟨rfl, ?_⟩ | refine ⟨le_item rfl (by first | rfl | (congr 1; omega) | (simp; done) | (simp; omega)), ?_⟩)), (by repeat constructor), ⟨j + 1, r, by omega, by omega, by omega, rfl, rfl, rfl⟩⟩
set_option maxRecDepth 20000 in
set_option maxHeartbeats 1000000 in
theorem rep1 (v : List UInt8) (hv : v.length ≤ 400) (w : World) : FnV Tryd.prog 41 [.string (sL v), .string (sL [39]), .string (sL [39, 39]), .int .i64 (-1)] (.string (sL (dblG v))) w := by
  have hone := 1
  obtain ⟨n, hn⟩ : ∃ n, v.count 39 = n := ⟨_, rfl⟩
  have hcl := cnt_le v
  have hdl := dbl_len v
  have hsz := sL_size (v)
  refine fn_enter Tryd.func41 rfl Tryd.ntmps41 rfl ?_
  refine vc_seq ?_
  refine vc_region ?_
  refine vl_val rfl (.some rfl) (val_assign rfl) ?_
  refine vl_nil ?_
  refine vc_seq ?_
  refine vc_seq ?_
  refine vc_region ?_
  refine vl_val rfl (.some rfl) (val_move rfl) ?_
  refine vl_val rfl (.some rfl) (val_move rfl) ?_
  refine vl_val rfl (.some rfl) (val_seq rfl rfl) ?_
  refine vl_val rfl (.some rfl) (val_move rfl) ?_
  refine vl_split (t := 19) rfl (fun hg19 => ?_) (fun hg19 => ?_)
  · (try replace hg19 := of_decide_eq_true hg19)
    exfalso
    revert hg19; decide
  · (try replace hg19 := of_decide_eq_false hg19)
    refine vl_on rfl rfl rfl rfl ?_
    refine vl_val rfl (.some rfl) (val_move rfl) ?_
    refine vl_on rfl rfl rfl rfl ?_
    refine vl_val rfl (.some rfl) (val_eq rfl rfl) ?_
    refine vl_val rfl (.some rfl) (val_pick rfl rfl) ?_
    refine vl_nil ?_
    refine vc_cond rfl (fun hc0 => False.elim (by (try replace hc0 := of_decide_eq_true hc0); revert hc0; decide)) (fun hc0 => ?_)
    (try replace hc0 := of_decide_eq_false hc0)
    refine vc_skip ?_
    refine vc_seq ?_
    refine vc_seq ?_
    refine vc_region ?_
    refine vl_val rfl (.some rfl) (val_move rfl) ?_
    refine vl_val rfl (.some rfl) (val_move rfl) ?_
    refine vl_callV rfl rfl (.some rfl) Tryd.call55 rfl (fun w hw => cnt1 v w) ?_
    rw [hn]
    refine vl_val rfl (.some rfl) (val_assign rfl) ?_
    refine vl_nil ?_
    refine vc_seq ?_
    refine vc_region ?_
    refine vl_val rfl (.some rfl) (val_move rfl) ?_
    refine vl_val rfl (.some rfl) (val_eq rfl rfl) ?_
    refine vl_nil ?_
    refine vc_cond rfl (fun hc1 => ?_) (fun hc1 => ?_)
    · (try replace hc1 := of_decide_eq_true hc1)
      have hz : v.count 39 = 0 := by omega
      refine vc_seq ?_
      refine vc_region ?_
      refine vl_val rfl (.some rfl) (val_move rfl) ?_
      refine vl_val rfl (.some rfl) (val_assign rfl) ?_
      refine vl_nil ?_
      refine vc_ret ?_
      refine ⟨_, [], _, res1 Tryd.results41 rfl, .nil, ?_⟩
      show _ = _
      rw [dbl_plain (cnt_zero hz)]
    · (try replace hc1 := of_decide_eq_false hc1)
      have hn1 : 1 ≤ n := by omega
      refine vc_seq ?_
      refine vc_region ?_
      refine vl_val rfl (.some rfl) (val_move rfl) ?_
      refine vl_val rfl (.some rfl) (val_lt rfl rfl) ?_
      refine vl_val rfl (.some rfl) (val_move rfl) ?_
      refine vl_split (t := 32) rfl (fun hg32 => ?_) (fun hg32 => ?_)
      · (try replace hg32 := of_decide_eq_true hg32)
        refine vl_off rfl rfl rfl rfl (.some rfl) ?_
        refine vl_off rfl rfl rfl rfl (.some rfl) ?_
        refine vl_off rfl rfl rfl rfl (.some rfl) ?_
        refine vl_val rfl (.some rfl) (val_pick rfl rfl) ?_
        refine vl_nil ?_
        refine vc_cond rfl (fun _ => ?_) (fun h => by cases h)
        refine vc_region ?_
        refine vl_val rfl (.some rfl) (val_move rfl) ?_
        refine vl_val rfl (.some rfl) (val_assign rfl) ?_
        refine vl_nil ?_
        refine vc_seq ?_
        refine vc_region ?_
        refine vl_alloc rfl rfl (.some rfl) Tryd.zeroValue89 (fun r10 => ?_)
        refine vl_nil ?_
        refine vc_seq ?_
        refine vc_region ?_
        refine vl_val rfl (.some rfl) (val_move rfl) ?_
        refine vl_val rfl (.some rfl) (val_lenStr Tryd.runUnderlying9 rfl) ?_
        refine vl_val rfl (.some rfl) (val_move rfl) ?_
        refine vl_val rfl (.some rfl) (val_move rfl) ?_
        refine vl_val rfl (.some rfl) (val_lenStr Tryd.runUnderlying9 rfl) ?_
        refine vl_val rfl (.some rfl) (val_move rfl) ?_
        refine vl_val rfl (.some rfl) (val_lenStr Tryd.runUnderlying9 rfl) ?_
        refine vl_val rfl (.some rfl) (val_sub rfl rfl (show _ = (1 : Int) by rfl)) ?_
        refine vl_val rfl (.some rfl) (val_mul rfl rfl (show _ = (1 : Int) * (n : Int) by rw [w_i64 (by omega) (by omega)]; omega)) ?_
        refine vl_val rfl (.some rfl) (val_add rfl rfl (show _ = ((v.length + n : Nat) : Int) by rw [w_i64 (by omega) (by omega)]; omega)) ?_
        refine vl_call (C := [BC r10 none none 0 0]) rfl rfl (.some rfl) Tryd.call56 rfl (by repeat constructor) (fun w hw => bGrow r10 (v.length + n) (by omega) (by omega) w) (fun v9 H9 h => ?_)
        obtain ⟨G, c, hgc, rfl⟩ := h
        show VL _ _ _ _ _ (_ :: _ :: _)
        refine vl_nil ?_
        refine vc_seq ?_
        refine vc_region ?_
        refine vl_val rfl (.some rfl) (val_assign rfl) ?_
        refine vl_nil ?_
        refine vc_seq ?_
        refine vc_seq ?_
        refine vc_region ?_
        refine vl_val rfl (.some rfl) (val_move rfl) ?_
        refine vl_val rfl (.some rfl) (val_lenStr Tryd.runUnderlying9 rfl) ?_
        refine vl_val rfl (.some rfl) (val_gt rfl rfl) ?_
        refine vl_nil ?_
        refine vc_cond rfl (fun hc3 => ?_) (fun hc3 => False.elim (by (try replace hc3 := of_decide_eq_false hc3); revert hc3; decide))
        (try replace hc3 := of_decide_eq_true hc3)
        refine vc_seq ?_
        refine vc_region ?_
        refine vl_val rfl (.some rfl) (val_move rfl) ?_
        refine vl_val rfl (.some rfl) (val_move rfl) ?_
        refine vl_nil ?_
        refine vc_block ?_
        refine vc_loopw (fun k E H => ∃ (i st : Nat) (v2 buf : List UInt8) (A : Option Addr) (c : Nat), i + v2.count 39 = n ∧ k = v2.count 39 ∧ (v).drop st = (v2) ∧ st + (v2).length = (v).length ∧ v2.length ≤ v.length ∧ buf ++ (dblG v2) = (dblG v) ∧ (0 < i → buf ≠ []) ∧ E = [(0, .string (sL (v))), (1, .string (sL [39])), (2, .string (sL [39, 39])), (10, .pointer (some ⟨r10, 0, none⟩)), (11, .int .i64 (st : Nat)), (52, .int .i64 (n : Nat)), (53, .int .i64 (i : Nat))] ∧ H = [BC r10 (some ⟨r10, 0, none⟩) A buf.length c, sl A buf.length c 5 1 (bcells buf)]) (n) ⟨_, _, _, ⟨0, 0, v, [], _, c, by omega, by omega, rfl, by omega, Nat.le_refl _, rfl, fun h => absurd h (by omega), rfl, rfl⟩, (by repeat (first | exact trivial | refine ⟨rfl, ?_⟩ | refine ⟨le_item rfl (by first | rfl | (congr 1; omega) | (simp; done) | (simp; omega)), ?_⟩)), (by repeat constructor)⟩ ?_
        intro k E H hI
        obtain ⟨i, st, v2, buf, A, c, hi, rfl, hst, hsl, hvl, hbuf, hbn, rfl, rfl⟩ := hI
        have hbl : (buf ++ (dblG v2)).length = (dblG v).length := by rw [hbuf]
        rw [List.length_append] at hbl
        have hcl2 := cnt_le v2
        have hdl2 := dbl_len v2
        refine vc_seq ?_
        refine vc_region ?_
        refine vl_val rfl (.some rfl) (val_lt rfl rfl) ?_
        refine vl_nil ?_
        refine vc_seq ?_
        refine vc_cond rfl (fun hc4 => ?_) (fun hc4 => ?_)
        · (try replace hc4 := of_decide_eq_true hc4)
          obtain ⟨a, r, rfl, ha, hqi, hcr⟩ := cnt_pos (v := v2) (by omega)
          obtain ⟨g1, g2, g3, g4, g5⟩ := dbl_get (r := r) ha
          have hlr := @List.length_append _ a (39 :: r)
          have hlr2 := @List.length_cons _ (39 : UInt8) r
          have hdl2 := dbl_len (a ++ 39 :: r)
          have hct := drop_add2 (a := a.length + 1) hst
          refine vc_skip ?_
          refine vc_seq ?_
          refine vc_block ?_
          refine vc_seq ?_
          refine vc_region ?_
          refine vl_val rfl (.some rfl) (val_move rfl) ?_
          refine vl_val rfl (.some rfl) (val_move rfl) ?_
          refine vl_val rfl (.some rfl) (val_move rfl) ?_
          refine vl_val rfl (.some rfl) (val_cutStrFrom Tryd.runUnderlying9 rfl rfl (by omega) (by rw [sL_size]; omega)) ?_
          rw [sL_cut, sL_size, List.take_length, Int.toNat_natCast, hst]
          refine vl_val rfl (.some rfl) (val_move rfl) ?_
          refine vl_callV rfl rfl (.some rfl) Tryd.call57 rfl (fun w hw => sIdx1 (a ++ 39 :: r) w) ?_
          refine vl_val rfl (.some rfl) (val_add rfl rfl (show _ = ((st + a.length : Nat) : Int) by rw [hqi, w_i64 (by omega) (by omega)]; omega)) ?_
          refine vl_val rfl (.some rfl) (val_assign rfl) ?_
          refine vl_nil ?_
          refine vc_seq ?_
          refine vc_region ?_
          refine vl_val rfl (.some rfl) (val_move rfl) ?_
          refine vl_val rfl (.some rfl) (val_move rfl) ?_
          refine vl_val rfl (.some rfl) (val_move rfl) ?_
          refine vl_val rfl (.some rfl) (val_cutStr Tryd.runUnderlying9 rfl rfl rfl (by omega) (by omega) (by rw [hsz]; omega)) ?_
          rw [Int.toNat_natCast, Int.toNat_natCast, sL_cut, ext_take hst, List.take_left]
          refine vl_call (C := [BC r10 (some ⟨r10, 0, none⟩) A (buf).length c, sl A (buf).length c 5 1 (bcells (buf))]) rfl rfl (.some rfl) Tryd.call58 rfl (by repeat constructor) (fun w hw => bWrite r10 A c (buf) (by omega) (sL (a)) (by rw [sL_size]; omega) w) (fun v9 H9 h => ?_)
          obtain ⟨A2, c2, rfl⟩ := h
          show VL _ _ _ _ _ (_ :: _ :: _)
          refine vl_nil ?_
          refine vc_seq ?_
          refine vc_region ?_
          refine vl_val rfl (.some rfl) (val_move rfl) ?_
          refine vl_call (C := [BC r10 (some ⟨r10, 0, none⟩) A2 (buf ++ a).length c2, sl A2 (buf ++ a).length c2 5 1 (bcells (buf ++ a))]) rfl rfl (.some rfl) Tryd.call58 rfl (by repeat constructor) (fun w hw => bWrite r10 A2 c2 (buf ++ a) (by rw [List.length_append]; omega) (sL ([39, 39])) (by decide) w) (fun v9 H9 h => ?_)
          obtain ⟨A3, c3, rfl⟩ := h
          show VL _ _ _ _ _ (_ :: _ :: _)
          refine vl_nil ?_
          refine vc_region ?_
          refine vl_val rfl (.some rfl) (val_move rfl) ?_
          refine vl_val rfl (.some rfl) (val_move rfl) ?_
          refine vl_val rfl (.some rfl) (val_lenStr Tryd.runUnderlying9 rfl) ?_
          refine vl_val rfl (.some rfl) (val_add rfl rfl (show _ = ((st + (a.length + 1) : Nat) : Int) by rw [show ((sL [39]).size : Int) = 1 from rfl, w_i64 (by omega) (by omega)]; omega)) ?_
          refine vl_val rfl (.some rfl) (val_assign rfl) ?_
          refine vl_nil ?_
          refine vc_region ?_
          refine vl_val rfl (.some rfl) (val_add rfl rfl (by first | exact w_i64 (by omega) (by omega) | rfl)) ?_
          refine vl_val rfl (.some rfl) (val_move rfl) ?_
          refine vl_nil ?_
          exact ⟨r.count 39, _, _, _, by omega, (by repeat (first | exact trivial | refine ⟨rfl, ?_⟩ | refine ⟨le_item rfl (by first | rfl | (congr 1; omega) | (simp; done) | (simp; omega)), ?_⟩)), (by repeat constructor), ⟨i + 1, st + (a.length + 1), r, buf ++ a ++ [39, 39], A3, c3, by omega, by omega, (by rw [hct]; simp), by omega, by omega, (by rw [← hbuf, dbl_cat, dbl_quote, dbl_plain ha]; simp), fun _ h => by simp at h, rfl, rfl⟩⟩
        · (try replace hc4 := of_decide_eq_false hc4)
          obtain rfl : i = n := by omega
          have hv0 : v2.count 39 = 0 := by omega
          have hpl := dbl_plain (cnt_zero hv0)
          refine vc_exit ?_
          refine vc_seq ?_
          refine vc_region ?_
          refine vl_val rfl (.some rfl) (val_move rfl) ?_
          refine vl_val rfl (.some rfl) (val_move rfl) ?_
          refine vl_val rfl (.some rfl) (val_cutStrFrom Tryd.runUnderlying9 rfl rfl (by omega) (by rw [sL_size]; omega)) ?_
          rw [sL_cut, sL_size, List.take_length, Int.toNat_natCast, hst]
          refine vl_call (C := [BC r10 (some ⟨r10, 0, none⟩) A (buf).length c, sl A (buf).length c 5 1 (bcells (buf))]) rfl rfl (.some rfl) Tryd.call58 rfl (by repeat constructor) (fun w hw => bWrite r10 A c (buf) (by omega) (sL (v2)) (by rw [sL_size]; omega) w) (fun v9 H9 h => ?_)
          obtain ⟨A4, c4, rfl⟩ := h
          show VL _ _ _ _ _ (_ :: _ :: _)
          refine vl_nil ?_
          refine vc_seq ?_
          refine vc_region ?_
          refine vl_call (C := [BC r10 (some ⟨r10, 0, none⟩) A4 (buf ++ v2).length c4, sl A4 (buf ++ v2).length c4 5 1 (bcells (buf ++ v2))]) rfl rfl (.some rfl) Tryd.call60 rfl (by repeat constructor) (fun w hw => bString r10 A4 c4 (buf ++ v2) (by intro e; exact hbn (by omega) (List.append_eq_nil_iff.1 e).1) (by simp only [List.length_append]; omega) w) (fun v9 H9 h => ?_)
          obtain rfl := h
          refine vl_val rfl (.some rfl) (val_assign rfl) ?_
          refine vl_nil ?_
          refine vc_ret ?_
          refine ⟨_, [], _, res1 Tryd.results41 rfl, .nil, ?_⟩
          show _ = _
          rw [← hbuf, hpl]
      · (try replace hg32 := of_decide_eq_false hg32)
        exfalso
        revert hg32; decide
set_option maxRecDepth 20000 in
set_option maxHeartbeats 1000000 in
theorem rep2 (v : List UInt8) (hv : v.length ≤ 400) (w : World) (hm : ∃ m, w.cell? ⟨1, 0, none⟩ = some (.int .i64 m)) : FnV Tryd.prog 41 [.string (sL (dblG v)), .string (sL [39, 39]), .string (sL [39]), .int .i64 (-1)] (.string (sL v)) w := by
  obtain ⟨m, hm⟩ := hm
  obtain ⟨n, hn⟩ : ∃ n, v.count 39 = n := ⟨_, rfl⟩
  have hcl := cnt_le v
  have hdl := dbl_len v
  have hsz := sL_size (dblG v)
  refine fn_enter Tryd.func41 rfl Tryd.ntmps41 rfl ?_
  refine vc_seq ?_
  refine vc_region ?_
  refine vl_val rfl (.some rfl) (val_assign rfl) ?_
  refine vl_nil ?_
  refine vc_seq ?_
  refine vc_seq ?_
  refine vc_region ?_
  refine vl_val rfl (.some rfl) (val_move rfl) ?_
  refine vl_val rfl (.some rfl) (val_move rfl) ?_
  refine vl_val rfl (.some rfl) (val_seq rfl rfl) ?_
  refine vl_val rfl (.some rfl) (val_move rfl) ?_
  refine vl_split (t := 19) rfl (fun hg19 => ?_) (fun hg19 => ?_)
  · (try replace hg19 := of_decide_eq_true hg19)
    exfalso
    revert hg19; decide
  · (try replace hg19 := of_decide_eq_false hg19)
    refine vl_on rfl rfl rfl rfl ?_
    refine vl_val rfl (.some rfl) (val_move rfl) ?_
    refine vl_on rfl rfl rfl rfl ?_
    refine vl_val rfl (.some rfl) (val_eq rfl rfl) ?_
    refine vl_val rfl (.some rfl) (val_pick rfl rfl) ?_
    refine vl_nil ?_
    refine vc_cond rfl (fun hc0 => False.elim (by (try replace hc0 := of_decide_eq_true hc0); revert hc0; decide)) (fun hc0 => ?_)
    (try replace hc0 := of_decide_eq_false hc0)
    refine vc_skip ?_
    refine vc_seq ?_
    refine vc_seq ?_
    refine vc_region ?_
    refine vl_val rfl (.some rfl) (val_move rfl) ?_
    refine vl_val rfl (.some rfl) (val_move rfl) ?_
    refine vl_callV rfl rfl (.some rfl) Tryd.call55 rfl (fun w hw => cnt2 v (by omega) w ⟨m, (cell_old hm List.not_mem_nil w hw)⟩) ?_
    rw [hn]
    refine vl_val rfl (.some rfl) (val_assign rfl) ?_
    refine vl_nil ?_
    refine vc_seq ?_
    refine vc_region ?_
    refine vl_val rfl (.some rfl) (val_move rfl) ?_
    refine vl_val rfl (.some rfl) (val_eq rfl rfl) ?_
    refine vl_nil ?_
    refine vc_cond rfl (fun hc1 => ?_) (fun hc1 => ?_)
    · (try replace hc1 := of_decide_eq_true hc1)
      have hz : v.count 39 = 0 := by omega
      refine vc_seq ?_
      refine vc_region ?_
      refine vl_val rfl (.some rfl) (val_move rfl) ?_
      refine vl_val rfl (.some rfl) (val_assign rfl) ?_
      refine vl_nil ?_
      refine vc_ret ?_
      refine ⟨_, [], _, res1 Tryd.results41 rfl, .nil, ?_⟩
      show _ = _
      rw [dbl_plain (cnt_zero hz)]
    · (try replace hc1 := of_decide_eq_false hc1)
      have hn1 : 1 ≤ n := by omega
      refine vc_seq ?_
      refine vc_region ?_
      refine vl_val rfl (.some rfl) (val_move rfl) ?_
      refine vl_val rfl (.some rfl) (val_lt rfl rfl) ?_
      refine vl_val rfl (.some rfl) (val_move rfl) ?_
      refine vl_split (t := 32) rfl (fun hg32 => ?_) (fun hg32 => ?_)
      · (try replace hg32 := of_decide_eq_true hg32)
        refine vl_off rfl rfl rfl rfl (.some rfl) ?_
        refine vl_off rfl rfl rfl rfl (.some rfl) ?_
        refine vl_off rfl rfl rfl rfl (.some rfl) ?_
        refine vl_val rfl (.some rfl) (val_pick rfl rfl) ?_
        refine vl_nil ?_
        refine vc_cond rfl (fun _ => ?_) (fun h => by cases h)
        refine vc_region ?_
        refine vl_val rfl (.some rfl) (val_move rfl) ?_
        refine vl_val rfl (.some rfl) (val_assign rfl) ?_
        refine vl_nil ?_
        refine vc_seq ?_
        refine vc_region ?_
        refine vl_alloc rfl rfl (.some rfl) Tryd.zeroValue89 (fun r10 => ?_)
        refine vl_nil ?_
        refine vc_seq ?_
        refine vc_region ?_
        refine vl_val rfl (.some rfl) (val_move rfl) ?_
        refine vl_val rfl (.some rfl) (val_lenStr Tryd.runUnderlying9 rfl) ?_
        refine vl_val rfl (.some rfl) (val_move rfl) ?_
        refine vl_val rfl (.some rfl) (val_move rfl) ?_
        refine vl_val rfl (.some rfl) (val_lenStr Tryd.runUnderlying9 rfl) ?_
        refine vl_val rfl (.some rfl) (val_move rfl) ?_
        refine vl_val rfl (.some rfl) (val_lenStr Tryd.runUnderlying9 rfl) ?_
        refine vl_val rfl (.some rfl) (val_sub rfl rfl (show _ = (-1 : Int) by rfl)) ?_
        refine vl_val rfl (.some rfl) (val_mul rfl rfl (show _ = (-1 : Int) * (n : Int) by rw [w_i64 (by omega) (by omega)]; omega)) ?_
        refine vl_val rfl (.some rfl) (val_add rfl rfl (show _ = ((v.length : Nat) : Int) by rw [w_i64 (by omega) (by omega)]; omega)) ?_
        refine vl_call (C := [BC r10 none none 0 0]) rfl rfl (.some rfl) Tryd.call56 rfl (by repeat constructor) (fun w hw => bGrow r10 (v.length) (by omega) (by omega) w) (fun v9 H9 h => ?_)
        obtain ⟨G, c, hgc, rfl⟩ := h
        show VL _ _ _ _ _ (_ :: _ :: _)
        refine vl_nil ?_
        refine vc_seq ?_
        refine vc_region ?_
        refine vl_val rfl (.some rfl) (val_assign rfl) ?_
        refine vl_nil ?_
        refine vc_seq ?_
        refine vc_seq ?_
        refine vc_region ?_
        refine vl_val rfl (.some rfl) (val_move rfl) ?_
        refine vl_val rfl (.some rfl) (val_lenStr Tryd.runUnderlying9 rfl) ?_
        refine vl_val rfl (.some rfl) (val_gt rfl rfl) ?_
        refine vl_nil ?_
        refine vc_cond rfl (fun hc3 => ?_) (fun hc3 => False.elim (by (try replace hc3 := of_decide_eq_false hc3); revert hc3; decide))
        (try replace hc3 := of_decide_eq_true hc3)
        refine vc_seq ?_
        refine vc_region ?_
        refine vl_val rfl (.some rfl) (val_move rfl) ?_
        refine vl_val rfl (.some rfl) (val_move rfl) ?_
        refine vl_nil ?_
        refine vc_block ?_
        refine vc_loopw (fun k E H => ∃ (i st : Nat) (v2 buf : List UInt8) (A : Option Addr) (c : Nat), i + v2.count 39 = n ∧ k = v2.count 39 ∧ (dblG v).drop st = (dblG v2) ∧ st + (dblG v2).length = (dblG v).length ∧ v2.length ≤ v.length ∧ buf ++ (v2) = (v) ∧ (0 < i → buf ≠ []) ∧ E = [(0, .string (sL (dblG v))), (1, .string (sL [39, 39])), (2, .string (sL [39])), (10, .pointer (some ⟨r10, 0, none⟩)), (11, .int .i64 (st : Nat)), (52, .int .i64 (n : Nat)), (53, .int .i64 (i : Nat))] ∧ H = [BC r10 (some ⟨r10, 0, none⟩) A buf.length c, sl A buf.length c 5 1 (bcells buf)]) (n) ⟨_, _, _, ⟨0, 0, v, [], _, c, by omega, by omega, rfl, by omega, Nat.le_refl _, rfl, fun h => absurd h (by omega), rfl, rfl⟩, (by repeat (first | exact trivial | refine ⟨rfl, ?_⟩ | refine ⟨le_item rfl (by first | rfl | (congr 1; omega) | (simp; done) | (simp; omega)), ?_⟩)), (by repeat constructor)⟩ ?_
        intro k E H hI
        obtain ⟨i, st, v2, buf, A, c, hi, rfl, hst, hsl, hvl, hbuf, hbn, rfl, rfl⟩ := hI
        have hbl : (buf ++ (v2)).length = (v).length := by rw [hbuf]
        rw [List.length_append] at hbl
        have hcl2 := cnt_le v2
        have hdl2 := dbl_len v2
        refine vc_seq ?_
        refine vc_region ?_
        refine vl_val rfl (.some rfl) (val_lt rfl rfl) ?_
        refine vl_nil ?_
        refine vc_seq ?_
        refine vc_cond rfl (fun hc4 => ?_) (fun hc4 => ?_)
        · (try replace hc4 := of_decide_eq_true hc4)
          obtain ⟨a, r, rfl, ha, hqi, hcr⟩ := cnt_pos (v := v2) (by omega)
          obtain ⟨g1, g2, g3, g4, g5⟩ := dbl_get (r := r) ha
          have hlr := @List.length_append _ a (39 :: r)
          have hlr2 := @List.length_cons _ (39 : UInt8) r
          have hdl2 := dbl_len (a ++ 39 :: r)
          have hct := drop_add2 (a := a.length + 2) hst
          refine vc_skip ?_
          refine vc_seq ?_
          refine vc_block ?_
          refine vc_seq ?_
          refine vc_region ?_
          refine vl_val rfl (.some rfl) (val_move rfl) ?_
          refine vl_val rfl (.some rfl) (val_move rfl) ?_
          refine vl_val rfl (.some rfl) (val_move rfl) ?_
          refine vl_val rfl (.some rfl) (val_cutStrFrom Tryd.runUnderlying9 rfl rfl (by omega) (by rw [sL_size]; omega)) ?_
          rw [sL_cut, sL_size, List.take_length, Int.toNat_natCast, hst]
          refine vl_val rfl (.some rfl) (val_move rfl) ?_
          refine vl_callV rfl rfl (.some rfl) Tryd.call57 rfl (fun w hw => sIdx2 (a ++ 39 :: r) (by omega) w ⟨m, (cell_old hm List.not_mem_nil w hw)⟩) ?_
          refine vl_val rfl (.some rfl) (val_add rfl rfl (show _ = ((st + a.length : Nat) : Int) by rw [hqi, w_i64 (by omega) (by omega)]; omega)) ?_
          refine vl_val rfl (.some rfl) (val_assign rfl) ?_
          refine vl_nil ?_
          refine vc_seq ?_
          refine vc_region ?_
          refine vl_val rfl (.some rfl) (val_move rfl) ?_
          refine vl_val rfl (.some rfl) (val_move rfl) ?_
          refine vl_val rfl (.some rfl) (val_move rfl) ?_
          refine vl_val rfl (.some rfl) (val_cutStr Tryd.runUnderlying9 rfl rfl rfl (by omega) (by omega) (by rw [hsz]; omega)) ?_
          rw [Int.toNat_natCast, Int.toNat_natCast, sL_cut, ext_take hst, take_dbl ha]
          refine vl_call (C := [BC r10 (some ⟨r10, 0, none⟩) A (buf).length c, sl A (buf).length c 5 1 (bcells (buf))]) rfl rfl (.some rfl) Tryd.call58 rfl (by repeat constructor) (fun w hw => bWrite r10 A c (buf) (by omega) (sL (a)) (by rw [sL_size]; omega) w) (fun v9 H9 h => ?_)
          obtain ⟨A2, c2, rfl⟩ := h
          show VL _ _ _ _ _ (_ :: _ :: _)
          refine vl_nil ?_
          refine vc_seq ?_
          refine vc_region ?_
          refine vl_val rfl (.some rfl) (val_move rfl) ?_
          refine vl_call (C := [BC r10 (some ⟨r10, 0, none⟩) A2 (buf ++ a).length c2, sl A2 (buf ++ a).length c2 5 1 (bcells (buf ++ a))]) rfl rfl (.some rfl) Tryd.call58 rfl (by repeat constructor) (fun w hw => bWrite r10 A2 c2 (buf ++ a) (by rw [List.length_append]; omega) (sL ([39])) (by decide) w) (fun v9 H9 h => ?_)
          obtain ⟨A3, c3, rfl⟩ := h
          show VL _ _ _ _ _ (_ :: _ :: _)
          refine vl_nil ?_
          refine vc_region ?_
          refine vl_val rfl (.some rfl) (val_move rfl) ?_
          refine vl_val rfl (.some rfl) (val_move rfl) ?_
          refine vl_val rfl (.some rfl) (val_lenStr Tryd.runUnderlying9 rfl) ?_
          refine vl_val rfl (.some rfl) (val_add rfl rfl (show _ = ((st + (a.length + 2) : Nat) : Int) by rw [show ((sL [39, 39]).size : Int) = 2 from rfl, w_i64 (by omega) (by omega)]; omega)) ?_
          refine vl_val rfl (.some rfl) (val_assign rfl) ?_
          refine vl_nil ?_
          refine vc_region ?_
          refine vl_val rfl (.some rfl) (val_add rfl rfl (by first | exact w_i64 (by omega) (by omega) | rfl)) ?_
          refine vl_val rfl (.some rfl) (val_move rfl) ?_
          refine vl_nil ?_
          exact ⟨r.count 39, _, _, _, by omega, (by repeat (first | exact trivial | refine ⟨rfl, ?_⟩ | refine ⟨le_item rfl (by first | rfl | (congr 1; omega) | (simp; done) | (simp; omega)), ?_⟩)), (by repeat constructor), ⟨i + 1, st + (a.length + 2), r, buf ++ a ++ [39], A3, c3, by omega, by omega, (by rw [hct, g5]), (by have := dbl_len r; omega), by omega, (by rw [← hbuf]; simp), fun _ h => by simp at h, rfl, rfl⟩⟩
        · (try replace hc4 := of_decide_eq_false hc4)
          obtain rfl : i = n := by omega
          have hv0 : v2.count 39 = 0 := by omega
          have hpl := dbl_plain (cnt_zero hv0)
          refine vc_exit ?_
          refine vc_seq ?_
          refine vc_region ?_
          refine vl_val rfl (.some rfl) (val_move rfl) ?_
          refine vl_val rfl (.some rfl) (val_move rfl) ?_
          refine vl_val rfl (.some rfl) (val_cutStrFrom Tryd.runUnderlying9 rfl rfl (by omega) (by rw [sL_size]; omega)) ?_
          rw [sL_cut, sL_size, List.take_length, Int.toNat_natCast, hst]
          refine vl_call (C := [BC r10 (some ⟨r10, 0, none⟩) A (buf).length c, sl A (buf).length c 5 1 (bcells (buf))]) rfl rfl (.some rfl) Tryd.call58 rfl (by repeat constructor) (fun w hw => bWrite r10 A c (buf) (by omega) (sL (dblG v2)) (by rw [sL_size]; omega) w) (fun v9 H9 h => ?_)
          obtain ⟨A4, c4, rfl⟩ := h
          show VL _ _ _ _ _ (_ :: _ :: _)
          refine vl_nil ?_
          refine vc_seq ?_
          refine vc_region ?_
          refine vl_call (C := [BC r10 (some ⟨r10, 0, none⟩) A4 (buf ++ dblG v2).length c4, sl A4 (buf ++ dblG v2).length c4 5 1 (bcells (buf ++ dblG v2))]) rfl rfl (.some rfl) Tryd.call60 rfl (by repeat constructor) (fun w hw => bString r10 A4 c4 (buf ++ dblG v2) (by intro e; exact hbn (by omega) (List.append_eq_nil_iff.1 e).1) (by simp only [List.length_append]; omega) w) (fun v9 H9 h => ?_)
          obtain rfl := h
          refine vl_val rfl (.some rfl) (val_assign rfl) ?_
          refine vl_nil ?_
          refine vc_ret ?_
          refine ⟨_, [], _, res1 Tryd.results41 rfl, .nil, ?_⟩
          show _ = _
          rw [← hbuf, hpl]
      · (try replace hg32 := of_decide_eq_false hg32)
        exfalso
        revert hg32; decide
set_option maxRecDepth 20000 in
theorem repA1 (v : List UInt8) (hv : v.length ≤ 400) (w : World) : FnV Tryd.prog 19 [.string (sL v), .string (sL [39]), .string (sL [39, 39])] (.string (sL (dblG v))) w := by
  refine fn_enter Tryd.func19 rfl Tryd.ntmps19 rfl ?_
  refine vc_seq ?_
  refine vc_region ?_
  refine vl_val rfl (.some rfl) (val_assign rfl) ?_
  refine vl_nil ?_
  refine vc_seq ?_
  refine vc_region ?_
  refine vl_val rfl (.some rfl) (val_move rfl) ?_
  refine vl_val rfl (.some rfl) (val_move rfl) ?_
  refine vl_val rfl (.some rfl) (val_move rfl) ?_
  refine vl_callV rfl rfl (.some rfl) Tryd.call41 rfl (fun w hw => rep1 v hv w) ?_
  refine vl_val rfl (.some rfl) (val_assign rfl) ?_
  refine vl_nil ?_
  refine vc_ret ?_
  refine ⟨_, [], _, res1 Tryd.results19 rfl, .nil, ?_⟩
  rfl
set_option maxRecDepth 20000 in
theorem repA2 (v : List UInt8) (hv : v.length ≤ 400) (w : World) (hm : ∃ m, w.cell? ⟨1, 0, none⟩ = some (.int .i64 m)) : FnV Tryd.prog 19 [.string (sL (dblG v)), .string (sL [39, 39]), .string (sL [39])] (.string (sL v)) w := by
  obtain ⟨m, hm⟩ := hm
  refine fn_enter Tryd.func19 rfl Tryd.ntmps19 rfl ?_
  refine vc_seq ?_
  refine vc_region ?_
  refine vl_val rfl (.some rfl) (val_assign rfl) ?_
  refine vl_nil ?_
  refine vc_seq ?_
  refine vc_region ?_
  refine vl_val rfl (.some rfl) (val_move rfl) ?_
  refine vl_val rfl (.some rfl) (val_move rfl) ?_
  refine vl_val rfl (.some rfl) (val_move rfl) ?_
  refine vl_callV rfl rfl (.some rfl) Tryd.call41 rfl (fun w hw => rep2 v hv w ⟨m, (cell_old hm List.not_mem_nil w hw)⟩) ?_
  refine vl_val rfl (.some rfl) (val_assign rfl) ?_
  refine vl_nil ?_
  refine vc_ret ?_
  refine ⟨_, [], _, res1 Tryd.results19 rfl, .nil, ?_⟩
  rfl


end Go.Proofs.YtclknendeeljaaaDoor.K
