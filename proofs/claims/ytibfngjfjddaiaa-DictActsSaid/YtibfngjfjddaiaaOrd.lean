/- Walks of the program's functions, printed by a program of this session; Lean checks them. -/
import Derived.Test.YtibfngjfjddaiaaKp
import Derived.Test.YtibfngjfjddaiaaProg
namespace Go.Proofs.Ytibfngjfjddaiaa.K
open Go Go.RowKit Go.Proofs
set_option linter.unusedVariables false
set_option linter.unusedSimpArgs false

/-! floats: bits -/
theorem frombits_run (n : Int) (w : World) : (callFunc 110 #[.int .u64 n]).run Try.prog w = .ok (.value (.float .f64 n.toNat)) w := by
  rw [run_callFunc_extern (e := Extern.MathFloatBits.float64frombits) Try.func110 (by kernel_rfl) (by kernel_rfl) (by kernel_rfl) (by kernel_rfl)]; rfl

set_option maxRecDepth 20000 in
theorem ofloat (n : Int) (w : World) : FnV Try.prog 108 [.int .i64 n] (.float .f64 (ub n)) w := by
  refine fn_enter Try.func108 rfl Try.ntmps108 rfl ?_
  refine vc_seq ?_
  refine vc_region ?_
  refine vl_val rfl (.some rfl) (val_assign rfl) ?_
  refine vl_nil ?_
  refine vc_seq ?_
  refine vc_region ?_
  refine vl_val rfl (.some rfl) (val_move rfl) ?_
  refine vl_val rfl (.some rfl) (val_convInt Try.runUnderlying3 Try.runUnderlying96 rfl (by first | exact w_u64 (by omega) (by omega) | rfl)) ?_
  refine vl_ext rfl rfl (.some rfl) rfl (frombits_run _) ?_
  refine vl_val rfl (.some rfl) (val_assign rfl) ?_
  refine vl_nil ?_
  refine vc_ret ?_
  refine ⟨_, [], _, res1 Try.results108 rfl, .nil, ?_⟩
  rfl
set_option maxRecDepth 20000 in
theorem oCanon (n : Int) (w : World) : FnV Try.prog 104 [.int .i64 n] (.int .i64 (canS n)) w := by
  refine fn_enter Try.func104 rfl Try.ntmps104 rfl ?_
  refine vc_seq ?_
  refine vc_region ?_
  refine vl_val rfl (.some rfl) (val_assign rfl) ?_
  refine vl_nil ?_
  refine vc_seq ?_
  refine vc_seq ?_
  refine vc_region ?_
  refine vl_val rfl (.some rfl) (val_move rfl) ?_
  refine vl_callV rfl rfl (.some rfl) Try.call108 rfl (fun w hw => ofloat _ w) ?_
  refine vl_val rfl (.some rfl) (val_assign rfl) ?_
  refine vl_nil ?_
  refine vc_block ?_
  refine vc_seq ?_
  refine vc_region ?_
  refine vl_val rfl (.some rfl) (val_move rfl) ?_
  refine vl_val rfl (.some rfl) (val_move rfl) ?_
  refine vl_val rfl (.some rfl) (val_fne rfl rfl) ?_
  refine vl_val rfl (.some rfl) (val_assign rfl) ?_
  refine vl_nil ?_
  refine vc_cond rfl (fun hc0 => ?_) (fun hc0 => ?_)
  · (try replace hc0 := of_decide_eq_true hc0)
    rw [self_is] at hc0; replace hc0 := of_decide_eq_true hc0
    refine vc_seq ?_
    refine vc_region ?_
    refine vl_val rfl (.some rfl) (val_assign rfl) ?_
    refine vl_nil ?_
    refine vc_ret ?_
    refine ⟨_, [], _, res1 Try.results104 rfl, .nil, ?_⟩
    show _ = _; simp [canS, hc0]
  · (try replace hc0 := of_decide_eq_false hc0)
    rw [self_is] at hc0; replace hc0 := of_decide_eq_false hc0
    refine vc_seq ?_
    refine vc_region ?_
    refine vl_val rfl (.some rfl) (val_move rfl) ?_
    refine vl_val rfl (.some rfl) (val_feq rfl rfl) ?_
    refine vl_val rfl (.some rfl) (val_assign rfl) ?_
    refine vl_nil ?_
    refine vc_cond rfl (fun hc1 => ?_) (fun hc1 => ?_)
    · (try replace hc1 := of_decide_eq_true hc1)
      rw [eq_is] at hc1; replace hc1 := of_decide_eq_true hc1
      refine vc_seq ?_
      refine vc_region ?_
      refine vl_val rfl (.some rfl) (val_assign rfl) ?_
      refine vl_nil ?_
      refine vc_ret ?_
      refine ⟨_, [], _, res1 Try.results104 rfl, .nil, ?_⟩
      show _ = _; have h0 : rg (ub n) = 0 := sv_zero.1 (hc1.2.2.trans sv0)
      simp [canS, hc0, h0]
    · (try replace hc1 := of_decide_eq_false hc1)
      rw [eq_is] at hc1; replace hc1 := of_decide_eq_false hc1
      refine vc_skip ?_
      refine vc_seq ?_
      refine vc_region ?_
      refine vl_val rfl (.some rfl) (val_move rfl) ?_
      refine vl_val rfl (.some rfl) (val_assign rfl) ?_
      refine vl_nil ?_
      refine vc_ret ?_
      refine ⟨_, [], _, res1 Try.results104 rfl, .nil, ?_⟩
      show _ = _; have h0 : ¬ rg (ub n) = 0 := fun e => hc1 ⟨hc0, isN0, (sv_zero.2 e).trans sv0.symm⟩
      simp [canS, hc0, h0]
set_option maxRecDepth 20000 in
theorem oGood (n : Int) (w : World) : FnV Try.prog 95 [.int .i64 n] (.bool (decide (canS n = n))) w := by
  refine fn_enter Try.func95 rfl Try.ntmps95 rfl ?_
  refine vc_seq ?_
  refine vc_region ?_
  refine vl_val rfl (.some rfl) (val_assign rfl) ?_
  refine vl_nil ?_
  refine vc_seq ?_
  refine vc_region ?_
  refine vl_val rfl (.some rfl) (val_move rfl) ?_
  refine vl_callV rfl rfl (.some rfl) Try.call104 rfl (fun w hw => oCanon _ w) ?_
  refine vl_val rfl (.some rfl) (val_move rfl) ?_
  refine vl_val rfl (.some rfl) (val_eq rfl rfl) ?_
  refine vl_val rfl (.some rfl) (val_assign rfl) ?_
  refine vl_nil ?_
  refine vc_ret ?_
  refine ⟨_, [], _, res1 Try.results95 rfl, .nil, ?_⟩
  rfl

end Go.Proofs.Ytibfngjfjddaiaa.K
