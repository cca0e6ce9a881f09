/- Walks of the program's functions, printed by a program of this session; Lean checks them. -/
import Derived.Test.YtpgopfidbmiifaaKm
import Derived.Test.YtpgopfidbmiifaaProg
namespace Go.Proofs.Ytpgopfidbmiifaa.K
open Go Go.RowKit Go.Proofs
set_option linter.unusedVariables false
set_option linter.unusedSimpArgs false
theorem sT39 : SlT Try.prog 39 5 1 1 (.int .u8 0) := ⟨Try.underlying39, ⟨Try.t5, Try.type5, rfl, rfl, rfl⟩, rfl, by decide⟩
/-! floats: bits -/
theorem frombits_run (n : Int) (w : World) : (callFunc 8 #[.int .u64 n]).run Try.prog w = .ok (.value (.float .f64 n.toNat)) w := by
  rw [run_callFunc_extern (e := Extern.MathFloatBits.float64frombits) Try.func8 (by kernel_rfl) (by kernel_rfl) (by kernel_rfl) (by kernel_rfl)]; rfl
theorem tobits_run (n : Nat) (w : World) : (callFunc 31 #[.float .f64 n]).run Try.prog w = .ok (.value (.int .u64 n)) w := by
  rw [run_callFunc_extern (e := Extern.MathFloatBits.float64bits) Try.func31 (by kernel_rfl) (by kernel_rfl) (by kernel_rfl) (by kernel_rfl)]; rfl

set_option maxRecDepth 20000 in
theorem ofloat (n : Int) (w : World) : FnV Try.prog 30 [.int .i64 n] (.float .f64 (ub n)) w := by
  refine fn_enter Try.func30 rfl Try.ntmps30 rfl ?_
  refine vc_seq ?_
  refine vc_region ?_
  refine vl_val rfl (.some rfl) (val_assign rfl) ?_
  refine vl_nil ?_
  refine vc_seq ?_
  refine vc_region ?_
  refine vl_val rfl (.some rfl) (val_move rfl) ?_
  refine vl_val rfl (.some rfl) (val_convInt Try.runUnderlying3 Try.runUnderlying24 rfl (by first | exact w_u64 (by omega) (by omega) | rfl)) ?_
  refine vl_ext rfl rfl (.some rfl) rfl (frombits_run _) ?_
  refine vl_val rfl (.some rfl) (val_assign rfl) ?_
  refine vl_nil ?_
  refine vc_ret ?_
  refine ⟨_, [], _, res1 Try.results30 rfl, .nil, ?_⟩
  rfl
set_option maxRecDepth 20000 in
theorem oNan (n : Int) (w : World) : FnV Try.prog 15 [.int .i64 n] (.bool (decide (isN (ub n)))) w := by
  refine fn_enter Try.func15 rfl Try.ntmps15 rfl ?_
  refine vc_seq ?_
  refine vc_region ?_
  refine vl_val rfl (.some rfl) (val_assign rfl) ?_
  refine vl_nil ?_
  refine vc_seq ?_
  refine vc_region ?_
  refine vl_val rfl (.some rfl) (val_move rfl) ?_
  refine vl_callV rfl rfl (.some rfl) Try.call30 rfl (fun w hw => ofloat _ w) ?_
  refine vl_val rfl (.some rfl) (val_assign rfl) ?_
  refine vl_nil ?_
  refine vc_seq ?_
  refine vc_region ?_
  refine vl_val rfl (.some rfl) (val_move rfl) ?_
  refine vl_val rfl (.some rfl) (val_move rfl) ?_
  refine vl_val rfl (.some rfl) (val_fne rfl rfl) ?_
  refine vl_val rfl (.some rfl) (val_assign rfl) ?_
  refine vl_nil ?_
  refine vc_ret ?_
  refine ⟨_, [], _, res1 Try.results15 rfl, .nil, ?_⟩
  exact congrArg Value.bool (self_is _)
set_option maxRecDepth 20000 in
theorem oCanon (n : Int) (w : World) : FnV Try.prog 11 [.int .i64 n] (.int .i64 (canS n)) w := by
  refine fn_enter Try.func11 rfl Try.ntmps11 rfl ?_
  refine vc_seq ?_
  refine vc_region ?_
  refine vl_val rfl (.some rfl) (val_assign rfl) ?_
  refine vl_nil ?_
  refine vc_seq ?_
  refine vc_seq ?_
  refine vc_region ?_
  refine vl_val rfl (.some rfl) (val_move rfl) ?_
  refine vl_callV rfl rfl (.some rfl) Try.call30 rfl (fun w hw => ofloat _ w) ?_
  refine vl_val rfl (.some rfl) (val_assign rfl) ?_
  refine vl_nil ?_
  refine vc_block ?_
  refine vc_seq ?_
  refine vc_region ?_
  refine vl_val rfl (.some rfl) (val_move rfl) ?_
  refine vl_val rfl (.some rfl) (val_move rfl) ?_
  refine vl_val rfl (.some rfl) (val_fne rfl rfl) ?_
  refine vl_val rfl (.some rfl) (val_assign rfl) ?_
  refine vl_nil ?_
  refine vc_cond rfl (fun hc0 => ?_) (fun hc0 => ?_)
  · (try replace hc0 := of_decide_eq_true hc0)
    rw [self_is] at hc0; replace hc0 := of_decide_eq_true hc0
    refine vc_seq ?_
    refine vc_region ?_
    refine vl_val rfl (.some rfl) (val_assign rfl) ?_
    refine vl_nil ?_
    refine vc_ret ?_
    refine ⟨_, [], _, res1 Try.results11 rfl, .nil, ?_⟩
    show _ = _; simp [canS, hc0]
  · (try replace hc0 := of_decide_eq_false hc0)
    rw [self_is] at hc0; replace hc0 := of_decide_eq_false hc0
    refine vc_seq ?_
    refine vc_region ?_
    refine vl_val rfl (.some rfl) (val_move rfl) ?_
    refine vl_val rfl (.some rfl) (val_feq rfl rfl) ?_
    refine vl_val rfl (.some rfl) (val_assign rfl) ?_
    refine vl_nil ?_
    refine vc_cond rfl (fun hc1 => ?_) (fun hc1 => ?_)
    · (try replace hc1 := of_decide_eq_true hc1)
      rw [eq_is] at hc1; replace hc1 := of_decide_eq_true hc1
      refine vc_seq ?_
      refine vc_region ?_
      refine vl_val rfl (.some rfl) (val_assign rfl) ?_
      refine vl_nil ?_
      refine vc_ret ?_
      refine ⟨_, [], _, res1 Try.results11 rfl, .nil, ?_⟩
      show _ = _; have h0 : rg (ub n) = 0 := sv_zero.1 (hc1.2.2.trans sv0)
      simp [canS, hc0, h0]
    · (try replace hc1 := of_decide_eq_false hc1)
      rw [eq_is] at hc1; replace hc1 := of_decide_eq_false hc1
      refine vc_skip ?_
      refine vc_seq ?_
      refine vc_region ?_
      refine vl_val rfl (.some rfl) (val_move rfl) ?_
      refine vl_val rfl (.some rfl) (val_assign rfl) ?_
      refine vl_nil ?_
      refine vc_ret ?_
      refine ⟨_, [], _, res1 Try.results11 rfl, .nil, ?_⟩
      show _ = _; have h0 : ¬ rg (ub n) = 0 := fun e => hc1 ⟨hc0, isN0, (sv_zero.2 e).trans sv0.symm⟩
      simp [canS, hc0, h0]
set_option maxRecDepth 20000 in
theorem oGood (n : Int) (w : World) : FnV Try.prog 13 [.int .i64 n] (.bool (decide (canS n = n))) w := by
  refine fn_enter Try.func13 rfl Try.ntmps13 rfl ?_
  refine vc_seq ?_
  refine vc_region ?_
  refine vl_val rfl (.some rfl) (val_assign rfl) ?_
  refine vl_nil ?_
  refine vc_seq ?_
  refine vc_region ?_
  refine vl_val rfl (.some rfl) (val_move rfl) ?_
  refine vl_callV rfl rfl (.some rfl) Try.call11 rfl (fun w hw => oCanon _ w) ?_
  refine vl_val rfl (.some rfl) (val_move rfl) ?_
  refine vl_val rfl (.some rfl) (val_eq rfl rfl) ?_
  refine vl_val rfl (.some rfl) (val_assign rfl) ?_
  refine vl_nil ?_
  refine vc_ret ?_
  refine ⟨_, [], _, res1 Try.results13 rfl, .nil, ?_⟩
  rfl
set_option maxRecDepth 20000 in
theorem oKey (n : Int) (w : World) : FnV Try.prog 17 [.int .i64 n] (.int .u64 (keyS (ub n) : Nat)) w := by
  have hu := ub_lt n
  have hc := ub_can n
  have hlt := ub_lt (canS n)
  refine fn_enter Try.func17 rfl Try.ntmps17 rfl ?_
  refine vc_seq ?_
  refine vc_region ?_
  refine vl_val rfl (.some rfl) (val_assign rfl) ?_
  refine vl_nil ?_
  refine vc_seq ?_
  refine vc_region ?_
  refine vl_val rfl (.some rfl) (val_move rfl) ?_
  refine vl_callV rfl rfl (.some rfl) Try.call11 rfl (fun w hw => oCanon _ w) ?_
  refine vl_callV rfl rfl (.some rfl) Try.call30 rfl (fun w hw => ofloat _ w) ?_
  refine vl_val rfl (.some rfl) (val_assign rfl) ?_
  refine vl_nil ?_
  refine vc_seq ?_
  refine vc_region ?_
  refine vl_val rfl (.some rfl) (val_move rfl) ?_
  refine vl_ext rfl rfl (.some rfl) rfl (tobits_run _) ?_
  refine vl_val rfl (.some rfl) (val_assign rfl) ?_
  refine vl_nil ?_
  refine vc_seq ?_
  refine vc_block ?_
  refine vc_seq ?_
  refine vc_region ?_
  refine vl_val rfl (.some rfl) (val_move rfl) ?_
  refine vl_val rfl (.some rfl) (val_move rfl) ?_
  refine vl_val rfl (.some rfl) (val_fne rfl rfl) ?_
  refine vl_val rfl (.some rfl) (val_assign rfl) ?_
  refine vl_nil ?_
  refine vc_cond rfl (fun hc0 => ?_) (fun hc0 => ?_)
  · (try replace hc0 := of_decide_eq_true hc0)
    rw [self_is] at hc0; replace hc0 := of_decide_eq_true hc0
    refine vc_seq ?_
    refine vc_region ?_
    refine vl_val rfl (.some rfl) (val_assign rfl) ?_
    refine vl_nil ?_
    refine vc_ret ?_
    refine ⟨_, [], _, res1 Try.results17 rfl, .nil, ?_⟩
    show _ = _; rw [isN_can] at hc0; simp [keyS, hc0]
  · (try replace hc0 := of_decide_eq_false hc0)
    rw [self_is] at hc0; replace hc0 := of_decide_eq_false hc0
    refine vc_seq ?_
    refine vc_region ?_
    refine vl_val rfl (.some rfl) (val_move rfl) ?_
    refine vl_val rfl (.some rfl) (val_flt rfl rfl) ?_
    refine vl_val rfl (.some rfl) (val_assign rfl) ?_
    refine vl_nil ?_
    refine vc_cond rfl (fun hc1 => ?_) (fun hc1 => ?_)
    · (try replace hc1 := of_decide_eq_true hc1)
      rw [lt_is] at hc1; replace hc1 := of_decide_eq_true hc1
      refine vc_seq ?_
      refine vc_region ?_
      refine vl_val rfl (.some rfl) (val_move rfl) ?_
      refine vl_val rfl (.some rfl) (val_com rfl (com_u64 (by omega) (by omega))) ?_
      refine vl_val rfl (.some rfl) (val_assign rfl) ?_
      refine vl_nil ?_
      refine vc_ret ?_
      refine ⟨_, [], _, res1 Try.results17 rfl, .nil, ?_⟩
      show _ = _; rw [isN_can] at hc0
      rw [if_neg hc0] at hc
      have hs : sv (ub (canS n)) < 0 := by have := hc1.2.2; rw [sv0] at this; exact this
      by_cases hr : rg (ub n) = 0
      · rw [if_pos hr] at hc; rw [hc, sv0] at hs; omega
      · rw [if_neg hr] at hc
        rw [hc] at hs
        have hsg : sg (ub n) = true := by
          cases e : sg (ub n) with
          | true => rfl
          | false => exfalso; unfold sv at hs; rw [if_neg (by simp [e])] at hs; omega
        congr 1
        unfold keyS
        rw [if_neg hc0, if_neg hr, if_pos hsg, hc]
        omega
    · (try replace hc1 := of_decide_eq_false hc1)
      rw [lt_is] at hc1; replace hc1 := of_decide_eq_false hc1
      refine vc_skip ?_
      refine vc_seq ?_
      refine vc_region ?_
      refine vl_val rfl (.some rfl) (val_move rfl) ?_
      have hns : (ub (canS n) : Int) < 9223372036854775808 := by
        have h0 : ¬ sv (ub (canS n)) < 0 := fun h => hc1 ⟨hc0, isN0, by rw [sv0]; exact h⟩
        rcases split_sg hlt with ⟨s, e⟩ | ⟨s, e⟩
        · exfalso
          have hz : sv (ub (canS n)) = -(rg (ub (canS n)) : Int) := by unfold sv; rw [if_pos s]
          rw [isN_can] at hc0
          rw [if_neg hc0] at hc
          by_cases hr : rg (ub n) = 0
          · rw [if_pos hr] at hc; omega
          · rw [if_neg hr] at hc; rw [hc] at hz h0; omega
        · have : rg (ub (canS n)) < 9223372036854775808 := by unfold rg; omega
          omega
      refine vl_val rfl (.some rfl) (val_or rfl rfl (or_top (by omega) hns)) ?_
      refine vl_val rfl (.some rfl) (val_assign rfl) ?_
      refine vl_nil ?_
      refine vc_ret ?_
      refine ⟨_, [], _, res1 Try.results17 rfl, .nil, ?_⟩
      show _ = _; rw [isN_can] at hc0
      rw [if_neg hc0] at hc
      by_cases hr : rg (ub n) = 0
      · rw [if_pos hr] at hc
        simp [keyS, hc0, hr, hc]
      · rw [if_neg hr] at hc
        have hsg : sg (ub n) = false := by
          cases e : sg (ub n) with
          | false => rfl
          | true => exfalso; rw [hc] at hns; rcases split_sg hu with ⟨s, e'⟩ | ⟨s, e'⟩
                    · omega
                    · rw [e] at s; cases s
        congr 1
        unfold keyS
        rw [if_neg hc0, if_neg hr, if_neg (by simp [hsg]), hc]
        omega
set_option maxRecDepth 20000 in
theorem oCmp (a b : Int) (w : World) : FnV Try.prog 9 [.int .i64 a, .int .i64 b] (.int .i64 (cmpS (ub a) (ub b))) w := by
  refine fn_enter Try.func9 rfl Try.ntmps9 rfl ?_
  refine vc_seq ?_
  refine vc_region ?_
  refine vl_val rfl (.some rfl) (val_assign rfl) ?_
  refine vl_nil ?_
  refine vc_seq ?_
  refine vc_region ?_
  refine vl_val rfl (.some rfl) (val_move rfl) ?_
  refine vl_callV rfl rfl (.some rfl) Try.call30 rfl (fun w hw => ofloat _ w) ?_
  refine vl_val rfl (.some rfl) (val_move rfl) ?_
  refine vl_callV rfl rfl (.some rfl) Try.call30 rfl (fun w hw => ofloat _ w) ?_
  refine vl_val rfl (.some rfl) (val_assign rfl) ?_
  refine vl_val rfl (.some rfl) (val_assign rfl) ?_
  refine vl_nil ?_
  refine vc_seq ?_
  refine vc_block ?_
  refine vc_seq ?_
  refine vc_region ?_
  refine vl_val rfl (.some rfl) (val_move rfl) ?_
  refine vl_val rfl (.some rfl) (val_move rfl) ?_
  refine vl_val rfl (.some rfl) (val_flt rfl rfl) ?_
  refine vl_val rfl (.some rfl) (val_assign rfl) ?_
  refine vl_nil ?_
  refine vc_cond rfl (fun hc0 => ?_) (fun hc0 => ?_)
  · (try replace hc0 := of_decide_eq_true hc0)
    rw [lt_is] at hc0; replace hc0 := of_decide_eq_true hc0
    refine vc_seq ?_
    refine vc_region ?_
    refine vl_val rfl (.some rfl) (val_assign rfl) ?_
    refine vl_nil ?_
    refine vc_ret ?_
    refine ⟨_, [], _, res1 Try.results9 rfl, .nil, ?_⟩
    show _ = _; congr 1; unfold cmpS; (try (rw [self_is] at hc3)); by_cases ha : isN (ub a) <;> by_cases hb : isN (ub b) <;> simp_all <;> omega
  · (try replace hc0 := of_decide_eq_false hc0)
    rw [lt_is] at hc0; replace hc0 := of_decide_eq_false hc0
    refine vc_seq ?_
    refine vc_region ?_
    refine vl_val rfl (.some rfl) (val_move rfl) ?_
    refine vl_val rfl (.some rfl) (val_move rfl) ?_
    refine vl_val rfl (.some rfl) (val_fgt rfl rfl) ?_
    refine vl_val rfl (.some rfl) (val_assign rfl) ?_
    refine vl_nil ?_
    refine vc_cond rfl (fun hc1 => ?_) (fun hc1 => ?_)
    · (try replace hc1 := of_decide_eq_true hc1)
      rw [gt_is] at hc1; replace hc1 := of_decide_eq_true hc1
      refine vc_seq ?_
      refine vc_region ?_
      refine vl_val rfl (.some rfl) (val_assign rfl) ?_
      refine vl_nil ?_
      refine vc_ret ?_
      refine ⟨_, [], _, res1 Try.results9 rfl, .nil, ?_⟩
      show _ = _; congr 1; unfold cmpS; (try (rw [self_is] at hc3)); by_cases ha : isN (ub a) <;> by_cases hb : isN (ub b) <;> simp_all <;> omega
    · (try replace hc1 := of_decide_eq_false hc1)
      rw [gt_is] at hc1; replace hc1 := of_decide_eq_false hc1
      refine vc_seq ?_
      refine vc_region ?_
      refine vl_val rfl (.some rfl) (val_move rfl) ?_
      refine vl_val rfl (.some rfl) (val_move rfl) ?_
      refine vl_val rfl (.some rfl) (val_feq rfl rfl) ?_
      refine vl_val rfl (.some rfl) (val_assign rfl) ?_
      refine vl_nil ?_
      refine vc_cond rfl (fun hc2 => ?_) (fun hc2 => ?_)
      · (try replace hc2 := of_decide_eq_true hc2)
        rw [eq_is] at hc2; replace hc2 := of_decide_eq_true hc2
        refine vc_seq ?_
        refine vc_region ?_
        refine vl_val rfl (.some rfl) (val_assign rfl) ?_
        refine vl_nil ?_
        refine vc_ret ?_
        refine ⟨_, [], _, res1 Try.results9 rfl, .nil, ?_⟩
        show _ = _; congr 1; unfold cmpS; (try (rw [self_is] at hc3)); by_cases ha : isN (ub a) <;> by_cases hb : isN (ub b) <;> simp_all <;> omega
      · (try replace hc2 := of_decide_eq_false hc2)
        rw [eq_is] at hc2; replace hc2 := of_decide_eq_false hc2
        refine vc_seq ?_
        refine vc_region ?_
        refine vl_val rfl (.some rfl) (val_move rfl) ?_
        refine vl_val rfl (.some rfl) (val_move rfl) ?_
        refine vl_val rfl (.some rfl) (val_fne rfl rfl) ?_
        refine vl_val rfl (.some rfl) (val_move rfl) ?_
        refine vl_split (t := 27) rfl (fun hg27 => ?_) (fun hg27 => ?_)
        · (try replace hg27 := of_decide_eq_true hg27)
          rw [self_is] at hg27; replace hg27 := of_decide_eq_true hg27
          refine vl_on rfl rfl rfl rfl ?_
          refine vl_val rfl (.some rfl) (val_move rfl) ?_
          refine vl_on rfl rfl rfl rfl ?_
          refine vl_val rfl (.some rfl) (val_move rfl) ?_
          refine vl_on rfl rfl rfl rfl ?_
          refine vl_val rfl (.some rfl) (val_fne rfl rfl) ?_
          refine vl_val rfl (.some rfl) (val_pick rfl rfl) ?_
          refine vl_val rfl (.some rfl) (val_assign rfl) ?_
          refine vl_nil ?_
          refine vc_cond rfl (fun hc3 => ?_) (fun hc3 => ?_)
          · (try replace hc3 := of_decide_eq_true hc3)
            refine vc_seq ?_
            refine vc_region ?_
            refine vl_val rfl (.some rfl) (val_assign rfl) ?_
            refine vl_nil ?_
            refine vc_ret ?_
            refine ⟨_, [], _, res1 Try.results9 rfl, .nil, ?_⟩
            show _ = _; congr 1; unfold cmpS; (try (rw [self_is] at hc3)); by_cases ha : isN (ub a) <;> by_cases hb : isN (ub b) <;> simp_all <;> omega
          · (try replace hc3 := of_decide_eq_false hc3)
            refine vc_seq ?_
            refine vc_region ?_
            refine vl_val rfl (.some rfl) (val_move rfl) ?_
            refine vl_val rfl (.some rfl) (val_move rfl) ?_
            refine vl_val rfl (.some rfl) (val_fne rfl rfl) ?_
            refine vl_val rfl (.some rfl) (val_assign rfl) ?_
            refine vl_nil ?_
            refine vc_cond rfl (fun hc4 => ?_) (fun hc4 => ?_)
            · (try replace hc4 := of_decide_eq_true hc4)
              rw [self_is] at hc4; replace hc4 := of_decide_eq_true hc4
              refine vc_seq ?_
              refine vc_region ?_
              refine vl_val rfl (.some rfl) (val_assign rfl) ?_
              refine vl_nil ?_
              refine vc_ret ?_
              refine ⟨_, [], _, res1 Try.results9 rfl, .nil, ?_⟩
              show _ = _; congr 1; unfold cmpS; (try (rw [self_is] at hc3)); by_cases ha : isN (ub a) <;> by_cases hb : isN (ub b) <;> simp_all <;> omega
            · (try replace hc4 := of_decide_eq_false hc4)
              rw [self_is] at hc4; replace hc4 := of_decide_eq_false hc4
              refine vc_skip ?_
              refine vc_seq ?_
              refine vc_region ?_
              refine vl_val rfl (.some rfl) (val_assign rfl) ?_
              refine vl_nil ?_
              refine vc_ret ?_
              refine ⟨_, [], _, res1 Try.results9 rfl, .nil, ?_⟩
              show _ = _; congr 1; unfold cmpS; (try (rw [self_is] at hc3)); by_cases ha : isN (ub a) <;> by_cases hb : isN (ub b) <;> simp_all <;> omega
        · (try replace hg27 := of_decide_eq_false hg27)
          rw [self_is] at hg27; replace hg27 := of_decide_eq_false hg27
          refine vl_off rfl rfl rfl rfl (.some rfl) ?_
          refine vl_off rfl rfl rfl rfl (.some rfl) ?_
          refine vl_off rfl rfl rfl rfl (.some rfl) ?_
          refine vl_val rfl (.some rfl) (val_pick rfl rfl) ?_
          refine vl_val rfl (.some rfl) (val_assign rfl) ?_
          refine vl_nil ?_
          refine vc_cond rfl (fun h => by cases h) (fun _ => ?_)
          refine vc_seq ?_
          refine vc_region ?_
          refine vl_val rfl (.some rfl) (val_move rfl) ?_
          refine vl_val rfl (.some rfl) (val_move rfl) ?_
          refine vl_val rfl (.some rfl) (val_fne rfl rfl) ?_
          refine vl_val rfl (.some rfl) (val_assign rfl) ?_
          refine vl_nil ?_
          refine vc_cond rfl (fun hc4 => ?_) (fun hc4 => ?_)
          · (try replace hc4 := of_decide_eq_true hc4)
            rw [self_is] at hc4; replace hc4 := of_decide_eq_true hc4
            refine vc_seq ?_
            refine vc_region ?_
            refine vl_val rfl (.some rfl) (val_assign rfl) ?_
            refine vl_nil ?_
            refine vc_ret ?_
            refine ⟨_, [], _, res1 Try.results9 rfl, .nil, ?_⟩
            show _ = _; congr 1; unfold cmpS; (try (rw [self_is] at hc3)); by_cases ha : isN (ub a) <;> by_cases hb : isN (ub b) <;> simp_all <;> omega
          · (try replace hc4 := of_decide_eq_false hc4)
            rw [self_is] at hc4; replace hc4 := of_decide_eq_false hc4
            refine vc_skip ?_
            refine vc_seq ?_
            refine vc_region ?_
            refine vl_val rfl (.some rfl) (val_assign rfl) ?_
            refine vl_nil ?_
            refine vc_ret ?_
            refine ⟨_, [], _, res1 Try.results9 rfl, .nil, ?_⟩
            show _ = _; congr 1; unfold cmpS; (try (rw [self_is] at hc3)); by_cases ha : isN (ub a) <;> by_cases hb : isN (ub b) <;> simp_all <;> omega
set_option maxRecDepth 20000 in
theorem rNan (n : Int) (w : World) : FnV Try.prog 16 [.int .i64 n] (.bool (decide (isN (ub n)))) w := by
  have hu := ub_lt n
  have hI := @isN_bits n
  have hC := ub_cast n
  refine fn_enter Try.func16 rfl Try.ntmps16 rfl ?_
  refine vc_seq ?_
  refine vc_region ?_
  refine vl_val rfl (.some rfl) (val_assign rfl) ?_
  refine vl_nil ?_
  refine vc_seq ?_
  refine vc_region ?_
  refine vl_val rfl (.some rfl) (val_move rfl) ?_
  refine vl_val rfl (.some rfl) (val_convInt Try.runUnderlying3 Try.runUnderlying24 rfl (ub_cast n)) ?_
  refine vl_val rfl (.some rfl) (val_and rfl rfl (and_exp (by omega) (by omega))) ?_
  refine vl_val rfl (.some rfl) (val_eq rfl rfl) ?_
  refine vl_val rfl (.some rfl) (val_move rfl) ?_
  refine vl_split (t := 7) rfl (fun hg7 => ?_) (fun hg7 => ?_)
  · (try replace hg7 := of_decide_eq_true hg7)
    refine vl_on rfl rfl rfl rfl ?_
    refine vl_val rfl (.some rfl) (val_move rfl) ?_
    refine vl_on rfl rfl rfl rfl ?_
    refine vl_val rfl (.some rfl) (val_convInt Try.runUnderlying3 Try.runUnderlying24 rfl (ub_cast n)) ?_
    refine vl_on rfl rfl rfl rfl ?_
    refine vl_val rfl (.some rfl) (val_and rfl rfl (and_mask 52 4503599627370496 rfl (by decide) rfl rfl (by omega) (by simp [IntKind.bits]; omega))) ?_
    refine vl_on rfl rfl rfl rfl ?_
    refine vl_val rfl (.some rfl) (val_ne rfl rfl) ?_
    refine vl_val rfl (.some rfl) (val_pick rfl rfl) ?_
    refine vl_val rfl (.some rfl) (val_assign rfl) ?_
    refine vl_nil ?_
    refine vc_ret ?_
    refine ⟨_, [], _, res1 Try.results16 rfl, .nil, ?_⟩
    show _ = _
    first | exact congrArg Value.bool (decide_eq_decide.2 ⟨fun h => hI.1 ⟨hg7, h⟩, fun h => (hI.2 h).2⟩) | (congr 1; symm; exact decide_eq_false (fun h => hg7 (hI.2 h).1))
  · (try replace hg7 := of_decide_eq_false hg7)
    refine vl_off rfl rfl rfl rfl (.some rfl) ?_
    refine vl_off rfl rfl rfl rfl (.some rfl) ?_
    refine vl_off rfl rfl rfl rfl (.some rfl) ?_
    refine vl_off rfl rfl rfl rfl (.some rfl) ?_
    refine vl_val rfl (.some rfl) (val_pick rfl rfl) ?_
    refine vl_val rfl (.some rfl) (val_assign rfl) ?_
    refine vl_nil ?_
    refine vc_ret ?_
    refine ⟨_, [], _, res1 Try.results16 rfl, .nil, ?_⟩
    show _ = _
    first | exact congrArg Value.bool (decide_eq_decide.2 ⟨fun h => hI.1 ⟨hg7, h⟩, fun h => (hI.2 h).2⟩) | (congr 1; symm; exact decide_eq_false (fun h => hg7 (hI.2 h).1))
set_option maxRecDepth 20000 in
theorem rCanon (n : Int) (h1 : -9223372036854775808 ≤ n) (h2 : n < 9223372036854775808) (w : World) : FnV Try.prog 12 [.int .i64 n] (.int .i64 (canS n)) w := by
  refine fn_enter Try.func12 rfl Try.ntmps12 rfl ?_
  refine vc_seq ?_
  refine vc_region ?_
  refine vl_val rfl (.some rfl) (val_assign rfl) ?_
  refine vl_nil ?_
  refine vc_seq ?_
  refine vc_seq ?_
  refine vc_region ?_
  refine vl_val rfl (.some rfl) (val_move rfl) ?_
  refine vl_callV rfl rfl (.some rfl) Try.call16 rfl (fun w hw => rNan _ w) ?_
  refine vl_nil ?_
  refine vc_cond rfl (fun hc0 => ?_) (fun hc0 => ?_)
  · (try replace hc0 := of_decide_eq_true hc0)
    refine vc_seq ?_
    refine vc_region ?_
    refine vl_val rfl (.some rfl) (val_assign rfl) ?_
    refine vl_nil ?_
    refine vc_ret ?_
    refine ⟨_, [], _, res1 Try.results12 rfl, .nil, ?_⟩
    show _ = _; simp [canS, hc0]
  · (try replace hc0 := of_decide_eq_false hc0)
    refine vc_skip ?_
    refine vc_seq ?_
    refine vc_seq ?_
    refine vc_region ?_
    refine vl_val rfl (.some rfl) (val_move rfl) ?_
    refine vl_val rfl (.some rfl) (val_convInt Try.runUnderlying3 Try.runUnderlying24 rfl (ub_cast n)) ?_
    refine vl_val rfl (.some rfl) (val_eq rfl rfl) ?_
    refine vl_nil ?_
    refine vc_cond rfl (fun hc1 => ?_) (fun hc1 => ?_)
    · (try replace hc1 := of_decide_eq_true hc1)
      refine vc_seq ?_
      refine vc_region ?_
      refine vl_val rfl (.some rfl) (val_assign rfl) ?_
      refine vl_nil ?_
      refine vc_ret ?_
      refine ⟨_, [], _, res1 Try.results12 rfl, .nil, ?_⟩
      show _ = _; have h0 : rg (ub n) = 0 := by unfold rg; omega
      simp [canS, hc0, h0]
    · (try replace hc1 := of_decide_eq_false hc1)
      refine vc_skip ?_
      refine vc_seq ?_
      refine vc_region ?_
      refine vl_val rfl (.some rfl) (val_move rfl) ?_
      refine vl_val rfl (.some rfl) (val_assign rfl) ?_
      refine vl_nil ?_
      refine vc_ret ?_
      refine ⟨_, [], _, res1 Try.results12 rfl, .nil, ?_⟩
      show _ = _; have hs := ub_is n
      by_cases h0 : rg (ub n) = 0
      · have : n = 0 := by have := ub_lt n; unfold rg at h0; omega
        subst this; simp [canS, hc0]
      · simp [canS, hc0, h0]
set_option maxRecDepth 20000 in
theorem rGood (n : Int) (h1 : -9223372036854775808 ≤ n) (h2 : n < 9223372036854775808) (w : World) : FnV Try.prog 14 [.int .i64 n] (.bool (decide (canS n = n))) w := by
  refine fn_enter Try.func14 rfl Try.ntmps14 rfl ?_
  refine vc_seq ?_
  refine vc_region ?_
  refine vl_val rfl (.some rfl) (val_assign rfl) ?_
  refine vl_nil ?_
  refine vc_seq ?_
  refine vc_region ?_
  refine vl_val rfl (.some rfl) (val_move rfl) ?_
  refine vl_callV rfl rfl (.some rfl) Try.call12 rfl (fun w hw => rCanon _ (by omega) (by omega) w) ?_
  refine vl_val rfl (.some rfl) (val_move rfl) ?_
  refine vl_val rfl (.some rfl) (val_eq rfl rfl) ?_
  refine vl_val rfl (.some rfl) (val_assign rfl) ?_
  refine vl_nil ?_
  refine vc_ret ?_
  refine ⟨_, [], _, res1 Try.results14 rfl, .nil, ?_⟩
  rfl
set_option maxRecDepth 20000 in
theorem rKey (n : Int) (h1 : -9223372036854775808 ≤ n) (h2 : n < 9223372036854775808) (w : World) : FnV Try.prog 18 [.int .i64 n] (.int .u64 (keyS (ub n) : Nat)) w := by
  have hu := ub_lt n
  have hc := ub_can n
  have hlt := ub_lt (canS n)
  refine fn_enter Try.func18 rfl Try.ntmps18 rfl ?_
  refine vc_seq ?_
  refine vc_region ?_
  refine vl_val rfl (.some rfl) (val_assign rfl) ?_
  refine vl_nil ?_
  refine vc_seq ?_
  refine vc_region ?_
  refine vl_val rfl (.some rfl) (val_move rfl) ?_
  refine vl_callV rfl rfl (.some rfl) Try.call12 rfl (fun w hw => rCanon _ (by omega) (by omega) w) ?_
  refine vl_val rfl (.some rfl) (val_convInt Try.runUnderlying3 Try.runUnderlying24 rfl (ub_cast _)) ?_
  refine vl_val rfl (.some rfl) (val_assign rfl) ?_
  refine vl_nil ?_
  refine vc_seq ?_
  refine vc_block ?_
  refine vc_seq ?_
  refine vc_region ?_
  refine vl_val rfl (.some rfl) (val_move rfl) ?_
  refine vl_callV rfl rfl (.some rfl) Try.call16 rfl (fun w hw => rNan _ w) ?_
  refine vl_val rfl (.some rfl) (val_assign rfl) ?_
  refine vl_nil ?_
  refine vc_cond rfl (fun hc0 => ?_) (fun hc0 => ?_)
  · (try replace hc0 := of_decide_eq_true hc0)
    refine vc_seq ?_
    refine vc_region ?_
    refine vl_val rfl (.some rfl) (val_assign rfl) ?_
    refine vl_nil ?_
    refine vc_ret ?_
    refine ⟨_, [], _, res1 Try.results18 rfl, .nil, ?_⟩
    show _ = _; simp [keyS, hc0]
  · (try replace hc0 := of_decide_eq_false hc0)
    refine vc_seq ?_
    refine vc_region ?_
    refine vl_val rfl (.some rfl) (val_move rfl) ?_
    refine vl_val rfl (.some rfl) (val_ge rfl rfl) ?_
    refine vl_val rfl (.some rfl) (val_assign rfl) ?_
    refine vl_nil ?_
    refine vc_cond rfl (fun hc1 => ?_) (fun hc1 => ?_)
    · (try replace hc1 := of_decide_eq_true hc1)
      refine vc_seq ?_
      refine vc_region ?_
      refine vl_val rfl (.some rfl) (val_move rfl) ?_
      refine vl_val rfl (.some rfl) (val_com rfl (com_u64 (by omega) (by omega))) ?_
      refine vl_val rfl (.some rfl) (val_assign rfl) ?_
      refine vl_nil ?_
      refine vc_ret ?_
      refine ⟨_, [], _, res1 Try.results18 rfl, .nil, ?_⟩
      show _ = _; rw [if_neg hc0] at hc
      by_cases hr : rg (ub n) = 0
      · rw [if_pos hr] at hc; omega
      · rw [if_neg hr] at hc
        have hsg : sg (ub n) = true := by
          rcases split_sg hu with ⟨s, e'⟩ | ⟨s, e'⟩
          · exact s
          · have : rg (ub n) < 9223372036854775808 := by unfold rg; omega
            omega
        congr 1
        unfold keyS
        rw [if_neg hc0, if_neg hr, if_pos hsg, hc]
        omega
    · (try replace hc1 := of_decide_eq_false hc1)
      refine vc_skip ?_
      refine vc_seq ?_
      refine vc_region ?_
      refine vl_val rfl (.some rfl) (val_move rfl) ?_
      refine vl_val rfl (.some rfl) (val_add rfl rfl (by first | exact w_u64 (by omega) (by omega) | rfl)) ?_
      refine vl_val rfl (.some rfl) (val_assign rfl) ?_
      refine vl_nil ?_
      refine vc_ret ?_
      refine ⟨_, [], _, res1 Try.results18 rfl, .nil, ?_⟩
      show _ = _; rw [if_neg hc0] at hc
      by_cases hr : rg (ub n) = 0
      · rw [if_pos hr] at hc; simp [keyS, hc0, hr, hc]
      · rw [if_neg hr] at hc
        have hsg : sg (ub n) = false := by
          rcases split_sg hu with ⟨s, e'⟩ | ⟨s, e'⟩
          · omega
          · exact s
        congr 1
        unfold keyS
        rw [if_neg hc0, if_neg hr, if_neg (by simp [hsg]), hc]
        omega
set_option maxRecDepth 20000 in
theorem rCmp (a b : Int) (h1 : -9223372036854775808 ≤ a) (h2 : a < 9223372036854775808) (h3 : -9223372036854775808 ≤ b) (h4 : b < 9223372036854775808) (w : World) : FnV Try.prog 19 [.int .i64 a, .int .i64 b] (.int .i64 (cmpS (ub a) (ub b))) w := by
  have hK := key_cmp (ub_lt a) (ub_lt b)
  refine fn_enter Try.func19 rfl Try.ntmps19 rfl ?_
  refine vc_seq ?_
  refine vc_region ?_
  refine vl_val rfl (.some rfl) (val_assign rfl) ?_
  refine vl_nil ?_
  refine vc_seq ?_
  refine vc_region ?_
  refine vl_val rfl (.some rfl) (val_move rfl) ?_
  refine vl_callV rfl rfl (.some rfl) Try.call18 rfl (fun w hw => rKey _ (by omega) (by omega) w) ?_
  refine vl_val rfl (.some rfl) (val_move rfl) ?_
  refine vl_callV rfl rfl (.some rfl) Try.call18 rfl (fun w hw => rKey _ (by omega) (by omega) w) ?_
  refine vl_val rfl (.some rfl) (val_assign rfl) ?_
  refine vl_val rfl (.some rfl) (val_assign rfl) ?_
  refine vl_nil ?_
  refine vc_seq ?_
  refine vc_block ?_
  refine vc_seq ?_
  refine vc_region ?_
  refine vl_val rfl (.some rfl) (val_move rfl) ?_
  refine vl_val rfl (.some rfl) (val_move rfl) ?_
  refine vl_val rfl (.some rfl) (val_lt rfl rfl) ?_
  refine vl_val rfl (.some rfl) (val_assign rfl) ?_
  refine vl_nil ?_
  refine vc_cond rfl (fun hc0 => ?_) (fun hc0 => ?_)
  · (try replace hc0 := of_decide_eq_true hc0)
    refine vc_seq ?_
    refine vc_region ?_
    refine vl_val rfl (.some rfl) (val_assign rfl) ?_
    refine vl_nil ?_
    refine vc_ret ?_
    refine ⟨_, [], _, res1 Try.results19 rfl, .nil, ?_⟩
    show _ = _; rw [hK]; (first | rw [if_pos (by omega)] | rw [if_neg (by omega), if_pos (by omega)] | rw [if_neg (by omega), if_neg (by omega)])
  · (try replace hc0 := of_decide_eq_false hc0)
    refine vc_seq ?_
    refine vc_region ?_
    refine vl_val rfl (.some rfl) (val_move rfl) ?_
    refine vl_val rfl (.some rfl) (val_move rfl) ?_
    refine vl_val rfl (.some rfl) (val_gt rfl rfl) ?_
    refine vl_val rfl (.some rfl) (val_assign rfl) ?_
    refine vl_nil ?_
    refine vc_cond rfl (fun hc1 => ?_) (fun hc1 => ?_)
    · (try replace hc1 := of_decide_eq_true hc1)
      refine vc_seq ?_
      refine vc_region ?_
      refine vl_val rfl (.some rfl) (val_assign rfl) ?_
      refine vl_nil ?_
      refine vc_ret ?_
      refine ⟨_, [], _, res1 Try.results19 rfl, .nil, ?_⟩
      show _ = _; rw [hK]; (first | rw [if_pos (by omega)] | rw [if_neg (by omega), if_pos (by omega)] | rw [if_neg (by omega), if_neg (by omega)])
    · (try replace hc1 := of_decide_eq_false hc1)
      refine vc_skip ?_
      refine vc_seq ?_
      refine vc_region ?_
      refine vl_val rfl (.some rfl) (val_assign rfl) ?_
      refine vl_nil ?_
      refine vc_ret ?_
      refine ⟨_, [], _, res1 Try.results19 rfl, .nil, ?_⟩
      show _ = _; rw [hK]; (first | rw [if_pos (by omega)] | rw [if_neg (by omega), if_pos (by omega)] | rw [if_neg (by omega), if_neg (by omega)])
set_option maxRecDepth 20000 in
theorem isInf (x : Nat) (hx : x < 18446744073709551616) (s : Int) (hs : s = 1 ∨ s = -1) (w : World) : FnV Try.prog 32 [.float .f64 x, .int .i64 s] (.bool (decide (x = if s = 1 then 9218868437227405312 else 18442240474082181120))) w := by
  refine fn_enter Try.func32 rfl Try.ntmps32 rfl ?_
  refine vc_seq ?_
  refine vc_region ?_
  refine vl_val rfl (.some rfl) (val_assign rfl) ?_
  refine vl_nil ?_
  refine vc_seq ?_
  refine vc_seq ?_
  refine vc_region ?_
  refine vl_val rfl (.some rfl) (val_move rfl) ?_
  refine vl_val rfl (.some rfl) (val_eq rfl rfl) ?_
  refine vl_nil ?_
  refine vc_cond rfl (fun hc0 => False.elim (by (try replace hc0 := of_decide_eq_true hc0); omega)) (fun hc0 => ?_)
  (try replace hc0 := of_decide_eq_false hc0)
  refine vc_seq ?_
  refine vc_region ?_
  refine vl_val rfl (.some rfl) (val_move rfl) ?_
  refine vl_val rfl (.some rfl) (val_lt rfl rfl) ?_
  refine vl_nil ?_
  refine vc_cond rfl (fun hc1 => ?_) (fun hc1 => ?_)
  · (try replace hc1 := of_decide_eq_true hc1)
    refine vc_region ?_
    refine vl_val rfl (.some rfl) (val_move rfl) ?_
    refine vl_val rfl (.some rfl) (val_fneg rfl) ?_
    refine vl_val rfl (.some rfl) (val_assign rfl) ?_
    refine vl_nil ?_
    refine vc_seq ?_
    refine vc_region ?_
    refine vl_val rfl (.some rfl) (val_move rfl) ?_
    refine vl_val rfl (.some rfl) (val_fgt rfl rfl) ?_
    refine vl_val rfl (.some rfl) (val_assign rfl) ?_
    refine vl_nil ?_
    refine vc_ret ?_
    refine ⟨_, [], _, res1 Try.results32 rfl, .nil, ?_⟩
    show _ = _; first | (rw [if_neg (by omega), inf_neg hx]; done) | (rw [if_pos (by omega), inf_pos hx]; done)
  · (try replace hc1 := of_decide_eq_false hc1)
    refine vc_skip ?_
    refine vc_seq ?_
    refine vc_region ?_
    refine vl_val rfl (.some rfl) (val_move rfl) ?_
    refine vl_val rfl (.some rfl) (val_fgt rfl rfl) ?_
    refine vl_val rfl (.some rfl) (val_assign rfl) ?_
    refine vl_nil ?_
    refine vc_ret ?_
    refine ⟨_, [], _, res1 Try.results32 rfl, .nil, ?_⟩
    show _ = _; first | (rw [if_neg (by omega), inf_neg hx]; done) | (rw [if_pos (by omega), inf_pos hx]; done)
set_option maxRecDepth 20000 in
theorem rdigit (n : Int) (h0 : 0 ≤ n) (hn : n < 16) (w : World) : FnV Try.prog 33 [.int .u64 n] (.int .u8 (hexd n.toNat).toNat) w := by
  refine fn_enter Try.func33 rfl Try.ntmps33 rfl ?_
  refine vc_seq ?_
  refine vc_region ?_
  refine vl_val rfl (.some rfl) (val_assign rfl) ?_
  refine vl_nil ?_
  refine vc_seq ?_
  refine vc_seq ?_
  refine vc_region ?_
  refine vl_val rfl (.some rfl) (val_move rfl) ?_
  refine vl_val rfl (.some rfl) (val_lt rfl rfl) ?_
  refine vl_nil ?_
  refine vc_cond rfl (fun hc0 => ?_) (fun hc0 => ?_)
  · (try replace hc0 := of_decide_eq_true hc0)
    refine vc_seq ?_
    refine vc_region ?_
    refine vl_val rfl (.some rfl) (val_move rfl) ?_
    refine vl_val rfl (.some rfl) (val_add rfl rfl (by first | exact w_u64 (by omega) (by omega) | rfl)) ?_
    refine vl_val rfl (.some rfl) (val_convInt Try.runUnderlying24 Try.runUnderlying5 rfl (by first | exact w_u8 (by omega) (by omega) | rfl)) ?_
    refine vl_val rfl (.some rfl) (val_assign rfl) ?_
    refine vl_nil ?_
    refine vc_ret ?_
    refine ⟨_, [], _, res1 Try.results33 rfl, .nil, ?_⟩
    show _ = _; congr 1; rw [hexd_toNat (by omega)]; split <;> omega
  · (try replace hc0 := of_decide_eq_false hc0)
    refine vc_skip ?_
    refine vc_seq ?_
    refine vc_region ?_
    refine vl_val rfl (.some rfl) (val_move rfl) ?_
    refine vl_val rfl (.some rfl) (val_add rfl rfl (by first | exact w_u64 (by omega) (by omega) | rfl)) ?_
    refine vl_val rfl (.some rfl) (val_sub rfl rfl (by first | exact w_u64 (by omega) (by omega) | rfl)) ?_
    refine vl_val rfl (.some rfl) (val_convInt Try.runUnderlying24 Try.runUnderlying5 rfl (by first | exact w_u8 (by omega) (by omega) | rfl)) ?_
    refine vl_val rfl (.some rfl) (val_assign rfl) ?_
    refine vl_nil ?_
    refine vc_ret ?_
    refine ⟨_, [], _, res1 Try.results33 rfl, .nil, ?_⟩
    show _ = _; congr 1; rw [hexd_toNat (by omega)]; split <;> omega
set_option maxRecDepth 20000 in
set_option maxHeartbeats 1000000 in
theorem oPrint (n : Int) (w : World) : FnV Try.prog 20 [.int .i64 n] (.string (printS n)) w := by
  refine fn_enter Try.func20 rfl Try.ntmps20 rfl ?_
  refine vc_seq ?_
  refine vc_region ?_
  refine vl_val rfl (.some rfl) (val_assign rfl) ?_
  refine vl_nil ?_
  refine vc_seq ?_
  refine vc_region ?_
  refine vl_val rfl (.some rfl) (val_move rfl) ?_
  refine vl_callV rfl rfl (.some rfl) Try.call30 rfl (fun w hw => ofloat _ w) ?_
  refine vl_val rfl (.some rfl) (val_assign rfl) ?_
  refine vl_nil ?_
  refine vc_seq ?_
  refine vc_block ?_
  refine vc_seq ?_
  refine vc_region ?_
  refine vl_val rfl (.some rfl) (val_move rfl) ?_
  refine vl_val rfl (.some rfl) (val_move rfl) ?_
  refine vl_val rfl (.some rfl) (val_fne rfl rfl) ?_
  refine vl_val rfl (.some rfl) (val_assign rfl) ?_
  refine vl_nil ?_
  refine vc_cond rfl (fun hc0 => ?_) (fun hc0 => ?_)
  · (try replace hc0 := of_decide_eq_true hc0)
    rw [self_is] at hc0; replace hc0 := of_decide_eq_true hc0
    refine vc_seq ?_
    refine vc_region ?_
    refine vl_val rfl (.some rfl) (val_assign rfl) ?_
    refine vl_nil ?_
    refine vc_ret ?_
    refine ⟨_, [], _, res1 Try.results20 rfl, .nil, ?_⟩
    show _ = _; simp [printS, hc0]
  · (try replace hc0 := of_decide_eq_false hc0)
    rw [self_is] at hc0; replace hc0 := of_decide_eq_false hc0
    refine vc_seq ?_
    refine vc_region ?_
    refine vl_val rfl (.some rfl) (val_move rfl) ?_
    refine vl_callV rfl rfl (.some rfl) Try.call32 rfl (fun w hw => isInf _ (ub_lt _) _ (by decide) w) ?_
    refine vl_val rfl (.some rfl) (val_assign rfl) ?_
    refine vl_nil ?_
    refine vc_cond rfl (fun hc1 => ?_) (fun hc1 => ?_)
    · (try replace hc1 := of_decide_eq_true hc1)
      refine vc_seq ?_
      refine vc_region ?_
      refine vl_val rfl (.some rfl) (val_assign rfl) ?_
      refine vl_nil ?_
      refine vc_ret ?_
      refine ⟨_, [], _, res1 Try.results20 rfl, .nil, ?_⟩
      show _ = _; simp [printS, hc0, hc1]; decide
    · (try replace hc1 := of_decide_eq_false hc1)
      refine vc_seq ?_
      refine vc_region ?_
      refine vl_val rfl (.some rfl) (val_move rfl) ?_
      refine vl_callV rfl rfl (.some rfl) Try.call32 rfl (fun w hw => isInf _ (ub_lt _) _ (by decide) w) ?_
      refine vl_val rfl (.some rfl) (val_assign rfl) ?_
      refine vl_nil ?_
      refine vc_cond rfl (fun hc2 => ?_) (fun hc2 => ?_)
      · (try replace hc2 := of_decide_eq_true hc2)
        refine vc_seq ?_
        refine vc_region ?_
        refine vl_val rfl (.some rfl) (val_assign rfl) ?_
        refine vl_nil ?_
        refine vc_ret ?_
        refine ⟨_, [], _, res1 Try.results20 rfl, .nil, ?_⟩
        show _ = _; simp [printS, hc0, hc1, hc2]; decide
      · (try replace hc2 := of_decide_eq_false hc2)
        refine vc_skip ?_
        refine vc_seq ?_
        refine vc_region ?_
        refine vl_val rfl (.some rfl) (val_move rfl) ?_
        refine vl_callV rfl rfl (.some rfl) Try.call11 rfl (fun w hw => oCanon _ w) ?_
        refine vl_val rfl (.some rfl) (val_convInt Try.runUnderlying3 Try.runUnderlying24 rfl (ub_cast _)) ?_
        refine vl_val rfl (.some rfl) (val_assign rfl) ?_
        refine vl_nil ?_
        refine vc_seq ?_
        refine vc_region ?_
        refine vl_makeSlice sT39 rfl rfl (.some rfl) rfl rfl (by decide) (by decide) (by decide) (made_u8 _) (fun r22 => ?_)
        refine vl_val rfl (.some rfl) (val_assign rfl) ?_
        refine vl_nil ?_
        refine vc_seq ?_
        refine vc_seq ?_
        refine vc_region ?_
        refine vl_val rfl (.some rfl) (val_move rfl) ?_
        refine vl_val rfl (.some rfl) (val_lenSl Try.runUnderlying39 rfl) ?_
        refine vl_val rfl (.some rfl) (val_move rfl) ?_
        refine vl_nil ?_
        refine vc_block ?_
        rw [show bcells (List.replicate (Int.toNat 16) 0) = bcells (pad (ub (canS n)) 0) from rfl]
        refine vc_loopw (fun k E H => ∃ i : Nat, i ≤ 16 ∧ k = 16 - i ∧ E = [(4, .int .u64 ((ub (canS n) / 16 ^ i : Nat) : Int)), (5, .slice (some ⟨r22, 0, none⟩) 16 16), (24, .int .i64 16), (25, .int .i64 i)] ∧ H = [sl (some ⟨r22, 0, none⟩) 16 16 5 1 (bcells (pad (ub (canS n)) i))]) (16) ⟨_, _, _, ⟨0, by omega, rfl, rfl, rfl⟩, (by repeat (first | exact trivial | refine ⟨rfl, ?_⟩ | refine ⟨le_item rfl (by first | rfl | (congr 1; omega) | (simp; done) | (simp; omega)), ?_⟩)), (by repeat (first | exact .nil | (apply Sub.cons; · repeat (first | exact .head | apply Take.tail))))⟩ ?_
        intro k E H hI
        obtain ⟨i, hi, rfl, rfl, rfl⟩ := hI
        refine vc_seq ?_
        refine vc_region ?_
        refine vl_val rfl (.some rfl) (val_lt rfl rfl) ?_
        refine vl_nil ?_
        refine vc_seq ?_
        refine vc_cond rfl (fun hc3 => ?_) (fun hc3 => ?_)
        · (try replace hc3 := of_decide_eq_true hc3)
          refine vc_skip ?_
          refine vc_seq ?_
          refine vc_block ?_
          refine vc_seq ?_
          refine vc_region ?_
          refine vl_val rfl (.some rfl) (val_move rfl) ?_
          refine vl_val rfl (.some rfl) (val_assign rfl) ?_
          refine vl_nil ?_
          refine vc_seq ?_
          refine vc_region ?_
          refine vl_val rfl (.some rfl) (val_move rfl) ?_
          refine vl_val rfl (.some rfl) (val_move rfl) ?_
          refine vl_val rfl (.some rfl) (val_sub rfl rfl (by first | exact w_i64 (by omega) (by omega) | rfl)) ?_
          refine vl_val rfl (.some rfl) (val_move rfl) ?_
          refine vl_val rfl (.some rfl) (val_and rfl rfl (mask16 (Nat.lt_of_le_of_lt (Nat.div_le_self _ _) (ub_lt _)))) ?_
          refine vl_val rfl (.some rfl) (val_indexStr Try.runUnderlying9 rfl rfl (by omega) (by show _ < (16 : Int); omega)) ?_
          refine vl_val rfl (.some rfl) (val_indexAddr Try.runUnderlying39 Try.sizeOf5 rfl rfl (rd_sl (by repeat (first | exact .head | apply In.tail | apply Take.tail | apply Upd.tail))) (by omega) (by omega) (by rw [bcells_length, pad_length (by omega)]; omega)) ?_
          refine vl_storeSl rfl rfl .none rfl rfl Try.sizeOf5 rfl (by simp [Value.cells]) (by repeat (first | exact .head | apply In.tail | apply Take.tail | apply Upd.tail)) (by rw [bcells_length, pad_length (by omega)]; simp only [Value.cells, List.length_cons, List.length_nil]; omega) ?_
          rw [pad_step (by omega)]
          refine vl_nil ?_
          refine vc_region ?_
          refine vl_val rfl (.some rfl) (val_move rfl) ?_
          refine vl_val rfl (.some rfl) (val_shr rfl rfl (by decide) (shr16 _ _)) ?_
          refine vl_val rfl (.some rfl) (val_assign rfl) ?_
          refine vl_nil ?_
          refine vc_region ?_
          refine vl_val rfl (.some rfl) (val_add rfl rfl (by first | exact w_i64 (by omega) (by omega) | rfl)) ?_
          refine vl_val rfl (.some rfl) (val_move rfl) ?_
          refine vl_nil ?_
          exact ⟨16 - (i + 1), _, _, _, by omega, (by repeat (first | exact trivial | refine ⟨rfl, ?_⟩ | refine ⟨le_item rfl (by first | rfl | (congr 1; omega) | (simp; done) | (simp; omega)), ?_⟩)), (by repeat (first | exact .nil | (apply Sub.cons; · repeat (first | exact .head | apply Take.tail)))), ⟨i + 1, by omega, rfl, rfl, rfl⟩⟩
        · (try replace hc3 := of_decide_eq_false hc3)
          refine vc_exit ?_
          refine vc_seq ?_
          refine vc_region ?_
          refine vl_val rfl (.some rfl) (val_move rfl) ?_
          refine vl_val rfl (.some rfl) (val_bytesToStr Try.runUnderlying39 Try.runUnderlying5 Try.runUnderlying9 rfl (rd_sl (by repeat (first | exact .head | apply In.tail | apply Take.tail | apply Upd.tail))) (pad_length (by omega))) ?_
          refine vl_val rfl (.some rfl) (val_cat rfl rfl (by show 2 + (pad _ _).toArray.size < _; rw [List.size_toArray, pad_length (by omega)]; decide)) ?_
          refine vl_val rfl (.some rfl) (val_assign rfl) ?_
          refine vl_nil ?_
          refine vc_ret ?_
          refine ⟨_, [], _, res1 Try.results20 rfl, .nil, ?_⟩
          show _ = _
          obtain rfl : i = 16 := by omega
          have := bytes_cat [48, 102] (pad (ub (canS n)) 16)
          rw [show (⟨#[48, 102]⟩ : ByteArray) = ⟨[48, 102].toArray⟩ from rfl, this, pad_16]
          simp at hc1 hc2
          simp [printS, hc0, hc1, hc2]
set_option maxRecDepth 20000 in
set_option maxHeartbeats 1000000 in
theorem rPrint (n : Int) (h1 : -9223372036854775808 ≤ n) (h2 : n < 9223372036854775808) (w : World) : FnV Try.prog 21 [.int .i64 n] (.string (printS n)) w := by
  have hU := ub_lt (canS n)
  have hP := print_can n
  refine fn_enter Try.func21 rfl Try.ntmps21 rfl ?_
  refine vc_seq ?_
  refine vc_region ?_
  refine vl_val rfl (.some rfl) (val_assign rfl) ?_
  refine vl_nil ?_
  refine vc_seq ?_
  refine vc_region ?_
  refine vl_val rfl (.some rfl) (val_move rfl) ?_
  refine vl_callV rfl rfl (.some rfl) Try.call12 rfl (fun w hw => rCanon _ (by omega) (by omega) w) ?_
  refine vl_val rfl (.some rfl) (val_convInt Try.runUnderlying3 Try.runUnderlying24 rfl (ub_cast _)) ?_
  refine vl_val rfl (.some rfl) (val_assign rfl) ?_
  refine vl_nil ?_
  refine vc_seq ?_
  refine vc_seq ?_
  refine vc_region ?_
  refine vl_val rfl (.some rfl) (val_move rfl) ?_
  refine vl_nil ?_
  refine vc_block ?_
  refine vc_seq ?_
  refine vc_region ?_
  refine vl_val rfl (.some rfl) (val_eq rfl rfl) ?_
  refine vl_val rfl (.some rfl) (val_assign rfl) ?_
  refine vl_nil ?_
  refine vc_cond rfl (fun hc0 => ?_) (fun hc0 => ?_)
  · (try replace hc0 := of_decide_eq_true hc0)
    refine vc_seq ?_
    refine vc_region ?_
    refine vl_val rfl (.some rfl) (val_assign rfl) ?_
    refine vl_nil ?_
    refine vc_ret ?_
    refine ⟨_, [], _, res1 Try.results21 rfl, .nil, ?_⟩
    show _ = _; rw [hP, if_pos (by omega)]
  · (try replace hc0 := of_decide_eq_false hc0)
    refine vc_seq ?_
    refine vc_region ?_
    refine vl_val rfl (.some rfl) (val_eq rfl rfl) ?_
    refine vl_val rfl (.some rfl) (val_assign rfl) ?_
    refine vl_nil ?_
    refine vc_cond rfl (fun hc1 => ?_) (fun hc1 => ?_)
    · (try replace hc1 := of_decide_eq_true hc1)
      refine vc_seq ?_
      refine vc_region ?_
      refine vl_val rfl (.some rfl) (val_assign rfl) ?_
      refine vl_nil ?_
      refine vc_ret ?_
      refine ⟨_, [], _, res1 Try.results21 rfl, .nil, ?_⟩
      show _ = _; rw [hP, if_neg (by omega), if_pos (by omega)]
    · (try replace hc1 := of_decide_eq_false hc1)
      refine vc_seq ?_
      refine vc_region ?_
      refine vl_val rfl (.some rfl) (val_eq rfl rfl) ?_
      refine vl_val rfl (.some rfl) (val_assign rfl) ?_
      refine vl_nil ?_
      refine vc_cond rfl (fun hc2 => ?_) (fun hc2 => ?_)
      · (try replace hc2 := of_decide_eq_true hc2)
        refine vc_seq ?_
        refine vc_region ?_
        refine vl_val rfl (.some rfl) (val_assign rfl) ?_
        refine vl_nil ?_
        refine vc_ret ?_
        refine ⟨_, [], _, res1 Try.results21 rfl, .nil, ?_⟩
        show _ = _; rw [hP, if_neg (by omega), if_neg (by omega), if_pos (by omega)]
      · (try replace hc2 := of_decide_eq_false hc2)
        refine vc_skip ?_
        refine vc_seq ?_
        refine vc_region ?_
        refine vl_lit sT39 rfl rfl (.some rfl) rfl rfl rfl (by decide) (by decide) rfl (flat_one rfl) (fun r16 => ?_)
        refine vl_mark rfl rfl (.some rfl) Try.runUnderlying39 Try.runUnderlying5 rfl (by repeat (first | exact .head | apply In.tail | apply Take.tail | apply Upd.tail)) ?_
        refine vl_val rfl (.some rfl) (val_assign rfl) ?_
        refine vl_nil ?_
        refine vc_seq ?_
        refine vc_seq ?_
        refine vc_region ?_
        refine vl_val rfl (.some rfl) (val_assign rfl) ?_
        refine vl_nil ?_
        refine vc_block ?_
        rw [show ([Value.int .u8 48, Value.int .u8 102] : List Value) = bcells (48 :: 102 :: firstd (ub (canS n)) 0) from rfl]
        refine vc_loopw (fun k E H => ∃ (j : Nat) (A : Option Addr) (c : Nat), j ≤ 16 ∧ k = 16 - j ∧ E = [(3, .int .u64 ((ub (canS n) : Nat) : Int)), (4, .slice A (j + 2) c), (5, .int .i64 (60 - 4 * (j : Int)))] ∧ H = [slq A (j + 2) c 5 (bcells (48 :: 102 :: firstd (ub (canS n)) j))]) (16) ⟨_, _, _, ⟨0, _, _, by omega, rfl, rfl, rfl⟩, (by repeat (first | exact trivial | refine ⟨rfl, ?_⟩ | refine ⟨le_item rfl (by first | rfl | (congr 1; omega) | (simp; done) | (simp; omega)), ?_⟩)), (by repeat (first | exact .nil | (apply Sub.cons; · repeat (first | exact .head | apply Take.tail))))⟩ ?_
        intro k E H hI
        obtain ⟨j, A, c, hi, rfl, rfl, rfl⟩ := hI
        refine vc_seq ?_
        refine vc_seq ?_
        refine vc_region ?_
        refine vl_val rfl (.some rfl) (val_move rfl) ?_
        refine vl_val rfl (.some rfl) (val_ge rfl rfl) ?_
        refine vl_nil ?_
        refine vc_cond rfl (fun hc3 => ?_) (fun hc3 => ?_)
        · (try replace hc3 := of_decide_eq_true hc3)
          refine vc_skip ?_
          refine vc_seq ?_
          refine vc_block ?_
          refine vc_region ?_
          refine vl_val rfl (.some rfl) (val_move rfl) ?_
          refine vl_val rfl (.some rfl) (val_move rfl) ?_
          refine vl_val rfl (.some rfl) (val_move rfl) ?_
          refine vl_val rfl (.some rfl) (val_convInt Try.runUnderlying3 Try.runUnderlying40 rfl (by first | exact w_u64 (by omega) (by omega) | rfl)) ?_
          refine vl_val rfl (.some rfl) (val_shr rfl rfl (by omega) (shr_pow (by omega))) ?_
          refine vl_val rfl (.some rfl) (val_and rfl rfl (mask16 (Nat.lt_of_le_of_lt (Nat.div_le_self _ _) (ub_lt _)))) ?_
          refine vl_callV rfl rfl (.some rfl) Try.call33 rfl (fun w hw => rdigit _ (by omega) (by omega) w) ?_
          refine vl_lit sT39 rfl rfl (.some rfl) rfl rfl rfl (by decide) (by decide) rfl (flat_one rfl) (fun r29 => ?_)
          refine vl_appendq sT39 rfl rfl (.some rfl) rfl rfl (rd_sl (by repeat (first | exact .head | apply In.tail | apply Take.tail | apply Upd.tail))) rfl (by decide) rfl (by omega) (by omega) (by repeat (first | exact .head | apply In.tail | apply Take.tail | apply Upd.tail)) (fun A30 k30 => ?_)
          refine vl_toq .head ?_
          rw [show bcells (48 :: 102 :: firstd (ub (canS n)) j) ++ (#[Value.int .u8 ((hexd (Int.toNat (((ub (canS n) / 16 ^ (15 - j) : Nat) : Int) % 16))).toNat : Int)] : Array Value).toList = bcells (48 :: 102 :: firstd (ub (canS n)) (j + 1)) from first_app (by omega)]
          refine vl_val rfl (.some rfl) (val_assign rfl) ?_
          refine vl_nil ?_
          refine vc_region ?_
          refine vl_val rfl (.some rfl) (val_move rfl) ?_
          refine vl_val rfl (.some rfl) (val_sub rfl rfl (by first | exact w_i64 (by omega) (by omega) | rfl)) ?_
          refine vl_val rfl (.some rfl) (val_assign rfl) ?_
          refine vl_nil ?_
          exact ⟨16 - (j + 1), _, _, _, by omega, (by repeat (first | exact trivial | refine ⟨rfl, ?_⟩ | refine ⟨le_item rfl (by first | rfl | (congr 1; omega) | (simp; done) | (simp; omega)), ?_⟩)), (by repeat (first | exact .nil | (apply Sub.cons; · repeat (first | exact .head | apply Take.tail)))), ⟨j + 1, _, _, by omega, rfl, rfl, rfl⟩⟩
        · (try replace hc3 := of_decide_eq_false hc3)
          refine vc_exit ?_
          refine vc_seq ?_
          refine vc_region ?_
          refine vl_val rfl (.some rfl) (val_move rfl) ?_
          refine vl_val rfl (.some rfl) (val_bytesToStr Try.runUnderlying39 Try.runUnderlying5 Try.runUnderlying9 rfl (rd_slq (by repeat (first | exact .head | apply In.tail | apply Take.tail | apply Upd.tail))) (by simp [firstd_length])) ?_
          refine vl_val rfl (.some rfl) (val_assign rfl) ?_
          refine vl_nil ?_
          refine vc_ret ?_
          refine ⟨_, [], _, res1 Try.results21 rfl, .nil, ?_⟩
          show _ = _
          obtain rfl : j = 16 := by omega
          rw [hP, if_neg (by omega), if_neg (by omega), if_neg (by omega)]
set_option maxRecDepth 20000 in
theorem lives (w : World) : FnV Try.prog 10 [] (.bool true) w := by
  refine fn_enter Try.func10 rfl Try.ntmps10 rfl ?_
  refine vc_seq ?_
  refine vc_region ?_
  refine vl_val rfl (.some rfl) (val_assign rfl) ?_
  refine vl_nil ?_
  refine vc_seq ?_
  refine vc_region ?_
  refine vl_ext rfl rfl (.some rfl) rfl (tobits_run _) ?_
  refine vl_val rfl (.some rfl) (val_convInt Try.runUnderlying24 Try.runUnderlying3 rfl rfl) ?_
  refine vl_val rfl (.some rfl) (val_assign rfl) ?_
  refine vl_nil ?_
  refine vc_seq ?_
  refine vc_region ?_
  refine vl_callV rfl rfl (.some rfl) Try.call11 rfl (fun w hw => oCanon _ w) ?_
  refine vl_val rfl (.some rfl) (val_eqt rfl rfl (by decide +kernel)) ?_
  refine vl_val rfl (.some rfl) (val_move rfl) ?_
  refine vl_on rfl rfl rfl rfl ?_
  refine vl_callV rfl rfl (.some rfl) Try.call17 rfl (fun w hw => oKey _ w) ?_
  refine vl_on rfl rfl rfl rfl ?_
  refine vl_val rfl (.some rfl) (val_eqt rfl rfl (by decide +kernel)) ?_
  refine vl_val rfl (.some rfl) (val_pick rfl rfl) ?_
  refine vl_val rfl (.some rfl) (val_move rfl) ?_
  refine vl_on rfl rfl rfl rfl ?_
  refine vl_val rfl (.some rfl) (val_move rfl) ?_
  refine vl_on rfl rfl rfl rfl ?_
  refine vl_callV rfl rfl (.some rfl) Try.call20 rfl (fun w hw => oPrint _ w) ?_
  refine vl_on rfl rfl rfl rfl ?_
  refine vl_val rfl (.some rfl) (val_seqt rfl rfl (by decide +kernel)) ?_
  refine vl_val rfl (.some rfl) (val_pick rfl rfl) ?_
  refine vl_val rfl (.some rfl) (val_move rfl) ?_
  refine vl_on rfl rfl rfl rfl ?_
  refine vl_callV rfl rfl (.some rfl) Try.call9 rfl (fun w hw => oCmp _ _ w) ?_
  refine vl_on rfl rfl rfl rfl ?_
  refine vl_val rfl (.some rfl) (val_eqt rfl rfl (by decide +kernel)) ?_
  refine vl_val rfl (.some rfl) (val_pick rfl rfl) ?_
  refine vl_val rfl (.some rfl) (val_assign rfl) ?_
  refine vl_nil ?_
  refine vc_ret ?_
  refine ⟨_, [], _, res1 Try.results10 rfl, .nil, ?_⟩
  rfl
set_option maxRecDepth 20000 in
theorem law_OrderTells (n m : Int) (h1 : -9223372036854775808 ≤ n) (h2 : n < 9223372036854775808) (h3 : -9223372036854775808 ≤ m) (h4 : m < 9223372036854775808) (w : World) : FnV Try.prog 4 [.int .i64 n, .int .i64 m] (.bool true) w := by
  refine fn_enter Try.func4 rfl Try.ntmps4 rfl ?_
  refine vc_seq ?_
  refine vc_region ?_
  refine vl_val rfl (.some rfl) (val_assign rfl) ?_
  refine vl_nil ?_
  refine vc_seq ?_
  refine vc_region ?_
  refine vl_val rfl (.some rfl) (val_move rfl) ?_
  refine vl_callV rfl rfl (.some rfl) Try.call11 rfl (fun w hw => oCanon _ w) ?_
  refine vl_val rfl (.some rfl) (val_move rfl) ?_
  refine vl_callV rfl rfl (.some rfl) Try.call12 rfl (fun w hw => rCanon _ (by omega) (by omega) w) ?_
  refine vl_val rfl (.some rfl) (val_eqt rfl rfl (rfl)) ?_
  refine vl_val rfl (.some rfl) (val_move rfl) ?_
  refine vl_on rfl rfl rfl rfl ?_
  refine vl_val rfl (.some rfl) (val_move rfl) ?_
  refine vl_on rfl rfl rfl rfl ?_
  refine vl_callV rfl rfl (.some rfl) Try.call13 rfl (fun w hw => oGood _ w) ?_
  refine vl_on rfl rfl rfl rfl ?_
  refine vl_val rfl (.some rfl) (val_move rfl) ?_
  refine vl_on rfl rfl rfl rfl ?_
  refine vl_callV rfl rfl (.some rfl) Try.call14 rfl (fun w hw => rGood _ (by omega) (by omega) w) ?_
  refine vl_on rfl rfl rfl rfl ?_
  refine vl_val rfl (.some rfl) (val_beqt Try.underlying4 rfl rfl (rfl)) ?_
  refine vl_val rfl (.some rfl) (val_pick rfl rfl) ?_
  refine vl_val rfl (.some rfl) (val_move rfl) ?_
  refine vl_on rfl rfl rfl rfl ?_
  refine vl_val rfl (.some rfl) (val_move rfl) ?_
  refine vl_on rfl rfl rfl rfl ?_
  refine vl_callV rfl rfl (.some rfl) Try.call15 rfl (fun w hw => oNan _ w) ?_
  refine vl_on rfl rfl rfl rfl ?_
  refine vl_val rfl (.some rfl) (val_move rfl) ?_
  refine vl_on rfl rfl rfl rfl ?_
  refine vl_callV rfl rfl (.some rfl) Try.call16 rfl (fun w hw => rNan _ w) ?_
  refine vl_on rfl rfl rfl rfl ?_
  refine vl_val rfl (.some rfl) (val_beqt Try.underlying4 rfl rfl (rfl)) ?_
  refine vl_val rfl (.some rfl) (val_pick rfl rfl) ?_
  refine vl_val rfl (.some rfl) (val_move rfl) ?_
  refine vl_on rfl rfl rfl rfl ?_
  refine vl_val rfl (.some rfl) (val_move rfl) ?_
  refine vl_on rfl rfl rfl rfl ?_
  refine vl_callV rfl rfl (.some rfl) Try.call17 rfl (fun w hw => oKey _ w) ?_
  refine vl_on rfl rfl rfl rfl ?_
  refine vl_val rfl (.some rfl) (val_move rfl) ?_
  refine vl_on rfl rfl rfl rfl ?_
  refine vl_callV rfl rfl (.some rfl) Try.call18 rfl (fun w hw => rKey _ (by omega) (by omega) w) ?_
  refine vl_on rfl rfl rfl rfl ?_
  refine vl_val rfl (.some rfl) (val_eqt rfl rfl (rfl)) ?_
  refine vl_val rfl (.some rfl) (val_pick rfl rfl) ?_
  refine vl_val rfl (.some rfl) (val_move rfl) ?_
  refine vl_on rfl rfl rfl rfl ?_
  refine vl_val rfl (.some rfl) (val_move rfl) ?_
  refine vl_on rfl rfl rfl rfl ?_
  refine vl_val rfl (.some rfl) (val_move rfl) ?_
  refine vl_on rfl rfl rfl rfl ?_
  refine vl_callV rfl rfl (.some rfl) Try.call9 rfl (fun w hw => oCmp _ _ w) ?_
  refine vl_on rfl rfl rfl rfl ?_
  refine vl_val rfl (.some rfl) (val_move rfl) ?_
  refine vl_on rfl rfl rfl rfl ?_
  refine vl_val rfl (.some rfl) (val_move rfl) ?_
  refine vl_on rfl rfl rfl rfl ?_
  refine vl_callV rfl rfl (.some rfl) Try.call19 rfl (fun w hw => rCmp _ _ (by omega) (by omega) (by omega) (by omega) w) ?_
  refine vl_on rfl rfl rfl rfl ?_
  refine vl_val rfl (.some rfl) (val_eqt rfl rfl (rfl)) ?_
  refine vl_val rfl (.some rfl) (val_pick rfl rfl) ?_
  refine vl_val rfl (.some rfl) (val_move rfl) ?_
  refine vl_on rfl rfl rfl rfl ?_
  refine vl_val rfl (.some rfl) (val_move rfl) ?_
  refine vl_on rfl rfl rfl rfl ?_
  refine vl_callV rfl rfl (.some rfl) Try.call20 rfl (fun w hw => oPrint _ w) ?_
  refine vl_on rfl rfl rfl rfl ?_
  refine vl_val rfl (.some rfl) (val_move rfl) ?_
  refine vl_on rfl rfl rfl rfl ?_
  refine vl_callV rfl rfl (.some rfl) Try.call21 rfl (fun w hw => rPrint _ (by omega) (by omega) w) ?_
  refine vl_on rfl rfl rfl rfl ?_
  refine vl_val rfl (.some rfl) (val_seqt rfl rfl (rfl)) ?_
  refine vl_val rfl (.some rfl) (val_pick rfl rfl) ?_
  refine vl_val rfl (.some rfl) (val_move rfl) ?_
  refine vl_on rfl rfl rfl rfl ?_
  refine vl_callV rfl rfl (.some rfl) Try.call10 rfl (fun w hw => lives w) ?_
  refine vl_val rfl (.some rfl) (val_pick rfl rfl) ?_
  refine vl_val rfl (.some rfl) (val_assign rfl) ?_
  refine vl_nil ?_
  refine vc_ret ?_
  refine ⟨_, [], _, res1 Try.results4 rfl, .nil, ?_⟩
  rfl

end Go.Proofs.Ytpgopfidbmiifaa.K
