/- Walks of the program's functions, printed by a program of this session; Lean checks them. -/
import Derived.Test.YtpgopfidbmiifaaOrder
namespace Go.Proofs.Ytpgopfidbmiifaa.K
open Go Go.RowKit Go.Proofs
set_option linter.unusedVariables false
set_option linter.unusedSimpArgs false

theorem idxb_run (s : ByteArray) (c : Int) (w : World) : (callFunc 41 #[.string s, .int .u8 c]).run Try.prog w = .ok (.value (.int .i64 (idxB s c))) w := by
  rw [run_callFunc_extern (e := Extern.BytealgIndexByte.indexByte) Try.func41 (by kernel_rfl) (by kernel_rfl) (by kernel_rfl) (by kernel_rfl)]
  have e : Extern.BytealgIndexByte.indexByte #[.string s, .int .u8 c] = (match (List.range s.size).find? fun i => s[i]! == UInt8.ofNat c.toNat with | some i => pure (goInt i) | none => pure (goInt (-1)) : Sem Value) := rfl
  rw [e]
  unfold idxB
  cases List.find? (fun i => s[i]! == UInt8.ofNat c.toNat) (List.range s.size) <;> rfl

set_option maxRecDepth 20000 in
theorem slIndexByte (s : ByteArray) (c : Int) (w : World) : FnV Try.prog 39 [.string s, .int .u8 c] (.int .i64 (idxB s c)) w := by
  refine fn_enter Try.func39 rfl Try.ntmps39 rfl ?_
  refine vc_seq ?_
  refine vc_region ?_
  refine vl_val rfl (.some rfl) (val_assign rfl) ?_
  refine vl_nil ?_
  refine vc_seq ?_
  refine vc_region ?_
  refine vl_val rfl (.some rfl) (val_move rfl) ?_
  refine vl_val rfl (.some rfl) (val_move rfl) ?_
  refine vl_ext rfl rfl (.some rfl) rfl (idxb_run _ _) ?_
  refine vl_val rfl (.some rfl) (val_assign rfl) ?_
  refine vl_nil ?_
  refine vc_ret ?_
  refine ⟨_, [], _, res1 Try.results39 rfl, .nil, ?_⟩
  rfl
set_option maxRecDepth 20000 in
theorem sIndexByte (s : ByteArray) (c : Int) (w : World) : FnV Try.prog 36 [.string s, .int .u8 c] (.int .i64 (idxB s c)) w := by
  refine fn_enter Try.func36 rfl Try.ntmps36 rfl ?_
  refine vc_seq ?_
  refine vc_region ?_
  refine vl_val rfl (.some rfl) (val_assign rfl) ?_
  refine vl_nil ?_
  refine vc_seq ?_
  refine vc_region ?_
  refine vl_val rfl (.some rfl) (val_move rfl) ?_
  refine vl_val rfl (.some rfl) (val_move rfl) ?_
  refine vl_callV rfl rfl (.some rfl) Try.call39 rfl (fun w hw => slIndexByte _ _ w) ?_
  refine vl_val rfl (.some rfl) (val_assign rfl) ?_
  refine vl_nil ?_
  refine vc_ret ?_
  refine ⟨_, [], _, res1 Try.results36 rfl, .nil, ?_⟩
  rfl
set_option maxRecDepth 20000 in
theorem slHasPrefix (s p : ByteArray) (w : World) : FnV Try.prog 40 [.string s, .string p] (.bool (hasP s p)) w := by
  refine fn_enter Try.func40 rfl Try.ntmps40 rfl ?_
  refine vc_seq ?_
  refine vc_region ?_
  refine vl_val rfl (.some rfl) (val_assign rfl) ?_
  refine vl_nil ?_
  refine vc_seq ?_
  refine vc_region ?_
  refine vl_val rfl (.some rfl) (val_move rfl) ?_
  refine vl_val rfl (.some rfl) (val_lenStr Try.runUnderlying9 rfl) ?_
  refine vl_val rfl (.some rfl) (val_move rfl) ?_
  refine vl_val rfl (.some rfl) (val_lenStr Try.runUnderlying9 rfl) ?_
  refine vl_val rfl (.some rfl) (val_ge rfl rfl) ?_
  refine vl_val rfl (.some rfl) (val_move rfl) ?_
  refine vl_split (t := 10) rfl (fun hg10 => ?_) (fun hg10 => ?_)
  · (try replace hg10 := of_decide_eq_true hg10)
    refine vl_on rfl rfl rfl rfl ?_
    refine vl_val rfl (.some rfl) (val_move rfl) ?_
    refine vl_on rfl rfl rfl rfl ?_
    refine vl_val rfl (.some rfl) (val_move rfl) ?_
    refine vl_on rfl rfl rfl rfl ?_
    refine vl_val rfl (.some rfl) (val_lenStr Try.runUnderlying9 rfl) ?_
    refine vl_on rfl rfl rfl rfl ?_
    refine vl_val rfl (.some rfl) (val_cutStrTo Try.runUnderlying9 rfl rfl (by omega) (by omega)) ?_
    refine vl_on rfl rfl rfl rfl ?_
    refine vl_val rfl (.some rfl) (val_move rfl) ?_
    refine vl_on rfl rfl rfl rfl ?_
    refine vl_val rfl (.some rfl) (val_seq rfl rfl) ?_
    refine vl_val rfl (.some rfl) (val_pick rfl rfl) ?_
    refine vl_val rfl (.some rfl) (val_assign rfl) ?_
    refine vl_nil ?_
    refine vc_ret ?_
    refine ⟨_, [], _, res1 Try.results40 rfl, .nil, ?_⟩
    show _ = _; congr 1; unfold hasP; (first | (rw [decide_eq_true (by omega : p.size ≤ s.size)]; simp; done) | (rw [decide_eq_false (by omega : ¬ p.size ≤ s.size)]; simp; done))
  · (try replace hg10 := of_decide_eq_false hg10)
    refine vl_off rfl rfl rfl rfl (.some rfl) ?_
    refine vl_off rfl rfl rfl rfl (.some rfl) ?_
    refine vl_off rfl rfl rfl rfl (.some rfl) ?_
    refine vl_off rfl rfl rfl rfl (.some rfl) ?_
    refine vl_off rfl rfl rfl rfl (.some rfl) ?_
    refine vl_off rfl rfl rfl rfl (.some rfl) ?_
    refine vl_val rfl (.some rfl) (val_pick rfl rfl) ?_
    refine vl_val rfl (.some rfl) (val_assign rfl) ?_
    refine vl_nil ?_
    refine vc_ret ?_
    refine ⟨_, [], _, res1 Try.results40 rfl, .nil, ?_⟩
    show _ = _; congr 1; unfold hasP; (first | (rw [decide_eq_true (by omega : p.size ≤ s.size)]; simp; done) | (rw [decide_eq_false (by omega : ¬ p.size ≤ s.size)]; simp; done))
set_option maxRecDepth 20000 in
theorem slCutPrefix (s p : ByteArray) (w : World) : FnV Try.prog 38 [.string s, .string p] (.tuple #[.string (cutP s p).1, .bool (cutP s p).2]) w := by
  refine fn_enter Try.func38 rfl Try.ntmps38 rfl ?_
  refine vc_seq ?_
  refine vc_region ?_
  refine vl_val rfl (.some rfl) (val_assign rfl) ?_
  refine vl_val rfl (.some rfl) (val_assign rfl) ?_
  refine vl_nil ?_
  refine vc_seq ?_
  refine vc_seq ?_
  refine vc_region ?_
  refine vl_val rfl (.some rfl) (val_move rfl) ?_
  refine vl_val rfl (.some rfl) (val_move rfl) ?_
  refine vl_callV rfl rfl (.some rfl) Try.call40 rfl (fun w hw => slHasPrefix _ _ w) ?_
  refine vl_val rfl (.some rfl) (val_not rfl) ?_
  refine vl_nil ?_
  refine vc_cond rfl (fun hc0 => ?_) (fun hc0 => ?_)
  · (try replace hc0 := of_decide_eq_true hc0)
    replace hc0 : hasP s p = false := by simpa using hc0
    refine vc_seq ?_
    refine vc_region ?_
    refine vl_val rfl (.some rfl) (val_move rfl) ?_
    refine vl_val rfl (.some rfl) (val_assign rfl) ?_
    refine vl_val rfl (.some rfl) (val_assign rfl) ?_
    refine vl_nil ?_
    refine vc_ret ?_
    refine ⟨_, [], _, res2 Try.results38 rfl rfl, .nil, ?_⟩
    show _ = _; simp [cutP, hc0]
  · (try replace hc0 := of_decide_eq_false hc0)
    replace hc0 : hasP s p = true := by simpa using hc0
    have hl := hasP_le hc0
    refine vc_skip ?_
    refine vc_seq ?_
    refine vc_region ?_
    refine vl_val rfl (.some rfl) (val_move rfl) ?_
    refine vl_val rfl (.some rfl) (val_move rfl) ?_
    refine vl_val rfl (.some rfl) (val_lenStr Try.runUnderlying9 rfl) ?_
    refine vl_val rfl (.some rfl) (val_cutStrFrom Try.runUnderlying9 rfl rfl (by omega) (by omega)) ?_
    refine vl_val rfl (.some rfl) (val_assign rfl) ?_
    refine vl_val rfl (.some rfl) (val_assign rfl) ?_
    refine vl_nil ?_
    refine vc_ret ?_
    refine ⟨_, [], _, res2 Try.results38 rfl rfl, .nil, ?_⟩
    show _ = _; simp [cutP, hc0]
set_option maxRecDepth 20000 in
theorem sCutPrefix (s p : ByteArray) (w : World) : FnV Try.prog 35 [.string s, .string p] (.tuple #[.string (cutP s p).1, .bool (cutP s p).2]) w := by
  refine fn_enter Try.func35 rfl Try.ntmps35 rfl ?_
  refine vc_seq ?_
  refine vc_region ?_
  refine vl_val rfl (.some rfl) (val_assign rfl) ?_
  refine vl_val rfl (.some rfl) (val_assign rfl) ?_
  refine vl_nil ?_
  refine vc_seq ?_
  refine vc_region ?_
  refine vl_val rfl (.some rfl) (val_move rfl) ?_
  refine vl_val rfl (.some rfl) (val_move rfl) ?_
  refine vl_callV rfl rfl (.some rfl) Try.call38 rfl (fun w hw => slCutPrefix _ _ w) ?_
  refine vl_val rfl (.some rfl) (val_extract rfl rfl) ?_
  refine vl_val rfl (.some rfl) (val_extract rfl rfl) ?_
  refine vl_val rfl (.some rfl) (val_assign rfl) ?_
  refine vl_val rfl (.some rfl) (val_assign rfl) ?_
  refine vl_nil ?_
  refine vc_ret ?_
  refine ⟨_, [], _, res2 Try.results35 rfl rfl, .nil, ?_⟩
  rfl
set_option maxRecDepth 20000 in
theorem mathInf (s : Int) (w : World) : FnV Try.prog 34 [.int .i64 s] (.float .f64 (if 0 ≤ s then 9218868437227405312 else 18442240474082181120)) w := by
  refine fn_enter Try.func34 rfl Try.ntmps34 rfl ?_
  refine vc_seq ?_
  refine vc_region ?_
  refine vl_val rfl (.some rfl) (val_assign rfl) ?_
  refine vl_nil ?_
  refine vc_seq ?_
  refine vc_region ?_
  refine vl_val rfl (.some rfl) (val_assign rfl) ?_
  refine vl_nil ?_
  refine vc_seq ?_
  refine vc_seq ?_
  refine vc_region ?_
  refine vl_val rfl (.some rfl) (val_move rfl) ?_
  refine vl_val rfl (.some rfl) (val_ge rfl rfl) ?_
  refine vl_nil ?_
  refine vc_cond rfl (fun hc0 => ?_) (fun hc0 => ?_)
  · (try replace hc0 := of_decide_eq_true hc0)
    refine vc_region ?_
    refine vl_val rfl (.some rfl) (val_assign rfl) ?_
    refine vl_nil ?_
    refine vc_seq ?_
    refine vc_region ?_
    refine vl_val rfl (.some rfl) (val_move rfl) ?_
    refine vl_ext rfl rfl (.some rfl) rfl (frombits_run _) ?_
    refine vl_val rfl (.some rfl) (val_assign rfl) ?_
    refine vl_nil ?_
    refine vc_ret ?_
    refine ⟨_, [], _, res1 Try.results34 rfl, .nil, ?_⟩
    show _ = _; first | (rw [if_pos hc0]; rfl) | (rw [if_neg hc0]; rfl)
  · (try replace hc0 := of_decide_eq_false hc0)
    refine vc_region ?_
    refine vl_val rfl (.some rfl) (val_assign rfl) ?_
    refine vl_nil ?_
    refine vc_seq ?_
    refine vc_region ?_
    refine vl_val rfl (.some rfl) (val_move rfl) ?_
    refine vl_ext rfl rfl (.some rfl) rfl (frombits_run _) ?_
    refine vl_val rfl (.some rfl) (val_assign rfl) ?_
    refine vl_nil ?_
    refine vc_ret ?_
    refine ⟨_, [], _, res1 Try.results34 rfl, .nil, ?_⟩
    show _ = _; first | (rw [if_pos hc0]; rfl) | (rw [if_neg hc0]; rfl)
set_option maxRecDepth 20000 in
theorem oBack (k : Int) (h0 : 0 ≤ k) (h1 : k < 18446744073709551616) (w : World) : FnV Try.prog 22 [.int .u64 k] (.int .i64 (backI k)) w := by
  have hlt := bku_lt h0 h1
  have hub := ub_iw hlt
  have hbd := iw_bd hlt
  refine fn_enter Try.func22 rfl Try.ntmps22 rfl ?_
  refine vc_seq ?_
  refine vc_region ?_
  refine vl_val rfl (.some rfl) (val_assign rfl) ?_
  refine vl_nil ?_
  refine vc_seq ?_
  refine vc_seq ?_
  refine vc_region ?_
  refine vl_val rfl (.some rfl) (val_move rfl) ?_
  refine vl_val rfl (.some rfl) (val_eq rfl rfl) ?_
  refine vl_nil ?_
  refine vc_cond rfl (fun hc0 => ?_) (fun hc0 => ?_)
  · (try replace hc0 := of_decide_eq_true hc0)
    refine vc_seq ?_
    refine vc_region ?_
    refine vl_val rfl (.some rfl) (val_assign rfl) ?_
    refine vl_nil ?_
    refine vc_ret ?_
    refine ⟨_, [], _, res1 Try.results22 rfl, .nil, ?_⟩
    show _ = _; subst hc0; rw [back_nan]
  · (try replace hc0 := of_decide_eq_false hc0)
    refine vc_skip ?_
    refine vc_seq ?_
    refine vc_region ?_
    refine vl_val rfl (.some rfl) (val_move rfl) ?_
    refine vl_val rfl (.some rfl) (val_com rfl (com_u64 h0 h1)) ?_
    refine vl_val rfl (.some rfl) (val_assign rfl) ?_
    refine vl_nil ?_
    refine vc_seq ?_
    refine vc_seq ?_
    refine vc_region ?_
    refine vl_val rfl (.some rfl) (val_move rfl) ?_
    refine vl_val rfl (.some rfl) (val_and rfl rfl (and_top h0 h1)) ?_
    refine vl_val rfl (.some rfl) (val_ne rfl rfl) ?_
    refine vl_nil ?_
    refine vc_cond rfl (fun hc1 => ?_) (fun hc1 => ?_)
    · (try replace hc1 := of_decide_eq_true hc1)
      replace hc1 : ¬ k < 9223372036854775808 := by intro h; rw [if_pos h] at hc1; exact hc1 rfl
      refine vc_region ?_
      refine vl_val rfl (.some rfl) (val_move rfl) ?_
      refine vl_val rfl (.some rfl) (val_andNot rfl rfl (andNot_top h0 h1)) ?_
      refine vl_val rfl (.some rfl) (val_assign rfl) ?_
      refine vl_nil ?_
      refine vc_seq ?_
      refine vc_seq ?_
      refine vc_region ?_
      refine vl_val rfl (.some rfl) (val_move rfl) ?_
      refine vl_val rfl (.some rfl) (val_convInt Try.runUnderlying24 Try.runUnderlying3 rfl (bk_conv (by unfold bku; split <;> omega) hlt)) ?_
      refine vl_callV rfl rfl (.some rfl) Try.call15 rfl (fun w hw => oNan _ w) ?_
      refine vl_val rfl (.some rfl) (val_move rfl) ?_
      refine vl_split (t := 16) rfl (fun hg16 => ?_) (fun hg16 => ?_)
      · (try replace hg16 := of_decide_eq_true hg16)
        refine vl_off rfl rfl rfl rfl (.some rfl) ?_
        refine vl_off rfl rfl rfl rfl (.some rfl) ?_
        refine vl_off rfl rfl rfl rfl (.some rfl) ?_
        refine vl_off rfl rfl rfl rfl (.some rfl) ?_
        refine vl_val rfl (.some rfl) (val_pick rfl rfl) ?_
        refine vl_nil ?_
        refine vc_cond rfl (fun _ => ?_) (fun h => by cases h)
        refine vc_seq ?_
        refine vc_region ?_
        refine vl_val rfl (.some rfl) (val_assign rfl) ?_
        refine vl_nil ?_
        refine vc_ret ?_
        refine ⟨_, [], _, res1 Try.results22 rfl, .nil, ?_⟩
        show _ = _; first | (rw [hub] at hg16; rw [back_isN hc0 hg16]; done) | (rw [back_bad hc0 (by simpa using hc2)]; done)
      · (try replace hg16 := of_decide_eq_false hg16)
        refine vl_on rfl rfl rfl rfl ?_
        refine vl_val rfl (.some rfl) (val_move rfl) ?_
        refine vl_on rfl rfl rfl rfl ?_
        refine vl_val rfl (.some rfl) (val_convInt Try.runUnderlying24 Try.runUnderlying3 rfl (bk_conv (by unfold bku; split <;> omega) hlt)) ?_
        refine vl_on rfl rfl rfl rfl ?_
        refine vl_callV rfl rfl (.some rfl) Try.call13 rfl (fun w hw => oGood _ w) ?_
        refine vl_on rfl rfl rfl rfl ?_
        refine vl_val rfl (.some rfl) (val_not rfl) ?_
        refine vl_val rfl (.some rfl) (val_pick rfl rfl) ?_
        refine vl_nil ?_
        refine vc_cond rfl (fun hc2 => ?_) (fun hc2 => ?_)
        · (try replace hc2 := of_decide_eq_true hc2)
          refine vc_seq ?_
          refine vc_region ?_
          refine vl_val rfl (.some rfl) (val_assign rfl) ?_
          refine vl_nil ?_
          refine vc_ret ?_
          refine ⟨_, [], _, res1 Try.results22 rfl, .nil, ?_⟩
          show _ = _; first | (rw [hub] at hg16; rw [back_isN hc0 hg16]; done) | (rw [back_bad hc0 (by simpa using hc2)]; done)
        · (try replace hc2 := of_decide_eq_false hc2)
          refine vc_skip ?_
          refine vc_seq ?_
          refine vc_region ?_
          refine vl_val rfl (.some rfl) (val_move rfl) ?_
          refine vl_val rfl (.some rfl) (val_convInt Try.runUnderlying24 Try.runUnderlying3 rfl (bk_conv (by unfold bku; split <;> omega) hlt)) ?_
          refine vl_val rfl (.some rfl) (val_assign rfl) ?_
          refine vl_nil ?_
          refine vc_ret ?_
          refine ⟨_, [], _, res1 Try.results22 rfl, .nil, ?_⟩
          show _ = _; rw [hub] at hg16; rw [back_ok hc0 hg16 (by simpa using hc2)]
    · (try replace hc1 := of_decide_eq_false hc1)
      replace hc1 : k < 9223372036854775808 := by
        refine Decidable.byContradiction fun h => ?_
        rw [if_neg h] at hc1; exact hc1 (by decide)
      refine vc_skip ?_
      refine vc_seq ?_
      refine vc_seq ?_
      refine vc_region ?_
      refine vl_val rfl (.some rfl) (val_move rfl) ?_
      refine vl_val rfl (.some rfl) (val_convInt Try.runUnderlying24 Try.runUnderlying3 rfl (bk_conv (by unfold bku; split <;> omega) hlt)) ?_
      refine vl_callV rfl rfl (.some rfl) Try.call15 rfl (fun w hw => oNan _ w) ?_
      refine vl_val rfl (.some rfl) (val_move rfl) ?_
      refine vl_split (t := 16) rfl (fun hg16 => ?_) (fun hg16 => ?_)
      · (try replace hg16 := of_decide_eq_true hg16)
        refine vl_off rfl rfl rfl rfl (.some rfl) ?_
        refine vl_off rfl rfl rfl rfl (.some rfl) ?_
        refine vl_off rfl rfl rfl rfl (.some rfl) ?_
        refine vl_off rfl rfl rfl rfl (.some rfl) ?_
        refine vl_val rfl (.some rfl) (val_pick rfl rfl) ?_
        refine vl_nil ?_
        refine vc_cond rfl (fun _ => ?_) (fun h => by cases h)
        refine vc_seq ?_
        refine vc_region ?_
        refine vl_val rfl (.some rfl) (val_assign rfl) ?_
        refine vl_nil ?_
        refine vc_ret ?_
        refine ⟨_, [], _, res1 Try.results22 rfl, .nil, ?_⟩
        show _ = _; first | (rw [hub] at hg16; rw [back_isN hc0 hg16]; done) | (rw [back_bad hc0 (by simpa using hc2)]; done)
      · (try replace hg16 := of_decide_eq_false hg16)
        refine vl_on rfl rfl rfl rfl ?_
        refine vl_val rfl (.some rfl) (val_move rfl) ?_
        refine vl_on rfl rfl rfl rfl ?_
        refine vl_val rfl (.some rfl) (val_convInt Try.runUnderlying24 Try.runUnderlying3 rfl (bk_conv (by unfold bku; split <;> omega) hlt)) ?_
        refine vl_on rfl rfl rfl rfl ?_
        refine vl_callV rfl rfl (.some rfl) Try.call13 rfl (fun w hw => oGood _ w) ?_
        refine vl_on rfl rfl rfl rfl ?_
        refine vl_val rfl (.some rfl) (val_not rfl) ?_
        refine vl_val rfl (.some rfl) (val_pick rfl rfl) ?_
        refine vl_nil ?_
        refine vc_cond rfl (fun hc2 => ?_) (fun hc2 => ?_)
        · (try replace hc2 := of_decide_eq_true hc2)
          refine vc_seq ?_
          refine vc_region ?_
          refine vl_val rfl (.some rfl) (val_assign rfl) ?_
          refine vl_nil ?_
          refine vc_ret ?_
          refine ⟨_, [], _, res1 Try.results22 rfl, .nil, ?_⟩
          show _ = _; first | (rw [hub] at hg16; rw [back_isN hc0 hg16]; done) | (rw [back_bad hc0 (by simpa using hc2)]; done)
        · (try replace hc2 := of_decide_eq_false hc2)
          refine vc_skip ?_
          refine vc_seq ?_
          refine vc_region ?_
          refine vl_val rfl (.some rfl) (val_move rfl) ?_
          refine vl_val rfl (.some rfl) (val_convInt Try.runUnderlying24 Try.runUnderlying3 rfl (bk_conv (by unfold bku; split <;> omega) hlt)) ?_
          refine vl_val rfl (.some rfl) (val_assign rfl) ?_
          refine vl_nil ?_
          refine vc_ret ?_
          refine ⟨_, [], _, res1 Try.results22 rfl, .nil, ?_⟩
          show _ = _; rw [hub] at hg16; rw [back_ok hc0 hg16 (by simpa using hc2)]
set_option maxRecDepth 20000 in
theorem rBack (k : Int) (h0 : 0 ≤ k) (h1 : k < 18446744073709551616) (w : World) : FnV Try.prog 25 [.int .u64 k] (.int .i64 (backI k)) w := by
  have hlt := bku_lt h0 h1
  have hub := ub_iw hlt
  have hbd := iw_bd hlt
  refine fn_enter Try.func25 rfl Try.ntmps25 rfl ?_
  refine vc_seq ?_
  refine vc_region ?_
  refine vl_val rfl (.some rfl) (val_assign rfl) ?_
  refine vl_nil ?_
  refine vc_seq ?_
  refine vc_seq ?_
  refine vc_region ?_
  refine vl_val rfl (.some rfl) (val_move rfl) ?_
  refine vl_val rfl (.some rfl) (val_eq rfl rfl) ?_
  refine vl_nil ?_
  refine vc_cond rfl (fun hc0 => ?_) (fun hc0 => ?_)
  · (try replace hc0 := of_decide_eq_true hc0)
    refine vc_seq ?_
    refine vc_region ?_
    refine vl_val rfl (.some rfl) (val_assign rfl) ?_
    refine vl_nil ?_
    refine vc_ret ?_
    refine ⟨_, [], _, res1 Try.results25 rfl, .nil, ?_⟩
    show _ = _; subst hc0; rw [back_nan]
  · (try replace hc0 := of_decide_eq_false hc0)
    refine vc_skip ?_
    refine vc_seq ?_
    refine vc_region ?_
    refine vl_val rfl (.some rfl) (val_move rfl) ?_
    refine vl_val rfl (.some rfl) (val_sub rfl rfl (show _ = (k + 9223372036854775808) % 18446744073709551616 by rw [wu64_mod]; omega)) ?_
    refine vl_val rfl (.some rfl) (val_assign rfl) ?_
    refine vl_nil ?_
    refine vc_seq ?_
    refine vc_seq ?_
    refine vc_region ?_
    refine vl_val rfl (.some rfl) (val_move rfl) ?_
    refine vl_val rfl (.some rfl) (val_lt rfl rfl) ?_
    refine vl_nil ?_
    refine vc_cond rfl (fun hc1 => ?_) (fun hc1 => ?_)
    · (try replace hc1 := of_decide_eq_true hc1)
      refine vc_region ?_
      refine vl_val rfl (.some rfl) (val_move rfl) ?_
      refine vl_val rfl (.some rfl) (val_com rfl (com_u64 h0 h1)) ?_
      refine vl_val rfl (.some rfl) (val_assign rfl) ?_
      refine vl_nil ?_
      refine vc_seq ?_
      refine vc_seq ?_
      refine vc_region ?_
      refine vl_val rfl (.some rfl) (val_move rfl) ?_
      refine vl_val rfl (.some rfl) (val_convInt Try.runUnderlying24 Try.runUnderlying3 rfl (bk_conv (by unfold bku; split <;> omega) hlt)) ?_
      refine vl_val rfl (.some rfl) (val_assign rfl) ?_
      refine vl_nil ?_
      refine vc_seq ?_
      refine vc_region ?_
      refine vl_val rfl (.some rfl) (val_move rfl) ?_
      refine vl_callV rfl rfl (.some rfl) Try.call14 rfl (fun w hw => rGood _ (by omega) (by omega) w) ?_
      refine vl_val rfl (.some rfl) (val_move rfl) ?_
      refine vl_split (t := 17) rfl (fun hg17 => ?_) (fun hg17 => ?_)
      · (try replace hg17 := of_decide_eq_true hg17)
        refine vl_on rfl rfl rfl rfl ?_
        refine vl_val rfl (.some rfl) (val_move rfl) ?_
        refine vl_on rfl rfl rfl rfl ?_
        refine vl_callV rfl rfl (.some rfl) Try.call18 rfl (fun w hw => rKey _ (by omega) (by omega) w) ?_
        refine vl_on rfl rfl rfl rfl ?_
        refine vl_val rfl (.some rfl) (val_move rfl) ?_
        refine vl_on rfl rfl rfl rfl ?_
        refine vl_val rfl (.some rfl) (val_eq rfl rfl) ?_
        refine vl_val rfl (.some rfl) (val_pick rfl rfl) ?_
        refine vl_nil ?_
        refine vc_cond rfl (fun hc2 => ?_) (fun hc2 => ?_)
        · (try replace hc2 := of_decide_eq_true hc2)
          refine vc_seq ?_
          refine vc_region ?_
          refine vl_val rfl (.some rfl) (val_move rfl) ?_
          refine vl_val rfl (.some rfl) (val_assign rfl) ?_
          refine vl_nil ?_
          refine vc_ret ?_
          refine ⟨_, [], _, res1 Try.results25 rfl, .nil, ?_⟩
          show _ = _; rw [hub] at hc2; rw [back_keyed hc0 hc2 hg17]
        · (try replace hc2 := of_decide_eq_false hc2)
          refine vc_skip ?_
          refine vc_seq ?_
          refine vc_region ?_
          refine vl_val rfl (.some rfl) (val_assign rfl) ?_
          refine vl_nil ?_
          refine vc_ret ?_
          refine ⟨_, [], _, res1 Try.results25 rfl, .nil, ?_⟩
          show _ = _; first | (rw [hub] at hc2; rw [back_nokey h0 h1 hc0 hc2]; done) | (rw [back_bad hc0 hg17]; done)
      · (try replace hg17 := of_decide_eq_false hg17)
        refine vl_off rfl rfl rfl rfl (.some rfl) ?_
        refine vl_off rfl rfl rfl rfl (.some rfl) ?_
        refine vl_off rfl rfl rfl rfl (.some rfl) ?_
        refine vl_off rfl rfl rfl rfl (.some rfl) ?_
        refine vl_val rfl (.some rfl) (val_pick rfl rfl) ?_
        refine vl_nil ?_
        refine vc_cond rfl (fun h => by cases h) (fun _ => ?_)
        refine vc_skip ?_
        refine vc_seq ?_
        refine vc_region ?_
        refine vl_val rfl (.some rfl) (val_assign rfl) ?_
        refine vl_nil ?_
        refine vc_ret ?_
        refine ⟨_, [], _, res1 Try.results25 rfl, .nil, ?_⟩
        show _ = _; first | (rw [hub] at hc2; rw [back_nokey h0 h1 hc0 hc2]; done) | (rw [back_bad hc0 hg17]; done)
    · (try replace hc1 := of_decide_eq_false hc1)
      refine vc_skip ?_
      refine vc_seq ?_
      refine vc_seq ?_
      refine vc_region ?_
      refine vl_val rfl (.some rfl) (val_move rfl) ?_
      refine vl_val rfl (.some rfl) (val_convInt Try.runUnderlying24 Try.runUnderlying3 rfl (bk_conv (by unfold bku; split <;> omega) hlt)) ?_
      refine vl_val rfl (.some rfl) (val_assign rfl) ?_
      refine vl_nil ?_
      refine vc_seq ?_
      refine vc_region ?_
      refine vl_val rfl (.some rfl) (val_move rfl) ?_
      refine vl_callV rfl rfl (.some rfl) Try.call14 rfl (fun w hw => rGood _ (by omega) (by omega) w) ?_
      refine vl_val rfl (.some rfl) (val_move rfl) ?_
      refine vl_split (t := 17) rfl (fun hg17 => ?_) (fun hg17 => ?_)
      · (try replace hg17 := of_decide_eq_true hg17)
        refine vl_on rfl rfl rfl rfl ?_
        refine vl_val rfl (.some rfl) (val_move rfl) ?_
        refine vl_on rfl rfl rfl rfl ?_
        refine vl_callV rfl rfl (.some rfl) Try.call18 rfl (fun w hw => rKey _ (by omega) (by omega) w) ?_
        refine vl_on rfl rfl rfl rfl ?_
        refine vl_val rfl (.some rfl) (val_move rfl) ?_
        refine vl_on rfl rfl rfl rfl ?_
        refine vl_val rfl (.some rfl) (val_eq rfl rfl) ?_
        refine vl_val rfl (.some rfl) (val_pick rfl rfl) ?_
        refine vl_nil ?_
        refine vc_cond rfl (fun hc2 => ?_) (fun hc2 => ?_)
        · (try replace hc2 := of_decide_eq_true hc2)
          refine vc_seq ?_
          refine vc_region ?_
          refine vl_val rfl (.some rfl) (val_move rfl) ?_
          refine vl_val rfl (.some rfl) (val_assign rfl) ?_
          refine vl_nil ?_
          refine vc_ret ?_
          refine ⟨_, [], _, res1 Try.results25 rfl, .nil, ?_⟩
          show _ = _; rw [hub] at hc2; rw [back_keyed hc0 hc2 hg17]
        · (try replace hc2 := of_decide_eq_false hc2)
          refine vc_skip ?_
          refine vc_seq ?_
          refine vc_region ?_
          refine vl_val rfl (.some rfl) (val_assign rfl) ?_
          refine vl_nil ?_
          refine vc_ret ?_
          refine ⟨_, [], _, res1 Try.results25 rfl, .nil, ?_⟩
          show _ = _; first | (rw [hub] at hc2; rw [back_nokey h0 h1 hc0 hc2]; done) | (rw [back_bad hc0 hg17]; done)
      · (try replace hg17 := of_decide_eq_false hg17)
        refine vl_off rfl rfl rfl rfl (.some rfl) ?_
        refine vl_off rfl rfl rfl rfl (.some rfl) ?_
        refine vl_off rfl rfl rfl rfl (.some rfl) ?_
        refine vl_off rfl rfl rfl rfl (.some rfl) ?_
        refine vl_val rfl (.some rfl) (val_pick rfl rfl) ?_
        refine vl_nil ?_
        refine vc_cond rfl (fun h => by cases h) (fun _ => ?_)
        refine vc_skip ?_
        refine vc_seq ?_
        refine vc_region ?_
        refine vl_val rfl (.some rfl) (val_assign rfl) ?_
        refine vl_nil ?_
        refine vc_ret ?_
        refine ⟨_, [], _, res1 Try.results25 rfl, .nil, ?_⟩
        show _ = _; first | (rw [hub] at hc2; rw [back_nokey h0 h1 hc0 hc2]; done) | (rw [back_bad hc0 hg17]; done)
set_option maxRecDepth 20000 in
theorem oIntKey (n : Int) (w : World) : FnV Try.prog 28 [.int .i64 n] (.int .u64 (ikey n)) w := by
  have hu := ub_lt n
  have hi := ub_is n
  refine fn_enter Try.func28 rfl Try.ntmps28 rfl ?_
  refine vc_seq ?_
  refine vc_region ?_
  refine vl_val rfl (.some rfl) (val_assign rfl) ?_
  refine vl_nil ?_
  refine vc_seq ?_
  refine vc_region ?_
  refine vl_val rfl (.some rfl) (val_move rfl) ?_
  refine vl_val rfl (.some rfl) (val_convInt Try.runUnderlying3 Try.runUnderlying24 rfl (ub_cast n)) ?_
  refine vl_val rfl (.some rfl) (val_xor rfl rfl (xor_top (by omega) (by omega))) ?_
  refine vl_val rfl (.some rfl) (val_assign rfl) ?_
  refine vl_nil ?_
  refine vc_ret ?_
  refine ⟨_, [], _, res1 Try.results28 rfl, .nil, ?_⟩
  show _ = _; unfold ikey; rw [hi]
set_option maxRecDepth 20000 in
theorem rIntKey (n : Int) (w : World) : FnV Try.prog 29 [.int .i64 n] (.int .u64 (ikey n)) w := by
  have hu := ub_lt n
  have hi := ub_is n
  refine fn_enter Try.func29 rfl Try.ntmps29 rfl ?_
  refine vc_seq ?_
  refine vc_region ?_
  refine vl_val rfl (.some rfl) (val_assign rfl) ?_
  refine vl_nil ?_
  refine vc_seq ?_
  refine vc_region ?_
  refine vl_val rfl (.some rfl) (val_move rfl) ?_
  refine vl_val rfl (.some rfl) (val_convInt Try.runUnderlying3 Try.runUnderlying24 rfl (ub_cast n)) ?_
  refine vl_val rfl (.some rfl) (val_add rfl rfl (wu64_mod _)) ?_
  refine vl_val rfl (.some rfl) (val_assign rfl) ?_
  refine vl_nil ?_
  refine vc_ret ?_
  refine ⟨_, [], _, res1 Try.results29 rfl, .nil, ?_⟩
  show _ = _; unfold ikey; rw [hi]
set_option maxRecDepth 20000 in
theorem oIntBack (k : Int) (h0 : 0 ≤ k) (h1 : k < 18446744073709551616) (w : World) : FnV Try.prog 26 [.int .u64 k] (.int .i64 (iback k)) w := by
  refine fn_enter Try.func26 rfl Try.ntmps26 rfl ?_
  refine vc_seq ?_
  refine vc_region ?_
  refine vl_val rfl (.some rfl) (val_assign rfl) ?_
  refine vl_nil ?_
  refine vc_seq ?_
  refine vc_region ?_
  refine vl_val rfl (.some rfl) (val_move rfl) ?_
  refine vl_val rfl (.some rfl) (val_xor rfl rfl (xor_top h0 h1)) ?_
  refine vl_val rfl (.some rfl) (val_convInt Try.runUnderlying24 Try.runUnderlying3 rfl rfl) ?_
  refine vl_val rfl (.some rfl) (val_assign rfl) ?_
  refine vl_nil ?_
  refine vc_ret ?_
  refine ⟨_, [], _, res1 Try.results26 rfl, .nil, ?_⟩
  rfl
set_option maxRecDepth 20000 in
theorem rIntBack (k : Int) (h0 : 0 ≤ k) (h1 : k < 18446744073709551616) (w : World) : FnV Try.prog 27 [.int .u64 k] (.int .i64 (iback k)) w := by
  refine fn_enter Try.func27 rfl Try.ntmps27 rfl ?_
  refine vc_seq ?_
  refine vc_region ?_
  refine vl_val rfl (.some rfl) (val_assign rfl) ?_
  refine vl_nil ?_
  refine vc_seq ?_
  refine vc_region ?_
  refine vl_val rfl (.some rfl) (val_move rfl) ?_
  refine vl_val rfl (.some rfl) (val_sub rfl rfl (show _ = (k + 9223372036854775808) % 18446744073709551616 by rw [wu64_mod]; omega)) ?_
  refine vl_val rfl (.some rfl) (val_convInt Try.runUnderlying24 Try.runUnderlying3 rfl rfl) ?_
  refine vl_val rfl (.some rfl) (val_assign rfl) ?_
  refine vl_nil ?_
  refine vc_ret ?_
  refine ⟨_, [], _, res1 Try.results27 rfl, .nil, ?_⟩
  rfl
set_option maxRecDepth 20000 in
set_option maxHeartbeats 1000000 in
theorem oParse (s : ByteArray) (w : World) : FnV Try.prog 23 [.string s] (.tuple #[.int .i64 (parseS s).1, .bool (parseS s).2]) w := by
  refine fn_enter Try.func23 rfl Try.ntmps23 rfl ?_
  refine vc_seq ?_
  refine vc_region ?_
  refine vl_val rfl (.some rfl) (val_assign rfl) ?_
  refine vl_val rfl (.some rfl) (val_assign rfl) ?_
  refine vl_nil ?_
  refine vc_seq ?_
  refine vc_region ?_
  refine vl_val rfl (.some rfl) (val_assign rfl) ?_
  refine vl_nil ?_
  refine vc_seq ?_
  refine vc_seq ?_
  refine vc_region ?_
  refine vl_val rfl (.some rfl) (val_move rfl) ?_
  refine vl_nil ?_
  refine vc_block ?_
  refine vc_seq ?_
  refine vc_region ?_
  refine vl_val rfl (.some rfl) (val_seq rfl rfl) ?_
  refine vl_val rfl (.some rfl) (val_assign rfl) ?_
  refine vl_nil ?_
  refine vc_cond rfl (fun hc0 => ?_) (fun hc0 => ?_)
  · (try replace hc0 := of_decide_eq_true hc0)
    refine vc_seq ?_
    refine vc_region ?_
    refine vl_val rfl (.some rfl) (val_assign rfl) ?_
    refine vl_val rfl (.some rfl) (val_assign rfl) ?_
    refine vl_nil ?_
    refine vc_ret ?_
    refine ⟨_, [], _, res2 Try.results23 rfl rfl, .nil, ?_⟩
    show _ = _; rw [hc0, parse_nan]
  · (try replace hc0 := of_decide_eq_false hc0)
    refine vc_seq ?_
    refine vc_seq ?_
    refine vc_region ?_
    refine vl_val rfl (.some rfl) (val_seq rfl rfl) ?_
    refine vl_val rfl (.some rfl) (val_assign rfl) ?_
    refine vl_nil ?_
    refine vc_cond rfl (fun hc1 => ?_) (fun hc1 => ?_)
    · (try replace hc1 := of_decide_eq_true hc1)
      refine vc_skip ?_
      refine vc_cond rfl (fun _ => ?_) (fun h => absurd hc1 (of_decide_eq_false h))
      refine vc_seq ?_
      refine vc_region ?_
      refine vl_val rfl (.some rfl) (val_assign rfl) ?_
      refine vl_nil ?_
      refine vc_seq ?_
      refine vc_seq ?_
      refine vc_region ?_
      refine vl_val rfl (.some rfl) (val_move rfl) ?_
      refine vl_val rfl (.some rfl) (val_indexStr Try.runUnderlying9 rfl rfl (by omega) (by first | (rw [hc1]; decide) | (rw [hc2]; decide))) ?_
      refine vl_val rfl (.some rfl) (val_eq rfl rfl) ?_
      refine vl_nil ?_
      refine vc_cond rfl (fun hc3 => ?_) (fun hc3 => ?_)
      · (try replace hc3 := of_decide_eq_true hc3)
        refine vc_region ?_
        refine vl_val rfl (.some rfl) (val_assign rfl) ?_
        refine vl_nil ?_
        refine vc_seq ?_
        refine vc_region ?_
        refine vl_val rfl (.some rfl) (val_move rfl) ?_
        refine vl_callV rfl rfl (.some rfl) Try.call34 rfl (fun w hw => mathInf _ w) ?_
        refine vl_ext rfl rfl (.some rfl) rfl (tobits_run _) ?_
        refine vl_val rfl (.some rfl) (val_convInt Try.runUnderlying24 Try.runUnderlying3 rfl (by first | exact w_i64 (by omega) (by omega) | rfl)) ?_
        refine vl_val rfl (.some rfl) (val_assign rfl) ?_
        refine vl_val rfl (.some rfl) (val_assign rfl) ?_
        refine vl_nil ?_
        refine vc_ret ?_
        refine ⟨_, [], _, res2 Try.results23 rfl rfl, .nil, ?_⟩
        show _ = _; first | (rw [hc1, parse_inf]; rfl) | (rw [hc2, parse_ninf]; rfl) | (exfalso; rw [hc1] at hc3; revert hc3; decide; done) | (exfalso; rw [hc2] at hc3; revert hc3; decide; done)
      · (try replace hc3 := of_decide_eq_false hc3)
        refine vc_skip ?_
        refine vc_seq ?_
        refine vc_region ?_
        refine vl_val rfl (.some rfl) (val_move rfl) ?_
        refine vl_callV rfl rfl (.some rfl) Try.call34 rfl (fun w hw => mathInf _ w) ?_
        refine vl_ext rfl rfl (.some rfl) rfl (tobits_run _) ?_
        refine vl_val rfl (.some rfl) (val_convInt Try.runUnderlying24 Try.runUnderlying3 rfl (by first | exact w_i64 (by omega) (by omega) | rfl)) ?_
        refine vl_val rfl (.some rfl) (val_assign rfl) ?_
        refine vl_val rfl (.some rfl) (val_assign rfl) ?_
        refine vl_nil ?_
        refine vc_ret ?_
        refine ⟨_, [], _, res2 Try.results23 rfl rfl, .nil, ?_⟩
        show _ = _; first | (rw [hc1, parse_inf]; rfl) | (rw [hc2, parse_ninf]; rfl) | (exfalso; rw [hc1] at hc3; revert hc3; decide; done) | (exfalso; rw [hc2] at hc3; revert hc3; decide; done)
    · (try replace hc1 := of_decide_eq_false hc1)
      refine vc_region ?_
      refine vl_val rfl (.some rfl) (val_seq rfl rfl) ?_
      refine vl_val rfl (.some rfl) (val_assign rfl) ?_
      refine vl_nil ?_
      refine vc_cond rfl (fun hc2 => ?_) (fun hc2 => ?_)
      · (try replace hc2 := of_decide_eq_true hc2)
        refine vc_seq ?_
        refine vc_region ?_
        refine vl_val rfl (.some rfl) (val_assign rfl) ?_
        refine vl_nil ?_
        refine vc_seq ?_
        refine vc_seq ?_
        refine vc_region ?_
        refine vl_val rfl (.some rfl) (val_move rfl) ?_
        refine vl_val rfl (.some rfl) (val_indexStr Try.runUnderlying9 rfl rfl (by omega) (by first | (rw [hc1]; decide) | (rw [hc2]; decide))) ?_
        refine vl_val rfl (.some rfl) (val_eq rfl rfl) ?_
        refine vl_nil ?_
        refine vc_cond rfl (fun hc3 => ?_) (fun hc3 => ?_)
        · (try replace hc3 := of_decide_eq_true hc3)
          refine vc_region ?_
          refine vl_val rfl (.some rfl) (val_assign rfl) ?_
          refine vl_nil ?_
          refine vc_seq ?_
          refine vc_region ?_
          refine vl_val rfl (.some rfl) (val_move rfl) ?_
          refine vl_callV rfl rfl (.some rfl) Try.call34 rfl (fun w hw => mathInf _ w) ?_
          refine vl_ext rfl rfl (.some rfl) rfl (tobits_run _) ?_
          refine vl_val rfl (.some rfl) (val_convInt Try.runUnderlying24 Try.runUnderlying3 rfl (by first | exact w_i64 (by omega) (by omega) | rfl)) ?_
          refine vl_val rfl (.some rfl) (val_assign rfl) ?_
          refine vl_val rfl (.some rfl) (val_assign rfl) ?_
          refine vl_nil ?_
          refine vc_ret ?_
          refine ⟨_, [], _, res2 Try.results23 rfl rfl, .nil, ?_⟩
          show _ = _; first | (rw [hc1, parse_inf]; rfl) | (rw [hc2, parse_ninf]; rfl) | (exfalso; rw [hc1] at hc3; revert hc3; decide; done) | (exfalso; rw [hc2] at hc3; revert hc3; decide; done)
        · (try replace hc3 := of_decide_eq_false hc3)
          refine vc_skip ?_
          refine vc_seq ?_
          refine vc_region ?_
          refine vl_val rfl (.some rfl) (val_move rfl) ?_
          refine vl_callV rfl rfl (.some rfl) Try.call34 rfl (fun w hw => mathInf _ w) ?_
          refine vl_ext rfl rfl (.some rfl) rfl (tobits_run _) ?_
          refine vl_val rfl (.some rfl) (val_convInt Try.runUnderlying24 Try.runUnderlying3 rfl (by first | exact w_i64 (by omega) (by omega) | rfl)) ?_
          refine vl_val rfl (.some rfl) (val_assign rfl) ?_
          refine vl_val rfl (.some rfl) (val_assign rfl) ?_
          refine vl_nil ?_
          refine vc_ret ?_
          refine ⟨_, [], _, res2 Try.results23 rfl rfl, .nil, ?_⟩
          show _ = _; first | (rw [hc1, parse_inf]; rfl) | (rw [hc2, parse_ninf]; rfl) | (exfalso; rw [hc1] at hc3; revert hc3; decide; done) | (exfalso; rw [hc2] at hc3; revert hc3; decide; done)
      · (try replace hc2 := of_decide_eq_false hc2)
        refine vc_skip ?_
        refine vc_seq ?_
        refine vc_region ?_
        refine vl_val rfl (.some rfl) (val_move rfl) ?_
        refine vl_callV rfl rfl (.some rfl) Try.call35 rfl (fun w hw => sCutPrefix _ _ w) ?_
        refine vl_val rfl (.some rfl) (val_move rfl) ?_
        refine vl_val rfl (.some rfl) (val_extract rfl rfl) ?_
        refine vl_val rfl (.some rfl) (val_extract rfl rfl) ?_
        refine vl_val rfl (.some rfl) (val_assign rfl) ?_
        refine vl_val rfl (.some rfl) (val_assign rfl) ?_
        refine vl_nil ?_
        refine vc_seq ?_
        refine vc_seq ?_
        refine vc_region ?_
        refine vl_val rfl (.some rfl) (val_move rfl) ?_
        refine vl_val rfl (.some rfl) (val_not rfl) ?_
        refine vl_val rfl (.some rfl) (val_move rfl) ?_
        refine vl_split (t := 30) rfl (fun hg30 => ?_) (fun hg30 => ?_)
        · (try replace hg30 := of_decide_eq_true hg30)
          refine vl_off rfl rfl rfl rfl (.some rfl) ?_
          refine vl_off rfl rfl rfl rfl (.some rfl) ?_
          refine vl_off rfl rfl rfl rfl (.some rfl) ?_
          refine vl_val rfl (.some rfl) (val_pick rfl rfl) ?_
          refine vl_nil ?_
          refine vc_cond rfl (fun _ => ?_) (fun h => by cases h)
          refine vc_seq ?_
          refine vc_region ?_
          refine vl_val rfl (.some rfl) (val_assign rfl) ?_
          refine vl_val rfl (.some rfl) (val_assign rfl) ?_
          refine vl_nil ?_
          refine vc_ret ?_
          refine ⟨_, [], _, res2 Try.results23 rfl rfl, .nil, ?_⟩
          show _ = _; first | (rw [tok_short hc0 hc1 hc2 (cut_yes (by simpa using hg30)) (by omega)]; done) | (rw [parse_head hc0 hc1 hc2 (cut_no (by simpa using hg30))]; done)
        · (try replace hg30 := of_decide_eq_false hg30)
          refine vl_on rfl rfl rfl rfl ?_
          refine vl_val rfl (.some rfl) (val_move rfl) ?_
          refine vl_on rfl rfl rfl rfl ?_
          refine vl_val rfl (.some rfl) (val_lenStr Try.runUnderlying9 rfl) ?_
          refine vl_on rfl rfl rfl rfl ?_
          refine vl_val rfl (.some rfl) (val_ne rfl rfl) ?_
          refine vl_val rfl (.some rfl) (val_pick rfl rfl) ?_
          refine vl_nil ?_
          refine vc_cond rfl (fun hc4 => ?_) (fun hc4 => ?_)
          · (try replace hc4 := of_decide_eq_true hc4)
            refine vc_seq ?_
            refine vc_region ?_
            refine vl_val rfl (.some rfl) (val_assign rfl) ?_
            refine vl_val rfl (.some rfl) (val_assign rfl) ?_
            refine vl_nil ?_
            refine vc_ret ?_
            refine ⟨_, [], _, res2 Try.results23 rfl rfl, .nil, ?_⟩
            show _ = _; first | (rw [tok_short hc0 hc1 hc2 (cut_yes (by simpa using hg30)) (by omega)]; done) | (rw [parse_head hc0 hc1 hc2 (cut_no (by simpa using hg30))]; done)
          · (try replace hc4 := of_decide_eq_false hc4)
            have hr := cut_yes (s := s) (by simpa using hg30)
            replace hc4 : (cutP s ⟨#[48, 102]⟩).1.size = 16 := by omega
            generalize (cutP s ⟨#[48, 102]⟩).1 = r at hr hc4 ⊢
            refine vc_skip ?_
            refine vc_seq ?_
            refine vc_seq ?_
            refine vc_region ?_
            refine vl_val rfl (.some rfl) (val_move rfl) ?_
            refine vl_val rfl (.some rfl) (val_lenStr Try.runUnderlying9 rfl) ?_
            refine vl_val rfl (.some rfl) (val_move rfl) ?_
            refine vl_nil ?_
            refine vc_block ?_
            refine vc_loopw (fun k E H => ∃ j U : Nat, j ≤ 16 ∧ k = 16 - j ∧ U < 16 ^ j ∧ r.data.toList.take j = hexN j U ∧ E = [(0, .string s), (4, .int .i64 (iw U)), (6, .string r), (36, .int .i64 r.size), (37, .int .i64 j)] ∧ H = []) (16) ⟨_, _, _, ⟨0, 0, by omega, rfl, by decide, rfl, rfl, rfl⟩, (by repeat (first | exact trivial | refine ⟨rfl, ?_⟩ | refine ⟨le_item rfl (by first | rfl | (congr 1; omega) | (simp; done) | (simp; omega)), ?_⟩)), (by repeat (first | exact .nil | (apply Sub.cons; · repeat (first | exact .head | apply Take.tail))))⟩ ?_
            intro k E H hI
            obtain ⟨j, U, hj, rfl, hU, hT, rfl, rfl⟩ := hI
            refine vc_seq ?_
            refine vc_region ?_
            refine vl_val rfl (.some rfl) (val_lt rfl rfl) ?_
            refine vl_nil ?_
            refine vc_seq ?_
            refine vc_cond rfl (fun hc5 => ?_) (fun hc5 => ?_)
            · (try replace hc5 := of_decide_eq_true hc5)
              refine vc_skip ?_
              refine vc_seq ?_
              refine vc_block ?_
              refine vc_seq ?_
              refine vc_region ?_
              refine vl_val rfl (.some rfl) (val_move rfl) ?_
              refine vl_val rfl (.some rfl) (val_assign rfl) ?_
              refine vl_nil ?_
              refine vc_seq ?_
              refine vc_region ?_
              refine vl_val rfl (.some rfl) (val_move rfl) ?_
              refine vl_val rfl (.some rfl) (val_move rfl) ?_
              refine vl_val rfl (.some rfl) (val_indexStr Try.runUnderlying9 rfl rfl (by omega) (by first | omega | (simp; omega))) ?_
              refine vl_callV rfl rfl (.some rfl) Try.call36 rfl (fun w hw => sIndexByte _ _ w) ?_
              refine vl_val rfl (.some rfl) (val_assign rfl) ?_
              refine vl_nil ?_
              refine vc_seq ?_
              refine vc_seq ?_
              refine vc_region ?_
              refine vl_val rfl (.some rfl) (val_move rfl) ?_
              refine vl_val rfl (.some rfl) (val_lt rfl rfl) ?_
              refine vl_nil ?_
              refine vc_cond rfl (fun hc6 => ?_) (fun hc6 => ?_)
              · (try replace hc6 := of_decide_eq_true hc6)
                refine vc_seq ?_
                refine vc_region ?_
                refine vl_val rfl (.some rfl) (val_assign rfl) ?_
                refine vl_val rfl (.some rfl) (val_assign rfl) ?_
                refine vl_nil ?_
                refine vc_ret ?_
                refine ⟨_, [], _, res2 Try.results23 rfl rfl, .nil, ?_⟩
                show _ = _; rw [tok_bad hc0 hc1 hc2 hr (by omega) (dig_none hc6)]
              · (try replace hc6 := of_decide_eq_false hc6)
                obtain ⟨d, hdv, hd, hdx⟩ := dig_get hc6
                refine vc_skip ?_
                refine vc_region ?_
                refine vl_val rfl (.some rfl) (val_move rfl) ?_
                refine vl_val rfl (.some rfl) (val_shl rfl rfl (by decide) (shl_lit 16 rfl rfl)) ?_
                refine vl_val rfl (.some rfl) (val_move rfl) ?_
                refine vl_val rfl (.some rfl) (val_or rfl rfl (show _ = iw (U * 16 + d) by rw [show idxB DIG (bt r (Int.toNat (j : Int))) = (d : Int) from hdv]; exact or_digit (pow_le (by omega) hU) hd)) ?_
                refine vl_val rfl (.some rfl) (val_assign rfl) ?_
                refine vl_nil ?_
                refine vc_region ?_
                refine vl_val rfl (.some rfl) (val_add rfl rfl (by first | exact w_i64 (by omega) (by omega) | rfl)) ?_
                refine vl_val rfl (.some rfl) (val_move rfl) ?_
                refine vl_nil ?_
                exact ⟨16 - (j + 1), _, _, _, by omega, (by repeat (first | exact trivial | refine ⟨rfl, ?_⟩ | refine ⟨le_item rfl (by first | rfl | (congr 1; omega) | (simp; done) | (simp; omega)), ?_⟩)), (by repeat (first | exact .nil | (apply Sub.cons; · repeat (first | exact .head | apply Take.tail)))), ⟨j + 1, U * 16 + d, by omega, rfl, pow_next hU hd, take_next (by rw [size_list]; omega) hT hd hdx, rfl, rfl⟩⟩
            · (try replace hc5 := of_decide_eq_false hc5)
              obtain rfl : j = 16 := by omega
              refine vc_exit ?_
              refine vc_seq ?_
              refine vc_seq ?_
              refine vc_region ?_
              refine vl_val rfl (.some rfl) (val_move rfl) ?_
              refine vl_callV rfl rfl (.some rfl) Try.call20 rfl (fun w hw => oPrint _ w) ?_
              refine vl_val rfl (.some rfl) (val_move rfl) ?_
              refine vl_val rfl (.some rfl) (val_sne rfl rfl) ?_
              refine vl_nil ?_
              refine vc_cond rfl (fun hc7 => ?_) (fun hc7 => ?_)
              · (try replace hc7 := of_decide_eq_true hc7)
                refine vc_seq ?_
                refine vc_region ?_
                refine vl_val rfl (.some rfl) (val_assign rfl) ?_
                refine vl_val rfl (.some rfl) (val_assign rfl) ?_
                refine vl_nil ?_
                refine vc_ret ?_
                refine ⟨_, [], _, res2 Try.results23 rfl rfl, .nil, ?_⟩
                show _ = _; rw [tok_end hU hr hc4 hT, if_neg hc7]
              · (try replace hc7 := of_decide_eq_false hc7)
                refine vc_skip ?_
                refine vc_seq ?_
                refine vc_region ?_
                refine vl_val rfl (.some rfl) (val_move rfl) ?_
                refine vl_val rfl (.some rfl) (val_assign rfl) ?_
                refine vl_val rfl (.some rfl) (val_assign rfl) ?_
                refine vl_nil ?_
                refine vc_ret ?_
                refine ⟨_, [], _, res2 Try.results23 rfl rfl, .nil, ?_⟩
                show _ = _; rw [tok_end hU hr hc4 hT, if_pos (by simpa using hc7)]
set_option maxRecDepth 20000 in
set_option maxHeartbeats 1000000 in
theorem rParse (s : ByteArray) (w : World) : FnV Try.prog 24 [.string s] (.tuple #[.int .i64 (parseS s).1, .bool (parseS s).2]) w := by
  refine fn_enter Try.func24 rfl Try.ntmps24 rfl ?_
  refine vc_seq ?_
  refine vc_region ?_
  refine vl_val rfl (.some rfl) (val_assign rfl) ?_
  refine vl_val rfl (.some rfl) (val_assign rfl) ?_
  refine vl_nil ?_
  refine vc_seq ?_
  refine vc_seq ?_
  refine vc_region ?_
  refine vl_val rfl (.some rfl) (val_buildArr Try.runUnderlying45 Try.zeroValue45 Try.sizeOf24 rfl rfl) ?_
  refine vl_val rfl (.some rfl) (val_move rfl) ?_
  refine vl_nil ?_
  refine vc_block ?_
  refine vc_loopw (fun k E H => ∃ i : Nat, i ≤ 3 ∧ k = 3 - i ∧ (∀ j < i, printS (wn j) ≠ s) ∧ E = [(0, .string s), (10, .agg #[.int .u64 9221120237041090560, .int .u64 9218868437227405312, .int .u64 18442240474082181120]), (11, .int .i64 i)] ∧ H = []) (3) ⟨_, _, _, ⟨0, by omega, rfl, fun j h => absurd h (by omega), rfl, rfl⟩, (by repeat (first | exact trivial | refine ⟨rfl, ?_⟩ | refine ⟨le_item rfl (by first | rfl | (congr 1; omega) | (simp; done) | (simp; omega)), ?_⟩)), (by repeat (first | exact .nil | (apply Sub.cons; · repeat (first | exact .head | apply Take.tail))))⟩ ?_
  intro k E H hI
  obtain ⟨i, hi, rfl, hW, rfl, rfl⟩ := hI
  refine vc_seq ?_
  refine vc_region ?_
  refine vl_val rfl (.some rfl) (val_lt rfl rfl) ?_
  refine vl_nil ?_
  refine vc_seq ?_
  refine vc_cond rfl (fun hc0 => ?_) (fun hc0 => ?_)
  · (try replace hc0 := of_decide_eq_true hc0)
    refine vc_skip ?_
    refine vc_seq ?_
    refine vc_block ?_
    refine vc_seq ?_
    refine vc_region ?_
    refine vl_val rfl (.some rfl) (val_indexArr Try.runUnderlying45 Try.isAgg24 Try.sizeOf24 rfl rfl (by omega) (by omega) (wd_get (by omega))) ?_
    refine vl_val rfl (.some rfl) (val_assign rfl) ?_
    refine vl_nil ?_
    refine vc_seq ?_
    refine vc_region ?_
    refine vl_val rfl (.some rfl) (val_move rfl) ?_
    refine vl_val rfl (.some rfl) (val_convInt Try.runUnderlying24 Try.runUnderlying3 rfl (wd_wn i)) ?_
    refine vl_callV rfl rfl (.some rfl) Try.call21 rfl (fun w hw => rPrint _ (okf_wn i).1 (okf_wn i).2.1 w) ?_
    refine vl_val rfl (.some rfl) (val_move rfl) ?_
    refine vl_val rfl (.some rfl) (val_seq rfl rfl) ?_
    refine vl_nil ?_
    refine vc_cond rfl (fun hc1 => ?_) (fun hc1 => ?_)
    · (try replace hc1 := of_decide_eq_true hc1)
      refine vc_seq ?_
      refine vc_region ?_
      refine vl_val rfl (.some rfl) (val_move rfl) ?_
      refine vl_val rfl (.some rfl) (val_convInt Try.runUnderlying24 Try.runUnderlying3 rfl (wd_wn i)) ?_
      refine vl_val rfl (.some rfl) (val_assign rfl) ?_
      refine vl_val rfl (.some rfl) (val_assign rfl) ?_
      refine vl_nil ?_
      refine vc_ret ?_
      refine ⟨_, [], _, res2 Try.results24 rfl rfl, .nil, ?_⟩
      show _ = _; rw [parse_yes (okf_wn i) hc1]
    · (try replace hc1 := of_decide_eq_false hc1)
      refine vc_skip ?_
      refine vc_region ?_
      refine vl_val rfl (.some rfl) (val_add rfl rfl (by first | exact w_i64 (by omega) (by omega) | rfl)) ?_
      refine vl_val rfl (.some rfl) (val_move rfl) ?_
      refine vl_nil ?_
      exact ⟨3 - (i + 1), _, _, _, by omega, (by repeat (first | exact trivial | refine ⟨rfl, ?_⟩ | refine ⟨le_item rfl (by first | rfl | (congr 1; omega) | (simp; done) | (simp; omega)), ?_⟩)), (by repeat (first | exact .nil | (apply Sub.cons; · repeat (first | exact .head | apply Take.tail)))), ⟨i + 1, by omega, rfl, fun j h => (by rcases Nat.lt_succ_iff_lt_or_eq.1 h with h | h; exact hW j h; rw [h]; exact hc1), rfl, rfl⟩⟩
  · (try replace hc0 := of_decide_eq_false hc0)
    obtain rfl : i = 3 := by omega
    obtain ⟨n1, n2, n3⟩ := not_words rfl hW
    refine vc_exit ?_
    refine vc_seq ?_
    refine vc_seq ?_
    refine vc_region ?_
    refine vl_val rfl (.some rfl) (val_move rfl) ?_
    refine vl_val rfl (.some rfl) (val_lenStr Try.runUnderlying9 rfl) ?_
    refine vl_val rfl (.some rfl) (val_ne rfl rfl) ?_
    refine vl_nil ?_
    refine vc_cond rfl (fun hc2 => ?_) (fun hc2 => ?_)
    · (try replace hc2 := of_decide_eq_true hc2)
      refine vc_seq ?_
      refine vc_region ?_
      refine vl_val rfl (.some rfl) (val_assign rfl) ?_
      refine vl_val rfl (.some rfl) (val_assign rfl) ?_
      refine vl_nil ?_
      refine vc_ret ?_
      refine ⟨_, [], _, res2 Try.results24 rfl rfl, .nil, ?_⟩
      show _ = _; rw [parse_short n1 n2 n3 (by omega)]
    · (try replace hc2 := of_decide_eq_false hc2)
      refine vc_skip ?_
      refine vc_seq ?_
      refine vc_region ?_
      refine vl_val rfl (.some rfl) (val_assign rfl) ?_
      refine vl_nil ?_
      refine vc_seq ?_
      refine vc_seq ?_
      refine vc_region ?_
      refine vl_val rfl (.some rfl) (val_assign rfl) ?_
      refine vl_nil ?_
      refine vc_block ?_
      refine vc_loopw (fun k E H => ∃ j U : Nat, j ≤ 16 ∧ k = 16 - j ∧ U < 16 ^ j ∧ (s.data.toList.drop 2).take j = hexN j U ∧ E = [(0, .string s), (6, .int .u64 (U : Nat)), (7, .int .i64 ((2 + j : Nat) : Int))] ∧ H = []) (16) ⟨_, _, _, ⟨0, 0, by omega, rfl, by decide, rfl, rfl, rfl⟩, (by repeat (first | exact trivial | refine ⟨rfl, ?_⟩ | refine ⟨le_item rfl (by first | rfl | (congr 1; omega) | (simp; done) | (simp; omega)), ?_⟩)), (by repeat (first | exact .nil | (apply Sub.cons; · repeat (first | exact .head | apply Take.tail))))⟩ ?_
      intro k E H hI
      obtain ⟨j, U, hj, rfl, hU, hT, rfl, rfl⟩ := hI
      refine vc_seq ?_
      refine vc_seq ?_
      refine vc_region ?_
      refine vl_val rfl (.some rfl) (val_move rfl) ?_
      refine vl_val rfl (.some rfl) (val_lt rfl rfl) ?_
      refine vl_nil ?_
      refine vc_cond rfl (fun hc3 => ?_) (fun hc3 => ?_)
      · (try replace hc3 := of_decide_eq_true hc3)
        refine vc_skip ?_
        refine vc_seq ?_
        refine vc_block ?_
        refine vc_seq ?_
        refine vc_region ?_
        refine vl_val rfl (.some rfl) (val_assign rfl) ?_
        refine vl_nil ?_
        refine vc_seq ?_
        refine vc_seq ?_
        refine vc_region ?_
        refine vl_val rfl (.some rfl) (val_assign rfl) ?_
        refine vl_nil ?_
        refine vc_block ?_
        refine vc_loopw (fun k E H => ∃ (m : Nat) (d : Int), m ≤ 16 ∧ k = 16 - m ∧ ((d = 99 ∧ ∀ e, e < m → hexd e ≠ s.data.toList.getD (2 + j) 0) ∨ (∃ e : Nat, e < m ∧ d = (e : Int) ∧ hexd e = s.data.toList.getD (2 + j) 0)) ∧ E = [(0, .string s), (6, .int .u64 (U : Nat)), (7, .int .i64 ((2 + j : Nat) : Int)), (8, .int .u64 d), (9, .int .u64 (m : Nat))] ∧ H = []) (16) ⟨_, _, _, ⟨0, 99, by omega, rfl, .inl ⟨rfl, fun e h => absurd h (by omega)⟩, rfl, rfl⟩, (by repeat (first | exact trivial | refine ⟨rfl, ?_⟩ | refine ⟨le_item rfl (by first | rfl | (congr 1; omega) | (simp; done) | (simp; omega)), ?_⟩)), (by repeat (first | exact .nil | (apply Sub.cons; · repeat (first | exact .head | apply Take.tail))))⟩ ?_
        intro k E H hI
        obtain ⟨m, d, hm, rfl, hD, rfl, rfl⟩ := hI
        refine vc_seq ?_
        refine vc_seq ?_
        refine vc_region ?_
        refine vl_val rfl (.some rfl) (val_move rfl) ?_
        refine vl_val rfl (.some rfl) (val_lt rfl rfl) ?_
        refine vl_nil ?_
        refine vc_cond rfl (fun hc4 => ?_) (fun hc4 => ?_)
        · (try replace hc4 := of_decide_eq_true hc4)
          refine vc_skip ?_
          refine vc_seq ?_
          refine vc_block ?_
          refine vc_seq ?_
          refine vc_draws [0, 2, 3, 4, 5] [] [0, 2, 3, 4, 1, 5] rfl (by kernel_rfl) (fun _ _ _ h => h) ?_
          refine vd_val rfl rfl rfl (.some rfl) (val_move rfl) ?_
          refine vd_val rfl rfl rfl (.some rfl) (val_move rfl) ?_
          refine vd_val rfl rfl rfl (.some rfl) (val_move rfl) ?_
          refine vd_val rfl rfl rfl (.some rfl) (val_indexStr Try.runUnderlying9 rfl rfl (by omega) (by first | omega | (simp; omega))) ?_
          refine vd_op rfl rfl ?_
          refine vl_callV rfl rfl (.some rfl) Try.call33 rfl (fun w hw => rdigit _ (by omega) (by omega) w) ?_
          refine vl_nil ?_
          refine ⟨fun _ => ⟨_, (by repeat (first | exact .nil | (apply Sub.cons; · repeat (first | exact .head | apply Take.tail))))⟩, ?_⟩
          refine vd_val rfl rfl rfl (.some rfl) (val_eq rfl rfl) ?_
          refine vd_nil ?_
          refine vc_cond rfl (fun hc5 => ?_) (fun hc5 => ?_)
          · (try replace hc5 := of_decide_eq_true hc5)
            refine vc_region ?_
            refine vl_val rfl (.some rfl) (val_move rfl) ?_
            refine vl_val rfl (.some rfl) (val_assign rfl) ?_
            refine vl_nil ?_
            refine vc_region ?_
            refine vl_val rfl (.some rfl) (val_move rfl) ?_
            refine vl_val rfl (.some rfl) (val_add rfl rfl (by first | exact w_u64 (by omega) (by omega) | rfl)) ?_
            refine vl_val rfl (.some rfl) (val_assign rfl) ?_
            refine vl_nil ?_
            exact ⟨16 - (m + 1), _, _, _, by omega, (by repeat (first | exact trivial | refine ⟨rfl, ?_⟩ | refine ⟨le_item rfl (by first | rfl | (congr 1; omega) | (simp; done) | (simp; omega)), ?_⟩)), (by repeat (first | exact .nil | (apply Sub.cons; · repeat (first | exact .head | apply Take.tail)))), ⟨m + 1, _, by omega, rfl, (by first | exact .inr ⟨m, by omega, rfl, hexd_eq hc5⟩ | exact dig_step hD (fun h => hc5 (hexd_ne h))), rfl, rfl⟩⟩
          · (try replace hc5 := of_decide_eq_false hc5)
            refine vc_skip ?_
            refine vc_region ?_
            refine vl_val rfl (.some rfl) (val_move rfl) ?_
            refine vl_val rfl (.some rfl) (val_add rfl rfl (by first | exact w_u64 (by omega) (by omega) | rfl)) ?_
            refine vl_val rfl (.some rfl) (val_assign rfl) ?_
            refine vl_nil ?_
            exact ⟨16 - (m + 1), _, _, _, by omega, (by repeat (first | exact trivial | refine ⟨rfl, ?_⟩ | refine ⟨le_item rfl (by first | rfl | (congr 1; omega) | (simp; done) | (simp; omega)), ?_⟩)), (by repeat (first | exact .nil | (apply Sub.cons; · repeat (first | exact .head | apply Take.tail)))), ⟨m + 1, _, by omega, rfl, (by first | exact .inr ⟨m, by omega, rfl, hexd_eq hc5⟩ | exact dig_step hD (fun h => hc5 (hexd_ne h))), rfl, rfl⟩⟩
        · (try replace hc4 := of_decide_eq_false hc4)
          obtain rfl : m = 16 := by omega
          refine vc_exit ?_
          refine vc_seq ?_
          refine vc_seq ?_
          refine vc_region ?_
          refine vl_val rfl (.some rfl) (val_move rfl) ?_
          refine vl_val rfl (.some rfl) (val_eq rfl rfl) ?_
          refine vl_nil ?_
          refine vc_cond rfl (fun hc6 => ?_) (fun hc6 => ?_)
          · (try replace hc6 := of_decide_eq_true hc6)
            refine vc_seq ?_
            refine vc_region ?_
            refine vl_val rfl (.some rfl) (val_assign rfl) ?_
            refine vl_val rfl (.some rfl) (val_assign rfl) ?_
            refine vl_nil ?_
            refine vc_ret ?_
            refine ⟨_, [], _, res2 Try.results24 rfl rfl, .nil, ?_⟩
            show _ = _; rw [parse_bad n1 n2 n3 (j := j) (by omega) (fun e he h => (by rcases hD with ⟨_, h2⟩ | ⟨e', he', h2, _⟩; exact h2 e he h.symm; omega))]
          · (try replace hc6 := of_decide_eq_false hc6)
            obtain ⟨e, he, rfl, hdx⟩ : ∃ e : Nat, e < 16 ∧ d = (e : Int) ∧ hexd e = s.data.toList.getD (2 + j) 0 := by
              rcases hD with ⟨h, _⟩ | h
              · exact absurd h hc6
              · exact h
            have hd := he
            refine vc_skip ?_
            refine vc_region ?_
            refine vl_val rfl (.some rfl) (val_move rfl) ?_
            refine vl_val rfl (.some rfl) (val_shl rfl rfl (by decide) (shl_lit 16 rfl (w_u64 (by have := pow_le (by omega) hU; omega) (by have := pow_le (by omega) hU; omega)))) ?_
            refine vl_val rfl (.some rfl) (val_move rfl) ?_
            refine vl_val rfl (.some rfl) (val_or rfl rfl (or_digit_u (pow_le (by omega) hU) hd)) ?_
            refine vl_val rfl (.some rfl) (val_assign rfl) ?_
            refine vl_nil ?_
            refine vc_region ?_
            refine vl_val rfl (.some rfl) (val_move rfl) ?_
            refine vl_val rfl (.some rfl) (val_add rfl rfl (by first | exact w_i64 (by omega) (by omega) | rfl)) ?_
            refine vl_val rfl (.some rfl) (val_assign rfl) ?_
            refine vl_nil ?_
            exact ⟨16 - (j + 1), _, _, _, by omega, (by repeat (first | exact trivial | refine ⟨rfl, ?_⟩ | refine ⟨le_item rfl (by first | rfl | (congr 1; omega) | (simp; done) | (simp; omega)), ?_⟩)), (by repeat (first | exact .nil | (apply Sub.cons; · repeat (first | exact .head | apply Take.tail)))), ⟨j + 1, U * 16 + e, by omega, rfl, pow_next hU hd, take_next (by rw [List.length_drop, size_list]; omega) hT hd (hdx.trans drop_get.symm), rfl, rfl⟩⟩
      · (try replace hc3 := of_decide_eq_false hc3)
        obtain rfl : j = 16 := by omega
        have hbd := iw_bd (x := U) (by simpa using hU)
        refine vc_exit ?_
        refine vc_seq ?_
        refine vc_seq ?_
        refine vc_region ?_
        refine vl_val rfl (.some rfl) (val_move rfl) ?_
        refine vl_val rfl (.some rfl) (val_convInt Try.runUnderlying24 Try.runUnderlying3 rfl (iw_wrap (by simpa using hU))) ?_
        refine vl_callV rfl rfl (.some rfl) Try.call21 rfl (fun w hw => rPrint _ (by omega) (by omega) w) ?_
        refine vl_val rfl (.some rfl) (val_move rfl) ?_
        refine vl_val rfl (.some rfl) (val_sne rfl rfl) ?_
        refine vl_nil ?_
        refine vc_cond rfl (fun hc7 => ?_) (fun hc7 => ?_)
        · (try replace hc7 := of_decide_eq_true hc7)
          refine vc_seq ?_
          refine vc_region ?_
          refine vl_val rfl (.some rfl) (val_assign rfl) ?_
          refine vl_val rfl (.some rfl) (val_assign rfl) ?_
          refine vl_nil ?_
          refine vc_ret ?_
          refine ⟨_, [], _, res2 Try.results24 rfl rfl, .nil, ?_⟩
          show _ = _; rw [ref_end hU (by omega) hT, if_neg hc7]
        · (try replace hc7 := of_decide_eq_false hc7)
          refine vc_skip ?_
          refine vc_seq ?_
          refine vc_region ?_
          refine vl_val rfl (.some rfl) (val_move rfl) ?_
          refine vl_val rfl (.some rfl) (val_convInt Try.runUnderlying24 Try.runUnderlying3 rfl (iw_wrap (by simpa using hU))) ?_
          refine vl_val rfl (.some rfl) (val_assign rfl) ?_
          refine vl_val rfl (.some rfl) (val_assign rfl) ?_
          refine vl_nil ?_
          refine vc_ret ?_
          refine ⟨_, [], _, res2 Try.results24 rfl rfl, .nil, ?_⟩
          show _ = _; rw [ref_end hU (by omega) hT, if_pos (by simpa using hc7)]
set_option maxRecDepth 20000 in
theorem law_OrderBacks (k : Int) (s : ByteArray) (h0 : 0 ≤ k) (h1 : k < 18446744073709551616) (w : World) : FnV Try.prog 6 [.int .u64 k, .string s] (.bool true) w := by
  refine fn_enter Try.func6 rfl Try.ntmps6 rfl ?_
  refine vc_seq ?_
  refine vc_region ?_
  refine vl_val rfl (.some rfl) (val_assign rfl) ?_
  refine vl_nil ?_
  refine vc_seq ?_
  refine vc_seq ?_
  refine vc_region ?_
  refine vl_val rfl (.some rfl) (val_move rfl) ?_
  refine vl_val rfl (.some rfl) (val_lenStr Try.runUnderlying9 rfl) ?_
  refine vl_val rfl (.some rfl) (val_gt rfl rfl) ?_
  refine vl_nil ?_
  refine vc_cond rfl (fun hc0 => ?_) (fun hc0 => ?_)
  · (try replace hc0 := of_decide_eq_true hc0)
    refine vc_seq ?_
    refine vc_region ?_
    refine vl_callV rfl rfl (.some rfl) Try.call10 rfl (fun w hw => lives w) ?_
    refine vl_val rfl (.some rfl) (val_assign rfl) ?_
    refine vl_nil ?_
    refine vc_ret ?_
    refine ⟨_, [], _, res1 Try.results6 rfl, .nil, ?_⟩
    rfl
  · (try replace hc0 := of_decide_eq_false hc0)
    refine vc_skip ?_
    refine vc_seq ?_
    refine vc_region ?_
    refine vl_val rfl (.some rfl) (val_move rfl) ?_
    refine vl_callV rfl rfl (.some rfl) Try.call23 rfl (fun w hw => oParse _ w) ?_
    refine vl_val rfl (.some rfl) (val_move rfl) ?_
    refine vl_val rfl (.some rfl) (val_extract rfl rfl) ?_
    refine vl_val rfl (.some rfl) (val_extract rfl rfl) ?_
    refine vl_val rfl (.some rfl) (val_assign rfl) ?_
    refine vl_val rfl (.some rfl) (val_assign rfl) ?_
    refine vl_nil ?_
    refine vc_seq ?_
    refine vc_region ?_
    refine vl_val rfl (.some rfl) (val_move rfl) ?_
    refine vl_callV rfl rfl (.some rfl) Try.call24 rfl (fun w hw => rParse _ w) ?_
    refine vl_val rfl (.some rfl) (val_move rfl) ?_
    refine vl_val rfl (.some rfl) (val_extract rfl rfl) ?_
    refine vl_val rfl (.some rfl) (val_extract rfl rfl) ?_
    refine vl_val rfl (.some rfl) (val_assign rfl) ?_
    refine vl_val rfl (.some rfl) (val_assign rfl) ?_
    refine vl_nil ?_
    refine vc_seq ?_
    refine vc_region ?_
    refine vl_val rfl (.some rfl) (val_move rfl) ?_
    refine vl_callV rfl rfl (.some rfl) Try.call22 rfl (fun w hw => oBack _ (by omega) (by omega) w) ?_
    refine vl_val rfl (.some rfl) (val_move rfl) ?_
    refine vl_callV rfl rfl (.some rfl) Try.call25 rfl (fun w hw => rBack _ (by omega) (by omega) w) ?_
    refine vl_val rfl (.some rfl) (val_eqt rfl rfl (rfl)) ?_
    refine vl_val rfl (.some rfl) (val_move rfl) ?_
    refine vl_on rfl rfl rfl rfl ?_
    refine vl_val rfl (.some rfl) (val_move rfl) ?_
    refine vl_on rfl rfl rfl rfl ?_
    refine vl_callV rfl rfl (.some rfl) Try.call26 rfl (fun w hw => oIntBack _ (by omega) (by omega) w) ?_
    refine vl_on rfl rfl rfl rfl ?_
    refine vl_val rfl (.some rfl) (val_move rfl) ?_
    refine vl_on rfl rfl rfl rfl ?_
    refine vl_callV rfl rfl (.some rfl) Try.call27 rfl (fun w hw => rIntBack _ (by omega) (by omega) w) ?_
    refine vl_on rfl rfl rfl rfl ?_
    refine vl_val rfl (.some rfl) (val_eqt rfl rfl (rfl)) ?_
    refine vl_val rfl (.some rfl) (val_pick rfl rfl) ?_
    refine vl_val rfl (.some rfl) (val_move rfl) ?_
    refine vl_on rfl rfl rfl rfl ?_
    refine vl_val rfl (.some rfl) (val_move rfl) ?_
    refine vl_on rfl rfl rfl rfl ?_
    refine vl_val rfl (.some rfl) (val_convInt Try.runUnderlying24 Try.runUnderlying3 rfl rfl) ?_
    refine vl_on rfl rfl rfl rfl ?_
    refine vl_callV rfl rfl (.some rfl) Try.call28 rfl (fun w hw => oIntKey _ w) ?_
    refine vl_on rfl rfl rfl rfl ?_
    refine vl_val rfl (.some rfl) (val_move rfl) ?_
    refine vl_on rfl rfl rfl rfl ?_
    refine vl_val rfl (.some rfl) (val_convInt Try.runUnderlying24 Try.runUnderlying3 rfl rfl) ?_
    refine vl_on rfl rfl rfl rfl ?_
    refine vl_callV rfl rfl (.some rfl) Try.call29 rfl (fun w hw => rIntKey _ w) ?_
    refine vl_on rfl rfl rfl rfl ?_
    refine vl_val rfl (.some rfl) (val_eqt rfl rfl (rfl)) ?_
    refine vl_val rfl (.some rfl) (val_pick rfl rfl) ?_
    refine vl_val rfl (.some rfl) (val_move rfl) ?_
    refine vl_on rfl rfl rfl rfl ?_
    refine vl_val rfl (.some rfl) (val_move rfl) ?_
    refine vl_on rfl rfl rfl rfl ?_
    refine vl_val rfl (.some rfl) (val_move rfl) ?_
    refine vl_on rfl rfl rfl rfl ?_
    refine vl_val rfl (.some rfl) (val_eqt rfl rfl (rfl)) ?_
    refine vl_val rfl (.some rfl) (val_pick rfl rfl) ?_
    refine vl_val rfl (.some rfl) (val_move rfl) ?_
    refine vl_on rfl rfl rfl rfl ?_
    refine vl_val rfl (.some rfl) (val_move rfl) ?_
    refine vl_on rfl rfl rfl rfl ?_
    refine vl_val rfl (.some rfl) (val_move rfl) ?_
    refine vl_on rfl rfl rfl rfl ?_
    refine vl_val rfl (.some rfl) (val_beqt Try.underlying4 rfl rfl (rfl)) ?_
    refine vl_val rfl (.some rfl) (val_pick rfl rfl) ?_
    refine vl_val rfl (.some rfl) (val_move rfl) ?_
    refine vl_on rfl rfl rfl rfl ?_
    refine vl_callV rfl rfl (.some rfl) Try.call10 rfl (fun w hw => lives w) ?_
    refine vl_val rfl (.some rfl) (val_pick rfl rfl) ?_
    refine vl_val rfl (.some rfl) (val_assign rfl) ?_
    refine vl_nil ?_
    refine vc_ret ?_
    refine ⟨_, [], _, res1 Try.results6 rfl, .nil, ?_⟩
    rfl
set_option maxRecDepth 20000 in
theorem law_OrderKeys (n m : Int) (h1 : -9223372036854775808 ≤ n) (h2 : n < 9223372036854775808) (h3 : -9223372036854775808 ≤ m) (h4 : m < 9223372036854775808) (w : World) : FnV Try.prog 7 [.int .i64 n, .int .i64 m] (.bool true) w := by
  have hk := keyS_lt (ub_lt n)
  have hb := back_key n h1 h2
  have hp := parse_print h1 h2
  have hib := iback_key h1 h2
  have hil : 0 ≤ ikey n ∧ ikey n < 18446744073709551616 := by unfold ikey; omega
  have hcb := can_bd h1 h2
  have hok := (okf_can h1 h2).2.2
  refine fn_enter Try.func7 rfl Try.ntmps7 rfl ?_
  refine vc_seq ?_
  refine vc_region ?_
  refine vl_val rfl (.some rfl) (val_assign rfl) ?_
  refine vl_nil ?_
  refine vc_seq ?_
  refine vc_seq ?_
  refine vc_region ?_
  refine vl_val rfl (.some rfl) (val_move rfl) ?_
  refine vl_callV rfl rfl (.some rfl) Try.call17 rfl (fun w hw => oKey _ w) ?_
  refine vl_callV rfl rfl (.some rfl) Try.call22 rfl (fun w hw => oBack _ (by omega) (by omega) w) ?_
  refine vl_val rfl (.some rfl) (val_move rfl) ?_
  refine vl_callV rfl rfl (.some rfl) Try.call11 rfl (fun w hw => oCanon _ w) ?_
  refine vl_val rfl (.some rfl) (val_net rfl rfl (hb)) ?_
  refine vl_val rfl (.some rfl) (val_move rfl) ?_
  refine vl_on rfl rfl rfl rfl ?_
  refine vl_val rfl (.some rfl) (val_move rfl) ?_
  refine vl_on rfl rfl rfl rfl ?_
  refine vl_callV rfl rfl (.some rfl) Try.call28 rfl (fun w hw => oIntKey _ w) ?_
  refine vl_on rfl rfl rfl rfl ?_
  refine vl_callV rfl rfl (.some rfl) Try.call26 rfl (fun w hw => oIntBack _ (by omega) (by omega) w) ?_
  refine vl_on rfl rfl rfl rfl ?_
  refine vl_val rfl (.some rfl) (val_move rfl) ?_
  refine vl_on rfl rfl rfl rfl ?_
  refine vl_val rfl (.some rfl) (val_net rfl rfl (hib)) ?_
  refine vl_val rfl (.some rfl) (val_pick rfl rfl) ?_
  refine vl_nil ?_
  refine vc_cond rfl (fun h => by cases h) (fun _ => ?_)
  refine vc_skip ?_
  refine vc_seq ?_
  refine vc_region ?_
  refine vl_val rfl (.some rfl) (val_move rfl) ?_
  refine vl_callV rfl rfl (.some rfl) Try.call20 rfl (fun w hw => oPrint _ w) ?_
  refine vl_callV rfl rfl (.some rfl) Try.call23 rfl (fun w hw => oParse _ w) ?_
  refine vl_val rfl (.some rfl) (val_move rfl) ?_
  refine vl_val rfl (.some rfl) (val_extract rfl rfl) ?_
  refine vl_val rfl (.some rfl) (val_extract rfl rfl) ?_
  refine vl_val rfl (.some rfl) (val_assign rfl) ?_
  refine vl_val rfl (.some rfl) (val_assign rfl) ?_
  refine vl_nil ?_
  refine vc_seq ?_
  refine vc_seq ?_
  refine vc_region ?_
  refine vl_val rfl (.some rfl) (val_move rfl) ?_
  refine vl_val rfl (.some rfl) (val_not rfl) ?_
  refine vl_val rfl (.some rfl) (val_move rfl) ?_
  refine vl_split (t := 28) rfl (fun hg28 => ?_) (fun hg28 => ?_)
  · (try replace hg28 := of_decide_eq_true hg28)
    exfalso
    rw [hp] at hg28; cases hg28
  · (try replace hg28 := of_decide_eq_false hg28)
    
    refine vl_on rfl rfl rfl rfl ?_
    refine vl_val rfl (.some rfl) (val_move rfl) ?_
    refine vl_on rfl rfl rfl rfl ?_
    refine vl_val rfl (.some rfl) (val_move rfl) ?_
    refine vl_on rfl rfl rfl rfl ?_
    refine vl_callV rfl rfl (.some rfl) Try.call11 rfl (fun w hw => oCanon _ w) ?_
    refine vl_on rfl rfl rfl rfl ?_
    refine vl_val rfl (.some rfl) (val_net rfl rfl (by rw [hp])) ?_
    refine vl_val rfl (.some rfl) (val_pick rfl rfl) ?_
    refine vl_val rfl (.some rfl) (val_move rfl) ?_
    refine vl_on rfl rfl rfl rfl ?_
    refine vl_val rfl (.some rfl) (val_move rfl) ?_
    refine vl_on rfl rfl rfl rfl ?_
    refine vl_callV rfl rfl (.some rfl) Try.call13 rfl (fun w hw => oGood _ w) ?_
    refine vl_on rfl rfl rfl rfl ?_
    refine vl_val rfl (.some rfl) (val_not rfl) ?_
    refine vl_val rfl (.some rfl) (val_pick rfl rfl) ?_
    refine vl_nil ?_
    refine vc_cond rfl (fun hc1 => False.elim (by (try replace hc1 := of_decide_eq_true hc1); rw [hp] at hc1; simp [hok] at hc1)) (fun hc1 => ?_)
    (try replace hc1 := of_decide_eq_false hc1)
    refine vc_skip ?_
    refine vc_seq ?_
    refine vc_region ?_
    refine vl_val rfl (.some rfl) (val_move rfl) ?_
    refine vl_callV rfl rfl (.some rfl) Try.call28 rfl (fun w hw => oIntKey _ w) ?_
    refine vl_val rfl (.some rfl) (val_move rfl) ?_
    refine vl_callV rfl rfl (.some rfl) Try.call28 rfl (fun w hw => oIntKey _ w) ?_
    refine vl_val rfl (.some rfl) (val_lt rfl rfl) ?_
    refine vl_val rfl (.some rfl) (val_move rfl) ?_
    refine vl_val rfl (.some rfl) (val_move rfl) ?_
    refine vl_val rfl (.some rfl) (val_lt rfl rfl) ?_
    refine vl_val rfl (.some rfl) (val_beqt Try.underlying4 rfl rfl (ikey_lt h1 h2 h3 h4)) ?_
    refine vl_val rfl (.some rfl) (val_move rfl) ?_
    refine vl_on rfl rfl rfl rfl ?_
    refine vl_val rfl (.some rfl) (val_move rfl) ?_
    refine vl_on rfl rfl rfl rfl ?_
    refine vl_callV rfl rfl (.some rfl) Try.call17 rfl (fun w hw => oKey _ w) ?_
    refine vl_on rfl rfl rfl rfl ?_
    refine vl_val rfl (.some rfl) (val_move rfl) ?_
    refine vl_on rfl rfl rfl rfl ?_
    refine vl_callV rfl rfl (.some rfl) Try.call17 rfl (fun w hw => oKey _ w) ?_
    refine vl_on rfl rfl rfl rfl ?_
    refine vl_val rfl (.some rfl) (val_lt rfl rfl) ?_
    refine vl_on rfl rfl rfl rfl ?_
    refine vl_val rfl (.some rfl) (val_move rfl) ?_
    refine vl_on rfl rfl rfl rfl ?_
    refine vl_val rfl (.some rfl) (val_move rfl) ?_
    refine vl_on rfl rfl rfl rfl ?_
    refine vl_callV rfl rfl (.some rfl) Try.call9 rfl (fun w hw => oCmp _ _ w) ?_
    refine vl_on rfl rfl rfl rfl ?_
    refine vl_val rfl (.some rfl) (val_lt rfl rfl) ?_
    refine vl_on rfl rfl rfl rfl ?_
    refine vl_val rfl (.some rfl) (val_beqt Try.underlying4 rfl rfl (cmp_neg n m)) ?_
    refine vl_val rfl (.some rfl) (val_pick rfl rfl) ?_
    refine vl_val rfl (.some rfl) (val_move rfl) ?_
    refine vl_on rfl rfl rfl rfl ?_
    refine vl_callV rfl rfl (.some rfl) Try.call10 rfl (fun w hw => lives w) ?_
    refine vl_val rfl (.some rfl) (val_pick rfl rfl) ?_
    refine vl_val rfl (.some rfl) (val_assign rfl) ?_
    refine vl_nil ?_
    refine vc_ret ?_
    refine ⟨_, [], _, res1 Try.results7 rfl, .nil, ?_⟩
    rfl

end Go.Proofs.Ytpgopfidbmiifaa.K
