/- Walks of the program's functions, printed by a program of this session; Lean checks them. -/
import Derived.Test.YtpgopfidbmiifaaDoorFb
import Derived.Test.YtpgopfidbmiifaaDoorYfa
namespace Go.Proofs.YtpgopfidbmiifaaDoor.K
open Go Go.RowKit Go.Proofs
set_option linter.unusedVariables false
set_option linter.unusedSimpArgs false


set_option maxRecDepth 100000 in
theorem bLen64 (u : Nat) (hu : u < 18446744073709551616) (w : World) : FnV Tryd.prog 56 [.int .u64 u] (.int .i64 (lenN u : Nat)) w := by
  refine fn_enter Tryd.func56 rfl Tryd.ntmps56 rfl ?_
  refine vc_seq ?_
  refine vc_region ?_
  refine vl_val rfl (.some rfl) (val_assign rfl) ?_
  refine vl_nil ?_
  refine vc_seq ?_
  refine vc_seq ?_
  refine vc_region ?_
  refine vl_val rfl (.some rfl) (val_move rfl) ?_
  refine vl_val rfl (.some rfl) (val_ge rfl rfl) ?_
  refine vl_nil ?_
  refine vc_cond rfl (fun hc0 => ?_) (fun hc0 => ?_)
  · (try replace hc0 := of_decide_eq_true hc0)
    have e0 := lenN_shift (a := u) (c := 32) (by omega)
    refine vc_seq ?_
    refine vc_region ?_
    refine vl_val rfl (.some rfl) (val_move rfl) ?_
    refine vl_val rfl (.some rfl) (val_shr rfl rfl (by decide) (shrN (s := 32) (by decide))) ?_
    refine vl_val rfl (.some rfl) (val_assign rfl) ?_
    refine vl_nil ?_
    refine vc_region ?_
    refine vl_val rfl (.some rfl) (val_assign rfl) ?_
    refine vl_nil ?_
    refine vc_seq ?_
    refine vc_seq ?_
    refine vc_region ?_
    refine vl_val rfl (.some rfl) (val_move rfl) ?_
    refine vl_val rfl (.some rfl) (val_ge rfl rfl) ?_
    refine vl_nil ?_
    refine vc_cond rfl (fun hc1 => ?_) (fun hc1 => ?_)
    · (try replace hc1 := of_decide_eq_true hc1)
      first | have e1 := lenN_shift (a := u / 2 ^ 32) (c := 16) (by omega) | have e1 := lenN_shift (a := u) (c := 16) (by omega)
      refine vc_seq ?_
      refine vc_region ?_
      refine vl_val rfl (.some rfl) (val_move rfl) ?_
      refine vl_val rfl (.some rfl) (val_shr rfl rfl (by decide) (shrN (s := 16) (by decide))) ?_
      refine vl_val rfl (.some rfl) (val_assign rfl) ?_
      refine vl_nil ?_
      refine vc_region ?_
      refine vl_val rfl (.some rfl) (val_move rfl) ?_
      refine vl_val rfl (.some rfl) (val_add rfl rfl (by first | exact w_i64 (by omega) (by omega) | rfl)) ?_
      refine vl_val rfl (.some rfl) (val_assign rfl) ?_
      refine vl_nil ?_
      refine vc_seq ?_
      refine vc_seq ?_
      refine vc_region ?_
      refine vl_val rfl (.some rfl) (val_move rfl) ?_
      refine vl_val rfl (.some rfl) (val_ge rfl rfl) ?_
      refine vl_nil ?_
      refine vc_cond rfl (fun hc2 => ?_) (fun hc2 => ?_)
      · (try replace hc2 := of_decide_eq_true hc2)
        first | have e2 := lenN_shift (a := u / 2 ^ 32 / 2 ^ 16) (c := 8) (by omega) | have e2 := lenN_shift (a := u / 2 ^ 32) (c := 8) (by omega) | have e2 := lenN_shift (a := u / 2 ^ 16) (c := 8) (by omega) | have e2 := lenN_shift (a := u) (c := 8) (by omega)
        refine vc_seq ?_
        refine vc_region ?_
        refine vl_val rfl (.some rfl) (val_move rfl) ?_
        refine vl_val rfl (.some rfl) (val_shr rfl rfl (by decide) (shrN (s := 8) (by decide))) ?_
        refine vl_val rfl (.some rfl) (val_assign rfl) ?_
        refine vl_nil ?_
        refine vc_region ?_
        refine vl_val rfl (.some rfl) (val_move rfl) ?_
        refine vl_val rfl (.some rfl) (val_add rfl rfl (by first | exact w_i64 (by omega) (by omega) | rfl)) ?_
        refine vl_val rfl (.some rfl) (val_assign rfl) ?_
        refine vl_nil ?_
        refine vc_seq ?_
        refine vc_region ?_
        refine vl_val rfl (.some rfl) (val_move rfl) ?_
        refine vl_val rfl (.some rfl) (val_move rfl) ?_
        refine vl_val rfl (.some rfl) (val_convInt Tryd.runUnderlying22 Tryd.runUnderlying5 rfl (by first | exact w_u8 (by omega) (by omega) | rfl)) ?_
        refine vl_val rfl (.some rfl) (val_indexStr (s := lenTab) Tryd.runUnderlying9 (by kernel_rfl) rfl (by omega) (by show _ < ((256 : Nat) : Int); omega)) ?_
        refine vl_val rfl (.some rfl) (val_convInt Tryd.runUnderlying5 Tryd.runUnderlying3 rfl rfl) ?_
        refine vl_val rfl (.some rfl) (val_add rfl rfl rfl) ?_
        refine vl_val rfl (.some rfl) (val_assign rfl) ?_
        refine vl_nil ?_
        refine vc_ret ?_
        refine ⟨_, [], _, res1 Tryd.results56 rfl, .nil, ?_⟩
        show Value.int .i64 _ = Value.int .i64 _
        refine congrArg (Value.int .i64) ?_
        rw [len_end (by omega) (by omega) (by omega)]
        omega
      · (try replace hc2 := of_decide_eq_false hc2)
        refine vc_skip ?_
        refine vc_seq ?_
        refine vc_region ?_
        refine vl_val rfl (.some rfl) (val_move rfl) ?_
        refine vl_val rfl (.some rfl) (val_move rfl) ?_
        refine vl_val rfl (.some rfl) (val_convInt Tryd.runUnderlying22 Tryd.runUnderlying5 rfl (by first | exact w_u8 (by omega) (by omega) | rfl)) ?_
        refine vl_val rfl (.some rfl) (val_indexStr (s := lenTab) Tryd.runUnderlying9 (by kernel_rfl) rfl (by omega) (by show _ < ((256 : Nat) : Int); omega)) ?_
        refine vl_val rfl (.some rfl) (val_convInt Tryd.runUnderlying5 Tryd.runUnderlying3 rfl rfl) ?_
        refine vl_val rfl (.some rfl) (val_add rfl rfl rfl) ?_
        refine vl_val rfl (.some rfl) (val_assign rfl) ?_
        refine vl_nil ?_
        refine vc_ret ?_
        refine ⟨_, [], _, res1 Tryd.results56 rfl, .nil, ?_⟩
        show Value.int .i64 _ = Value.int .i64 _
        refine congrArg (Value.int .i64) ?_
        rw [len_end (by omega) (by omega) (by omega)]
        omega
    · (try replace hc1 := of_decide_eq_false hc1)
      refine vc_skip ?_
      refine vc_seq ?_
      refine vc_seq ?_
      refine vc_region ?_
      refine vl_val rfl (.some rfl) (val_move rfl) ?_
      refine vl_val rfl (.some rfl) (val_ge rfl rfl) ?_
      refine vl_nil ?_
      refine vc_cond rfl (fun hc2 => ?_) (fun hc2 => ?_)
      · (try replace hc2 := of_decide_eq_true hc2)
        first | have e2 := lenN_shift (a := u / 2 ^ 32 / 2 ^ 16) (c := 8) (by omega) | have e2 := lenN_shift (a := u / 2 ^ 32) (c := 8) (by omega) | have e2 := lenN_shift (a := u / 2 ^ 16) (c := 8) (by omega) | have e2 := lenN_shift (a := u) (c := 8) (by omega)
        refine vc_seq ?_
        refine vc_region ?_
        refine vl_val rfl (.some rfl) (val_move rfl) ?_
        refine vl_val rfl (.some rfl) (val_shr rfl rfl (by decide) (shrN (s := 8) (by decide))) ?_
        refine vl_val rfl (.some rfl) (val_assign rfl) ?_
        refine vl_nil ?_
        refine vc_region ?_
        refine vl_val rfl (.some rfl) (val_move rfl) ?_
        refine vl_val rfl (.some rfl) (val_add rfl rfl (by first | exact w_i64 (by omega) (by omega) | rfl)) ?_
        refine vl_val rfl (.some rfl) (val_assign rfl) ?_
        refine vl_nil ?_
        refine vc_seq ?_
        refine vc_region ?_
        refine vl_val rfl (.some rfl) (val_move rfl) ?_
        refine vl_val rfl (.some rfl) (val_move rfl) ?_
        refine vl_val rfl (.some rfl) (val_convInt Tryd.runUnderlying22 Tryd.runUnderlying5 rfl (by first | exact w_u8 (by omega) (by omega) | rfl)) ?_
        refine vl_val rfl (.some rfl) (val_indexStr (s := lenTab) Tryd.runUnderlying9 (by kernel_rfl) rfl (by omega) (by show _ < ((256 : Nat) : Int); omega)) ?_
        refine vl_val rfl (.some rfl) (val_convInt Tryd.runUnderlying5 Tryd.runUnderlying3 rfl rfl) ?_
        refine vl_val rfl (.some rfl) (val_add rfl rfl rfl) ?_
        refine vl_val rfl (.some rfl) (val_assign rfl) ?_
        refine vl_nil ?_
        refine vc_ret ?_
        refine ⟨_, [], _, res1 Tryd.results56 rfl, .nil, ?_⟩
        show Value.int .i64 _ = Value.int .i64 _
        refine congrArg (Value.int .i64) ?_
        rw [len_end (by omega) (by omega) (by omega)]
        omega
      · (try replace hc2 := of_decide_eq_false hc2)
        refine vc_skip ?_
        refine vc_seq ?_
        refine vc_region ?_
        refine vl_val rfl (.some rfl) (val_move rfl) ?_
        refine vl_val rfl (.some rfl) (val_move rfl) ?_
        refine vl_val rfl (.some rfl) (val_convInt Tryd.runUnderlying22 Tryd.runUnderlying5 rfl (by first | exact w_u8 (by omega) (by omega) | rfl)) ?_
        refine vl_val rfl (.some rfl) (val_indexStr (s := lenTab) Tryd.runUnderlying9 (by kernel_rfl) rfl (by omega) (by show _ < ((256 : Nat) : Int); omega)) ?_
        refine vl_val rfl (.some rfl) (val_convInt Tryd.runUnderlying5 Tryd.runUnderlying3 rfl rfl) ?_
        refine vl_val rfl (.some rfl) (val_add rfl rfl rfl) ?_
        refine vl_val rfl (.some rfl) (val_assign rfl) ?_
        refine vl_nil ?_
        refine vc_ret ?_
        refine ⟨_, [], _, res1 Tryd.results56 rfl, .nil, ?_⟩
        show Value.int .i64 _ = Value.int .i64 _
        refine congrArg (Value.int .i64) ?_
        rw [len_end (by omega) (by omega) (by omega)]
        omega
  · (try replace hc0 := of_decide_eq_false hc0)
    refine vc_skip ?_
    refine vc_seq ?_
    refine vc_seq ?_
    refine vc_region ?_
    refine vl_val rfl (.some rfl) (val_move rfl) ?_
    refine vl_val rfl (.some rfl) (val_ge rfl rfl) ?_
    refine vl_nil ?_
    refine vc_cond rfl (fun hc1 => ?_) (fun hc1 => ?_)
    · (try replace hc1 := of_decide_eq_true hc1)
      first | have e1 := lenN_shift (a := u / 2 ^ 32) (c := 16) (by omega) | have e1 := lenN_shift (a := u) (c := 16) (by omega)
      refine vc_seq ?_
      refine vc_region ?_
      refine vl_val rfl (.some rfl) (val_move rfl) ?_
      refine vl_val rfl (.some rfl) (val_shr rfl rfl (by decide) (shrN (s := 16) (by decide))) ?_
      refine vl_val rfl (.some rfl) (val_assign rfl) ?_
      refine vl_nil ?_
      refine vc_region ?_
      refine vl_val rfl (.some rfl) (val_move rfl) ?_
      refine vl_val rfl (.some rfl) (val_add rfl rfl (by first | exact w_i64 (by omega) (by omega) | rfl)) ?_
      refine vl_val rfl (.some rfl) (val_assign rfl) ?_
      refine vl_nil ?_
      refine vc_seq ?_
      refine vc_seq ?_
      refine vc_region ?_
      refine vl_val rfl (.some rfl) (val_move rfl) ?_
      refine vl_val rfl (.some rfl) (val_ge rfl rfl) ?_
      refine vl_nil ?_
      refine vc_cond rfl (fun hc2 => ?_) (fun hc2 => ?_)
      · (try replace hc2 := of_decide_eq_true hc2)
        first | have e2 := lenN_shift (a := u / 2 ^ 32 / 2 ^ 16) (c := 8) (by omega) | have e2 := lenN_shift (a := u / 2 ^ 32) (c := 8) (by omega) | have e2 := lenN_shift (a := u / 2 ^ 16) (c := 8) (by omega) | have e2 := lenN_shift (a := u) (c := 8) (by omega)
        refine vc_seq ?_
        refine vc_region ?_
        refine vl_val rfl (.some rfl) (val_move rfl) ?_
        refine vl_val rfl (.some rfl) (val_shr rfl rfl (by decide) (shrN (s := 8) (by decide))) ?_
        refine vl_val rfl (.some rfl) (val_assign rfl) ?_
        refine vl_nil ?_
        refine vc_region ?_
        refine vl_val rfl (.some rfl) (val_move rfl) ?_
        refine vl_val rfl (.some rfl) (val_add rfl rfl (by first | exact w_i64 (by omega) (by omega) | rfl)) ?_
        refine vl_val rfl (.some rfl) (val_assign rfl) ?_
        refine vl_nil ?_
        refine vc_seq ?_
        refine vc_region ?_
        refine vl_val rfl (.some rfl) (val_move rfl) ?_
        refine vl_val rfl (.some rfl) (val_move rfl) ?_
        refine vl_val rfl (.some rfl) (val_convInt Tryd.runUnderlying22 Tryd.runUnderlying5 rfl (by first | exact w_u8 (by omega) (by omega) | rfl)) ?_
        refine vl_val rfl (.some rfl) (val_indexStr (s := lenTab) Tryd.runUnderlying9 (by kernel_rfl) rfl (by omega) (by show _ < ((256 : Nat) : Int); omega)) ?_
        refine vl_val rfl (.some rfl) (val_convInt Tryd.runUnderlying5 Tryd.runUnderlying3 rfl rfl) ?_
        refine vl_val rfl (.some rfl) (val_add rfl rfl rfl) ?_
        refine vl_val rfl (.some rfl) (val_assign rfl) ?_
        refine vl_nil ?_
        refine vc_ret ?_
        refine ⟨_, [], _, res1 Tryd.results56 rfl, .nil, ?_⟩
        show Value.int .i64 _ = Value.int .i64 _
        refine congrArg (Value.int .i64) ?_
        rw [len_end (by omega) (by omega) (by omega)]
        omega
      · (try replace hc2 := of_decide_eq_false hc2)
        refine vc_skip ?_
        refine vc_seq ?_
        refine vc_region ?_
        refine vl_val rfl (.some rfl) (val_move rfl) ?_
        refine vl_val rfl (.some rfl) (val_move rfl) ?_
        refine vl_val rfl (.some rfl) (val_convInt Tryd.runUnderlying22 Tryd.runUnderlying5 rfl (by first | exact w_u8 (by omega) (by omega) | rfl)) ?_
        refine vl_val rfl (.some rfl) (val_indexStr (s := lenTab) Tryd.runUnderlying9 (by kernel_rfl) rfl (by omega) (by show _ < ((256 : Nat) : Int); omega)) ?_
        refine vl_val rfl (.some rfl) (val_convInt Tryd.runUnderlying5 Tryd.runUnderlying3 rfl rfl) ?_
        refine vl_val rfl (.some rfl) (val_add rfl rfl rfl) ?_
        refine vl_val rfl (.some rfl) (val_assign rfl) ?_
        refine vl_nil ?_
        refine vc_ret ?_
        refine ⟨_, [], _, res1 Tryd.results56 rfl, .nil, ?_⟩
        show Value.int .i64 _ = Value.int .i64 _
        refine congrArg (Value.int .i64) ?_
        rw [len_end (by omega) (by omega) (by omega)]
        omega
    · (try replace hc1 := of_decide_eq_false hc1)
      refine vc_skip ?_
      refine vc_seq ?_
      refine vc_seq ?_
      refine vc_region ?_
      refine vl_val rfl (.some rfl) (val_move rfl) ?_
      refine vl_val rfl (.some rfl) (val_ge rfl rfl) ?_
      refine vl_nil ?_
      refine vc_cond rfl (fun hc2 => ?_) (fun hc2 => ?_)
      · (try replace hc2 := of_decide_eq_true hc2)
        first | have e2 := lenN_shift (a := u / 2 ^ 32 / 2 ^ 16) (c := 8) (by omega) | have e2 := lenN_shift (a := u / 2 ^ 32) (c := 8) (by omega) | have e2 := lenN_shift (a := u / 2 ^ 16) (c := 8) (by omega) | have e2 := lenN_shift (a := u) (c := 8) (by omega)
        refine vc_seq ?_
        refine vc_region ?_
        refine vl_val rfl (.some rfl) (val_move rfl) ?_
        refine vl_val rfl (.some rfl) (val_shr rfl rfl (by decide) (shrN (s := 8) (by decide))) ?_
        refine vl_val rfl (.some rfl) (val_assign rfl) ?_
        refine vl_nil ?_
        refine vc_region ?_
        refine vl_val rfl (.some rfl) (val_move rfl) ?_
        refine vl_val rfl (.some rfl) (val_add rfl rfl (by first | exact w_i64 (by omega) (by omega) | rfl)) ?_
        refine vl_val rfl (.some rfl) (val_assign rfl) ?_
        refine vl_nil ?_
        refine vc_seq ?_
        refine vc_region ?_
        refine vl_val rfl (.some rfl) (val_move rfl) ?_
        refine vl_val rfl (.some rfl) (val_move rfl) ?_
        refine vl_val rfl (.some rfl) (val_convInt Tryd.runUnderlying22 Tryd.runUnderlying5 rfl (by first | exact w_u8 (by omega) (by omega) | rfl)) ?_
        refine vl_val rfl (.some rfl) (val_indexStr (s := lenTab) Tryd.runUnderlying9 (by kernel_rfl) rfl (by omega) (by show _ < ((256 : Nat) : Int); omega)) ?_
        refine vl_val rfl (.some rfl) (val_convInt Tryd.runUnderlying5 Tryd.runUnderlying3 rfl rfl) ?_
        refine vl_val rfl (.some rfl) (val_add rfl rfl rfl) ?_
        refine vl_val rfl (.some rfl) (val_assign rfl) ?_
        refine vl_nil ?_
        refine vc_ret ?_
        refine ⟨_, [], _, res1 Tryd.results56 rfl, .nil, ?_⟩
        show Value.int .i64 _ = Value.int .i64 _
        refine congrArg (Value.int .i64) ?_
        rw [len_end (by omega) (by omega) (by omega)]
        omega
      · (try replace hc2 := of_decide_eq_false hc2)
        refine vc_skip ?_
        refine vc_seq ?_
        refine vc_region ?_
        refine vl_val rfl (.some rfl) (val_move rfl) ?_
        refine vl_val rfl (.some rfl) (val_move rfl) ?_
        refine vl_val rfl (.some rfl) (val_convInt Tryd.runUnderlying22 Tryd.runUnderlying5 rfl (by first | exact w_u8 (by omega) (by omega) | rfl)) ?_
        refine vl_val rfl (.some rfl) (val_indexStr (s := lenTab) Tryd.runUnderlying9 (by kernel_rfl) rfl (by omega) (by show _ < ((256 : Nat) : Int); omega)) ?_
        refine vl_val rfl (.some rfl) (val_convInt Tryd.runUnderlying5 Tryd.runUnderlying3 rfl rfl) ?_
        refine vl_val rfl (.some rfl) (val_add rfl rfl rfl) ?_
        refine vl_val rfl (.some rfl) (val_assign rfl) ?_
        refine vl_nil ?_
        refine vc_ret ?_
        refine ⟨_, [], _, res1 Tryd.results56 rfl, .nil, ?_⟩
        show Value.int .i64 _ = Value.int .i64 _
        refine congrArg (Value.int .i64) ?_
        rw [len_end (by omega) (by omega) (by omega)]
        omega
set_option maxRecDepth 20000 in
theorem bLead64 (u : Nat) (hu : u < 18446744073709551616) (w : World) : FnV Tryd.prog 52 [.int .u64 u] (.int .i64 (64 - lenN u : Nat)) w := by
  have hl := lenN_le (a := u) (n := 64) hu
  refine fn_enter Tryd.func52 rfl Tryd.ntmps52 rfl ?_
  refine vc_seq ?_
  refine vc_region ?_
  refine vl_val rfl (.some rfl) (val_assign rfl) ?_
  refine vl_nil ?_
  refine vc_seq ?_
  refine vc_region ?_
  refine vl_val rfl (.some rfl) (val_move rfl) ?_
  refine vl_callV rfl rfl (.some rfl) Tryd.call56 rfl (fun w hw => bLen64 _ (by omega) w) ?_
  refine vl_val rfl (.some rfl) (val_sub rfl rfl (by first | exact w_i64 (by omega) (by omega) | rfl)) ?_
  refine vl_val rfl (.some rfl) (val_assign rfl) ?_
  refine vl_nil ?_
  refine vc_ret ?_
  refine ⟨_, [], _, res1 Tryd.results52 rfl, .nil, ?_⟩
  show Value.int .i64 _ = Value.int .i64 _
  refine congrArg (Value.int .i64) ?_
  omega
set_option maxRecDepth 20000 in
set_option maxHeartbeats 1000000 in
theorem bDiv64 (hi lo c : Nat) (hlt : hi < c) (hlo : lo < 18446744073709551616) (hc : c < 18446744073709551616) (w : World) : FnV Tryd.prog 47 [.int .u64 hi, .int .u64 lo, .int .u64 c] (.tuple #[.int .u64 ((hi * 18446744073709551616 + lo) / c : Nat), .int .u64 ((hi * 18446744073709551616 + lo) % c : Nat)]) w := by
  obtain ⟨s, hs⟩ : ∃ s, 64 - lenN c = s := ⟨_, rfl⟩
  obtain ⟨hs63, hn1', hn2'⟩ := norm64 (show 0 < c by omega) hc
  rw [hs] at hs63 hn1' hn2'
  obtain ⟨y1, y0, U, n1, n0, a, b, hY, ha, hb, hab, hL, hy1, hy1', hy0, hU, hn1, hn0, hbs, hdiv, hmod⟩ := div_parts hlt hlo hn1' hn2' hs63
  refine fn_enter Tryd.func47 rfl Tryd.ntmps47 rfl ?_
  refine vc_seq ?_
  refine vc_region ?_
  refine vl_val rfl (.some rfl) (val_assign rfl) ?_
  refine vl_val rfl (.some rfl) (val_assign rfl) ?_
  refine vl_nil ?_
  refine vc_seq ?_
  refine vc_seq ?_
  refine vc_region ?_
  refine vl_val rfl (.some rfl) (val_move rfl) ?_
  refine vl_val rfl (.some rfl) (val_eq rfl rfl) ?_
  refine vl_nil ?_
  refine vc_cond rfl (fun hc0 => False.elim (by (try replace hc0 := of_decide_eq_true hc0); omega)) (fun hc0 => ?_)
  (try replace hc0 := of_decide_eq_false hc0)
  refine vc_skip ?_
  refine vc_seq ?_
  refine vc_seq ?_
  refine vc_region ?_
  refine vl_val rfl (.some rfl) (val_move rfl) ?_
  refine vl_val rfl (.some rfl) (val_move rfl) ?_
  refine vl_val rfl (.some rfl) (val_le rfl rfl) ?_
  refine vl_nil ?_
  refine vc_cond rfl (fun hc1 => False.elim (by (try replace hc1 := of_decide_eq_true hc1); omega)) (fun hc1 => ?_)
  (try replace hc1 := of_decide_eq_false hc1)
  refine vc_skip ?_
  refine vc_seq ?_
  refine vc_seq ?_
  refine vc_region ?_
  refine vl_val rfl (.some rfl) (val_move rfl) ?_
  refine vl_val rfl (.some rfl) (val_eq rfl rfl) ?_
  refine vl_nil ?_
  refine vc_cond rfl (fun hc2 => ?_) (fun hc2 => ?_)
  · (try replace hc2 := of_decide_eq_true hc2)
    obtain rfl : hi = 0 := by omega
    refine vc_seq ?_
    refine vc_draws [0, 1, 2, 3, 4, 5, 6, 7] [] [0, 1, 2, 3, 4, 5, 6, 7] rfl (by kernel_rfl) (fun _ _ _ h => h) ?_
    refine vd_val rfl rfl rfl (.some rfl) (val_move rfl) ?_
    refine vd_val rfl rfl rfl (.some rfl) (val_move rfl) ?_
    refine vd_val rfl rfl rfl (.some rfl) (val_quo rfl rfl (by omega) (quoN hlo)) ?_
    refine vd_val rfl rfl rfl (.some rfl) (val_move rfl) ?_
    refine vd_val rfl rfl rfl (.some rfl) (val_move rfl) ?_
    refine vd_val rfl rfl rfl (.some rfl) (val_rem rfl rfl (by omega) (remN lo c)) ?_
    refine vd_val rfl rfl rfl (.some rfl) (val_assign rfl) ?_
    refine vd_val rfl rfl rfl (.some rfl) (val_assign rfl) ?_
    refine vd_nil ?_
    refine vc_ret ?_
    refine ⟨_, [], _, res2 Tryd.results47 rfl rfl, .nil, ?_⟩
    show Value.tuple _ = Value.tuple _
    rw [Nat.zero_mul, Nat.zero_add]
  · (try replace hc2 := of_decide_eq_false hc2)
    refine vc_skip ?_
    refine vc_seq ?_
    refine vc_region ?_
    refine vl_val rfl (.some rfl) (val_move rfl) ?_
    refine vl_callV rfl rfl (.some rfl) Tryd.call52 rfl (fun w hw => bLead64 c hc w) ?_
    rw [hs]
    refine vl_val rfl (.some rfl) (val_convInt Tryd.runUnderlying3 Tryd.runUnderlying35 rfl (wN (n := s) (by omega))) ?_
    refine vl_val rfl (.some rfl) (val_assign rfl) ?_
    refine vl_nil ?_
    refine vc_seq ?_
    refine vc_region ?_
    refine vl_val rfl (.some rfl) (val_move rfl) ?_
    refine vl_val rfl (.some rfl) (val_move rfl) ?_
    refine vl_val rfl (.some rfl) (val_shl rfl rfl (by omega) ((shlW (a := c) (s := s) (by omega)).trans (by rw [Nat.mod_eq_of_lt hn2', hY]))) ?_
    refine vl_val rfl (.some rfl) (val_assign rfl) ?_
    refine vl_nil ?_
    refine vc_seq ?_
    refine vc_region ?_
    refine vl_val rfl (.some rfl) (val_move rfl) ?_
    refine vl_val rfl (.some rfl) (val_shr rfl rfl (by decide) (show _ = ((y1 : Nat) : Int) by rw [shr_lit 4294967296 rfl (by decide)]; omega)) ?_
    refine vl_val rfl (.some rfl) (val_assign rfl) ?_
    refine vl_nil ?_
    refine vc_seq ?_
    refine vc_region ?_
    refine vl_val rfl (.some rfl) (val_move rfl) ?_
    refine vl_val rfl (.some rfl) (val_and rfl rfl (show _ = ((y0 : Nat) : Int) by rw [and_mask 32 4294967296 rfl (by decide) (by decide) (by decide) (by omega) (by simp [IntKind.bits]; omega)]; omega)) ?_
    refine vl_val rfl (.some rfl) (val_assign rfl) ?_
    refine vl_nil ?_
    refine vc_seq ?_
    refine vc_region ?_
    refine vl_val rfl (.some rfl) (val_move rfl) ?_
    refine vl_val rfl (.some rfl) (val_move rfl) ?_
    refine vl_val rfl (.some rfl) (val_shl rfl rfl (by omega) ((shlW (a := hi) (s := s) (by omega)).trans (show _ = ((a : Nat) : Int) by rw [ha, Nat.mod_eq_of_lt (by omega)]))) ?_
    refine vl_val rfl (.some rfl) (val_move rfl) ?_
    refine vl_val rfl (.some rfl) (val_move rfl) ?_
    refine vl_val rfl (.some rfl) (val_sub rfl rfl (w_u64 (by omega) (by omega))) ?_
    refine vl_val rfl (.some rfl) (val_shr rfl rfl (by omega) ((shrUp (lo := lo) hs63).trans (show _ = ((b : Nat) : Int) by rw [hb]))) ?_
    refine vl_val rfl (.some rfl) (val_or rfl rfl (show _ = ((U : Nat) : Int) by have h := or_apart (k := .u64) rfl (a := b) (y := hi) (s := s) hbs (by show _ < 2 ^ 64; omega); rw [ha] at h; rw [← hab, Nat.add_comm a b, ← h, BitVec.or_comm])) ?_
    refine vl_val rfl (.some rfl) (val_assign rfl) ?_
    refine vl_nil ?_
    refine vc_seq ?_
    refine vc_region ?_
    refine vl_val rfl (.some rfl) (val_move rfl) ?_
    refine vl_val rfl (.some rfl) (val_move rfl) ?_
    refine vl_val rfl (.some rfl) (val_shl rfl rfl (by omega) ((shlW (a := lo) (s := s) (by omega)).trans (show _ = ((n1 * 4294967296 + n0 : Nat) : Int) by rw [hL]))) ?_
    refine vl_val rfl (.some rfl) (val_assign rfl) ?_
    refine vl_nil ?_
    refine vc_seq ?_
    refine vc_region ?_
    refine vl_val rfl (.some rfl) (val_move rfl) ?_
    refine vl_val rfl (.some rfl) (val_shr rfl rfl (by decide) (show _ = ((n1 : Nat) : Int) by rw [shr_lit 4294967296 rfl (by decide)]; omega)) ?_
    refine vl_val rfl (.some rfl) (val_assign rfl) ?_
    refine vl_nil ?_
    refine vc_seq ?_
    refine vc_region ?_
    refine vl_val rfl (.some rfl) (val_move rfl) ?_
    refine vl_val rfl (.some rfl) (val_and rfl rfl (show _ = ((n0 : Nat) : Int) by rw [and_mask 32 4294967296 rfl (by decide) (by decide) (by decide) (by omega) (by simp [IntKind.bits]; omega)]; omega)) ?_
    refine vl_val rfl (.some rfl) (val_assign rfl) ?_
    refine vl_nil ?_
    refine vc_seq ?_
    refine vc_region ?_
    refine vl_val rfl (.some rfl) (val_move rfl) ?_
    refine vl_val rfl (.some rfl) (val_move rfl) ?_
    refine vl_val rfl (.some rfl) (val_quo rfl rfl (by omega) (quoN (a := U) (b := y1) (by omega))) ?_
    refine vl_val rfl (.some rfl) (val_assign rfl) ?_
    refine vl_nil ?_
    refine vc_seq ?_
    refine vc_region ?_
    refine vl_val rfl (.some rfl) (val_move rfl) ?_
    refine vl_val rfl (.some rfl) (val_move rfl) ?_
    refine vl_val rfl (.some rfl) (val_move rfl) ?_
    refine vl_val rfl (.some rfl) (val_mul rfl rfl (mulN (a := U / y1) (b := y1) (by have := Nat.div_mul_le_self U y1; omega))) ?_
    refine vl_val rfl (.some rfl) (val_sub rfl rfl ((subN (a := U) (b := U / y1 * y1) (Nat.div_mul_le_self U y1) (by omega)).trans (show _ = ((U % y1 : Nat) : Int) by have := Nat.div_add_mod U y1; rw [Nat.mul_comm] at this; congr 1; omega))) ?_
    refine vl_val rfl (.some rfl) (val_assign rfl) ?_
    refine vl_nil ?_
    refine vc_cut (fun E H => ∃ E0 H0 F, Env.le E0 E ∧ Sub H0 H F ∧ (fun E H => ∃ qa : Nat, qa = (U * 4294967296 + n1) / (y1 * 4294967296 + y0) ∧ E = [(2, .int .u64 (y1 * 4294967296 + y0 : Nat)), (8, .int .u64 (s : Nat)), (9, .int .u64 (y1 : Nat)), (10, .int .u64 (y0 : Nat)), (11, .int .u64 (U : Nat)), (13, .int .u64 (n1 : Nat)), (14, .int .u64 (n0 : Nat)), (15, .int .u64 (qa : Nat))] ∧ H = []) E0 H0) ?_ (fun E H h => ?_)
    ·
      refine vc_block ?_
      refine vc_loopw (fun k E H => ∃ q1 rh : Nat, Guess y1 y0 U n1 q1 rh ∧ rh < 4294967296 ∧ q1 = k ∧ E = [(2, .int .u64 (y1 * 4294967296 + y0 : Nat)), (8, .int .u64 (s : Nat)), (9, .int .u64 (y1 : Nat)), (10, .int .u64 (y0 : Nat)), (11, .int .u64 (U : Nat)), (13, .int .u64 (n1 : Nat)), (14, .int .u64 (n0 : Nat)), (15, .int .u64 (q1 : Nat)), (16, .int .u64 (rh : Nat))] ∧ H = []) (U / y1) ⟨_, _, _, ⟨U / y1, U % y1, guess_first hy1 hy0 hU hn1, by have := Nat.mod_lt U (show 0 < y1 by omega); omega, rfl, rfl, rfl⟩, (by repeat (first | exact trivial | refine ⟨rfl, ?_⟩ | refine ⟨le_item rfl (by first | rfl | (congr 1; omega) | (simp; done) | (simp; omega)), ?_⟩)), (by repeat (first | exact .nil | (apply Sub.cons; · repeat (first | exact .head | apply Take.tail))))⟩ ?_
      intro k E H hI
      obtain ⟨q1, rh, hg, hrh, rfl, rfl, rfl⟩ := hI
      refine vc_seq ?_
      refine vc_seq ?_
      refine vc_region ?_
      refine vl_val rfl (.some rfl) (val_move rfl) ?_
      refine vl_val rfl (.some rfl) (val_ge rfl rfl) ?_
      refine vl_val rfl (.some rfl) (val_move rfl) ?_
      refine vl_split (t := 69) rfl (fun hg69 => ?_) (fun hg69 => ?_)
      · (try replace hg69 := of_decide_eq_true hg69)
        have hyes : 4294967296 ≤ q1 ∨ rh * 4294967296 + n1 < q1 * y0 := .inl (by omega)
        obtain ⟨hq0, hg'⟩ := guess_down hy1 hU hn1 hg hyes
        have hqb := hg.2.2
        refine vl_off rfl rfl rfl rfl (.some rfl) ?_
        refine vl_off rfl rfl rfl rfl (.some rfl) ?_
        refine vl_off rfl rfl rfl rfl (.some rfl) ?_
        refine vl_off rfl rfl rfl rfl (.some rfl) ?_
        refine vl_off rfl rfl rfl rfl (.some rfl) ?_
        refine vl_off rfl rfl rfl rfl (.some rfl) ?_
        refine vl_off rfl rfl rfl rfl (.some rfl) ?_
        refine vl_off rfl rfl rfl rfl (.some rfl) ?_
        refine vl_val rfl (.some rfl) (val_pick rfl rfl) ?_
        refine vl_nil ?_
        refine vc_cond rfl (fun _ => ?_) (fun h => by cases h)
        refine vc_skip ?_
        refine vc_block ?_
        refine vc_seq ?_
        refine vc_region ?_
        refine vl_val rfl (.some rfl) (val_move rfl) ?_
        refine vl_val rfl (.some rfl) (val_sub rfl rfl (subN (a := q1) (b := 1) (by omega) (by omega))) ?_
        refine vl_val rfl (.some rfl) (val_assign rfl) ?_
        refine vl_nil ?_
        refine vc_seq ?_
        refine vc_region ?_
        refine vl_val rfl (.some rfl) (val_move rfl) ?_
        refine vl_val rfl (.some rfl) (val_move rfl) ?_
        refine vl_val rfl (.some rfl) (val_add rfl rfl (addN (a := rh) (b := y1) (by omega))) ?_
        refine vl_val rfl (.some rfl) (val_assign rfl) ?_
        refine vl_nil ?_
        refine vc_seq ?_
        refine vc_region ?_
        refine vl_val rfl (.some rfl) (val_move rfl) ?_
        refine vl_val rfl (.some rfl) (val_ge rfl rfl) ?_
        refine vl_nil ?_
        refine vc_cond rfl (fun hc4 => ?_) (fun hc4 => ?_)
        · (try replace hc4 := of_decide_eq_true hc4)
          refine vc_exit ?_
          exact ⟨_, _, _, (by repeat (first | exact trivial | refine ⟨rfl, ?_⟩ | refine ⟨le_item rfl (by first | rfl | (congr 1; omega) | (simp; done) | (simp; omega)), ?_⟩)), (by repeat (first | exact .nil | (apply Sub.cons; · repeat (first | exact .head | apply Take.tail)))), ⟨_, (by first | exact guess_rest hy1 hy0 hg' (by omega) (by omega) | exact guess_done (by omega) hg (by omega)), rfl, rfl⟩⟩
        · (try replace hc4 := of_decide_eq_false hc4)
          refine vc_skip ?_
          exact ⟨q1 - 1, _, _, _, by omega, (by repeat (first | exact trivial | refine ⟨rfl, ?_⟩ | refine ⟨le_item rfl (by first | rfl | (congr 1; omega) | (simp; done) | (simp; omega)), ?_⟩)), (by repeat (first | exact .nil | (apply Sub.cons; · repeat (first | exact .head | apply Take.tail)))), ⟨q1 - 1, rh + y1, hg', by omega, rfl, rfl, rfl⟩⟩
      · (try replace hg69 := of_decide_eq_false hg69)
        refine vl_on rfl rfl rfl rfl ?_
        refine vl_val rfl (.some rfl) (val_move rfl) ?_
        refine vl_on rfl rfl rfl rfl ?_
        refine vl_val rfl (.some rfl) (val_move rfl) ?_
        refine vl_on rfl rfl rfl rfl ?_
        refine vl_val rfl (.some rfl) (val_mul rfl rfl (mulN (a := q1) (b := y0) (by have := Nat.mul_le_mul (show q1 ≤ 4294967295 by omega) (show y0 ≤ 4294967295 by omega); omega))) ?_
        refine vl_on rfl rfl rfl rfl ?_
        refine vl_val rfl (.some rfl) (val_move rfl) ?_
        refine vl_on rfl rfl rfl rfl ?_
        refine vl_val rfl (.some rfl) (val_mul rfl rfl (by first | exact w_u64 (by omega) (by omega) | rfl)) ?_
        refine vl_on rfl rfl rfl rfl ?_
        refine vl_val rfl (.some rfl) (val_move rfl) ?_
        refine vl_on rfl rfl rfl rfl ?_
        refine vl_val rfl (.some rfl) (val_add rfl rfl (by first | exact w_u64 (by omega) (by omega) | rfl)) ?_
        refine vl_on rfl rfl rfl rfl ?_
        refine vl_val rfl (.some rfl) (val_gt rfl rfl) ?_
        refine vl_val rfl (.some rfl) (val_pick rfl rfl) ?_
        refine vl_nil ?_
        refine vc_cond rfl (fun hc3 => ?_) (fun hc3 => ?_)
        · (try replace hc3 := of_decide_eq_true hc3)
          have hyes : 4294967296 ≤ q1 ∨ rh * 4294967296 + n1 < q1 * y0 := .inr (by omega)
          obtain ⟨hq0, hg'⟩ := guess_down hy1 hU hn1 hg hyes
          have hqb := hg.2.2
          refine vc_skip ?_
          refine vc_block ?_
          refine vc_seq ?_
          refine vc_region ?_
          refine vl_val rfl (.some rfl) (val_move rfl) ?_
          refine vl_val rfl (.some rfl) (val_sub rfl rfl (subN (a := q1) (b := 1) (by omega) (by omega))) ?_
          refine vl_val rfl (.some rfl) (val_assign rfl) ?_
          refine vl_nil ?_
          refine vc_seq ?_
          refine vc_region ?_
          refine vl_val rfl (.some rfl) (val_move rfl) ?_
          refine vl_val rfl (.some rfl) (val_move rfl) ?_
          refine vl_val rfl (.some rfl) (val_add rfl rfl (addN (a := rh) (b := y1) (by omega))) ?_
          refine vl_val rfl (.some rfl) (val_assign rfl) ?_
          refine vl_nil ?_
          refine vc_seq ?_
          refine vc_region ?_
          refine vl_val rfl (.some rfl) (val_move rfl) ?_
          refine vl_val rfl (.some rfl) (val_ge rfl rfl) ?_
          refine vl_nil ?_
          refine vc_cond rfl (fun hc4 => ?_) (fun hc4 => ?_)
          · (try replace hc4 := of_decide_eq_true hc4)
            refine vc_exit ?_
            exact ⟨_, _, _, (by repeat (first | exact trivial | refine ⟨rfl, ?_⟩ | refine ⟨le_item rfl (by first | rfl | (congr 1; omega) | (simp; done) | (simp; omega)), ?_⟩)), (by repeat (first | exact .nil | (apply Sub.cons; · repeat (first | exact .head | apply Take.tail)))), ⟨_, (by first | exact guess_rest hy1 hy0 hg' (by omega) (by omega) | exact guess_done (by omega) hg (by omega)), rfl, rfl⟩⟩
          · (try replace hc4 := of_decide_eq_false hc4)
            refine vc_skip ?_
            exact ⟨q1 - 1, _, _, _, by omega, (by repeat (first | exact trivial | refine ⟨rfl, ?_⟩ | refine ⟨le_item rfl (by first | rfl | (congr 1; omega) | (simp; done) | (simp; omega)), ?_⟩)), (by repeat (first | exact .nil | (apply Sub.cons; · repeat (first | exact .head | apply Take.tail)))), ⟨q1 - 1, rh + y1, hg', by omega, rfl, rfl, rfl⟩⟩
        · (try replace hc3 := of_decide_eq_false hc3)
          refine vc_exit ?_
          exact ⟨_, _, _, (by repeat (first | exact trivial | refine ⟨rfl, ?_⟩ | refine ⟨le_item rfl (by first | rfl | (congr 1; omega) | (simp; done) | (simp; omega)), ?_⟩)), (by repeat (first | exact .nil | (apply Sub.cons; · repeat (first | exact .head | apply Take.tail)))), ⟨_, (by first | exact guess_rest hy1 hy0 hg' (by omega) (by omega) | exact guess_done (by omega) hg (by omega)), rfl, rfl⟩⟩
    · obtain ⟨E0, H0, F, hE0, hH0, hJ⟩ := h
      obtain ⟨qa, hqa, rfl, rfl⟩ := hJ
      have hqd := digit_lt hU hn1
      rw [← hqa] at hqd
      obtain ⟨V, hVe⟩ : ∃ V, (U * 4294967296 + n1) % (y1 * 4294967296 + y0) = V := ⟨_, rfl⟩
      have hV : V < y1 * 4294967296 + y0 := by rw [← hVe]; exact Nat.mod_lt _ (by omega)
      have hVd := Nat.div_le_self V y1
      refine vc_weak hE0 hH0 ?_
      refine vc_seq ?_
      refine vc_region ?_
      refine vl_val rfl (.some rfl) (val_move rfl) ?_
      refine vl_val rfl (.some rfl) (val_mul rfl rfl (mulW U 4294967296)) ?_
      refine vl_val rfl (.some rfl) (val_move rfl) ?_
      refine vl_val rfl (.some rfl) (val_add rfl rfl (addW _ n1)) ?_
      refine vl_val rfl (.some rfl) (val_move rfl) ?_
      refine vl_val rfl (.some rfl) (val_move rfl) ?_
      refine vl_val rfl (.some rfl) (val_mul rfl rfl (mulW qa (y1 * 4294967296 + y0))) ?_
      refine vl_val rfl (.some rfl) (val_sub rfl rfl ((un21 (U := U) (n1 := n1) (Y := y1 * 4294967296 + y0) hqa (by omega) (by omega)).trans (show _ = ((V : Nat) : Int) by rw [hVe]))) ?_
      refine vl_val rfl (.some rfl) (val_assign rfl) ?_
      refine vl_nil ?_
      refine vc_seq ?_
      refine vc_region ?_
      refine vl_val rfl (.some rfl) (val_move rfl) ?_
      refine vl_val rfl (.some rfl) (val_move rfl) ?_
      refine vl_val rfl (.some rfl) (val_quo rfl rfl (by omega) (quoN (a := V) (b := y1) (by omega))) ?_
      refine vl_val rfl (.some rfl) (val_assign rfl) ?_
      refine vl_nil ?_
      refine vc_seq ?_
      refine vc_region ?_
      refine vl_val rfl (.some rfl) (val_move rfl) ?_
      refine vl_val rfl (.some rfl) (val_move rfl) ?_
      refine vl_val rfl (.some rfl) (val_move rfl) ?_
      refine vl_val rfl (.some rfl) (val_mul rfl rfl (mulN (a := V / y1) (b := y1) (by have := Nat.div_mul_le_self V y1; omega))) ?_
      refine vl_val rfl (.some rfl) (val_sub rfl rfl ((subN (a := V) (b := V / y1 * y1) (Nat.div_mul_le_self V y1) (by omega)).trans (show _ = ((V % y1 : Nat) : Int) by have := Nat.div_add_mod V y1; rw [Nat.mul_comm] at this; congr 1; omega))) ?_
      refine vl_val rfl (.some rfl) (val_assign rfl) ?_
      refine vl_nil ?_
      refine vc_cut (fun E H => ∃ E0 H0 F, Env.le E0 E ∧ Sub H0 H F ∧ (fun E H => ∃ qb : Nat, qb = (V * 4294967296 + n0) / (y1 * 4294967296 + y0) ∧ E = [(2, .int .u64 (y1 * 4294967296 + y0 : Nat)), (8, .int .u64 (s : Nat)), (9, .int .u64 (y1 : Nat)), (10, .int .u64 (y0 : Nat)), (11, .int .u64 (U : Nat)), (13, .int .u64 (n1 : Nat)), (14, .int .u64 (n0 : Nat)), (15, .int .u64 (qa : Nat)), (17, .int .u64 (V : Nat)), (18, .int .u64 (qb : Nat))] ∧ H = []) E0 H0) ?_ (fun E H h => ?_)
      ·
        refine vc_block ?_
        refine vc_loopw (fun k E H => ∃ q1 rh : Nat, Guess y1 y0 V n0 q1 rh ∧ rh < 4294967296 ∧ q1 = k ∧ E = [(2, .int .u64 (y1 * 4294967296 + y0 : Nat)), (8, .int .u64 (s : Nat)), (9, .int .u64 (y1 : Nat)), (10, .int .u64 (y0 : Nat)), (11, .int .u64 (U : Nat)), (13, .int .u64 (n1 : Nat)), (14, .int .u64 (n0 : Nat)), (15, .int .u64 (qa : Nat)), (17, .int .u64 (V : Nat)), (18, .int .u64 (q1 : Nat)), (16, .int .u64 (rh : Nat))] ∧ H = []) (V / y1) ⟨_, _, _, ⟨V / y1, V % y1, guess_first hy1 hy0 hV hn0, by have := Nat.mod_lt V (show 0 < y1 by omega); omega, rfl, rfl, rfl⟩, (by repeat (first | exact trivial | refine ⟨rfl, ?_⟩ | refine ⟨le_item rfl (by first | rfl | (congr 1; omega) | (simp; done) | (simp; omega)), ?_⟩)), (by repeat (first | exact .nil | (apply Sub.cons; · repeat (first | exact .head | apply Take.tail))))⟩ ?_
        intro k E H hI
        obtain ⟨q1, rh, hg, hrh, rfl, rfl, rfl⟩ := hI
        refine vc_seq ?_
        refine vc_seq ?_
        refine vc_region ?_
        refine vl_val rfl (.some rfl) (val_move rfl) ?_
        refine vl_val rfl (.some rfl) (val_ge rfl rfl) ?_
        refine vl_val rfl (.some rfl) (val_move rfl) ?_
        refine vl_split (t := 104) rfl (fun hg104 => ?_) (fun hg104 => ?_)
        · (try replace hg104 := of_decide_eq_true hg104)
          have hyes : 4294967296 ≤ q1 ∨ rh * 4294967296 + n0 < q1 * y0 := .inl (by omega)
          obtain ⟨hq0, hg'⟩ := guess_down hy1 hV hn0 hg hyes
          have hqb := hg.2.2
          refine vl_off rfl rfl rfl rfl (.some rfl) ?_
          refine vl_off rfl rfl rfl rfl (.some rfl) ?_
          refine vl_off rfl rfl rfl rfl (.some rfl) ?_
          refine vl_off rfl rfl rfl rfl (.some rfl) ?_
          refine vl_off rfl rfl rfl rfl (.some rfl) ?_
          refine vl_off rfl rfl rfl rfl (.some rfl) ?_
          refine vl_off rfl rfl rfl rfl (.some rfl) ?_
          refine vl_off rfl rfl rfl rfl (.some rfl) ?_
          refine vl_val rfl (.some rfl) (val_pick rfl rfl) ?_
          refine vl_nil ?_
          refine vc_cond rfl (fun _ => ?_) (fun h => by cases h)
          refine vc_skip ?_
          refine vc_block ?_
          refine vc_seq ?_
          refine vc_region ?_
          refine vl_val rfl (.some rfl) (val_move rfl) ?_
          refine vl_val rfl (.some rfl) (val_sub rfl rfl (subN (a := q1) (b := 1) (by omega) (by omega))) ?_
          refine vl_val rfl (.some rfl) (val_assign rfl) ?_
          refine vl_nil ?_
          refine vc_seq ?_
          refine vc_region ?_
          refine vl_val rfl (.some rfl) (val_move rfl) ?_
          refine vl_val rfl (.some rfl) (val_move rfl) ?_
          refine vl_val rfl (.some rfl) (val_add rfl rfl (addN (a := rh) (b := y1) (by omega))) ?_
          refine vl_val rfl (.some rfl) (val_assign rfl) ?_
          refine vl_nil ?_
          refine vc_seq ?_
          refine vc_region ?_
          refine vl_val rfl (.some rfl) (val_move rfl) ?_
          refine vl_val rfl (.some rfl) (val_ge rfl rfl) ?_
          refine vl_nil ?_
          refine vc_cond rfl (fun hc6 => ?_) (fun hc6 => ?_)
          · (try replace hc6 := of_decide_eq_true hc6)
            refine vc_exit ?_
            exact ⟨_, _, _, (by repeat (first | exact trivial | refine ⟨rfl, ?_⟩ | refine ⟨le_item rfl (by first | rfl | (congr 1; omega) | (simp; done) | (simp; omega)), ?_⟩)), (by repeat (first | exact .nil | (apply Sub.cons; · repeat (first | exact .head | apply Take.tail)))), ⟨_, (by first | exact guess_rest hy1 hy0 hg' (by omega) (by omega) | exact guess_done (by omega) hg (by omega)), rfl, rfl⟩⟩
          · (try replace hc6 := of_decide_eq_false hc6)
            refine vc_skip ?_
            exact ⟨q1 - 1, _, _, _, by omega, (by repeat (first | exact trivial | refine ⟨rfl, ?_⟩ | refine ⟨le_item rfl (by first | rfl | (congr 1; omega) | (simp; done) | (simp; omega)), ?_⟩)), (by repeat (first | exact .nil | (apply Sub.cons; · repeat (first | exact .head | apply Take.tail)))), ⟨q1 - 1, rh + y1, hg', by omega, rfl, rfl, rfl⟩⟩
        · (try replace hg104 := of_decide_eq_false hg104)
          refine vl_on rfl rfl rfl rfl ?_
          refine vl_val rfl (.some rfl) (val_move rfl) ?_
          refine vl_on rfl rfl rfl rfl ?_
          refine vl_val rfl (.some rfl) (val_move rfl) ?_
          refine vl_on rfl rfl rfl rfl ?_
          refine vl_val rfl (.some rfl) (val_mul rfl rfl (mulN (a := q1) (b := y0) (by have := Nat.mul_le_mul (show q1 ≤ 4294967295 by omega) (show y0 ≤ 4294967295 by omega); omega))) ?_
          refine vl_on rfl rfl rfl rfl ?_
          refine vl_val rfl (.some rfl) (val_move rfl) ?_
          refine vl_on rfl rfl rfl rfl ?_
          refine vl_val rfl (.some rfl) (val_mul rfl rfl (by first | exact w_u64 (by omega) (by omega) | rfl)) ?_
          refine vl_on rfl rfl rfl rfl ?_
          refine vl_val rfl (.some rfl) (val_move rfl) ?_
          refine vl_on rfl rfl rfl rfl ?_
          refine vl_val rfl (.some rfl) (val_add rfl rfl (by first | exact w_u64 (by omega) (by omega) | rfl)) ?_
          refine vl_on rfl rfl rfl rfl ?_
          refine vl_val rfl (.some rfl) (val_gt rfl rfl) ?_
          refine vl_val rfl (.some rfl) (val_pick rfl rfl) ?_
          refine vl_nil ?_
          refine vc_cond rfl (fun hc5 => ?_) (fun hc5 => ?_)
          · (try replace hc5 := of_decide_eq_true hc5)
            have hyes : 4294967296 ≤ q1 ∨ rh * 4294967296 + n0 < q1 * y0 := .inr (by omega)
            obtain ⟨hq0, hg'⟩ := guess_down hy1 hV hn0 hg hyes
            have hqb := hg.2.2
            refine vc_skip ?_
            refine vc_block ?_
            refine vc_seq ?_
            refine vc_region ?_
            refine vl_val rfl (.some rfl) (val_move rfl) ?_
            refine vl_val rfl (.some rfl) (val_sub rfl rfl (subN (a := q1) (b := 1) (by omega) (by omega))) ?_
            refine vl_val rfl (.some rfl) (val_assign rfl) ?_
            refine vl_nil ?_
            refine vc_seq ?_
            refine vc_region ?_
            refine vl_val rfl (.some rfl) (val_move rfl) ?_
            refine vl_val rfl (.some rfl) (val_move rfl) ?_
            refine vl_val rfl (.some rfl) (val_add rfl rfl (addN (a := rh) (b := y1) (by omega))) ?_
            refine vl_val rfl (.some rfl) (val_assign rfl) ?_
            refine vl_nil ?_
            refine vc_seq ?_
            refine vc_region ?_
            refine vl_val rfl (.some rfl) (val_move rfl) ?_
            refine vl_val rfl (.some rfl) (val_ge rfl rfl) ?_
            refine vl_nil ?_
            refine vc_cond rfl (fun hc6 => ?_) (fun hc6 => ?_)
            · (try replace hc6 := of_decide_eq_true hc6)
              refine vc_exit ?_
              exact ⟨_, _, _, (by repeat (first | exact trivial | refine ⟨rfl, ?_⟩ | refine ⟨le_item rfl (by first | rfl | (congr 1; omega) | (simp; done) | (simp; omega)), ?_⟩)), (by repeat (first | exact .nil | (apply Sub.cons; · repeat (first | exact .head | apply Take.tail)))), ⟨_, (by first | exact guess_rest hy1 hy0 hg' (by omega) (by omega) | exact guess_done (by omega) hg (by omega)), rfl, rfl⟩⟩
            · (try replace hc6 := of_decide_eq_false hc6)
              refine vc_skip ?_
              exact ⟨q1 - 1, _, _, _, by omega, (by repeat (first | exact trivial | refine ⟨rfl, ?_⟩ | refine ⟨le_item rfl (by first | rfl | (congr 1; omega) | (simp; done) | (simp; omega)), ?_⟩)), (by repeat (first | exact .nil | (apply Sub.cons; · repeat (first | exact .head | apply Take.tail)))), ⟨q1 - 1, rh + y1, hg', by omega, rfl, rfl, rfl⟩⟩
          · (try replace hc5 := of_decide_eq_false hc5)
            refine vc_exit ?_
            exact ⟨_, _, _, (by repeat (first | exact trivial | refine ⟨rfl, ?_⟩ | refine ⟨le_item rfl (by first | rfl | (congr 1; omega) | (simp; done) | (simp; omega)), ?_⟩)), (by repeat (first | exact .nil | (apply Sub.cons; · repeat (first | exact .head | apply Take.tail)))), ⟨_, (by first | exact guess_rest hy1 hy0 hg' (by omega) (by omega) | exact guess_done (by omega) hg (by omega)), rfl, rfl⟩⟩
      · obtain ⟨E0, H0, F, hE0, hH0, hJ⟩ := h
        obtain ⟨qb, hqb, rfl, rfl⟩ := hJ
        have hqd2 := digit_lt hV hn0
        rw [← hqb] at hqd2
        refine vc_weak hE0 hH0 ?_
        refine vc_seq ?_
        refine vc_region ?_
        refine vl_val rfl (.some rfl) (val_move rfl) ?_
        refine vl_val rfl (.some rfl) (val_mul rfl rfl (mulN (a := qa) (b := 4294967296) (by omega))) ?_
        refine vl_val rfl (.some rfl) (val_move rfl) ?_
        refine vl_val rfl (.some rfl) (val_add rfl rfl (addN (a := qa * 4294967296) (b := qb) (by omega))) ?_
        refine vl_val rfl (.some rfl) (val_move rfl) ?_
        refine vl_val rfl (.some rfl) (val_mul rfl rfl (mulW V 4294967296)) ?_
        refine vl_val rfl (.some rfl) (val_move rfl) ?_
        refine vl_val rfl (.some rfl) (val_add rfl rfl (addW _ n0)) ?_
        refine vl_val rfl (.some rfl) (val_move rfl) ?_
        refine vl_val rfl (.some rfl) (val_move rfl) ?_
        refine vl_val rfl (.some rfl) (val_mul rfl rfl (mulW qb (y1 * 4294967296 + y0))) ?_
        refine vl_val rfl (.some rfl) (val_sub rfl rfl (un21 (U := V) (n1 := n0) (Y := y1 * 4294967296 + y0) hqb (by omega) (by omega))) ?_
        refine vl_val rfl (.some rfl) (val_move rfl) ?_
        refine vl_val rfl (.some rfl) (val_shr rfl rfl (by omega) (shrN (s := s) (by omega))) ?_
        refine vl_val rfl (.some rfl) (val_assign rfl) ?_
        refine vl_val rfl (.some rfl) (val_assign rfl) ?_
        refine vl_nil ?_
        refine vc_ret ?_
        refine ⟨_, [], _, res2 Tryd.results47 rfl rfl, .nil, ?_⟩
        rw [hdiv, hmod, two_digits _ n0 _ (by omega), two_digits_mod _ n0 _ (by omega), hVe, ← hqa, ← hqb]
        rfl
set_option maxRecDepth 20000 in
set_option maxHeartbeats 1000000 in
theorem gDivide (hi lo c : Nat) (hhi : hi < 18446744073709551616) (hlo : lo < 18446744073709551616) (hc : c < 18446744073709551616) (w : World) : FnV Tryd.prog 39 [.int .u64 hi, .int .u64 lo, .int .u64 c] (.tuple #[.int .u64 (if c ≤ hi then 0 else (hi * 18446744073709551616 + lo) / c : Nat), .int .u64 (if c ≤ hi then 0 else (hi * 18446744073709551616 + lo) % c : Nat), .bool (decide (¬ c ≤ hi))]) w := by
  obtain ⟨N, hN⟩ : ∃ N, (hi * 18446744073709551616 + lo) = N := ⟨_, rfl⟩
  rw [hN]
  refine fn_enter Tryd.func39 rfl Tryd.ntmps39 rfl ?_
  refine vc_seq ?_
  refine vc_region ?_
  refine vl_val rfl (.some rfl) (val_assign rfl) ?_
  refine vl_val rfl (.some rfl) (val_assign rfl) ?_
  refine vl_val rfl (.some rfl) (val_assign rfl) ?_
  refine vl_nil ?_
  refine vc_seq ?_
  refine vc_seq ?_
  refine vc_region ?_
  refine vl_val rfl (.some rfl) (val_move rfl) ?_
  refine vl_val rfl (.some rfl) (val_eq rfl rfl) ?_
  refine vl_val rfl (.some rfl) (val_move rfl) ?_
  refine vl_split (t := 15) rfl (fun hg15 => ?_) (fun hg15 => ?_)
  · (try replace hg15 := of_decide_eq_true hg15)
    refine vl_off rfl rfl rfl rfl (.some rfl) ?_
    refine vl_off rfl rfl rfl rfl (.some rfl) ?_
    refine vl_off rfl rfl rfl rfl (.some rfl) ?_
    refine vl_val rfl (.some rfl) (val_pick rfl rfl) ?_
    refine vl_nil ?_
    refine vc_cond rfl (fun _ => ?_) (fun h => by cases h)
    refine vc_seq ?_
    refine vc_region ?_
    refine vl_val rfl (.some rfl) (val_assign rfl) ?_
    refine vl_val rfl (.some rfl) (val_assign rfl) ?_
    refine vl_val rfl (.some rfl) (val_assign rfl) ?_
    refine vl_nil ?_
    refine vc_ret ?_
    refine ⟨_, [], _, res3 Tryd.results39 rfl rfl rfl, .nil, ?_⟩
    show _ = _
    rw [if_pos (by omega), if_pos (by omega), decide_eq_false (by omega)]
    rfl
  · (try replace hg15 := of_decide_eq_false hg15)
    refine vl_on rfl rfl rfl rfl ?_
    refine vl_val rfl (.some rfl) (val_move rfl) ?_
    refine vl_on rfl rfl rfl rfl ?_
    refine vl_val rfl (.some rfl) (val_move rfl) ?_
    refine vl_on rfl rfl rfl rfl ?_
    refine vl_val rfl (.some rfl) (val_ge rfl rfl) ?_
    refine vl_val rfl (.some rfl) (val_pick rfl rfl) ?_
    refine vl_nil ?_
    refine vc_cond rfl (fun hc0 => ?_) (fun hc0 => ?_)
    · (try replace hc0 := of_decide_eq_true hc0)
      refine vc_seq ?_
      refine vc_region ?_
      refine vl_val rfl (.some rfl) (val_assign rfl) ?_
      refine vl_val rfl (.some rfl) (val_assign rfl) ?_
      refine vl_val rfl (.some rfl) (val_assign rfl) ?_
      refine vl_nil ?_
      refine vc_ret ?_
      refine ⟨_, [], _, res3 Tryd.results39 rfl rfl rfl, .nil, ?_⟩
      show _ = _
      rw [if_pos (by omega), if_pos (by omega), decide_eq_false (by omega)]
      rfl
    · (try replace hc0 := of_decide_eq_false hc0)
      refine vc_skip ?_
      refine vc_seq ?_
      refine vc_region ?_
      refine vl_val rfl (.some rfl) (val_move rfl) ?_
      refine vl_val rfl (.some rfl) (val_assign rfl) ?_
      refine vl_val rfl (.some rfl) (val_assign rfl) ?_
      refine vl_nil ?_
      refine vc_seq ?_
      refine vc_seq ?_
      refine vc_region ?_
      refine vl_val rfl (.some rfl) (val_assign rfl) ?_
      refine vl_nil ?_
      refine vc_block ?_
      refine vc_loopw (fun k E H => ∃ q rest : Nat, N / 2 ^ k = q * c + rest ∧ rest < c ∧ q < 2 ^ (64 - k) ∧ k ≤ 64 ∧ E = [(1, .int .u64 (lo : Nat)), (2, .int .u64 (c : Nat)), (9, .int .u64 (rest : Nat)), (10, .int .u64 (q : Nat)), (11, .int .i64 (((k : Nat) : Int) - 1))] ∧ H = []) (64) ⟨_, _, _, ⟨0, hi, by rw [← hN]; omega, by omega, by decide, by decide, rfl, rfl⟩, (by repeat (first | exact trivial | refine ⟨rfl, ?_⟩ | refine ⟨le_item rfl (by first | rfl | (congr 1; omega) | (simp; done) | (simp; omega)), ?_⟩)), (by repeat (first | exact .nil | (apply Sub.cons; · repeat (first | exact .head | apply Take.tail))))⟩ ?_
      intro k E H hI
      obtain ⟨q, rest, hq, hr, hqb, hk, rfl, rfl⟩ := hI
      refine vc_seq ?_
      refine vc_seq ?_
      refine vc_region ?_
      refine vl_val rfl (.some rfl) (val_move rfl) ?_
      refine vl_val rfl (.some rfl) (val_ge rfl rfl) ?_
      refine vl_nil ?_
      refine vc_cond rfl (fun hc1 => ?_) (fun hc1 => ?_)
      · (try replace hc1 := of_decide_eq_true hc1)
        obtain ⟨k, rfl⟩ : ∃ j, k = j + 1 := ⟨k - 1, by omega⟩
        have hst := bit_step hq hr
        obtain ⟨bit, hbit⟩ : ∃ bit, N / 2 ^ k % 2 = bit := ⟨_, rfl⟩
        rw [hbit] at hst
        have hb2 : bit < 2 := by omega
        have hbl : lo / 2 ^ k % 2 = bit := by rw [← hbit, ← hN]; exact (low_bit (by omega)).symm
        have hq2 : 2 * q + 1 < 2 ^ (64 - k) := by rw [show 64 - k = (64 - (k + 1)) + 1 by omega, Nat.pow_succ]; omega
        have hp64 : 2 ^ (64 - k) ≤ 18446744073709551616 := Nat.pow_le_pow_right (n := 2) (i := 64 - k) (j := 64) (by decide) (by omega)
        have hlk := Nat.div_le_self lo (2 ^ k)
        refine vc_skip ?_
        refine vc_seq ?_
        refine vc_block ?_
        refine vc_seq ?_
        refine vc_region ?_
        refine vl_val rfl (.some rfl) (val_move rfl) ?_
        refine vl_val rfl (.some rfl) (val_shr rfl rfl (by decide) (shr_lit 9223372036854775808 rfl (by decide))) ?_
        refine vl_val rfl (.some rfl) (val_eq rfl rfl) ?_
        refine vl_val rfl (.some rfl) (val_assign rfl) ?_
        refine vl_nil ?_
        refine vc_seq ?_
        refine vc_region ?_
        refine vl_val rfl (.some rfl) (val_move rfl) ?_
        refine vl_val rfl (.some rfl) (val_shl rfl rfl (by decide) ((shlW (a := rest) (s := 1) (by decide)).trans (show _ = ((rest % 9223372036854775808 * 2 ^ 1 : Nat) : Int) by congr 1; omega))) ?_
        refine vl_val rfl (.some rfl) (val_move rfl) ?_
        refine vl_val rfl (.some rfl) (val_move rfl) ?_
        refine vl_val rfl (.some rfl) (val_convInt Tryd.runUnderlying3 Tryd.runUnderlying35 rfl (show _ = ((k : Nat) : Int) by rw [w_u64 (by omega) (by omega)]; omega)) ?_
        refine vl_val rfl (.some rfl) (val_shr rfl rfl (by omega) (shrN (a := lo) (s := k) (by omega))) ?_
        refine vl_val rfl (.some rfl) (val_and rfl rfl ((and1_u64 (Nat.lt_of_le_of_lt hlk hlo)).trans (show _ = ((bit : Nat) : Int) by rw [hbl]))) ?_
        refine vl_val rfl (.some rfl) (val_or rfl rfl (show _ = ((bit + rest % 9223372036854775808 * 2 ^ 1 : Nat) : Int) by rw [← or_apart (k := .u64) rfl (a := bit) (y := rest % 9223372036854775808) (s := 1) hb2 (by show _ < 2 ^ 64; omega), BitVec.or_comm])) ?_
        refine vl_val rfl (.some rfl) (val_assign rfl) ?_
        refine vl_nil ?_
        refine vc_seq ?_
        refine vc_region ?_
        refine vl_val rfl (.some rfl) (val_move rfl) ?_
        refine vl_val rfl (.some rfl) (val_shl rfl rfl (by decide) ((shlW (a := q) (s := 1) (by decide)).trans (show _ = ((q * 2 ^ 1 : Nat) : Int) by congr 1; omega))) ?_
        refine vl_val rfl (.some rfl) (val_assign rfl) ?_
        refine vl_nil ?_
        refine vc_seq ?_
        refine vc_region ?_
        refine vl_val rfl (.some rfl) (val_move rfl) ?_
        refine vl_val rfl (.some rfl) (val_move rfl) ?_
        refine vl_split (t := 39) rfl (fun hg39 => ?_) (fun hg39 => ?_)
        · (try replace hg39 := of_decide_eq_true hg39)
          refine vl_off rfl rfl rfl rfl (.some rfl) ?_
          refine vl_off rfl rfl rfl rfl (.some rfl) ?_
          refine vl_off rfl rfl rfl rfl (.some rfl) ?_
          refine vl_val rfl (.some rfl) (val_pick rfl rfl) ?_
          refine vl_nil ?_
          refine vc_cond rfl (fun _ => ?_) (fun h => by cases h)
          refine vc_seq ?_
          refine vc_region ?_
          refine vl_val rfl (.some rfl) (val_move rfl) ?_
          refine vl_val rfl (.some rfl) (val_move rfl) ?_
          refine vl_val rfl (.some rfl) (val_sub rfl rfl (show _ = ((2 * rest + bit - c : Nat) : Int) by rw [wu64_mod]; omega)) ?_
          refine vl_val rfl (.some rfl) (val_assign rfl) ?_
          refine vl_nil ?_
          refine vc_region ?_
          refine vl_val rfl (.some rfl) (val_move rfl) ?_
          refine vl_val rfl (.some rfl) (val_or rfl rfl (show _ = ((1 + q * 2 ^ 1 : Nat) : Int) by rw [← or_apart (k := .u64) rfl (a := 1) (y := q) (s := 1) (by decide) (by show _ < 2 ^ 64; omega), BitVec.or_comm]; rfl)) ?_
          refine vl_val rfl (.some rfl) (val_assign rfl) ?_
          refine vl_nil ?_
          refine vc_region ?_
          refine vl_val rfl (.some rfl) (val_move rfl) ?_
          refine vl_val rfl (.some rfl) (val_sub rfl rfl (by first | exact w_i64 (by omega) (by omega) | rfl)) ?_
          refine vl_val rfl (.some rfl) (val_assign rfl) ?_
          refine vl_nil ?_
          first
            | exact ⟨k, _, _, _, by omega, (by repeat (first | exact trivial | refine ⟨rfl, ?_⟩ | refine ⟨le_item rfl (by first | rfl | (congr 1; omega) | (simp; done) | (simp; omega)), ?_⟩)), (by repeat (first | exact .nil | (apply Sub.cons; · repeat (first | exact .head | apply Take.tail)))), ⟨2 * q + 1, 2 * rest + bit - c, (hst.1 (by omega)).1, by omega, by omega, by omega, rfl, rfl⟩⟩
            | exact ⟨k, _, _, _, by omega, (by repeat (first | exact trivial | refine ⟨rfl, ?_⟩ | refine ⟨le_item rfl (by first | rfl | (congr 1; omega) | (simp; done) | (simp; omega)), ?_⟩)), (by repeat (first | exact .nil | (apply Sub.cons; · repeat (first | exact .head | apply Take.tail)))), ⟨2 * q, 2 * rest + bit, hst.2 (by omega), by omega, by omega, by omega, rfl, rfl⟩⟩
        · (try replace hg39 := of_decide_eq_false hg39)
          refine vl_on rfl rfl rfl rfl ?_
          refine vl_val rfl (.some rfl) (val_move rfl) ?_
          refine vl_on rfl rfl rfl rfl ?_
          refine vl_val rfl (.some rfl) (val_move rfl) ?_
          refine vl_on rfl rfl rfl rfl ?_
          refine vl_val rfl (.some rfl) (val_ge rfl rfl) ?_
          refine vl_val rfl (.some rfl) (val_pick rfl rfl) ?_
          refine vl_nil ?_
          refine vc_cond rfl (fun hc2 => ?_) (fun hc2 => ?_)
          · (try replace hc2 := of_decide_eq_true hc2)
            refine vc_seq ?_
            refine vc_region ?_
            refine vl_val rfl (.some rfl) (val_move rfl) ?_
            refine vl_val rfl (.some rfl) (val_move rfl) ?_
            refine vl_val rfl (.some rfl) (val_sub rfl rfl (show _ = ((2 * rest + bit - c : Nat) : Int) by rw [wu64_mod]; omega)) ?_
            refine vl_val rfl (.some rfl) (val_assign rfl) ?_
            refine vl_nil ?_
            refine vc_region ?_
            refine vl_val rfl (.some rfl) (val_move rfl) ?_
            refine vl_val rfl (.some rfl) (val_or rfl rfl (show _ = ((1 + q * 2 ^ 1 : Nat) : Int) by rw [← or_apart (k := .u64) rfl (a := 1) (y := q) (s := 1) (by decide) (by show _ < 2 ^ 64; omega), BitVec.or_comm]; rfl)) ?_
            refine vl_val rfl (.some rfl) (val_assign rfl) ?_
            refine vl_nil ?_
            refine vc_region ?_
            refine vl_val rfl (.some rfl) (val_move rfl) ?_
            refine vl_val rfl (.some rfl) (val_sub rfl rfl (by first | exact w_i64 (by omega) (by omega) | rfl)) ?_
            refine vl_val rfl (.some rfl) (val_assign rfl) ?_
            refine vl_nil ?_
            first
              | exact ⟨k, _, _, _, by omega, (by repeat (first | exact trivial | refine ⟨rfl, ?_⟩ | refine ⟨le_item rfl (by first | rfl | (congr 1; omega) | (simp; done) | (simp; omega)), ?_⟩)), (by repeat (first | exact .nil | (apply Sub.cons; · repeat (first | exact .head | apply Take.tail)))), ⟨2 * q + 1, 2 * rest + bit - c, (hst.1 (by omega)).1, by omega, by omega, by omega, rfl, rfl⟩⟩
              | exact ⟨k, _, _, _, by omega, (by repeat (first | exact trivial | refine ⟨rfl, ?_⟩ | refine ⟨le_item rfl (by first | rfl | (congr 1; omega) | (simp; done) | (simp; omega)), ?_⟩)), (by repeat (first | exact .nil | (apply Sub.cons; · repeat (first | exact .head | apply Take.tail)))), ⟨2 * q, 2 * rest + bit, hst.2 (by omega), by omega, by omega, by omega, rfl, rfl⟩⟩
          · (try replace hc2 := of_decide_eq_false hc2)
            refine vc_skip ?_
            refine vc_region ?_
            refine vl_val rfl (.some rfl) (val_move rfl) ?_
            refine vl_val rfl (.some rfl) (val_sub rfl rfl (by first | exact w_i64 (by omega) (by omega) | rfl)) ?_
            refine vl_val rfl (.some rfl) (val_assign rfl) ?_
            refine vl_nil ?_
            first
              | exact ⟨k, _, _, _, by omega, (by repeat (first | exact trivial | refine ⟨rfl, ?_⟩ | refine ⟨le_item rfl (by first | rfl | (congr 1; omega) | (simp; done) | (simp; omega)), ?_⟩)), (by repeat (first | exact .nil | (apply Sub.cons; · repeat (first | exact .head | apply Take.tail)))), ⟨2 * q + 1, 2 * rest + bit - c, (hst.1 (by omega)).1, by omega, by omega, by omega, rfl, rfl⟩⟩
              | exact ⟨k, _, _, _, by omega, (by repeat (first | exact trivial | refine ⟨rfl, ?_⟩ | refine ⟨le_item rfl (by first | rfl | (congr 1; omega) | (simp; done) | (simp; omega)), ?_⟩)), (by repeat (first | exact .nil | (apply Sub.cons; · repeat (first | exact .head | apply Take.tail)))), ⟨2 * q, 2 * rest + bit, hst.2 (by omega), by omega, by omega, by omega, rfl, rfl⟩⟩
      · (try replace hc1 := of_decide_eq_false hc1)
        refine vc_exit ?_
        refine vc_seq ?_
        refine vc_region ?_
        refine vl_val rfl (.some rfl) (val_move rfl) ?_
        refine vl_val rfl (.some rfl) (val_move rfl) ?_
        refine vl_val rfl (.some rfl) (val_assign rfl) ?_
        refine vl_val rfl (.some rfl) (val_assign rfl) ?_
        refine vl_val rfl (.some rfl) (val_assign rfl) ?_
        refine vl_nil ?_
        refine vc_ret ?_
        refine ⟨_, [], _, res3 Tryd.results39 rfl rfl rfl, .nil, ?_⟩
        obtain rfl : k = 0 := by omega
        have hlt : ¬ c ≤ hi := by omega
        rw [Nat.pow_zero, Nat.div_one] at hq
        obtain ⟨e1, e2⟩ := divmod_is hq hr
        show _ = _
        rw [if_neg hlt, if_neg hlt, decide_eq_true hlt, e1, e2]

end Go.Proofs.YtpgopfidbmiifaaDoor.K
