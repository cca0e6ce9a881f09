/- Walks of the program's functions, printed by a program of this session; Lean checks them. -/
import Derived.Test.YtclknendeeljaaaFa
import Derived.Test.YtclknendeeljaaaYcb
namespace Go.Proofs.Ytclknendeeljaaa.K
open Go Go.RowKit Go.Proofs
set_option linter.unusedVariables false
set_option linter.unusedSimpArgs false


theorem wrap_mod (n : Nat) : IntKind.u64.wrap (n : Int) = ((n % 18446744073709551616 : Nat) : Int) := by
  rw [wu64_mod]; omega

set_option maxRecDepth 20000 in
theorem fGood (u : Nat) (hu : u < 18446744073709551616) (w : World) : FnV Try.prog 51 [.int .u64 u] (.bool (decide (u < pM))) w := by
  refine fn_enter Try.func51 rfl Try.ntmps51 rfl ?_
  refine vc_seq ?_
  refine vc_region ?_
  refine vl_val rfl (.some rfl) (val_assign rfl) ?_
  refine vl_nil ?_
  refine vc_seq ?_
  refine vc_region ?_
  refine vl_val rfl (.some rfl) (val_move rfl) ?_
  refine vl_val rfl (.some rfl) (val_lt rfl rfl) ?_
  refine vl_val rfl (.some rfl) (val_assign rfl) ?_
  refine vl_nil ?_
  refine vc_ret ?_
  refine ⟨_, [], _, res1 Try.results51 rfl, .nil, ?_⟩
  show Value.bool _ = Value.bool _
  refine congrArg Value.bool ?_
  rw [decide_eq_decide]; exact ⟨fun h => by unfold pM; omega, fun h => by unfold pM at h; omega⟩
set_option maxRecDepth 20000 in
theorem fOf (u : Nat) (hu : u < 18446744073709551616) (w : World) : FnV Try.prog 16 [.int .u64 u] (.int .u64 (u % pM : Nat)) w := by
  refine fn_enter Try.func16 rfl Try.ntmps16 rfl ?_
  refine vc_seq ?_
  refine vc_region ?_
  refine vl_val rfl (.some rfl) (val_assign rfl) ?_
  refine vl_nil ?_
  refine vc_seq ?_
  refine vc_region ?_
  refine vl_val rfl (.some rfl) (val_move rfl) ?_
  refine vl_val rfl (.some rfl) (val_and rfl rfl (and_mask 61 2305843009213693952 rfl (by decide) (by decide) (by decide) (by omega) (by simp [IntKind.bits]; omega))) ?_
  refine vl_val rfl (.some rfl) (val_move rfl) ?_
  refine vl_val rfl (.some rfl) (val_shr rfl rfl (by decide) (shr_lit 2305843009213693952 rfl (by decide))) ?_
  refine vl_val rfl (.some rfl) (val_add rfl rfl (by first | exact w_u64 (by omega) (by omega) | rfl)) ?_
  refine vl_val rfl (.some rfl) (val_assign rfl) ?_
  refine vl_nil ?_
  refine vc_seq ?_
  refine vc_seq ?_
  refine vc_region ?_
  refine vl_val rfl (.some rfl) (val_move rfl) ?_
  refine vl_val rfl (.some rfl) (val_ge rfl rfl) ?_
  refine vl_nil ?_
  refine vc_cond rfl (fun hc0 => ?_) (fun hc0 => ?_)
  · (try replace hc0 := of_decide_eq_true hc0)
    refine vc_region ?_
    refine vl_val rfl (.some rfl) (val_move rfl) ?_
    refine vl_val rfl (.some rfl) (val_sub rfl rfl (by first | exact w_u64 (by omega) (by omega) | rfl)) ?_
    refine vl_val rfl (.some rfl) (val_assign rfl) ?_
    refine vl_nil ?_
    refine vc_seq ?_
    refine vc_region ?_
    refine vl_val rfl (.some rfl) (val_move rfl) ?_
    refine vl_val rfl (.some rfl) (val_assign rfl) ?_
    refine vl_nil ?_
    refine vc_ret ?_
    refine ⟨_, [], _, res1 Try.results16 rfl, .nil, ?_⟩
    show Value.int .u64 _ = Value.int .u64 _
    refine congrArg (Value.int .u64) ?_
    have h := of_is hu
    first | (rw [if_pos (by omega)] at h; omega) | (rw [if_neg (by omega)] at h; omega)
  · (try replace hc0 := of_decide_eq_false hc0)
    refine vc_skip ?_
    refine vc_seq ?_
    refine vc_region ?_
    refine vl_val rfl (.some rfl) (val_move rfl) ?_
    refine vl_val rfl (.some rfl) (val_assign rfl) ?_
    refine vl_nil ?_
    refine vc_ret ?_
    refine ⟨_, [], _, res1 Try.results16 rfl, .nil, ?_⟩
    show Value.int .u64 _ = Value.int .u64 _
    refine congrArg (Value.int .u64) ?_
    have h := of_is hu
    first | (rw [if_pos (by omega)] at h; omega) | (rw [if_neg (by omega)] at h; omega)
set_option maxRecDepth 20000 in
theorem fAdd (a b : Nat) (ha : a < 18446744073709551616) (hb : b < 18446744073709551616) (w : World) : FnV Try.prog 91 [.int .u64 a, .int .u64 b] (.int .u64 ((a % pM + b % pM) % pM : Nat)) w := by
  refine fn_enter Try.func91 rfl Try.ntmps91 rfl ?_
  refine vc_seq ?_
  refine vc_region ?_
  refine vl_val rfl (.some rfl) (val_assign rfl) ?_
  refine vl_nil ?_
  refine vc_seq ?_
  refine vc_region ?_
  refine vl_val rfl (.some rfl) (val_move rfl) ?_
  refine vl_callV rfl rfl (.some rfl) Try.call16 rfl (fun w hw => fOf a ha w) ?_
  refine vl_val rfl (.some rfl) (val_move rfl) ?_
  refine vl_callV rfl rfl (.some rfl) Try.call16 rfl (fun w hw => fOf b hb w) ?_
  refine vl_val rfl (.some rfl) (val_add rfl rfl (show _ = ((a % pM + b % pM : Nat) : Int) by rw [w_u64 (by unfold pM; omega) (by unfold pM; omega)]; omega)) ?_
  refine vl_callV rfl rfl (.some rfl) Try.call16 rfl (fun w hw => fOf _ (by unfold pM; omega) w) ?_
  refine vl_val rfl (.some rfl) (val_assign rfl) ?_
  refine vl_nil ?_
  refine vc_ret ?_
  refine ⟨_, [], _, res1 Try.results91 rfl, .nil, ?_⟩
  rfl
set_option maxRecDepth 20000 in
theorem gOf (u : Nat) (hu : u < 18446744073709551616) (w : World) : FnV Try.prog 124 [.int .u64 u] (.int .u64 (u % pM : Nat)) w := by
  refine fn_enter Try.func124 rfl Try.ntmps124 rfl ?_
  refine vc_seq ?_
  refine vc_region ?_
  refine vl_val rfl (.some rfl) (val_assign rfl) ?_
  refine vl_nil ?_
  refine vc_seq ?_
  refine vc_region ?_
  refine vl_val rfl (.some rfl) (val_move rfl) ?_
  refine vl_val rfl (.some rfl) (val_rem rfl rfl (by omega) (by first | exact rem_nn (by omega) | rfl)) ?_
  refine vl_val rfl (.some rfl) (val_assign rfl) ?_
  refine vl_nil ?_
  refine vc_ret ?_
  refine ⟨_, [], _, res1 Try.results124 rfl, .nil, ?_⟩
  show Value.int .u64 _ = Value.int .u64 _
  refine congrArg (Value.int .u64) ?_
  unfold pM; omega
set_option maxRecDepth 20000 in
theorem gAdd (a b : Nat) (ha : a < 18446744073709551616) (hb : b < 18446744073709551616) (w : World) : FnV Try.prog 98 [.int .u64 a, .int .u64 b] (.int .u64 ((a % pM + b % pM) % pM : Nat)) w := by
  refine fn_enter Try.func98 rfl Try.ntmps98 rfl ?_
  refine vc_seq ?_
  refine vc_region ?_
  refine vl_val rfl (.some rfl) (val_assign rfl) ?_
  refine vl_nil ?_
  refine vc_seq ?_
  refine vc_region ?_
  refine vl_val rfl (.some rfl) (val_move rfl) ?_
  refine vl_callV rfl rfl (.some rfl) Try.call124 rfl (fun w hw => gOf a ha w) ?_
  refine vl_val rfl (.some rfl) (val_move rfl) ?_
  refine vl_callV rfl rfl (.some rfl) Try.call124 rfl (fun w hw => gOf b hb w) ?_
  refine vl_val rfl (.some rfl) (val_add rfl rfl (show _ = ((a % pM + b % pM : Nat) : Int) by rw [w_u64 (by unfold pM; omega) (by unfold pM; omega)]; omega)) ?_
  refine vl_val rfl (.some rfl) (val_rem rfl rfl (by omega) (by first | exact rem_nn (by omega) | rfl)) ?_
  refine vl_val rfl (.some rfl) (val_assign rfl) ?_
  refine vl_nil ?_
  refine vc_ret ?_
  refine ⟨_, [], _, res1 Try.results98 rfl, .nil, ?_⟩
  show Value.int .u64 _ = Value.int .u64 _
  refine congrArg (Value.int .u64) ?_
  unfold pM; omega
set_option maxRecDepth 20000 in
theorem bMul64 (a b : Nat) (ha : a < 18446744073709551616) (hb : b < 18446744073709551616) (w : World) : FnV Try.prog 93 [.int .u64 a, .int .u64 b] (.tuple #[.int .u64 (a * b / 18446744073709551616 : Nat), .int .u64 (a * b % 18446744073709551616 : Nat)]) w := by
  have hh : _ := mul64_hi a b
  simp only at hh
  obtain ⟨x0, hx0⟩ : ∃ q, a % 4294967296 = q := ⟨_, rfl⟩
  obtain ⟨x1, hx1⟩ : ∃ q, a / 4294967296 = q := ⟨_, rfl⟩
  obtain ⟨y0, hy0⟩ : ∃ q, b % 4294967296 = q := ⟨_, rfl⟩
  obtain ⟨y1, hy1⟩ : ∃ q, b / 4294967296 = q := ⟨_, rfl⟩
  rw [hx0, hx1, hy0, hy1] at hh
  have b0 : x0 ≤ 4294967295 := by omega
  have b1 : x1 ≤ 4294967295 := by omega
  have b2 : y0 ≤ 4294967295 := by omega
  have b3 : y1 ≤ 4294967295 := by omega
  have m00 := Nat.mul_le_mul b0 b2
  have m10 := Nat.mul_le_mul b1 b2
  have m01 := Nat.mul_le_mul b0 b3
  have m11 := Nat.mul_le_mul b1 b3
  obtain ⟨p00, hp00⟩ : ∃ q, x0 * y0 = q := ⟨_, rfl⟩
  obtain ⟨p01, hp01⟩ : ∃ q, x0 * y1 = q := ⟨_, rfl⟩
  obtain ⟨p10, hp10⟩ : ∃ q, x1 * y0 = q := ⟨_, rfl⟩
  obtain ⟨p11, hp11⟩ : ∃ q, x1 * y1 = q := ⟨_, rfl⟩
  rw [hp00] at m00 hh
  rw [hp10] at m10 hh
  rw [hp01] at m01 hh
  rw [hp11] at m11 hh
  obtain ⟨t, ht⟩ : ∃ q, p10 + p00 / 4294967296 = q := ⟨_, rfl⟩
  rw [ht] at hh
  refine fn_enter Try.func93 rfl Try.ntmps93 rfl ?_
  refine vc_seq ?_
  refine vc_region ?_
  refine vl_val rfl (.some rfl) (val_assign rfl) ?_
  refine vl_val rfl (.some rfl) (val_assign rfl) ?_
  refine vl_nil ?_
  refine vc_seq ?_
  refine vc_region ?_
  refine vl_val rfl (.some rfl) (val_move rfl) ?_
  refine vl_val rfl (.some rfl) (val_and rfl rfl (show _ = ((x0 : Nat) : Int) by rw [and_mask 32 4294967296 rfl (by decide) (by decide) (by decide) (by omega) (by simp [IntKind.bits]; omega)]; omega)) ?_
  refine vl_val rfl (.some rfl) (val_assign rfl) ?_
  refine vl_nil ?_
  refine vc_seq ?_
  refine vc_region ?_
  refine vl_val rfl (.some rfl) (val_move rfl) ?_
  refine vl_val rfl (.some rfl) (val_shr rfl rfl (by decide) (show _ = ((x1 : Nat) : Int) by rw [shr_lit 4294967296 rfl (by decide)]; omega)) ?_
  refine vl_val rfl (.some rfl) (val_assign rfl) ?_
  refine vl_nil ?_
  refine vc_seq ?_
  refine vc_region ?_
  refine vl_val rfl (.some rfl) (val_move rfl) ?_
  refine vl_val rfl (.some rfl) (val_and rfl rfl (show _ = ((y0 : Nat) : Int) by rw [and_mask 32 4294967296 rfl (by decide) (by decide) (by decide) (by omega) (by simp [IntKind.bits]; omega)]; omega)) ?_
  refine vl_val rfl (.some rfl) (val_assign rfl) ?_
  refine vl_nil ?_
  refine vc_seq ?_
  refine vc_region ?_
  refine vl_val rfl (.some rfl) (val_move rfl) ?_
  refine vl_val rfl (.some rfl) (val_shr rfl rfl (by decide) (show _ = ((y1 : Nat) : Int) by rw [shr_lit 4294967296 rfl (by decide)]; omega)) ?_
  refine vl_val rfl (.some rfl) (val_assign rfl) ?_
  refine vl_nil ?_
  refine vc_seq ?_
  refine vc_region ?_
  refine vl_val rfl (.some rfl) (val_move rfl) ?_
  refine vl_val rfl (.some rfl) (val_move rfl) ?_
  refine vl_val rfl (.some rfl) (val_mul rfl rfl (show _ = ((p00 : Nat) : Int) by rw [← Int.natCast_mul, hp00]; exact w_u64 (by omega) (by omega))) ?_
  refine vl_val rfl (.some rfl) (val_assign rfl) ?_
  refine vl_nil ?_
  refine vc_seq ?_
  refine vc_region ?_
  refine vl_val rfl (.some rfl) (val_move rfl) ?_
  refine vl_val rfl (.some rfl) (val_move rfl) ?_
  refine vl_val rfl (.some rfl) (val_mul rfl rfl (show _ = ((p10 : Nat) : Int) by rw [← Int.natCast_mul, hp10]; exact w_u64 (by omega) (by omega))) ?_
  refine vl_val rfl (.some rfl) (val_move rfl) ?_
  refine vl_val rfl (.some rfl) (val_shr rfl rfl (by decide) (show _ = ((p00 / 4294967296 : Nat) : Int) by rw [shr_lit 4294967296 rfl (by decide)]; omega)) ?_
  refine vl_val rfl (.some rfl) (val_add rfl rfl (show _ = ((t : Nat) : Int) by rw [w_u64 (by omega) (by omega)]; omega)) ?_
  refine vl_val rfl (.some rfl) (val_assign rfl) ?_
  refine vl_nil ?_
  refine vc_seq ?_
  refine vc_region ?_
  refine vl_val rfl (.some rfl) (val_move rfl) ?_
  refine vl_val rfl (.some rfl) (val_and rfl rfl (show _ = ((t % 4294967296 : Nat) : Int) by rw [and_mask 32 4294967296 rfl (by decide) (by decide) (by decide) (by omega) (by simp [IntKind.bits]; omega)]; omega)) ?_
  refine vl_val rfl (.some rfl) (val_assign rfl) ?_
  refine vl_nil ?_
  refine vc_seq ?_
  refine vc_region ?_
  refine vl_val rfl (.some rfl) (val_move rfl) ?_
  refine vl_val rfl (.some rfl) (val_shr rfl rfl (by decide) (show _ = ((t / 4294967296 : Nat) : Int) by rw [shr_lit 4294967296 rfl (by decide)]; omega)) ?_
  refine vl_val rfl (.some rfl) (val_assign rfl) ?_
  refine vl_nil ?_
  refine vc_seq ?_
  refine vc_region ?_
  refine vl_val rfl (.some rfl) (val_move rfl) ?_
  refine vl_val rfl (.some rfl) (val_move rfl) ?_
  refine vl_val rfl (.some rfl) (val_move rfl) ?_
  refine vl_val rfl (.some rfl) (val_mul rfl rfl (show _ = ((p01 : Nat) : Int) by rw [← Int.natCast_mul, hp01]; exact w_u64 (by omega) (by omega))) ?_
  refine vl_val rfl (.some rfl) (val_add rfl rfl (show _ = ((t % 4294967296 + p01 : Nat) : Int) by rw [w_u64 (by omega) (by omega)]; omega)) ?_
  refine vl_val rfl (.some rfl) (val_assign rfl) ?_
  refine vl_nil ?_
  refine vc_seq ?_
  refine vc_region ?_
  refine vl_val rfl (.some rfl) (val_move rfl) ?_
  refine vl_val rfl (.some rfl) (val_move rfl) ?_
  refine vl_val rfl (.some rfl) (val_mul rfl rfl (show _ = ((p11 : Nat) : Int) by rw [← Int.natCast_mul, hp11]; exact w_u64 (by omega) (by omega))) ?_
  refine vl_val rfl (.some rfl) (val_move rfl) ?_
  refine vl_val rfl (.some rfl) (val_add rfl rfl (show _ = ((p11 + t / 4294967296 : Nat) : Int) by rw [w_u64 (by omega) (by omega)]; omega)) ?_
  refine vl_val rfl (.some rfl) (val_move rfl) ?_
  refine vl_val rfl (.some rfl) (val_shr rfl rfl (by decide) (show _ = (((t % 4294967296 + p01) / 4294967296 : Nat) : Int) by rw [shr_lit 4294967296 rfl (by decide)]; omega)) ?_
  refine vl_val rfl (.some rfl) (val_add rfl rfl (show _ = ((a * b / 18446744073709551616 : Nat) : Int) by rw [w_u64 (by omega) (by omega)]; omega)) ?_
  refine vl_val rfl (.some rfl) (val_assign rfl) ?_
  refine vl_nil ?_
  refine vc_seq ?_
  refine vc_region ?_
  refine vl_val rfl (.some rfl) (val_move rfl) ?_
  refine vl_val rfl (.some rfl) (val_move rfl) ?_
  refine vl_val rfl (.some rfl) (val_mul rfl rfl (show _ = ((a * b % 18446744073709551616 : Nat) : Int) by rw [← Int.natCast_mul, wrap_mod])) ?_
  refine vl_val rfl (.some rfl) (val_assign rfl) ?_
  refine vl_nil ?_
  refine vc_ret ?_
  refine ⟨_, [], _, res2 Try.results93 rfl rfl, .nil, ?_⟩
  rfl
set_option maxRecDepth 20000 in
theorem fFold (hi lo : Nat) (hh : hi < 576460752303423488) (hl : lo < 18446744073709551616) (w : World) : FnV Try.prog 111 [.int .u64 hi, .int .u64 lo] (.int .u64 ((hi * 8 + lo / 2305843009213693952) % pM + lo % 2305843009213693952 : Nat)) w := by
  refine fn_enter Try.func111 rfl Try.ntmps111 rfl ?_
  refine vc_seq ?_
  refine vc_region ?_
  refine vl_val rfl (.some rfl) (val_assign rfl) ?_
  refine vl_nil ?_
  refine vc_seq ?_
  refine vc_region ?_
  refine vl_val rfl (.some rfl) (val_move rfl) ?_
  refine vl_val rfl (.some rfl) (val_shl rfl rfl (by decide) (show _ = ((hi * 2 ^ 3 : Nat) : Int) by rw [shl_lit 8 rfl (w_u64 (by omega) (by omega))]; omega)) ?_
  refine vl_val rfl (.some rfl) (val_move rfl) ?_
  refine vl_val rfl (.some rfl) (val_shr rfl rfl (by decide) (show _ = ((lo / 2305843009213693952 : Nat) : Int) by rw [shr_lit 2305843009213693952 rfl (by decide)]; omega)) ?_
  refine vl_val rfl (.some rfl) (val_or rfl rfl (show _ = ((hi * 8 + lo / 2305843009213693952 : Nat) : Int) by have h := or_apart (k := .u64) rfl (a := lo / 2305843009213693952) (y := hi) (s := 3) (by omega) (by show _ < 2 ^ 64; omega); rw [show hi * 8 + lo / 2305843009213693952 = lo / 2305843009213693952 + hi * 2 ^ 3 by omega, ← h, BitVec.or_comm])) ?_
  refine vl_callV rfl rfl (.some rfl) Try.call16 rfl (fun w hw => fOf _ (by omega) w) ?_
  refine vl_val rfl (.some rfl) (val_move rfl) ?_
  refine vl_val rfl (.some rfl) (val_and rfl rfl (show _ = ((lo % 2305843009213693952 : Nat) : Int) by rw [and_mask 61 2305843009213693952 rfl (by decide) (by decide) (by decide) (by omega) (by simp [IntKind.bits]; omega)]; omega)) ?_
  refine vl_val rfl (.some rfl) (val_add rfl rfl (show _ = (((hi * 8 + lo / 2305843009213693952) % pM + lo % 2305843009213693952 : Nat) : Int) by rw [w_u64 (by unfold pM; omega) (by unfold pM; omega)]; omega)) ?_
  refine vl_val rfl (.some rfl) (val_assign rfl) ?_
  refine vl_nil ?_
  refine vc_ret ?_
  refine ⟨_, [], _, res1 Try.results111 rfl, .nil, ?_⟩
  rfl
set_option maxRecDepth 20000 in
theorem fMul (a b : Nat) (ha : a < 18446744073709551616) (hb : b < 18446744073709551616) (w : World) : FnV Try.prog 92 [.int .u64 a, .int .u64 b] (.int .u64 (a * b % pM : Nat)) w := by
  have hm := mulP_lt a b
  have hr : (a % pM) * (b % pM) % pM = a * b % pM := (Nat.mul_mod a b pM).symm
  have hf := fold_is ((a % pM) * (b % pM))
  refine fn_enter Try.func92 rfl Try.ntmps92 rfl ?_
  refine vc_seq ?_
  refine vc_region ?_
  refine vl_val rfl (.some rfl) (val_assign rfl) ?_
  refine vl_nil ?_
  refine vc_seq ?_
  refine vc_region ?_
  refine vl_val rfl (.some rfl) (val_assign rfl) ?_
  refine vl_nil ?_
  refine vc_seq ?_
  refine vc_region ?_
  refine vl_val rfl (.some rfl) (val_move rfl) ?_
  refine vl_val rfl (.some rfl) (val_move rfl) ?_
  refine vl_callV rfl rfl (.some rfl) Try.call16 rfl (fun w hw => fOf a ha w) ?_
  refine vl_val rfl (.some rfl) (val_move rfl) ?_
  refine vl_callV rfl rfl (.some rfl) Try.call16 rfl (fun w hw => fOf b hb w) ?_
  refine vl_callV rfl rfl (.some rfl) Try.call93 rfl (fun w hw => bMul64 (a % pM) (b % pM) (by unfold pM; omega) (by unfold pM; omega) w) ?_
  generalize (a % pM) * (b % pM) = n at hm hr hf ⊢
  refine vl_val rfl (.some rfl) (val_extract rfl rfl) ?_
  refine vl_val rfl (.some rfl) (val_extract rfl rfl) ?_
  refine vl_callvV (fs := []) (cs := []) rfl rfl (.some rfl) rfl Try.call111 rfl (fun w hw => fFold (n / 18446744073709551616) (n % 18446744073709551616) (by omega) (by omega) w) ?_
  refine vl_callV rfl rfl (.some rfl) Try.call16 rfl (fun w hw => fOf _ (by unfold pM; omega) w) ?_
  rw [hf, hr]
  refine vl_val rfl (.some rfl) (val_assign rfl) ?_
  refine vl_nil ?_
  refine vc_ret ?_
  refine ⟨_, [], _, res1 Try.results92 rfl, .nil, ?_⟩
  rfl
set_option maxRecDepth 20000 in
theorem fHash (a b : Nat) (x : Nat) (ha : a < 18446744073709551616) (hb : b < 18446744073709551616) (hx : x < 18446744073709551616) (w : World) : FnV Try.prog 55 [.agg #[.int .u64 a, .int .u64 b], .int .u64 x] (.int .u64 ((a * x % pM + b % pM) % pM : Nat)) w := by
  refine fn_enter Try.func55 rfl Try.ntmps55 rfl ?_
  refine vc_seq ?_
  refine vc_region ?_
  refine vl_box rfl rfl (.some rfl) rfl (fun r2 => ?_)
  refine vl_val rfl (.some rfl) (val_assign rfl) ?_
  refine vl_nil ?_
  refine vc_seq ?_
  refine vc_draws [0, 1, 2, 4, 5, 7] [] [0, 1, 2, 4, 5, 3, 6, 7] rfl (by kernel_rfl) (fun _ _ _ h => h) ?_
  refine vd_val rfl rfl rfl (.some rfl) (by first | exact val_fieldAddr Try.runUnderlying81 rfl Try.sizeOf30 rfl | exact val_fieldAddrR Try.runUnderlying81 rfl Try.sizeOf30 rfl) ?_
  refine vd_val rfl rfl rfl (.some rfl) (val_load Try.isAgg30 rfl (by first | exact cell_cells (by repeat (first | exact .head | apply In.tail | apply Take.tail | apply Upd.tail)) rfl | exact cell_rd (rd_sl (by repeat (first | exact .head | apply In.tail | apply Take.tail | apply Upd.tail))) (by first | exact bcells_at (by omega) | exact ucells_at (by omega) | exact icells_at (by omega) | exact tcells_at (by omega) | exact bcells_get (by omega) | exact icells_get (by omega) | exact tcells_get (by omega) | exact ucells_get (by omega)) | exact cell_rd (rd_old (by assumption) rfl) (by first | exact bcells_at (by omega) | exact ucells_at (by omega) | exact icells_at (by omega) | exact tcells_at (by omega) | exact bcells_get (by omega) | exact icells_get (by omega) | exact tcells_get (by omega) | exact ucells_get (by omega)) | exact cell_old (by assumption) (by simp [fps]))) ?_
  refine vd_val rfl rfl rfl (.some rfl) (val_move rfl) ?_
  refine vd_val rfl rfl rfl (.some rfl) (by first | exact val_fieldAddr Try.runUnderlying81 rfl Try.sizeOf30 rfl | exact val_fieldAddrR Try.runUnderlying81 rfl Try.sizeOf30 rfl) ?_
  refine vd_val rfl rfl rfl (.some rfl) (val_load Try.isAgg30 rfl (by first | exact cell_cells (by repeat (first | exact .head | apply In.tail | apply Take.tail | apply Upd.tail)) rfl | exact cell_rd (rd_sl (by repeat (first | exact .head | apply In.tail | apply Take.tail | apply Upd.tail))) (by first | exact bcells_at (by omega) | exact ucells_at (by omega) | exact icells_at (by omega) | exact tcells_at (by omega) | exact bcells_get (by omega) | exact icells_get (by omega) | exact tcells_get (by omega) | exact ucells_get (by omega)) | exact cell_rd (rd_old (by assumption) rfl) (by first | exact bcells_at (by omega) | exact ucells_at (by omega) | exact icells_at (by omega) | exact tcells_at (by omega) | exact bcells_get (by omega) | exact icells_get (by omega) | exact tcells_get (by omega) | exact ucells_get (by omega)) | exact cell_old (by assumption) (by simp [fps]))) ?_
  refine vd_op rfl rfl ?_
  refine vl_callV rfl rfl (.some rfl) Try.call92 rfl (fun w hw => fMul a x ha hx w) ?_
  refine vl_nil ?_
  refine ⟨fun _ => ⟨_, (by repeat (first | exact .nil | (apply Sub.cons; · repeat (first | exact .head | apply Take.tail))))⟩, ?_⟩
  refine vd_op rfl rfl ?_
  refine vl_callV rfl rfl (.some rfl) Try.call91 rfl (fun w hw => fAdd _ b (by unfold pM; omega) hb w) ?_
  rw [Nat.mod_mod]
  refine vl_nil ?_
  refine ⟨fun _ => ⟨_, (by repeat (first | exact .nil | (apply Sub.cons; · repeat (first | exact .head | apply Take.tail))))⟩, ?_⟩
  refine vd_val rfl rfl rfl (.some rfl) (val_assign rfl) ?_
  refine vd_nil ?_
  refine vc_ret ?_
  refine ⟨_, [], _, res1 Try.results55 rfl, .nil, ?_⟩
  rfl
set_option maxRecDepth 20000 in
theorem gMul (a b : Nat) (ha : a < 18446744073709551616) (hb : b < 18446744073709551616) (w : World) : FnV Try.prog 99 [.int .u64 a, .int .u64 b] (.int .u64 (a * b % pM : Nat)) w := by
  refine fn_enter Try.func99 rfl Try.ntmps99 rfl ?_
  refine vc_seq ?_
  refine vc_region ?_
  refine vl_val rfl (.some rfl) (val_assign rfl) ?_
  refine vl_nil ?_
  refine vc_seq ?_
  refine vc_region ?_
  refine vl_val rfl (.some rfl) (val_move rfl) ?_
  refine vl_callV rfl rfl (.some rfl) Try.call124 rfl (fun w hw => gOf a ha w) ?_
  refine vl_val rfl (.some rfl) (val_move rfl) ?_
  refine vl_callV rfl rfl (.some rfl) Try.call124 rfl (fun w hw => gOf b hb w) ?_
  refine vl_val rfl (.some rfl) (val_assign rfl) ?_
  refine vl_val rfl (.some rfl) (val_assign rfl) ?_
  refine vl_nil ?_
  refine vc_seq ?_
  refine vc_region ?_
  refine vl_val rfl (.some rfl) (val_assign rfl) ?_
  refine vl_nil ?_
  refine vc_seq ?_
  refine vc_block ?_
  refine vc_loopw (fun k E H => ∃ x y s : Nat, (s + x * y) % pM = a * b % pM ∧ x < 18446744073709551616 ∧ y < 18446744073709551616 ∧ s < pM ∧ y = k ∧ E = [(0, .int .u64 x), (1, .int .u64 y), (5, .int .u64 s)] ∧ H = []) (b % pM) ⟨_, _, _, ⟨a % pM, b % pM, 0, by rw [Nat.zero_add]; exact (Nat.mul_mod a b pM).symm, by unfold pM; omega, by unfold pM; omega, by decide, rfl, rfl, rfl⟩, (by repeat (first | exact trivial | refine ⟨rfl, ?_⟩ | refine ⟨le_item rfl (by first | rfl | (congr 1; omega) | (simp; done) | (simp; omega)), ?_⟩)), (by repeat (first | exact .nil | (apply Sub.cons; · repeat (first | exact .head | apply Take.tail))))⟩ ?_
  intro k E H hI
  obtain ⟨x, y, s, hm, hx, hy, hs, rfl, rfl, rfl⟩ := hI
  have hs2 : s < 2305843009213693951 := hs
  refine vc_seq ?_
  refine vc_seq ?_
  refine vc_region ?_
  refine vl_val rfl (.some rfl) (val_move rfl) ?_
  refine vl_val rfl (.some rfl) (val_gt rfl rfl) ?_
  refine vl_nil ?_
  refine vc_cond rfl (fun hc0 => ?_) (fun hc0 => ?_)
  · (try replace hc0 := of_decide_eq_true hc0)
    refine vc_skip ?_
    refine vc_seq ?_
    refine vc_block ?_
    refine vc_seq ?_
    refine vc_seq ?_
    refine vc_region ?_
    refine vl_val rfl (.some rfl) (val_move rfl) ?_
    refine vl_val rfl (.some rfl) (val_and rfl rfl (and1_u64 (by omega))) ?_
    refine vl_val rfl (.some rfl) (val_eq rfl rfl) ?_
    refine vl_nil ?_
    refine vc_cond rfl (fun hc1 => ?_) (fun hc1 => ?_)
    · (try replace hc1 := of_decide_eq_true hc1)
      refine vc_region ?_
      refine vl_val rfl (.some rfl) (val_move rfl) ?_
      refine vl_val rfl (.some rfl) (val_move rfl) ?_
      refine vl_callV rfl rfl (.some rfl) Try.call98 rfl (fun w hw => gAdd s x (by omega) (by omega) w) ?_
      refine vl_val rfl (.some rfl) (val_assign rfl) ?_
      refine vl_nil ?_
      refine vc_region ?_
      refine vl_val rfl (.some rfl) (val_move rfl) ?_
      refine vl_val rfl (.some rfl) (val_move rfl) ?_
      refine vl_callV rfl rfl (.some rfl) Try.call98 rfl (fun w hw => gAdd x x (by omega) (by omega) w) ?_
      refine vl_val rfl (.some rfl) (val_assign rfl) ?_
      refine vl_nil ?_
      refine vc_region ?_
      refine vl_val rfl (.some rfl) (val_move rfl) ?_
      refine vl_val rfl (.some rfl) (val_shr rfl rfl (by decide) (show _ = ((y / 2 : Nat) : Int) by rw [shr_lit 2 rfl (by decide)]; omega)) ?_
      refine vl_val rfl (.some rfl) (val_assign rfl) ?_
      refine vl_nil ?_
      first
        | exact ⟨y / 2, _, _, _, by omega, (by repeat (first | exact trivial | refine ⟨rfl, ?_⟩ | refine ⟨le_item rfl (by first | rfl | (congr 1; omega) | (simp; done) | (simp; omega)), ?_⟩)), (by repeat (first | exact .nil | (apply Sub.cons; · repeat (first | exact .head | apply Take.tail)))), ⟨(x % pM + x % pM) % pM, y / 2, (s % pM + x % pM) % pM, by rw [mul_odd (by omega)]; exact hm, by unfold pM; omega, by omega, Nat.mod_lt _ (by decide), rfl, rfl, rfl⟩⟩
        | exact ⟨y / 2, _, _, _, by omega, (by repeat (first | exact trivial | refine ⟨rfl, ?_⟩ | refine ⟨le_item rfl (by first | rfl | (congr 1; omega) | (simp; done) | (simp; omega)), ?_⟩)), (by repeat (first | exact .nil | (apply Sub.cons; · repeat (first | exact .head | apply Take.tail)))), ⟨(x % pM + x % pM) % pM, y / 2, s, by rw [mul_even (by omega)]; exact hm, by unfold pM; omega, by omega, hs, rfl, rfl, rfl⟩⟩
    · (try replace hc1 := of_decide_eq_false hc1)
      refine vc_skip ?_
      refine vc_region ?_
      refine vl_val rfl (.some rfl) (val_move rfl) ?_
      refine vl_val rfl (.some rfl) (val_move rfl) ?_
      refine vl_callV rfl rfl (.some rfl) Try.call98 rfl (fun w hw => gAdd x x (by omega) (by omega) w) ?_
      refine vl_val rfl (.some rfl) (val_assign rfl) ?_
      refine vl_nil ?_
      refine vc_region ?_
      refine vl_val rfl (.some rfl) (val_move rfl) ?_
      refine vl_val rfl (.some rfl) (val_shr rfl rfl (by decide) (show _ = ((y / 2 : Nat) : Int) by rw [shr_lit 2 rfl (by decide)]; omega)) ?_
      refine vl_val rfl (.some rfl) (val_assign rfl) ?_
      refine vl_nil ?_
      first
        | exact ⟨y / 2, _, _, _, by omega, (by repeat (first | exact trivial | refine ⟨rfl, ?_⟩ | refine ⟨le_item rfl (by first | rfl | (congr 1; omega) | (simp; done) | (simp; omega)), ?_⟩)), (by repeat (first | exact .nil | (apply Sub.cons; · repeat (first | exact .head | apply Take.tail)))), ⟨(x % pM + x % pM) % pM, y / 2, (s % pM + x % pM) % pM, by rw [mul_odd (by omega)]; exact hm, by unfold pM; omega, by omega, Nat.mod_lt _ (by decide), rfl, rfl, rfl⟩⟩
        | exact ⟨y / 2, _, _, _, by omega, (by repeat (first | exact trivial | refine ⟨rfl, ?_⟩ | refine ⟨le_item rfl (by first | rfl | (congr 1; omega) | (simp; done) | (simp; omega)), ?_⟩)), (by repeat (first | exact .nil | (apply Sub.cons; · repeat (first | exact .head | apply Take.tail)))), ⟨(x % pM + x % pM) % pM, y / 2, s, by rw [mul_even (by omega)]; exact hm, by unfold pM; omega, by omega, hs, rfl, rfl, rfl⟩⟩
  · (try replace hc0 := of_decide_eq_false hc0)
    refine vc_exit ?_
    refine vc_seq ?_
    refine vc_region ?_
    refine vl_val rfl (.some rfl) (val_move rfl) ?_
    refine vl_val rfl (.some rfl) (val_assign rfl) ?_
    refine vl_nil ?_
    refine vc_ret ?_
    refine ⟨_, [], _, res1 Try.results99 rfl, .nil, ?_⟩
    show Value.int .u64 _ = Value.int .u64 _
    obtain rfl : y = 0 := by omega
    rw [Nat.mul_zero, Nat.add_zero, Nat.mod_eq_of_lt hs] at hm
    rw [hm]
set_option maxRecDepth 20000 in
theorem gHash (a b : Nat) (x : Nat) (ha : a < 18446744073709551616) (hb : b < 18446744073709551616) (hx : x < 18446744073709551616) (w : World) : FnV Try.prog 62 [.agg #[.int .u64 a, .int .u64 b], .int .u64 x] (.int .u64 ((a * x % pM + b % pM) % pM : Nat)) w := by
  refine fn_enter Try.func62 rfl Try.ntmps62 rfl ?_
  refine vc_seq ?_
  refine vc_region ?_
  refine vl_box rfl rfl (.some rfl) rfl (fun r2 => ?_)
  refine vl_val rfl (.some rfl) (val_assign rfl) ?_
  refine vl_nil ?_
  refine vc_seq ?_
  refine vc_draws [0, 1, 2, 4, 5, 7] [] [0, 1, 2, 4, 5, 3, 6, 7] rfl (by kernel_rfl) (fun _ _ _ h => h) ?_
  refine vd_val rfl rfl rfl (.some rfl) (by first | exact val_fieldAddr Try.runUnderlying81 rfl Try.sizeOf30 rfl | exact val_fieldAddrR Try.runUnderlying81 rfl Try.sizeOf30 rfl) ?_
  refine vd_val rfl rfl rfl (.some rfl) (val_load Try.isAgg30 rfl (by first | exact cell_cells (by repeat (first | exact .head | apply In.tail | apply Take.tail | apply Upd.tail)) rfl | exact cell_rd (rd_sl (by repeat (first | exact .head | apply In.tail | apply Take.tail | apply Upd.tail))) (by first | exact bcells_at (by omega) | exact ucells_at (by omega) | exact icells_at (by omega) | exact tcells_at (by omega) | exact bcells_get (by omega) | exact icells_get (by omega) | exact tcells_get (by omega) | exact ucells_get (by omega)) | exact cell_rd (rd_old (by assumption) rfl) (by first | exact bcells_at (by omega) | exact ucells_at (by omega) | exact icells_at (by omega) | exact tcells_at (by omega) | exact bcells_get (by omega) | exact icells_get (by omega) | exact tcells_get (by omega) | exact ucells_get (by omega)) | exact cell_old (by assumption) (by simp [fps]))) ?_
  refine vd_val rfl rfl rfl (.some rfl) (val_move rfl) ?_
  refine vd_val rfl rfl rfl (.some rfl) (by first | exact val_fieldAddr Try.runUnderlying81 rfl Try.sizeOf30 rfl | exact val_fieldAddrR Try.runUnderlying81 rfl Try.sizeOf30 rfl) ?_
  refine vd_val rfl rfl rfl (.some rfl) (val_load Try.isAgg30 rfl (by first | exact cell_cells (by repeat (first | exact .head | apply In.tail | apply Take.tail | apply Upd.tail)) rfl | exact cell_rd (rd_sl (by repeat (first | exact .head | apply In.tail | apply Take.tail | apply Upd.tail))) (by first | exact bcells_at (by omega) | exact ucells_at (by omega) | exact icells_at (by omega) | exact tcells_at (by omega) | exact bcells_get (by omega) | exact icells_get (by omega) | exact tcells_get (by omega) | exact ucells_get (by omega)) | exact cell_rd (rd_old (by assumption) rfl) (by first | exact bcells_at (by omega) | exact ucells_at (by omega) | exact icells_at (by omega) | exact tcells_at (by omega) | exact bcells_get (by omega) | exact icells_get (by omega) | exact tcells_get (by omega) | exact ucells_get (by omega)) | exact cell_old (by assumption) (by simp [fps]))) ?_
  refine vd_op rfl rfl ?_
  refine vl_callV rfl rfl (.some rfl) Try.call99 rfl (fun w hw => gMul a x ha hx w) ?_
  refine vl_nil ?_
  refine ⟨fun _ => ⟨_, (by repeat (first | exact .nil | (apply Sub.cons; · repeat (first | exact .head | apply Take.tail))))⟩, ?_⟩
  refine vd_op rfl rfl ?_
  refine vl_callV rfl rfl (.some rfl) Try.call98 rfl (fun w hw => gAdd _ b (by unfold pM; omega) hb w) ?_
  rw [Nat.mod_mod]
  refine vl_nil ?_
  refine ⟨fun _ => ⟨_, (by repeat (first | exact .nil | (apply Sub.cons; · repeat (first | exact .head | apply Take.tail))))⟩, ?_⟩
  refine vd_val rfl rfl rfl (.some rfl) (val_assign rfl) ?_
  refine vd_nil ?_
  refine vc_ret ?_
  refine ⟨_, [], _, res1 Try.results62 rfl, .nil, ?_⟩
  rfl
set_option maxRecDepth 20000 in
theorem gTimes (a b : Nat) (ha : a < 18446744073709551616) (hb : b < 18446744073709551616) (w : World) : FnV Try.prog 125 [.int .u64 a, .int .u64 b] (.tuple #[.int .u64 (a * b / 18446744073709551616 : Nat), .int .u64 (a * b % 18446744073709551616 : Nat)]) w := by
  have hh : _ := mul64_hi a b
  simp only at hh
  have hlo : _ := mul64_lo a b
  simp only at hlo
  obtain ⟨x0, hx0⟩ : ∃ q, a % 4294967296 = q := ⟨_, rfl⟩
  obtain ⟨x1, hx1⟩ : ∃ q, a / 4294967296 = q := ⟨_, rfl⟩
  obtain ⟨y0, hy0⟩ : ∃ q, b % 4294967296 = q := ⟨_, rfl⟩
  obtain ⟨y1, hy1⟩ : ∃ q, b / 4294967296 = q := ⟨_, rfl⟩
  rw [hx0, hx1, hy0, hy1] at hh hlo
  have b0 : x0 ≤ 4294967295 := by omega
  have b1 : x1 ≤ 4294967295 := by omega
  have b2 : y0 ≤ 4294967295 := by omega
  have b3 : y1 ≤ 4294967295 := by omega
  have m00 := Nat.mul_le_mul b0 b2
  have m10 := Nat.mul_le_mul b1 b2
  have m01 := Nat.mul_le_mul b0 b3
  have m11 := Nat.mul_le_mul b1 b3
  obtain ⟨p00, hp00⟩ : ∃ q, x0 * y0 = q := ⟨_, rfl⟩
  obtain ⟨p01, hp01⟩ : ∃ q, x0 * y1 = q := ⟨_, rfl⟩
  obtain ⟨p10, hp10⟩ : ∃ q, x1 * y0 = q := ⟨_, rfl⟩
  obtain ⟨p11, hp11⟩ : ∃ q, x1 * y1 = q := ⟨_, rfl⟩
  rw [hp00] at m00 hh hlo
  rw [hp10] at m10 hh hlo
  rw [hp01] at m01 hh hlo
  rw [hp11] at m11 hh
  obtain ⟨t, ht⟩ : ∃ q, p10 + p00 / 4294967296 = q := ⟨_, rfl⟩
  rw [ht] at hh hlo
  refine fn_enter Try.func125 rfl Try.ntmps125 rfl ?_
  refine vc_seq ?_
  refine vc_region ?_
  refine vl_val rfl (.some rfl) (val_assign rfl) ?_
  refine vl_val rfl (.some rfl) (val_assign rfl) ?_
  refine vl_nil ?_
  refine vc_seq ?_
  refine vc_region ?_
  refine vl_val rfl (.some rfl) (val_move rfl) ?_
  refine vl_val rfl (.some rfl) (val_and rfl rfl (show _ = ((x0 : Nat) : Int) by rw [and_mask 32 4294967296 rfl (by decide) (by decide) (by decide) (by omega) (by simp [IntKind.bits]; omega)]; omega)) ?_
  refine vl_val rfl (.some rfl) (val_move rfl) ?_
  refine vl_val rfl (.some rfl) (val_shr rfl rfl (by decide) (show _ = ((x1 : Nat) : Int) by rw [shr_lit 4294967296 rfl (by decide)]; omega)) ?_
  refine vl_val rfl (.some rfl) (val_move rfl) ?_
  refine vl_val rfl (.some rfl) (val_and rfl rfl (show _ = ((y0 : Nat) : Int) by rw [and_mask 32 4294967296 rfl (by decide) (by decide) (by decide) (by omega) (by simp [IntKind.bits]; omega)]; omega)) ?_
  refine vl_val rfl (.some rfl) (val_move rfl) ?_
  refine vl_val rfl (.some rfl) (val_shr rfl rfl (by decide) (show _ = ((y1 : Nat) : Int) by rw [shr_lit 4294967296 rfl (by decide)]; omega)) ?_
  refine vl_val rfl (.some rfl) (val_assign rfl) ?_
  refine vl_val rfl (.some rfl) (val_assign rfl) ?_
  refine vl_val rfl (.some rfl) (val_assign rfl) ?_
  refine vl_val rfl (.some rfl) (val_assign rfl) ?_
  refine vl_nil ?_
  refine vc_seq ?_
  refine vc_region ?_
  refine vl_val rfl (.some rfl) (val_move rfl) ?_
  refine vl_val rfl (.some rfl) (val_move rfl) ?_
  refine vl_val rfl (.some rfl) (val_mul rfl rfl (show _ = ((p00 : Nat) : Int) by rw [← Int.natCast_mul, hp00]; exact w_u64 (by omega) (by omega))) ?_
  refine vl_val rfl (.some rfl) (val_assign rfl) ?_
  refine vl_nil ?_
  refine vc_seq ?_
  refine vc_region ?_
  refine vl_val rfl (.some rfl) (val_move rfl) ?_
  refine vl_val rfl (.some rfl) (val_move rfl) ?_
  refine vl_val rfl (.some rfl) (val_mul rfl rfl (show _ = ((p10 : Nat) : Int) by rw [← Int.natCast_mul, hp10]; exact w_u64 (by omega) (by omega))) ?_
  refine vl_val rfl (.some rfl) (val_move rfl) ?_
  refine vl_val rfl (.some rfl) (val_shr rfl rfl (by decide) (show _ = ((p00 / 4294967296 : Nat) : Int) by rw [shr_lit 4294967296 rfl (by decide)]; omega)) ?_
  refine vl_val rfl (.some rfl) (val_add rfl rfl (show _ = ((t : Nat) : Int) by rw [w_u64 (by omega) (by omega)]; omega)) ?_
  refine vl_val rfl (.some rfl) (val_assign rfl) ?_
  refine vl_nil ?_
  refine vc_seq ?_
  refine vc_region ?_
  refine vl_val rfl (.some rfl) (val_move rfl) ?_
  refine vl_val rfl (.some rfl) (val_move rfl) ?_
  refine vl_val rfl (.some rfl) (val_mul rfl rfl (show _ = ((p01 : Nat) : Int) by rw [← Int.natCast_mul, hp01]; exact w_u64 (by omega) (by omega))) ?_
  refine vl_val rfl (.some rfl) (val_move rfl) ?_
  refine vl_val rfl (.some rfl) (val_and rfl rfl (show _ = ((t % 4294967296 : Nat) : Int) by rw [and_mask 32 4294967296 rfl (by decide) (by decide) (by decide) (by omega) (by simp [IntKind.bits]; omega)]; omega)) ?_
  refine vl_val rfl (.some rfl) (val_add rfl rfl (show _ = ((p01 + t % 4294967296 : Nat) : Int) by rw [w_u64 (by omega) (by omega)]; omega)) ?_
  refine vl_val rfl (.some rfl) (val_assign rfl) ?_
  refine vl_nil ?_
  refine vc_seq ?_
  refine vc_region ?_
  refine vl_val rfl (.some rfl) (val_move rfl) ?_
  refine vl_val rfl (.some rfl) (val_move rfl) ?_
  refine vl_val rfl (.some rfl) (val_mul rfl rfl (show _ = ((p11 : Nat) : Int) by rw [← Int.natCast_mul, hp11]; exact w_u64 (by omega) (by omega))) ?_
  refine vl_val rfl (.some rfl) (val_move rfl) ?_
  refine vl_val rfl (.some rfl) (val_shr rfl rfl (by decide) (show _ = ((t / 4294967296 : Nat) : Int) by rw [shr_lit 4294967296 rfl (by decide)]; omega)) ?_
  refine vl_val rfl (.some rfl) (val_add rfl rfl (show _ = ((p11 + t / 4294967296 : Nat) : Int) by rw [w_u64 (by omega) (by omega)]; omega)) ?_
  refine vl_val rfl (.some rfl) (val_move rfl) ?_
  refine vl_val rfl (.some rfl) (val_shr rfl rfl (by decide) (show _ = (((p01 + t % 4294967296) / 4294967296 : Nat) : Int) by rw [shr_lit 4294967296 rfl (by decide)]; omega)) ?_
  refine vl_val rfl (.some rfl) (val_add rfl rfl (show _ = ((a * b / 18446744073709551616 : Nat) : Int) by rw [w_u64 (by omega) (by omega)]; omega)) ?_
  refine vl_val rfl (.some rfl) (val_move rfl) ?_
  refine vl_val rfl (.some rfl) (val_shl rfl rfl (by decide) (show _ = ((((p01 + t % 4294967296) % 4294967296) * 2 ^ 32 : Nat) : Int) by rw [shl_lit 4294967296 rfl rfl, wu64_mod]; omega)) ?_
  refine vl_val rfl (.some rfl) (val_move rfl) ?_
  refine vl_val rfl (.some rfl) (val_and rfl rfl (show _ = ((p00 % 4294967296 : Nat) : Int) by rw [and_mask 32 4294967296 rfl (by decide) (by decide) (by decide) (by omega) (by simp [IntKind.bits]; omega)]; omega)) ?_
  refine vl_val rfl (.some rfl) (val_or rfl rfl (show _ = ((a * b % 18446744073709551616 : Nat) : Int) by have h := or_apart (k := .u64) rfl (a := p00 % 4294967296) (y := (p01 + t % 4294967296) % 4294967296) (s := 32) (by omega) (by show _ < 2 ^ 64; omega); rw [show a * b % 18446744073709551616 = p00 % 4294967296 + (p01 + t % 4294967296) % 4294967296 * 2 ^ 32 by omega, ← h, BitVec.or_comm])) ?_
  refine vl_val rfl (.some rfl) (val_assign rfl) ?_
  refine vl_val rfl (.some rfl) (val_assign rfl) ?_
  refine vl_nil ?_
  refine vc_ret ?_
  refine ⟨_, [], _, res2 Try.results125 rfl rfl, .nil, ?_⟩
  rfl

end Go.Proofs.Ytclknendeeljaaa.K
