/- Walks of the program's functions, printed by a program of this session; Lean checks them. -/
import Derived.Test.YtpgopfidbmiifaaDoorFa
import Derived.Test.YtpgopfidbmiifaaDoorProg
namespace Go.Proofs.YtpgopfidbmiifaaDoor.K
open Go Go.RowKit Go.Proofs
set_option linter.unusedVariables false
set_option linter.unusedSimpArgs false


theorem wrap_mod (n : Nat) : IntKind.u64.wrap (n : Int) = ((n % 18446744073709551616 : Nat) : Int) := by
  rw [wu64_mod]; omega

set_option maxRecDepth 20000 in
theorem bMul64 (a b : Nat) (ha : a < 18446744073709551616) (hb : b < 18446744073709551616) (w : World) : FnV Tryd.prog 28 [.int .u64 a, .int .u64 b] (.tuple #[.int .u64 (a * b / 18446744073709551616 : Nat), .int .u64 (a * b % 18446744073709551616 : Nat)]) w := by
  have hh : _ := mul64_hi a b
  simp only at hh
  obtain ⟨x0, hx0⟩ : ∃ q, a % 4294967296 = q := ⟨_, rfl⟩
  obtain ⟨x1, hx1⟩ : ∃ q, a / 4294967296 = q := ⟨_, rfl⟩
  obtain ⟨y0, hy0⟩ : ∃ q, b % 4294967296 = q := ⟨_, rfl⟩
  obtain ⟨y1, hy1⟩ : ∃ q, b / 4294967296 = q := ⟨_, rfl⟩
  rw [hx0, hx1, hy0, hy1] at hh
  have b0 : x0 ≤ 4294967295 := by omega
  have b1 : x1 ≤ 4294967295 := by omega
  have b2 : y0 ≤ 4294967295 := by omega
  have b3 : y1 ≤ 4294967295 := by omega
  have m00 := Nat.mul_le_mul b0 b2
  have m10 := Nat.mul_le_mul b1 b2
  have m01 := Nat.mul_le_mul b0 b3
  have m11 := Nat.mul_le_mul b1 b3
  obtain ⟨p00, hp00⟩ : ∃ q, x0 * y0 = q := ⟨_, rfl⟩
  obtain ⟨p01, hp01⟩ : ∃ q, x0 * y1 = q := ⟨_, rfl⟩
  obtain ⟨p10, hp10⟩ : ∃ q, x1 * y0 = q := ⟨_, rfl⟩
  obtain ⟨p11, hp11⟩ : ∃ q, x1 * y1 = q := ⟨_, rfl⟩
  rw [hp00] at m00 hh
  rw [hp10] at m10 hh
  rw [hp01] at m01 hh
  rw [hp11] at m11 hh
  obtain ⟨t, ht⟩ : ∃ q, p10 + p00 / 4294967296 = q := ⟨_, rfl⟩
  rw [ht] at hh
  refine fn_enter Tryd.func28 rfl Tryd.ntmps28 rfl ?_
  refine vc_seq ?_
  refine vc_region ?_
  refine vl_val rfl (.some rfl) (val_assign rfl) ?_
  refine vl_val rfl (.some rfl) (val_assign rfl) ?_
  refine vl_nil ?_
  refine vc_seq ?_
  refine vc_region ?_
  refine vl_val rfl (.some rfl) (val_move rfl) ?_
  refine vl_val rfl (.some rfl) (val_and rfl rfl (show _ = ((x0 : Nat) : Int) by rw [and_mask 32 4294967296 rfl (by decide) (by decide) (by decide) (by omega) (by simp [IntKind.bits]; omega)]; omega)) ?_
  refine vl_val rfl (.some rfl) (val_assign rfl) ?_
  refine vl_nil ?_
  refine vc_seq ?_
  refine vc_region ?_
  refine vl_val rfl (.some rfl) (val_move rfl) ?_
  refine vl_val rfl (.some rfl) (val_shr rfl rfl (by decide) (show _ = ((x1 : Nat) : Int) by rw [shr_lit 4294967296 rfl (by decide)]; omega)) ?_
  refine vl_val rfl (.some rfl) (val_assign rfl) ?_
  refine vl_nil ?_
  refine vc_seq ?_
  refine vc_region ?_
  refine vl_val rfl (.some rfl) (val_move rfl) ?_
  refine vl_val rfl (.some rfl) (val_and rfl rfl (show _ = ((y0 : Nat) : Int) by rw [and_mask 32 4294967296 rfl (by decide) (by decide) (by decide) (by omega) (by simp [IntKind.bits]; omega)]; omega)) ?_
  refine vl_val rfl (.some rfl) (val_assign rfl) ?_
  refine vl_nil ?_
  refine vc_seq ?_
  refine vc_region ?_
  refine vl_val rfl (.some rfl) (val_move rfl) ?_
  refine vl_val rfl (.some rfl) (val_shr rfl rfl (by decide) (show _ = ((y1 : Nat) : Int) by rw [shr_lit 4294967296 rfl (by decide)]; omega)) ?_
  refine vl_val rfl (.some rfl) (val_assign rfl) ?_
  refine vl_nil ?_
  refine vc_seq ?_
  refine vc_region ?_
  refine vl_val rfl (.some rfl) (val_move rfl) ?_
  refine vl_val rfl (.some rfl) (val_move rfl) ?_
  refine vl_val rfl (.some rfl) (val_mul rfl rfl (show _ = ((p00 : Nat) : Int) by rw [← Int.natCast_mul, hp00]; exact w_u64 (by omega) (by omega))) ?_
  refine vl_val rfl (.some rfl) (val_assign rfl) ?_
  refine vl_nil ?_
  refine vc_seq ?_
  refine vc_region ?_
  refine vl_val rfl (.some rfl) (val_move rfl) ?_
  refine vl_val rfl (.some rfl) (val_move rfl) ?_
  refine vl_val rfl (.some rfl) (val_mul rfl rfl (show _ = ((p10 : Nat) : Int) by rw [← Int.natCast_mul, hp10]; exact w_u64 (by omega) (by omega))) ?_
  refine vl_val rfl (.some rfl) (val_move rfl) ?_
  refine vl_val rfl (.some rfl) (val_shr rfl rfl (by decide) (show _ = ((p00 / 4294967296 : Nat) : Int) by rw [shr_lit 4294967296 rfl (by decide)]; omega)) ?_
  refine vl_val rfl (.some rfl) (val_add rfl rfl (show _ = ((t : Nat) : Int) by rw [w_u64 (by omega) (by omega)]; omega)) ?_
  refine vl_val rfl (.some rfl) (val_assign rfl) ?_
  refine vl_nil ?_
  refine vc_seq ?_
  refine vc_region ?_
  refine vl_val rfl (.some rfl) (val_move rfl) ?_
  refine vl_val rfl (.some rfl) (val_and rfl rfl (show _ = ((t % 4294967296 : Nat) : Int) by rw [and_mask 32 4294967296 rfl (by decide) (by decide) (by decide) (by omega) (by simp [IntKind.bits]; omega)]; omega)) ?_
  refine vl_val rfl (.some rfl) (val_assign rfl) ?_
  refine vl_nil ?_
  refine vc_seq ?_
  refine vc_region ?_
  refine vl_val rfl (.some rfl) (val_move rfl) ?_
  refine vl_val rfl (.some rfl) (val_shr rfl rfl (by decide) (show _ = ((t / 4294967296 : Nat) : Int) by rw [shr_lit 4294967296 rfl (by decide)]; omega)) ?_
  refine vl_val rfl (.some rfl) (val_assign rfl) ?_
  refine vl_nil ?_
  refine vc_seq ?_
  refine vc_region ?_
  refine vl_val rfl (.some rfl) (val_move rfl) ?_
  refine vl_val rfl (.some rfl) (val_move rfl) ?_
  refine vl_val rfl (.some rfl) (val_move rfl) ?_
  refine vl_val rfl (.some rfl) (val_mul rfl rfl (show _ = ((p01 : Nat) : Int) by rw [← Int.natCast_mul, hp01]; exact w_u64 (by omega) (by omega))) ?_
  refine vl_val rfl (.some rfl) (val_add rfl rfl (show _ = ((t % 4294967296 + p01 : Nat) : Int) by rw [w_u64 (by omega) (by omega)]; omega)) ?_
  refine vl_val rfl (.some rfl) (val_assign rfl) ?_
  refine vl_nil ?_
  refine vc_seq ?_
  refine vc_region ?_
  refine vl_val rfl (.some rfl) (val_move rfl) ?_
  refine vl_val rfl (.some rfl) (val_move rfl) ?_
  refine vl_val rfl (.some rfl) (val_mul rfl rfl (show _ = ((p11 : Nat) : Int) by rw [← Int.natCast_mul, hp11]; exact w_u64 (by omega) (by omega))) ?_
  refine vl_val rfl (.some rfl) (val_move rfl) ?_
  refine vl_val rfl (.some rfl) (val_add rfl rfl (show _ = ((p11 + t / 4294967296 : Nat) : Int) by rw [w_u64 (by omega) (by omega)]; omega)) ?_
  refine vl_val rfl (.some rfl) (val_move rfl) ?_
  refine vl_val rfl (.some rfl) (val_shr rfl rfl (by decide) (show _ = (((t % 4294967296 + p01) / 4294967296 : Nat) : Int) by rw [shr_lit 4294967296 rfl (by decide)]; omega)) ?_
  refine vl_val rfl (.some rfl) (val_add rfl rfl (show _ = ((a * b / 18446744073709551616 : Nat) : Int) by rw [w_u64 (by omega) (by omega)]; omega)) ?_
  refine vl_val rfl (.some rfl) (val_assign rfl) ?_
  refine vl_nil ?_
  refine vc_seq ?_
  refine vc_region ?_
  refine vl_val rfl (.some rfl) (val_move rfl) ?_
  refine vl_val rfl (.some rfl) (val_move rfl) ?_
  refine vl_val rfl (.some rfl) (val_mul rfl rfl (show _ = ((a * b % 18446744073709551616 : Nat) : Int) by rw [← Int.natCast_mul, wrap_mod])) ?_
  refine vl_val rfl (.some rfl) (val_assign rfl) ?_
  refine vl_nil ?_
  refine vc_ret ?_
  refine ⟨_, [], _, res2 Tryd.results28 rfl rfl, .nil, ?_⟩
  rfl
set_option maxRecDepth 20000 in
theorem gTimes (a b : Nat) (ha : a < 18446744073709551616) (hb : b < 18446744073709551616) (w : World) : FnV Tryd.prog 31 [.int .u64 a, .int .u64 b] (.tuple #[.int .u64 (a * b / 18446744073709551616 : Nat), .int .u64 (a * b % 18446744073709551616 : Nat)]) w := by
  have hh : _ := mul64_hi a b
  simp only at hh
  have hlo : _ := mul64_lo a b
  simp only at hlo
  obtain ⟨x0, hx0⟩ : ∃ q, a % 4294967296 = q := ⟨_, rfl⟩
  obtain ⟨x1, hx1⟩ : ∃ q, a / 4294967296 = q := ⟨_, rfl⟩
  obtain ⟨y0, hy0⟩ : ∃ q, b % 4294967296 = q := ⟨_, rfl⟩
  obtain ⟨y1, hy1⟩ : ∃ q, b / 4294967296 = q := ⟨_, rfl⟩
  rw [hx0, hx1, hy0, hy1] at hh hlo
  have b0 : x0 ≤ 4294967295 := by omega
  have b1 : x1 ≤ 4294967295 := by omega
  have b2 : y0 ≤ 4294967295 := by omega
  have b3 : y1 ≤ 4294967295 := by omega
  have m00 := Nat.mul_le_mul b0 b2
  have m10 := Nat.mul_le_mul b1 b2
  have m01 := Nat.mul_le_mul b0 b3
  have m11 := Nat.mul_le_mul b1 b3
  obtain ⟨p00, hp00⟩ : ∃ q, x0 * y0 = q := ⟨_, rfl⟩
  obtain ⟨p01, hp01⟩ : ∃ q, x0 * y1 = q := ⟨_, rfl⟩
  obtain ⟨p10, hp10⟩ : ∃ q, x1 * y0 = q := ⟨_, rfl⟩
  obtain ⟨p11, hp11⟩ : ∃ q, x1 * y1 = q := ⟨_, rfl⟩
  rw [hp00] at m00 hh hlo
  rw [hp10] at m10 hh hlo
  rw [hp01] at m01 hh hlo
  rw [hp11] at m11 hh
  obtain ⟨t, ht⟩ : ∃ q, p10 + p00 / 4294967296 = q := ⟨_, rfl⟩
  rw [ht] at hh hlo
  refine fn_enter Tryd.func31 rfl Tryd.ntmps31 rfl ?_
  refine vc_seq ?_
  refine vc_region ?_
  refine vl_val rfl (.some rfl) (val_assign rfl) ?_
  refine vl_val rfl (.some rfl) (val_assign rfl) ?_
  refine vl_nil ?_
  refine vc_seq ?_
  refine vc_region ?_
  refine vl_val rfl (.some rfl) (val_move rfl) ?_
  refine vl_val rfl (.some rfl) (val_and rfl rfl (show _ = ((x0 : Nat) : Int) by rw [and_mask 32 4294967296 rfl (by decide) (by decide) (by decide) (by omega) (by simp [IntKind.bits]; omega)]; omega)) ?_
  refine vl_val rfl (.some rfl) (val_move rfl) ?_
  refine vl_val rfl (.some rfl) (val_shr rfl rfl (by decide) (show _ = ((x1 : Nat) : Int) by rw [shr_lit 4294967296 rfl (by decide)]; omega)) ?_
  refine vl_val rfl (.some rfl) (val_move rfl) ?_
  refine vl_val rfl (.some rfl) (val_and rfl rfl (show _ = ((y0 : Nat) : Int) by rw [and_mask 32 4294967296 rfl (by decide) (by decide) (by decide) (by omega) (by simp [IntKind.bits]; omega)]; omega)) ?_
  refine vl_val rfl (.some rfl) (val_move rfl) ?_
  refine vl_val rfl (.some rfl) (val_shr rfl rfl (by decide) (show _ = ((y1 : Nat) : Int) by rw [shr_lit 4294967296 rfl (by decide)]; omega)) ?_
  refine vl_val rfl (.some rfl) (val_assign rfl) ?_
  refine vl_val rfl (.some rfl) (val_assign rfl) ?_
  refine vl_val rfl (.some rfl) (val_assign rfl) ?_
  refine vl_val rfl (.some rfl) (val_assign rfl) ?_
  refine vl_nil ?_
  refine vc_seq ?_
  refine vc_region ?_
  refine vl_val rfl (.some rfl) (val_move rfl) ?_
  refine vl_val rfl (.some rfl) (val_move rfl) ?_
  refine vl_val rfl (.some rfl) (val_mul rfl rfl (show _ = ((p00 : Nat) : Int) by rw [← Int.natCast_mul, hp00]; exact w_u64 (by omega) (by omega))) ?_
  refine vl_val rfl (.some rfl) (val_assign rfl) ?_
  refine vl_nil ?_
  refine vc_seq ?_
  refine vc_region ?_
  refine vl_val rfl (.some rfl) (val_move rfl) ?_
  refine vl_val rfl (.some rfl) (val_move rfl) ?_
  refine vl_val rfl (.some rfl) (val_mul rfl rfl (show _ = ((p10 : Nat) : Int) by rw [← Int.natCast_mul, hp10]; exact w_u64 (by omega) (by omega))) ?_
  refine vl_val rfl (.some rfl) (val_move rfl) ?_
  refine vl_val rfl (.some rfl) (val_shr rfl rfl (by decide) (show _ = ((p00 / 4294967296 : Nat) : Int) by rw [shr_lit 4294967296 rfl (by decide)]; omega)) ?_
  refine vl_val rfl (.some rfl) (val_add rfl rfl (show _ = ((t : Nat) : Int) by rw [w_u64 (by omega) (by omega)]; omega)) ?_
  refine vl_val rfl (.some rfl) (val_assign rfl) ?_
  refine vl_nil ?_
  refine vc_seq ?_
  refine vc_region ?_
  refine vl_val rfl (.some rfl) (val_move rfl) ?_
  refine vl_val rfl (.some rfl) (val_move rfl) ?_
  refine vl_val rfl (.some rfl) (val_mul rfl rfl (show _ = ((p01 : Nat) : Int) by rw [← Int.natCast_mul, hp01]; exact w_u64 (by omega) (by omega))) ?_
  refine vl_val rfl (.some rfl) (val_move rfl) ?_
  refine vl_val rfl (.some rfl) (val_and rfl rfl (show _ = ((t % 4294967296 : Nat) : Int) by rw [and_mask 32 4294967296 rfl (by decide) (by decide) (by decide) (by omega) (by simp [IntKind.bits]; omega)]; omega)) ?_
  refine vl_val rfl (.some rfl) (val_add rfl rfl (show _ = ((p01 + t % 4294967296 : Nat) : Int) by rw [w_u64 (by omega) (by omega)]; omega)) ?_
  refine vl_val rfl (.some rfl) (val_assign rfl) ?_
  refine vl_nil ?_
  refine vc_seq ?_
  refine vc_region ?_
  refine vl_val rfl (.some rfl) (val_move rfl) ?_
  refine vl_val rfl (.some rfl) (val_move rfl) ?_
  refine vl_val rfl (.some rfl) (val_mul rfl rfl (show _ = ((p11 : Nat) : Int) by rw [← Int.natCast_mul, hp11]; exact w_u64 (by omega) (by omega))) ?_
  refine vl_val rfl (.some rfl) (val_move rfl) ?_
  refine vl_val rfl (.some rfl) (val_shr rfl rfl (by decide) (show _ = ((t / 4294967296 : Nat) : Int) by rw [shr_lit 4294967296 rfl (by decide)]; omega)) ?_
  refine vl_val rfl (.some rfl) (val_add rfl rfl (show _ = ((p11 + t / 4294967296 : Nat) : Int) by rw [w_u64 (by omega) (by omega)]; omega)) ?_
  refine vl_val rfl (.some rfl) (val_move rfl) ?_
  refine vl_val rfl (.some rfl) (val_shr rfl rfl (by decide) (show _ = (((p01 + t % 4294967296) / 4294967296 : Nat) : Int) by rw [shr_lit 4294967296 rfl (by decide)]; omega)) ?_
  refine vl_val rfl (.some rfl) (val_add rfl rfl (show _ = ((a * b / 18446744073709551616 : Nat) : Int) by rw [w_u64 (by omega) (by omega)]; omega)) ?_
  refine vl_val rfl (.some rfl) (val_move rfl) ?_
  refine vl_val rfl (.some rfl) (val_shl rfl rfl (by decide) (show _ = ((((p01 + t % 4294967296) % 4294967296) * 2 ^ 32 : Nat) : Int) by rw [shl_lit 4294967296 rfl rfl, wu64_mod]; omega)) ?_
  refine vl_val rfl (.some rfl) (val_move rfl) ?_
  refine vl_val rfl (.some rfl) (val_and rfl rfl (show _ = ((p00 % 4294967296 : Nat) : Int) by rw [and_mask 32 4294967296 rfl (by decide) (by decide) (by decide) (by omega) (by simp [IntKind.bits]; omega)]; omega)) ?_
  refine vl_val rfl (.some rfl) (val_or rfl rfl (show _ = ((a * b % 18446744073709551616 : Nat) : Int) by have h := or_apart (k := .u64) rfl (a := p00 % 4294967296) (y := (p01 + t % 4294967296) % 4294967296) (s := 32) (by omega) (by show _ < 2 ^ 64; omega); rw [show a * b % 18446744073709551616 = p00 % 4294967296 + (p01 + t % 4294967296) % 4294967296 * 2 ^ 32 by omega, ← h, BitVec.or_comm])) ?_
  refine vl_val rfl (.some rfl) (val_assign rfl) ?_
  refine vl_val rfl (.some rfl) (val_assign rfl) ?_
  refine vl_nil ?_
  refine vc_ret ?_
  refine ⟨_, [], _, res2 Tryd.results31 rfl rfl, .nil, ?_⟩
  rfl

end Go.Proofs.YtpgopfidbmiifaaDoor.K
