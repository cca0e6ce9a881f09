/- Walks of the program's functions, printed by a program of this session; Lean checks them. -/
import Derived.Test.YtpgopfidbmiifaaDoorYwd
namespace Go.Proofs.YtpgopfidbmiifaaDoor.K
open Go Go.RowKit Go.Proofs
set_option linter.unusedVariables false
set_option linter.unusedSimpArgs false


theorem of_neg {n : Int} (h : inI n) (c : n < 0) : hW n = -1 := by unfold inI at h; unfold hW; omega
theorem of_pos {n : Int} (h : inI n) (c : ¬ n < 0) : hW n = 0 := by unfold inI at h; unfold hW; omega
theorem turn_lo (x : Int) : (-1 - lW x + 1) % 18446744073709551616 = lW (-x) := by unfold lW; omega
theorem turn_hi (x : Int) : (-1 - hP x + (if lW (-x) = 0 then 1 else 0)) % 18446744073709551616 = hP (-x) := by unfold lW hP; split <;> omega
theorem least_is {x : Int} (hx : inW x) : (lW x = 0 ∧ hP x = 9223372036854775808) ↔ x = -170141183460469231731687303715884105728 := by unfold inW at hx; unfold lW hP; omega
theorem neg_ok {x : Int} (hx : inW x) : inW (-x) ↔ x ≠ -170141183460469231731687303715884105728 := by unfold inW at *; omega
theorem ref_hi (x y : Int) : (hP x + hP y + (if lW (x + y) < lW x then 1 else 0)) % 18446744073709551616 = hP (x + y) := by unfold hP lW; split <;> omega
theorem sign_mul (a b : Int) : a * b = if decide (a < 0) = decide (b < 0) then ((a.natAbs * b.natAbs : Nat) : Int) else -((a.natAbs * b.natAbs : Nat) : Int) := by
  rw [Int.natCast_mul]
  by_cases c1 : a < 0 <;> by_cases c2 : b < 0
  · rw [if_pos (by simp [c1, c2]), show (a.natAbs : Int) = -a by omega, show (b.natAbs : Int) = -b by omega, Int.neg_mul_neg]
  · rw [if_neg (by simp [c1, c2]), show (a.natAbs : Int) = -a by omega, show (b.natAbs : Int) = b by omega, Int.neg_mul]; omega
  · rw [if_neg (by simp [c1, c2]), show (a.natAbs : Int) = a by omega, show (b.natAbs : Int) = -b by omega, Int.mul_neg]; omega
  · rw [if_pos (by simp [c1, c2]), show (a.natAbs : Int) = a by omega, show (b.natAbs : Int) = b by omega]

set_option maxRecDepth 20000 in
theorem rOf (n : Int) (hn : inI n) (w : World) : FnV Tryd.prog 12 [.int .i64 n] (wV n) w := by
  refine fn_enter Tryd.func12 rfl Tryd.ntmps12 rfl ?_
  refine vc_seq ?_
  refine vc_region ?_
  refine vl_alloc rfl rfl (.some rfl) Tryd.zeroValue24 (fun r2 => ?_)
  refine vl_nil ?_
  refine vc_seq ?_
  refine vc_seq ?_
  refine vc_region ?_
  refine vl_val rfl (.some rfl) (val_move rfl) ?_
  refine vl_val rfl (.some rfl) (val_lt rfl rfl) ?_
  refine vl_nil ?_
  refine vc_cond rfl (fun hc0 => ?_) (fun hc0 => ?_)
  · (try replace hc0 := of_decide_eq_true hc0)
    refine vc_seq ?_
    refine vc_region ?_
    refine vl_val rfl (.some rfl) (val_move rfl) ?_
    refine vl_val rfl (.some rfl) (val_convInt Tryd.runUnderlying3 Tryd.runUnderlying22 rfl (show _ = lW n by rw [w_mod64]; rfl)) ?_
    refine vl_val rfl (.some rfl) (val_buildSt (pl := #[(0, 1), (1, 1)]) (cs := #[.int .i64 (-1), .int .u64 (lW n)]) Tryd.runUnderlying24 Tryd.zeroValue24 (fun w => by kernel_rfl) rfl rfl) ?_
    first | refine vl_store rfl rfl .none rfl rfl Tryd.sizeOf24 rfl (by repeat (first | exact .head | apply In.tail | apply Take.tail | apply Upd.tail)) (by first | decide | exact Nat.le_refl _ | exact Nat.le_of_ble_eq_true rfl | (simp; omega)) ?_ | refine vl_storeSl rfl rfl .none rfl rfl Tryd.sizeOf24 rfl (by simp [Value.cells]) (by repeat (first | exact .head | apply In.tail | apply Take.tail | apply Upd.tail)) (by first | decide | (simp [Value.cells]; omega)) ?_
    refine vl_nil ?_
    refine vc_ret ?_
    refine ⟨_, [], _, resC Tryd.results12 rfl (whole_agg Tryd.isAgg24 Tryd.sizeOf24 (cells_whole (by repeat (first | exact .head | apply In.tail | apply Take.tail | apply Upd.tail))) rfl), .nil, ?_⟩
    show (Value.agg #[.int .i64 (-1), .int .u64 (lW n)]) = .agg #[.int .i64 (hW n), .int .u64 (lW n)]
    rw [of_neg hn (by assumption)]
  · (try replace hc0 := of_decide_eq_false hc0)
    refine vc_skip ?_
    refine vc_seq ?_
    refine vc_region ?_
    refine vl_val rfl (.some rfl) (val_move rfl) ?_
    refine vl_val rfl (.some rfl) (val_convInt Tryd.runUnderlying3 Tryd.runUnderlying22 rfl (show _ = lW n by rw [w_mod64]; rfl)) ?_
    refine vl_val rfl (.some rfl) (val_buildSt (pl := #[(0, 1), (1, 1)]) (cs := #[.int .i64 (0), .int .u64 (lW n)]) Tryd.runUnderlying24 Tryd.zeroValue24 (fun w => by kernel_rfl) rfl rfl) ?_
    first | refine vl_store rfl rfl .none rfl rfl Tryd.sizeOf24 rfl (by repeat (first | exact .head | apply In.tail | apply Take.tail | apply Upd.tail)) (by first | decide | exact Nat.le_refl _ | exact Nat.le_of_ble_eq_true rfl | (simp; omega)) ?_ | refine vl_storeSl rfl rfl .none rfl rfl Tryd.sizeOf24 rfl (by simp [Value.cells]) (by repeat (first | exact .head | apply In.tail | apply Take.tail | apply Upd.tail)) (by first | decide | (simp [Value.cells]; omega)) ?_
    refine vl_nil ?_
    refine vc_ret ?_
    refine ⟨_, [], _, resC Tryd.results12 rfl (whole_agg Tryd.isAgg24 Tryd.sizeOf24 (cells_whole (by repeat (first | exact .head | apply In.tail | apply Take.tail | apply Upd.tail))) rfl), .nil, ?_⟩
    show (Value.agg #[.int .i64 0, .int .u64 (lW n)]) = .agg #[.int .i64 (hW n), .int .u64 (lW n)]
    rw [of_pos hn (by assumption)]
set_option maxRecDepth 20000 in
theorem rTurned (x : Int) (w : World) : FnV Tryd.prog 33 [wV x] (wV (-x)) w := by
  have hxl := lW_b x
  have hxh := hP_b x
  have htu := turn_hi x
  refine fn_enter Tryd.func33 rfl Tryd.ntmps33 rfl ?_
  refine vc_seq ?_
  refine vc_region ?_
  refine vl_box rfl rfl (.some rfl) rfl (fun r1 => ?_)
  refine vl_alloc rfl rfl (.some rfl) Tryd.zeroValue24 (fun r2 => ?_)
  refine vl_nil ?_
  refine vc_seq ?_
  refine vc_region ?_
  refine vl_val rfl (.some rfl) (by first | exact val_fieldAddr Tryd.runUnderlying24 rfl Tryd.sizeOf22 rfl | exact val_fieldAddrR Tryd.runUnderlying24 rfl Tryd.sizeOf22 rfl) ?_
  refine vl_val rfl (.some rfl) (val_load Tryd.isAgg22 rfl (by first | exact cell_cells (by repeat (first | exact .head | apply In.tail | apply Take.tail | apply Upd.tail)) rfl | exact cell_rd (rd_sl (by repeat (first | exact .head | apply In.tail | apply Take.tail | apply Upd.tail))) (by first | exact bcells_at (by omega) | exact ucells_at (by omega) | exact icells_at (by omega) | exact tcells_at (by omega) | exact bcells_get (by omega) | exact icells_get (by omega) | exact tcells_get (by omega) | exact ucells_get (by omega)) | exact cell_rd (rd_old (by assumption) rfl) (by first | exact bcells_at (by omega) | exact ucells_at (by omega) | exact icells_at (by omega) | exact tcells_at (by omega) | exact bcells_get (by omega) | exact icells_get (by omega) | exact tcells_get (by omega) | exact ucells_get (by omega)) | exact cell_old (by assumption) (by simp [fps]))) ?_
  refine vl_val rfl (.some rfl) (val_com rfl (com_u64 hxl.1 hxl.2)) ?_
  refine vl_val rfl (.some rfl) (val_add rfl rfl (show _ = lW (-x) by rw [w_mod64, ← turn_lo]; omega)) ?_
  refine vl_val rfl (.some rfl) (val_assign rfl) ?_
  refine vl_nil ?_
  refine vc_seq ?_
  refine vc_region ?_
  refine vl_val rfl (.some rfl) (by first | exact val_fieldAddr Tryd.runUnderlying24 rfl Tryd.sizeOf3 rfl | exact val_fieldAddrR Tryd.runUnderlying24 rfl Tryd.sizeOf3 rfl) ?_
  refine vl_val rfl (.some rfl) (val_load Tryd.isAgg3 rfl (by first | exact cell_cells (by repeat (first | exact .head | apply In.tail | apply Take.tail | apply Upd.tail)) rfl | exact cell_rd (rd_sl (by repeat (first | exact .head | apply In.tail | apply Take.tail | apply Upd.tail))) (by first | exact bcells_at (by omega) | exact ucells_at (by omega) | exact icells_at (by omega) | exact tcells_at (by omega) | exact bcells_get (by omega) | exact icells_get (by omega) | exact tcells_get (by omega) | exact ucells_get (by omega)) | exact cell_rd (rd_old (by assumption) rfl) (by first | exact bcells_at (by omega) | exact ucells_at (by omega) | exact icells_at (by omega) | exact tcells_at (by omega) | exact bcells_get (by omega) | exact icells_get (by omega) | exact tcells_get (by omega) | exact ucells_get (by omega)) | exact cell_old (by assumption) (by simp [fps]))) ?_
  refine vl_val rfl (.some rfl) (val_convInt Tryd.runUnderlying3 Tryd.runUnderlying22 rfl (hP_of x)) ?_
  refine vl_val rfl (.some rfl) (val_com rfl (com_u64 hxh.1 hxh.2)) ?_
  refine vl_val rfl (.some rfl) (val_assign rfl) ?_
  refine vl_nil ?_
  refine vc_seq ?_
  refine vc_seq ?_
  refine vc_region ?_
  refine vl_val rfl (.some rfl) (val_move rfl) ?_
  refine vl_val rfl (.some rfl) (val_eq rfl rfl) ?_
  refine vl_nil ?_
  refine vc_cond rfl (fun hc0 => ?_) (fun hc0 => ?_)
  · (try replace hc0 := of_decide_eq_true hc0)
    refine vc_region ?_
    refine vl_val rfl (.some rfl) (val_move rfl) ?_
    refine vl_val rfl (.some rfl) (val_add rfl rfl (show _ = hP (-x) by rw [w_mod64, ← htu, if_pos (by assumption)]; omega)) ?_
    refine vl_val rfl (.some rfl) (val_assign rfl) ?_
    refine vl_nil ?_
    refine vc_seq ?_
    refine vc_region ?_
    refine vl_val rfl (.some rfl) (val_move rfl) ?_
    refine vl_val rfl (.some rfl) (val_convInt Tryd.runUnderlying22 Tryd.runUnderlying3 rfl (show _ = hW (-x) by first | exact hW_of (-x) | (rw [← hW_of (-x), ← htu, if_neg (by assumption), w_smod64, w_smod64]; omega))) ?_
    refine vl_val rfl (.some rfl) (val_move rfl) ?_
    refine vl_val rfl (.some rfl) (val_buildSt (pl := #[(0, 1), (1, 1)]) (cs := #[.int .i64 (hW (-x)), .int .u64 (lW (-x))]) Tryd.runUnderlying24 Tryd.zeroValue24 (fun w => by kernel_rfl) rfl rfl) ?_
    first | refine vl_store rfl rfl .none rfl rfl Tryd.sizeOf24 rfl (by repeat (first | exact .head | apply In.tail | apply Take.tail | apply Upd.tail)) (by first | decide | exact Nat.le_refl _ | exact Nat.le_of_ble_eq_true rfl | (simp; omega)) ?_ | refine vl_storeSl rfl rfl .none rfl rfl Tryd.sizeOf24 rfl (by simp [Value.cells]) (by repeat (first | exact .head | apply In.tail | apply Take.tail | apply Upd.tail)) (by first | decide | (simp [Value.cells]; omega)) ?_
    refine vl_nil ?_
    refine vc_ret ?_
    refine ⟨_, [], _, resC Tryd.results33 rfl (whole_agg Tryd.isAgg24 Tryd.sizeOf24 (cells_whole (by repeat (first | exact .head | apply In.tail | apply Take.tail | apply Upd.tail))) rfl), .nil, ?_⟩
    rfl
  · (try replace hc0 := of_decide_eq_false hc0)
    refine vc_skip ?_
    refine vc_seq ?_
    refine vc_region ?_
    refine vl_val rfl (.some rfl) (val_move rfl) ?_
    refine vl_val rfl (.some rfl) (val_convInt Tryd.runUnderlying22 Tryd.runUnderlying3 rfl (show _ = hW (-x) by first | exact hW_of (-x) | (rw [← hW_of (-x), ← htu, if_neg (by assumption), w_smod64, w_smod64]; omega))) ?_
    refine vl_val rfl (.some rfl) (val_move rfl) ?_
    refine vl_val rfl (.some rfl) (val_buildSt (pl := #[(0, 1), (1, 1)]) (cs := #[.int .i64 (hW (-x)), .int .u64 (lW (-x))]) Tryd.runUnderlying24 Tryd.zeroValue24 (fun w => by kernel_rfl) rfl rfl) ?_
    first | refine vl_store rfl rfl .none rfl rfl Tryd.sizeOf24 rfl (by repeat (first | exact .head | apply In.tail | apply Take.tail | apply Upd.tail)) (by first | decide | exact Nat.le_refl _ | exact Nat.le_of_ble_eq_true rfl | (simp; omega)) ?_ | refine vl_storeSl rfl rfl .none rfl rfl Tryd.sizeOf24 rfl (by simp [Value.cells]) (by repeat (first | exact .head | apply In.tail | apply Take.tail | apply Upd.tail)) (by first | decide | (simp [Value.cells]; omega)) ?_
    refine vl_nil ?_
    refine vc_ret ?_
    refine ⟨_, [], _, resC Tryd.results33 rfl (whole_agg Tryd.isAgg24 Tryd.sizeOf24 (cells_whole (by repeat (first | exact .head | apply In.tail | apply Take.tail | apply Upd.tail))) rfl), .nil, ?_⟩
    rfl
set_option maxRecDepth 20000 in
theorem rLeast (x : Int) (hx : inW x) (w : World) : FnV Tryd.prog 40 [wV x] (.bool (decide (x = (-170141183460469231731687303715884105728)))) w := by
  refine fn_enter Tryd.func40 rfl Tryd.ntmps40 rfl ?_
  refine vc_seq ?_
  refine vc_region ?_
  refine vl_box rfl rfl (.some rfl) rfl (fun r1 => ?_)
  refine vl_val rfl (.some rfl) (val_assign rfl) ?_
  refine vl_nil ?_
  refine vc_seq ?_
  refine vc_region ?_
  refine vl_val rfl (.some rfl) (by first | exact val_fieldAddr Tryd.runUnderlying24 rfl Tryd.sizeOf22 rfl | exact val_fieldAddrR Tryd.runUnderlying24 rfl Tryd.sizeOf22 rfl) ?_
  refine vl_val rfl (.some rfl) (val_load Tryd.isAgg22 rfl (by first | exact cell_cells (by repeat (first | exact .head | apply In.tail | apply Take.tail | apply Upd.tail)) rfl | exact cell_rd (rd_sl (by repeat (first | exact .head | apply In.tail | apply Take.tail | apply Upd.tail))) (by first | exact bcells_at (by omega) | exact ucells_at (by omega) | exact icells_at (by omega) | exact tcells_at (by omega) | exact bcells_get (by omega) | exact icells_get (by omega) | exact tcells_get (by omega) | exact ucells_get (by omega)) | exact cell_rd (rd_old (by assumption) rfl) (by first | exact bcells_at (by omega) | exact ucells_at (by omega) | exact icells_at (by omega) | exact tcells_at (by omega) | exact bcells_get (by omega) | exact icells_get (by omega) | exact tcells_get (by omega) | exact ucells_get (by omega)) | exact cell_old (by assumption) (by simp [fps]))) ?_
  refine vl_val rfl (.some rfl) (val_eq rfl rfl) ?_
  refine vl_val rfl (.some rfl) (val_move rfl) ?_
  refine vl_split (t := 6) rfl (fun hg6 => ?_) (fun hg6 => ?_)
  · (try replace hg6 := of_decide_eq_true hg6)
    refine vl_on rfl rfl rfl rfl ?_
    refine vl_val rfl (.some rfl) (by first | exact val_fieldAddr Tryd.runUnderlying24 rfl Tryd.sizeOf3 rfl | exact val_fieldAddrR Tryd.runUnderlying24 rfl Tryd.sizeOf3 rfl) ?_
    refine vl_on rfl rfl rfl rfl ?_
    refine vl_val rfl (.some rfl) (val_load Tryd.isAgg3 rfl (by first | exact cell_cells (by repeat (first | exact .head | apply In.tail | apply Take.tail | apply Upd.tail)) rfl | exact cell_rd (rd_sl (by repeat (first | exact .head | apply In.tail | apply Take.tail | apply Upd.tail))) (by first | exact bcells_at (by omega) | exact ucells_at (by omega) | exact icells_at (by omega) | exact tcells_at (by omega) | exact bcells_get (by omega) | exact icells_get (by omega) | exact tcells_get (by omega) | exact ucells_get (by omega)) | exact cell_rd (rd_old (by assumption) rfl) (by first | exact bcells_at (by omega) | exact ucells_at (by omega) | exact icells_at (by omega) | exact tcells_at (by omega) | exact bcells_get (by omega) | exact icells_get (by omega) | exact tcells_get (by omega) | exact ucells_get (by omega)) | exact cell_old (by assumption) (by simp [fps]))) ?_
    refine vl_on rfl rfl rfl rfl ?_
    refine vl_val rfl (.some rfl) (val_convInt Tryd.runUnderlying3 Tryd.runUnderlying22 rfl (hP_of x)) ?_
    refine vl_on rfl rfl rfl rfl ?_
    refine vl_val rfl (.some rfl) (val_eq rfl rfl) ?_
    refine vl_val rfl (.some rfl) (val_pick rfl rfl) ?_
    refine vl_val rfl (.some rfl) (val_assign rfl) ?_
    refine vl_nil ?_
    refine vc_ret ?_
    refine ⟨_, [], _, res1 Tryd.results40 rfl, .nil, ?_⟩
    show Value.bool _ = Value.bool _
    refine congrArg Value.bool ?_
    have hl := least_is hx
    first | (rw [decide_eq_decide]; exact ⟨fun h => hl.1 ⟨hg6, h⟩, fun h => (hl.2 h).2⟩) | exact (decide_eq_false (fun h => hg6 (hl.2 h).1)).symm
  · (try replace hg6 := of_decide_eq_false hg6)
    refine vl_off rfl rfl rfl rfl (.some rfl) ?_
    refine vl_off rfl rfl rfl rfl (.some rfl) ?_
    refine vl_off rfl rfl rfl rfl (.some rfl) ?_
    refine vl_off rfl rfl rfl rfl (.some rfl) ?_
    refine vl_val rfl (.some rfl) (val_pick rfl rfl) ?_
    refine vl_val rfl (.some rfl) (val_assign rfl) ?_
    refine vl_nil ?_
    refine vc_ret ?_
    refine ⟨_, [], _, res1 Tryd.results40 rfl, .nil, ?_⟩
    show Value.bool _ = Value.bool _
    refine congrArg Value.bool ?_
    have hl := least_is hx
    first | (rw [decide_eq_decide]; exact ⟨fun h => hl.1 ⟨hg6, h⟩, fun h => (hl.2 h).2⟩) | exact (decide_eq_false (fun h => hg6 (hl.2 h).1)).symm
set_option maxRecDepth 20000 in
theorem rAdd (x y : Int) (hx : inW x) (hy : inW y) (w : World) : FnV Tryd.prog 23 [wV x, wV y] (.tuple #[wV (clW (x + y)), .bool (decide (inW (x + y)))]) w := by
  have hok := add_ok hx hy
  have hrh := ref_hi x y
  refine fn_enter Tryd.func23 rfl Tryd.ntmps23 rfl ?_
  refine vc_seq ?_
  refine vc_region ?_
  refine vl_box rfl rfl (.some rfl) rfl (fun r2 => ?_)
  refine vl_box rfl rfl (.some rfl) rfl (fun r3 => ?_)
  refine vl_alloc rfl rfl (.some rfl) Tryd.zeroValue24 (fun r4 => ?_)
  refine vl_val rfl (.some rfl) (val_assign rfl) ?_
  refine vl_nil ?_
  refine vc_seq ?_
  refine vc_region ?_
  refine vl_val rfl (.some rfl) (by first | exact val_fieldAddr Tryd.runUnderlying24 rfl Tryd.sizeOf22 rfl | exact val_fieldAddrR Tryd.runUnderlying24 rfl Tryd.sizeOf22 rfl) ?_
  refine vl_val rfl (.some rfl) (val_load Tryd.isAgg22 rfl (by first | exact cell_cells (by repeat (first | exact .head | apply In.tail | apply Take.tail | apply Upd.tail)) rfl | exact cell_rd (rd_sl (by repeat (first | exact .head | apply In.tail | apply Take.tail | apply Upd.tail))) (by first | exact bcells_at (by omega) | exact ucells_at (by omega) | exact icells_at (by omega) | exact tcells_at (by omega) | exact bcells_get (by omega) | exact icells_get (by omega) | exact tcells_get (by omega) | exact ucells_get (by omega)) | exact cell_rd (rd_old (by assumption) rfl) (by first | exact bcells_at (by omega) | exact ucells_at (by omega) | exact icells_at (by omega) | exact tcells_at (by omega) | exact bcells_get (by omega) | exact icells_get (by omega) | exact tcells_get (by omega) | exact ucells_get (by omega)) | exact cell_old (by assumption) (by simp [fps]))) ?_
  refine vl_val rfl (.some rfl) (by first | exact val_fieldAddr Tryd.runUnderlying24 rfl Tryd.sizeOf22 rfl | exact val_fieldAddrR Tryd.runUnderlying24 rfl Tryd.sizeOf22 rfl) ?_
  refine vl_val rfl (.some rfl) (val_load Tryd.isAgg22 rfl (by first | exact cell_cells (by repeat (first | exact .head | apply In.tail | apply Take.tail | apply Upd.tail)) rfl | exact cell_rd (rd_sl (by repeat (first | exact .head | apply In.tail | apply Take.tail | apply Upd.tail))) (by first | exact bcells_at (by omega) | exact ucells_at (by omega) | exact icells_at (by omega) | exact tcells_at (by omega) | exact bcells_get (by omega) | exact icells_get (by omega) | exact tcells_get (by omega) | exact ucells_get (by omega)) | exact cell_rd (rd_old (by assumption) rfl) (by first | exact bcells_at (by omega) | exact ucells_at (by omega) | exact icells_at (by omega) | exact tcells_at (by omega) | exact bcells_get (by omega) | exact icells_get (by omega) | exact tcells_get (by omega) | exact ucells_get (by omega)) | exact cell_old (by assumption) (by simp [fps]))) ?_
  refine vl_val rfl (.some rfl) (val_add rfl rfl (show _ = lW (x + y) by rw [w_mod64, add_lo])) ?_
  refine vl_val rfl (.some rfl) (val_assign rfl) ?_
  refine vl_nil ?_
  refine vc_seq ?_
  refine vc_region ?_
  refine vl_val rfl (.some rfl) (val_assign rfl) ?_
  refine vl_nil ?_
  refine vc_seq ?_
  refine vc_seq ?_
  refine vc_region ?_
  refine vl_val rfl (.some rfl) (val_move rfl) ?_
  refine vl_val rfl (.some rfl) (by first | exact val_fieldAddr Tryd.runUnderlying24 rfl Tryd.sizeOf22 rfl | exact val_fieldAddrR Tryd.runUnderlying24 rfl Tryd.sizeOf22 rfl) ?_
  refine vl_val rfl (.some rfl) (val_load Tryd.isAgg22 rfl (by first | exact cell_cells (by repeat (first | exact .head | apply In.tail | apply Take.tail | apply Upd.tail)) rfl | exact cell_rd (rd_sl (by repeat (first | exact .head | apply In.tail | apply Take.tail | apply Upd.tail))) (by first | exact bcells_at (by omega) | exact ucells_at (by omega) | exact icells_at (by omega) | exact tcells_at (by omega) | exact bcells_get (by omega) | exact icells_get (by omega) | exact tcells_get (by omega) | exact ucells_get (by omega)) | exact cell_rd (rd_old (by assumption) rfl) (by first | exact bcells_at (by omega) | exact ucells_at (by omega) | exact icells_at (by omega) | exact tcells_at (by omega) | exact bcells_get (by omega) | exact icells_get (by omega) | exact tcells_get (by omega) | exact ucells_get (by omega)) | exact cell_old (by assumption) (by simp [fps]))) ?_
  refine vl_val rfl (.some rfl) (val_lt rfl rfl) ?_
  refine vl_nil ?_
  refine vc_cond rfl (fun hc0 => ?_) (fun hc0 => ?_)
  · (try replace hc0 := of_decide_eq_true hc0)
    refine vc_region ?_
    refine vl_val rfl (.some rfl) (val_assign rfl) ?_
    refine vl_nil ?_
    refine vc_seq ?_
    refine vc_region ?_
    refine vl_val rfl (.some rfl) (by first | exact val_fieldAddr Tryd.runUnderlying24 rfl Tryd.sizeOf3 rfl | exact val_fieldAddrR Tryd.runUnderlying24 rfl Tryd.sizeOf3 rfl) ?_
    refine vl_val rfl (.some rfl) (val_load Tryd.isAgg3 rfl (by first | exact cell_cells (by repeat (first | exact .head | apply In.tail | apply Take.tail | apply Upd.tail)) rfl | exact cell_rd (rd_sl (by repeat (first | exact .head | apply In.tail | apply Take.tail | apply Upd.tail))) (by first | exact bcells_at (by omega) | exact ucells_at (by omega) | exact icells_at (by omega) | exact tcells_at (by omega) | exact bcells_get (by omega) | exact icells_get (by omega) | exact tcells_get (by omega) | exact ucells_get (by omega)) | exact cell_rd (rd_old (by assumption) rfl) (by first | exact bcells_at (by omega) | exact ucells_at (by omega) | exact icells_at (by omega) | exact tcells_at (by omega) | exact bcells_get (by omega) | exact icells_get (by omega) | exact tcells_get (by omega) | exact ucells_get (by omega)) | exact cell_old (by assumption) (by simp [fps]))) ?_
    refine vl_val rfl (.some rfl) (val_convInt Tryd.runUnderlying3 Tryd.runUnderlying22 rfl (hP_of x)) ?_
    refine vl_val rfl (.some rfl) (by first | exact val_fieldAddr Tryd.runUnderlying24 rfl Tryd.sizeOf3 rfl | exact val_fieldAddrR Tryd.runUnderlying24 rfl Tryd.sizeOf3 rfl) ?_
    refine vl_val rfl (.some rfl) (val_load Tryd.isAgg3 rfl (by first | exact cell_cells (by repeat (first | exact .head | apply In.tail | apply Take.tail | apply Upd.tail)) rfl | exact cell_rd (rd_sl (by repeat (first | exact .head | apply In.tail | apply Take.tail | apply Upd.tail))) (by first | exact bcells_at (by omega) | exact ucells_at (by omega) | exact icells_at (by omega) | exact tcells_at (by omega) | exact bcells_get (by omega) | exact icells_get (by omega) | exact tcells_get (by omega) | exact ucells_get (by omega)) | exact cell_rd (rd_old (by assumption) rfl) (by first | exact bcells_at (by omega) | exact ucells_at (by omega) | exact icells_at (by omega) | exact tcells_at (by omega) | exact bcells_get (by omega) | exact icells_get (by omega) | exact tcells_get (by omega) | exact ucells_get (by omega)) | exact cell_old (by assumption) (by simp [fps]))) ?_
    refine vl_val rfl (.some rfl) (val_convInt Tryd.runUnderlying3 Tryd.runUnderlying22 rfl (hP_of y)) ?_
    refine vl_val rfl (.some rfl) (val_add rfl rfl (w_mod64 _)) ?_
    refine vl_val rfl (.some rfl) (val_move rfl) ?_
    refine vl_val rfl (.some rfl) (val_add rfl rfl (show _ = hP (x + y) by rw [w_mod64, ← hrh]; (first | rw [if_pos (by assumption)] | rw [if_neg (by assumption)]); omega)) ?_
    refine vl_val rfl (.some rfl) (val_convInt Tryd.runUnderlying22 Tryd.runUnderlying3 rfl (hW_of (x + y))) ?_
    refine vl_val rfl (.some rfl) (val_assign rfl) ?_
    refine vl_nil ?_
    refine vc_seq ?_
    refine vc_seq ?_
    refine vc_region ?_
    refine vl_val rfl (.some rfl) (by first | exact val_fieldAddr Tryd.runUnderlying24 rfl Tryd.sizeOf3 rfl | exact val_fieldAddrR Tryd.runUnderlying24 rfl Tryd.sizeOf3 rfl) ?_
    refine vl_val rfl (.some rfl) (val_load Tryd.isAgg3 rfl (by first | exact cell_cells (by repeat (first | exact .head | apply In.tail | apply Take.tail | apply Upd.tail)) rfl | exact cell_rd (rd_sl (by repeat (first | exact .head | apply In.tail | apply Take.tail | apply Upd.tail))) (by first | exact bcells_at (by omega) | exact ucells_at (by omega) | exact icells_at (by omega) | exact tcells_at (by omega) | exact bcells_get (by omega) | exact icells_get (by omega) | exact tcells_get (by omega) | exact ucells_get (by omega)) | exact cell_rd (rd_old (by assumption) rfl) (by first | exact bcells_at (by omega) | exact ucells_at (by omega) | exact icells_at (by omega) | exact tcells_at (by omega) | exact bcells_get (by omega) | exact icells_get (by omega) | exact tcells_get (by omega) | exact ucells_get (by omega)) | exact cell_old (by assumption) (by simp [fps]))) ?_
    refine vl_val rfl (.some rfl) (val_lt rfl rfl) ?_
    refine vl_val rfl (.some rfl) (by first | exact val_fieldAddr Tryd.runUnderlying24 rfl Tryd.sizeOf3 rfl | exact val_fieldAddrR Tryd.runUnderlying24 rfl Tryd.sizeOf3 rfl) ?_
    refine vl_val rfl (.some rfl) (val_load Tryd.isAgg3 rfl (by first | exact cell_cells (by repeat (first | exact .head | apply In.tail | apply Take.tail | apply Upd.tail)) rfl | exact cell_rd (rd_sl (by repeat (first | exact .head | apply In.tail | apply Take.tail | apply Upd.tail))) (by first | exact bcells_at (by omega) | exact ucells_at (by omega) | exact icells_at (by omega) | exact tcells_at (by omega) | exact bcells_get (by omega) | exact icells_get (by omega) | exact tcells_get (by omega) | exact ucells_get (by omega)) | exact cell_rd (rd_old (by assumption) rfl) (by first | exact bcells_at (by omega) | exact ucells_at (by omega) | exact icells_at (by omega) | exact tcells_at (by omega) | exact bcells_get (by omega) | exact icells_get (by omega) | exact tcells_get (by omega) | exact ucells_get (by omega)) | exact cell_old (by assumption) (by simp [fps]))) ?_
    refine vl_val rfl (.some rfl) (val_lt rfl rfl) ?_
    refine vl_val rfl (.some rfl) (val_beq Tryd.underlying4 rfl rfl) ?_
    refine vl_val rfl (.some rfl) (val_move rfl) ?_
    refine vl_split (t := 35) rfl (fun hg35 => ?_) (fun hg35 => ?_)
    · (try replace hg35 := of_decide_eq_true hg35)
      refine vl_on rfl rfl rfl rfl ?_
      refine vl_val rfl (.some rfl) (val_move rfl) ?_
      refine vl_on rfl rfl rfl rfl ?_
      refine vl_val rfl (.some rfl) (val_lt rfl rfl) ?_
      refine vl_on rfl rfl rfl rfl ?_
      refine vl_val rfl (.some rfl) (by first | exact val_fieldAddr Tryd.runUnderlying24 rfl Tryd.sizeOf3 rfl | exact val_fieldAddrR Tryd.runUnderlying24 rfl Tryd.sizeOf3 rfl) ?_
      refine vl_on rfl rfl rfl rfl ?_
      refine vl_val rfl (.some rfl) (val_load Tryd.isAgg3 rfl (by first | exact cell_cells (by repeat (first | exact .head | apply In.tail | apply Take.tail | apply Upd.tail)) rfl | exact cell_rd (rd_sl (by repeat (first | exact .head | apply In.tail | apply Take.tail | apply Upd.tail))) (by first | exact bcells_at (by omega) | exact ucells_at (by omega) | exact icells_at (by omega) | exact tcells_at (by omega) | exact bcells_get (by omega) | exact icells_get (by omega) | exact tcells_get (by omega) | exact ucells_get (by omega)) | exact cell_rd (rd_old (by assumption) rfl) (by first | exact bcells_at (by omega) | exact ucells_at (by omega) | exact icells_at (by omega) | exact tcells_at (by omega) | exact bcells_get (by omega) | exact icells_get (by omega) | exact tcells_get (by omega) | exact ucells_get (by omega)) | exact cell_old (by assumption) (by simp [fps]))) ?_
      refine vl_on rfl rfl rfl rfl ?_
      refine vl_val rfl (.some rfl) (val_lt rfl rfl) ?_
      refine vl_on rfl rfl rfl rfl ?_
      refine vl_val rfl (.some rfl) (val_bne Tryd.underlying4 rfl rfl) ?_
      refine vl_val rfl (.some rfl) (val_pick rfl rfl) ?_
      refine vl_nil ?_
      refine vc_cond rfl (fun hc1 => ?_) (fun hc1 => ?_)
      · (try replace hc1 := of_decide_eq_true hc1)
        refine vc_seq ?_
        refine vc_region ?_
        refine vl_val rfl (.some rfl) (val_buildSt (pl := #[(0, 1), (1, 1)]) (cs := #[.int .i64 (0), .int .u64 (0)]) Tryd.runUnderlying24 Tryd.zeroValue24 (fun w => by kernel_rfl) rfl rfl) ?_
        first | refine vl_store rfl rfl .none rfl rfl Tryd.sizeOf24 rfl (by repeat (first | exact .head | apply In.tail | apply Take.tail | apply Upd.tail)) (by first | decide | exact Nat.le_refl _ | exact Nat.le_of_ble_eq_true rfl | (simp; omega)) ?_ | refine vl_storeSl rfl rfl .none rfl rfl Tryd.sizeOf24 rfl (by simp [Value.cells]) (by repeat (first | exact .head | apply In.tail | apply Take.tail | apply Upd.tail)) (by first | decide | (simp [Value.cells]; omega)) ?_
        refine vl_val rfl (.some rfl) (val_assign rfl) ?_
        refine vl_nil ?_
        refine vc_ret ?_
        refine ⟨_, [], _, resC2 Tryd.results23 rfl (whole_agg Tryd.isAgg24 Tryd.sizeOf24 (cells_whole (by repeat (first | exact .head | apply In.tail | apply Take.tail | apply Upd.tail))) rfl) rfl, .nil, ?_⟩
        show _ = _
        rw [clW, if_neg (show ¬ inW (x + y) by rw [hok]; (try simp at hg35); (try simp at hc1); simp; omega), decide_eq_false (show ¬ inW (x + y) by rw [hok]; (try simp at hg35); (try simp at hc1); simp; omega)]
        rfl
      · (try replace hc1 := of_decide_eq_false hc1)
        refine vc_skip ?_
        refine vc_seq ?_
        refine vc_region ?_
        refine vl_val rfl (.some rfl) (val_move rfl) ?_
        refine vl_val rfl (.some rfl) (val_move rfl) ?_
        refine vl_val rfl (.some rfl) (val_buildSt (pl := #[(0, 1), (1, 1)]) (cs := #[.int .i64 (hW (x + y)), .int .u64 (lW (x + y))]) Tryd.runUnderlying24 Tryd.zeroValue24 (fun w => by kernel_rfl) rfl rfl) ?_
        first | refine vl_store rfl rfl .none rfl rfl Tryd.sizeOf24 rfl (by repeat (first | exact .head | apply In.tail | apply Take.tail | apply Upd.tail)) (by first | decide | exact Nat.le_refl _ | exact Nat.le_of_ble_eq_true rfl | (simp; omega)) ?_ | refine vl_storeSl rfl rfl .none rfl rfl Tryd.sizeOf24 rfl (by simp [Value.cells]) (by repeat (first | exact .head | apply In.tail | apply Take.tail | apply Upd.tail)) (by first | decide | (simp [Value.cells]; omega)) ?_
        refine vl_val rfl (.some rfl) (val_assign rfl) ?_
        refine vl_nil ?_
        refine vc_ret ?_
        refine ⟨_, [], _, resC2 Tryd.results23 rfl (whole_agg Tryd.isAgg24 Tryd.sizeOf24 (cells_whole (by repeat (first | exact .head | apply In.tail | apply Take.tail | apply Upd.tail))) rfl) rfl, .nil, ?_⟩
        show _ = _
        rw [clW, if_pos (show inW (x + y) by rw [hok]; (try simp at hg35); (try simp at hc1); simp; omega), decide_eq_true (show inW (x + y) by rw [hok]; (try simp at hg35); (try simp at hc1); simp; omega)]
        rfl
    · (try replace hg35 := of_decide_eq_false hg35)
      refine vl_off rfl rfl rfl rfl (.some rfl) ?_
      refine vl_off rfl rfl rfl rfl (.some rfl) ?_
      refine vl_off rfl rfl rfl rfl (.some rfl) ?_
      refine vl_off rfl rfl rfl rfl (.some rfl) ?_
      refine vl_off rfl rfl rfl rfl (.some rfl) ?_
      refine vl_off rfl rfl rfl rfl (.some rfl) ?_
      refine vl_val rfl (.some rfl) (val_pick rfl rfl) ?_
      refine vl_nil ?_
      refine vc_cond rfl (fun h => by cases h) (fun _ => ?_)
      refine vc_skip ?_
      refine vc_seq ?_
      refine vc_region ?_
      refine vl_val rfl (.some rfl) (val_move rfl) ?_
      refine vl_val rfl (.some rfl) (val_move rfl) ?_
      refine vl_val rfl (.some rfl) (val_buildSt (pl := #[(0, 1), (1, 1)]) (cs := #[.int .i64 (hW (x + y)), .int .u64 (lW (x + y))]) Tryd.runUnderlying24 Tryd.zeroValue24 (fun w => by kernel_rfl) rfl rfl) ?_
      first | refine vl_store rfl rfl .none rfl rfl Tryd.sizeOf24 rfl (by repeat (first | exact .head | apply In.tail | apply Take.tail | apply Upd.tail)) (by first | decide | exact Nat.le_refl _ | exact Nat.le_of_ble_eq_true rfl | (simp; omega)) ?_ | refine vl_storeSl rfl rfl .none rfl rfl Tryd.sizeOf24 rfl (by simp [Value.cells]) (by repeat (first | exact .head | apply In.tail | apply Take.tail | apply Upd.tail)) (by first | decide | (simp [Value.cells]; omega)) ?_
      refine vl_val rfl (.some rfl) (val_assign rfl) ?_
      refine vl_nil ?_
      refine vc_ret ?_
      refine ⟨_, [], _, resC2 Tryd.results23 rfl (whole_agg Tryd.isAgg24 Tryd.sizeOf24 (cells_whole (by repeat (first | exact .head | apply In.tail | apply Take.tail | apply Upd.tail))) rfl) rfl, .nil, ?_⟩
      show _ = _
      rw [clW, if_pos (show inW (x + y) by rw [hok]; (try simp at hg35); (try simp at hc1); simp; omega), decide_eq_true (show inW (x + y) by rw [hok]; (try simp at hg35); (try simp at hc1); simp; omega)]
      rfl
  · (try replace hc0 := of_decide_eq_false hc0)
    refine vc_skip ?_
    refine vc_seq ?_
    refine vc_region ?_
    refine vl_val rfl (.some rfl) (by first | exact val_fieldAddr Tryd.runUnderlying24 rfl Tryd.sizeOf3 rfl | exact val_fieldAddrR Tryd.runUnderlying24 rfl Tryd.sizeOf3 rfl) ?_
    refine vl_val rfl (.some rfl) (val_load Tryd.isAgg3 rfl (by first | exact cell_cells (by repeat (first | exact .head | apply In.tail | apply Take.tail | apply Upd.tail)) rfl | exact cell_rd (rd_sl (by repeat (first | exact .head | apply In.tail | apply Take.tail | apply Upd.tail))) (by first | exact bcells_at (by omega) | exact ucells_at (by omega) | exact icells_at (by omega) | exact tcells_at (by omega) | exact bcells_get (by omega) | exact icells_get (by omega) | exact tcells_get (by omega) | exact ucells_get (by omega)) | exact cell_rd (rd_old (by assumption) rfl) (by first | exact bcells_at (by omega) | exact ucells_at (by omega) | exact icells_at (by omega) | exact tcells_at (by omega) | exact bcells_get (by omega) | exact icells_get (by omega) | exact tcells_get (by omega) | exact ucells_get (by omega)) | exact cell_old (by assumption) (by simp [fps]))) ?_
    refine vl_val rfl (.some rfl) (val_convInt Tryd.runUnderlying3 Tryd.runUnderlying22 rfl (hP_of x)) ?_
    refine vl_val rfl (.some rfl) (by first | exact val_fieldAddr Tryd.runUnderlying24 rfl Tryd.sizeOf3 rfl | exact val_fieldAddrR Tryd.runUnderlying24 rfl Tryd.sizeOf3 rfl) ?_
    refine vl_val rfl (.some rfl) (val_load Tryd.isAgg3 rfl (by first | exact cell_cells (by repeat (first | exact .head | apply In.tail | apply Take.tail | apply Upd.tail)) rfl | exact cell_rd (rd_sl (by repeat (first | exact .head | apply In.tail | apply Take.tail | apply Upd.tail))) (by first | exact bcells_at (by omega) | exact ucells_at (by omega) | exact icells_at (by omega) | exact tcells_at (by omega) | exact bcells_get (by omega) | exact icells_get (by omega) | exact tcells_get (by omega) | exact ucells_get (by omega)) | exact cell_rd (rd_old (by assumption) rfl) (by first | exact bcells_at (by omega) | exact ucells_at (by omega) | exact icells_at (by omega) | exact tcells_at (by omega) | exact bcells_get (by omega) | exact icells_get (by omega) | exact tcells_get (by omega) | exact ucells_get (by omega)) | exact cell_old (by assumption) (by simp [fps]))) ?_
    refine vl_val rfl (.some rfl) (val_convInt Tryd.runUnderlying3 Tryd.runUnderlying22 rfl (hP_of y)) ?_
    refine vl_val rfl (.some rfl) (val_add rfl rfl (w_mod64 _)) ?_
    refine vl_val rfl (.some rfl) (val_move rfl) ?_
    refine vl_val rfl (.some rfl) (val_add rfl rfl (show _ = hP (x + y) by rw [w_mod64, ← hrh]; (first | rw [if_pos (by assumption)] | rw [if_neg (by assumption)]); omega)) ?_
    refine vl_val rfl (.some rfl) (val_convInt Tryd.runUnderlying22 Tryd.runUnderlying3 rfl (hW_of (x + y))) ?_
    refine vl_val rfl (.some rfl) (val_assign rfl) ?_
    refine vl_nil ?_
    refine vc_seq ?_
    refine vc_seq ?_
    refine vc_region ?_
    refine vl_val rfl (.some rfl) (by first | exact val_fieldAddr Tryd.runUnderlying24 rfl Tryd.sizeOf3 rfl | exact val_fieldAddrR Tryd.runUnderlying24 rfl Tryd.sizeOf3 rfl) ?_
    refine vl_val rfl (.some rfl) (val_load Tryd.isAgg3 rfl (by first | exact cell_cells (by repeat (first | exact .head | apply In.tail | apply Take.tail | apply Upd.tail)) rfl | exact cell_rd (rd_sl (by repeat (first | exact .head | apply In.tail | apply Take.tail | apply Upd.tail))) (by first | exact bcells_at (by omega) | exact ucells_at (by omega) | exact icells_at (by omega) | exact tcells_at (by omega) | exact bcells_get (by omega) | exact icells_get (by omega) | exact tcells_get (by omega) | exact ucells_get (by omega)) | exact cell_rd (rd_old (by assumption) rfl) (by first | exact bcells_at (by omega) | exact ucells_at (by omega) | exact icells_at (by omega) | exact tcells_at (by omega) | exact bcells_get (by omega) | exact icells_get (by omega) | exact tcells_get (by omega) | exact ucells_get (by omega)) | exact cell_old (by assumption) (by simp [fps]))) ?_
    refine vl_val rfl (.some rfl) (val_lt rfl rfl) ?_
    refine vl_val rfl (.some rfl) (by first | exact val_fieldAddr Tryd.runUnderlying24 rfl Tryd.sizeOf3 rfl | exact val_fieldAddrR Tryd.runUnderlying24 rfl Tryd.sizeOf3 rfl) ?_
    refine vl_val rfl (.some rfl) (val_load Tryd.isAgg3 rfl (by first | exact cell_cells (by repeat (first | exact .head | apply In.tail | apply Take.tail | apply Upd.tail)) rfl | exact cell_rd (rd_sl (by repeat (first | exact .head | apply In.tail | apply Take.tail | apply Upd.tail))) (by first | exact bcells_at (by omega) | exact ucells_at (by omega) | exact icells_at (by omega) | exact tcells_at (by omega) | exact bcells_get (by omega) | exact icells_get (by omega) | exact tcells_get (by omega) | exact ucells_get (by omega)) | exact cell_rd (rd_old (by assumption) rfl) (by first | exact bcells_at (by omega) | exact ucells_at (by omega) | exact icells_at (by omega) | exact tcells_at (by omega) | exact bcells_get (by omega) | exact icells_get (by omega) | exact tcells_get (by omega) | exact ucells_get (by omega)) | exact cell_old (by assumption) (by simp [fps]))) ?_
    refine vl_val rfl (.some rfl) (val_lt rfl rfl) ?_
    refine vl_val rfl (.some rfl) (val_beq Tryd.underlying4 rfl rfl) ?_
    refine vl_val rfl (.some rfl) (val_move rfl) ?_
    refine vl_split (t := 35) rfl (fun hg35 => ?_) (fun hg35 => ?_)
    · (try replace hg35 := of_decide_eq_true hg35)
      refine vl_on rfl rfl rfl rfl ?_
      refine vl_val rfl (.some rfl) (val_move rfl) ?_
      refine vl_on rfl rfl rfl rfl ?_
      refine vl_val rfl (.some rfl) (val_lt rfl rfl) ?_
      refine vl_on rfl rfl rfl rfl ?_
      refine vl_val rfl (.some rfl) (by first | exact val_fieldAddr Tryd.runUnderlying24 rfl Tryd.sizeOf3 rfl | exact val_fieldAddrR Tryd.runUnderlying24 rfl Tryd.sizeOf3 rfl) ?_
      refine vl_on rfl rfl rfl rfl ?_
      refine vl_val rfl (.some rfl) (val_load Tryd.isAgg3 rfl (by first | exact cell_cells (by repeat (first | exact .head | apply In.tail | apply Take.tail | apply Upd.tail)) rfl | exact cell_rd (rd_sl (by repeat (first | exact .head | apply In.tail | apply Take.tail | apply Upd.tail))) (by first | exact bcells_at (by omega) | exact ucells_at (by omega) | exact icells_at (by omega) | exact tcells_at (by omega) | exact bcells_get (by omega) | exact icells_get (by omega) | exact tcells_get (by omega) | exact ucells_get (by omega)) | exact cell_rd (rd_old (by assumption) rfl) (by first | exact bcells_at (by omega) | exact ucells_at (by omega) | exact icells_at (by omega) | exact tcells_at (by omega) | exact bcells_get (by omega) | exact icells_get (by omega) | exact tcells_get (by omega) | exact ucells_get (by omega)) | exact cell_old (by assumption) (by simp [fps]))) ?_
      refine vl_on rfl rfl rfl rfl ?_
      refine vl_val rfl (.some rfl) (val_lt rfl rfl) ?_
      refine vl_on rfl rfl rfl rfl ?_
      refine vl_val rfl (.some rfl) (val_bne Tryd.underlying4 rfl rfl) ?_
      refine vl_val rfl (.some rfl) (val_pick rfl rfl) ?_
      refine vl_nil ?_
      refine vc_cond rfl (fun hc1 => ?_) (fun hc1 => ?_)
      · (try replace hc1 := of_decide_eq_true hc1)
        refine vc_seq ?_
        refine vc_region ?_
        refine vl_val rfl (.some rfl) (val_buildSt (pl := #[(0, 1), (1, 1)]) (cs := #[.int .i64 (0), .int .u64 (0)]) Tryd.runUnderlying24 Tryd.zeroValue24 (fun w => by kernel_rfl) rfl rfl) ?_
        first | refine vl_store rfl rfl .none rfl rfl Tryd.sizeOf24 rfl (by repeat (first | exact .head | apply In.tail | apply Take.tail | apply Upd.tail)) (by first | decide | exact Nat.le_refl _ | exact Nat.le_of_ble_eq_true rfl | (simp; omega)) ?_ | refine vl_storeSl rfl rfl .none rfl rfl Tryd.sizeOf24 rfl (by simp [Value.cells]) (by repeat (first | exact .head | apply In.tail | apply Take.tail | apply Upd.tail)) (by first | decide | (simp [Value.cells]; omega)) ?_
        refine vl_val rfl (.some rfl) (val_assign rfl) ?_
        refine vl_nil ?_
        refine vc_ret ?_
        refine ⟨_, [], _, resC2 Tryd.results23 rfl (whole_agg Tryd.isAgg24 Tryd.sizeOf24 (cells_whole (by repeat (first | exact .head | apply In.tail | apply Take.tail | apply Upd.tail))) rfl) rfl, .nil, ?_⟩
        show _ = _
        rw [clW, if_neg (show ¬ inW (x + y) by rw [hok]; (try simp at hg35); (try simp at hc1); simp; omega), decide_eq_false (show ¬ inW (x + y) by rw [hok]; (try simp at hg35); (try simp at hc1); simp; omega)]
        rfl
      · (try replace hc1 := of_decide_eq_false hc1)
        refine vc_skip ?_
        refine vc_seq ?_
        refine vc_region ?_
        refine vl_val rfl (.some rfl) (val_move rfl) ?_
        refine vl_val rfl (.some rfl) (val_move rfl) ?_
        refine vl_val rfl (.some rfl) (val_buildSt (pl := #[(0, 1), (1, 1)]) (cs := #[.int .i64 (hW (x + y)), .int .u64 (lW (x + y))]) Tryd.runUnderlying24 Tryd.zeroValue24 (fun w => by kernel_rfl) rfl rfl) ?_
        first | refine vl_store rfl rfl .none rfl rfl Tryd.sizeOf24 rfl (by repeat (first | exact .head | apply In.tail | apply Take.tail | apply Upd.tail)) (by first | decide | exact Nat.le_refl _ | exact Nat.le_of_ble_eq_true rfl | (simp; omega)) ?_ | refine vl_storeSl rfl rfl .none rfl rfl Tryd.sizeOf24 rfl (by simp [Value.cells]) (by repeat (first | exact .head | apply In.tail | apply Take.tail | apply Upd.tail)) (by first | decide | (simp [Value.cells]; omega)) ?_
        refine vl_val rfl (.some rfl) (val_assign rfl) ?_
        refine vl_nil ?_
        refine vc_ret ?_
        refine ⟨_, [], _, resC2 Tryd.results23 rfl (whole_agg Tryd.isAgg24 Tryd.sizeOf24 (cells_whole (by repeat (first | exact .head | apply In.tail | apply Take.tail | apply Upd.tail))) rfl) rfl, .nil, ?_⟩
        show _ = _
        rw [clW, if_pos (show inW (x + y) by rw [hok]; (try simp at hg35); (try simp at hc1); simp; omega), decide_eq_true (show inW (x + y) by rw [hok]; (try simp at hg35); (try simp at hc1); simp; omega)]
        rfl
    · (try replace hg35 := of_decide_eq_false hg35)
      refine vl_off rfl rfl rfl rfl (.some rfl) ?_
      refine vl_off rfl rfl rfl rfl (.some rfl) ?_
      refine vl_off rfl rfl rfl rfl (.some rfl) ?_
      refine vl_off rfl rfl rfl rfl (.some rfl) ?_
      refine vl_off rfl rfl rfl rfl (.some rfl) ?_
      refine vl_off rfl rfl rfl rfl (.some rfl) ?_
      refine vl_val rfl (.some rfl) (val_pick rfl rfl) ?_
      refine vl_nil ?_
      refine vc_cond rfl (fun h => by cases h) (fun _ => ?_)
      refine vc_skip ?_
      refine vc_seq ?_
      refine vc_region ?_
      refine vl_val rfl (.some rfl) (val_move rfl) ?_
      refine vl_val rfl (.some rfl) (val_move rfl) ?_
      refine vl_val rfl (.some rfl) (val_buildSt (pl := #[(0, 1), (1, 1)]) (cs := #[.int .i64 (hW (x + y)), .int .u64 (lW (x + y))]) Tryd.runUnderlying24 Tryd.zeroValue24 (fun w => by kernel_rfl) rfl rfl) ?_
      first | refine vl_store rfl rfl .none rfl rfl Tryd.sizeOf24 rfl (by repeat (first | exact .head | apply In.tail | apply Take.tail | apply Upd.tail)) (by first | decide | exact Nat.le_refl _ | exact Nat.le_of_ble_eq_true rfl | (simp; omega)) ?_ | refine vl_storeSl rfl rfl .none rfl rfl Tryd.sizeOf24 rfl (by simp [Value.cells]) (by repeat (first | exact .head | apply In.tail | apply Take.tail | apply Upd.tail)) (by first | decide | (simp [Value.cells]; omega)) ?_
      refine vl_val rfl (.some rfl) (val_assign rfl) ?_
      refine vl_nil ?_
      refine vc_ret ?_
      refine ⟨_, [], _, resC2 Tryd.results23 rfl (whole_agg Tryd.isAgg24 Tryd.sizeOf24 (cells_whole (by repeat (first | exact .head | apply In.tail | apply Take.tail | apply Upd.tail))) rfl) rfl, .nil, ?_⟩
      show _ = _
      rw [clW, if_pos (show inW (x + y) by rw [hok]; (try simp at hg35); (try simp at hc1); simp; omega), decide_eq_true (show inW (x + y) by rw [hok]; (try simp at hg35); (try simp at hc1); simp; omega)]
      rfl
set_option maxRecDepth 20000 in
theorem rSub (x y : Int) (hx : inW x) (hy : inW y) (w : World) : FnV Tryd.prog 24 [wV x, wV y] (.tuple #[wV (clW (x - y)), .bool (decide (inW (x - y)))]) w := by
  have hni := neg_in hx
  have hxb := hx
  unfold inW at hxb
  refine fn_enter Tryd.func24 rfl Tryd.ntmps24 rfl ?_
  refine vc_seq ?_
  refine vc_region ?_
  refine vl_box rfl rfl (.some rfl) rfl (fun r2 => ?_)
  refine vl_box rfl rfl (.some rfl) rfl (fun r3 => ?_)
  refine vl_alloc rfl rfl (.some rfl) Tryd.zeroValue24 (fun r4 => ?_)
  refine vl_val rfl (.some rfl) (val_assign rfl) ?_
  refine vl_nil ?_
  refine vc_seq ?_
  refine vc_seq ?_
  refine vc_region ?_
  refine vl_val rfl (.some rfl) (val_loadAgg Tryd.isAgg24 Tryd.sizeOf24 rfl (by first | exact cells_whole (by repeat (first | exact .head | apply In.tail | apply Take.tail | apply Upd.tail)) | exact cells_part (by repeat (first | exact .head | apply In.tail | apply Take.tail | apply Upd.tail)) rfl) rfl) ?_
  refine vl_callV rfl rfl (.some rfl) Tryd.call40 rfl (fun w hw => rLeast y hy w) ?_
  refine vl_nil ?_
  refine vc_cond rfl (fun hc0 => ?_) (fun hc0 => ?_)
  · (try replace hc0 := of_decide_eq_true hc0)
    have hy0 : y = (-170141183460469231731687303715884105728) := by simpa using hc0
    refine vc_seq ?_
    refine vc_seq ?_
    refine vc_region ?_
    refine vl_val rfl (.some rfl) (by first | exact val_fieldAddr Tryd.runUnderlying24 rfl Tryd.sizeOf3 rfl | exact val_fieldAddrR Tryd.runUnderlying24 rfl Tryd.sizeOf3 rfl) ?_
    refine vl_val rfl (.some rfl) (val_load Tryd.isAgg3 rfl (by first | exact cell_cells (by repeat (first | exact .head | apply In.tail | apply Take.tail | apply Upd.tail)) rfl | exact cell_rd (rd_sl (by repeat (first | exact .head | apply In.tail | apply Take.tail | apply Upd.tail))) (by first | exact bcells_at (by omega) | exact ucells_at (by omega) | exact icells_at (by omega) | exact tcells_at (by omega) | exact bcells_get (by omega) | exact icells_get (by omega) | exact tcells_get (by omega) | exact ucells_get (by omega)) | exact cell_rd (rd_old (by assumption) rfl) (by first | exact bcells_at (by omega) | exact ucells_at (by omega) | exact icells_at (by omega) | exact tcells_at (by omega) | exact bcells_get (by omega) | exact icells_get (by omega) | exact tcells_get (by omega) | exact ucells_get (by omega)) | exact cell_old (by assumption) (by simp [fps]))) ?_
    refine vl_val rfl (.some rfl) (val_ge rfl rfl) ?_
    refine vl_nil ?_
    refine vc_cond rfl (fun hc1 => ?_) (fun hc1 => ?_)
    · (try replace hc1 := of_decide_eq_true hc1)
      have hno : ¬ inW (x - y) := by unfold inW; omega
      refine vc_seq ?_
      refine vc_region ?_
      refine vl_val rfl (.some rfl) (val_buildSt (pl := #[(0, 1), (1, 1)]) (cs := #[.int .i64 (0), .int .u64 (0)]) Tryd.runUnderlying24 Tryd.zeroValue24 (fun w => by kernel_rfl) rfl rfl) ?_
      first | refine vl_store rfl rfl .none rfl rfl Tryd.sizeOf24 rfl (by repeat (first | exact .head | apply In.tail | apply Take.tail | apply Upd.tail)) (by first | decide | exact Nat.le_refl _ | exact Nat.le_of_ble_eq_true rfl | (simp; omega)) ?_ | refine vl_storeSl rfl rfl .none rfl rfl Tryd.sizeOf24 rfl (by simp [Value.cells]) (by repeat (first | exact .head | apply In.tail | apply Take.tail | apply Upd.tail)) (by first | decide | (simp [Value.cells]; omega)) ?_
      refine vl_val rfl (.some rfl) (val_assign rfl) ?_
      refine vl_nil ?_
      refine vc_ret ?_
      refine ⟨_, [], _, resC2 Tryd.results24 rfl (whole_agg Tryd.isAgg24 Tryd.sizeOf24 (cells_whole (by repeat (first | exact .head | apply In.tail | apply Take.tail | apply Upd.tail))) rfl) rfl, .nil, ?_⟩
      show _ = _
      rw [clW, if_neg hno, decide_eq_false hno]
      rfl
    · (try replace hc1 := of_decide_eq_false hc1)
      have hno : inW (x - y) := by unfold inW; omega
      refine vc_skip ?_
      refine vc_seq ?_
      refine vc_region ?_
      refine vl_val rfl (.some rfl) (by first | exact val_fieldAddr Tryd.runUnderlying24 rfl Tryd.sizeOf3 rfl | exact val_fieldAddrR Tryd.runUnderlying24 rfl Tryd.sizeOf3 rfl) ?_
      refine vl_val rfl (.some rfl) (val_load Tryd.isAgg3 rfl (by first | exact cell_cells (by repeat (first | exact .head | apply In.tail | apply Take.tail | apply Upd.tail)) rfl | exact cell_rd (rd_sl (by repeat (first | exact .head | apply In.tail | apply Take.tail | apply Upd.tail))) (by first | exact bcells_at (by omega) | exact ucells_at (by omega) | exact icells_at (by omega) | exact tcells_at (by omega) | exact bcells_get (by omega) | exact icells_get (by omega) | exact tcells_get (by omega) | exact ucells_get (by omega)) | exact cell_rd (rd_old (by assumption) rfl) (by first | exact bcells_at (by omega) | exact ucells_at (by omega) | exact icells_at (by omega) | exact tcells_at (by omega) | exact bcells_get (by omega) | exact icells_get (by omega) | exact tcells_get (by omega) | exact ucells_get (by omega)) | exact cell_old (by assumption) (by simp [fps]))) ?_
      refine vl_val rfl (.some rfl) (val_convInt Tryd.runUnderlying3 Tryd.runUnderlying22 rfl (hP_of x)) ?_
      refine vl_val rfl (.some rfl) (val_add rfl rfl (w_mod64 _)) ?_
      refine vl_val rfl (.some rfl) (val_convInt Tryd.runUnderlying22 Tryd.runUnderlying3 rfl (show _ = hW (x - y) by rw [w_smod64]; unfold hP hW; omega)) ?_
      refine vl_val rfl (.some rfl) (by first | exact val_fieldAddr Tryd.runUnderlying24 rfl Tryd.sizeOf22 rfl | exact val_fieldAddrR Tryd.runUnderlying24 rfl Tryd.sizeOf22 rfl) ?_
      refine vl_val rfl (.some rfl) (val_load Tryd.isAgg22 rfl (by first | exact cell_cells (by repeat (first | exact .head | apply In.tail | apply Take.tail | apply Upd.tail)) rfl | exact cell_rd (rd_sl (by repeat (first | exact .head | apply In.tail | apply Take.tail | apply Upd.tail))) (by first | exact bcells_at (by omega) | exact ucells_at (by omega) | exact icells_at (by omega) | exact tcells_at (by omega) | exact bcells_get (by omega) | exact icells_get (by omega) | exact tcells_get (by omega) | exact ucells_get (by omega)) | exact cell_rd (rd_old (by assumption) rfl) (by first | exact bcells_at (by omega) | exact ucells_at (by omega) | exact icells_at (by omega) | exact tcells_at (by omega) | exact bcells_get (by omega) | exact icells_get (by omega) | exact tcells_get (by omega) | exact ucells_get (by omega)) | exact cell_old (by assumption) (by simp [fps]))) ?_
      refine vl_val rfl (.some rfl) (val_buildSt (pl := #[(0, 1), (1, 1)]) (cs := #[.int .i64 (hW (x - y)), .int .u64 (lW x)]) Tryd.runUnderlying24 Tryd.zeroValue24 (fun w => by kernel_rfl) rfl rfl) ?_
      first | refine vl_store rfl rfl .none rfl rfl Tryd.sizeOf24 rfl (by repeat (first | exact .head | apply In.tail | apply Take.tail | apply Upd.tail)) (by first | decide | exact Nat.le_refl _ | exact Nat.le_of_ble_eq_true rfl | (simp; omega)) ?_ | refine vl_storeSl rfl rfl .none rfl rfl Tryd.sizeOf24 rfl (by simp [Value.cells]) (by repeat (first | exact .head | apply In.tail | apply Take.tail | apply Upd.tail)) (by first | decide | (simp [Value.cells]; omega)) ?_
      refine vl_val rfl (.some rfl) (val_assign rfl) ?_
      refine vl_nil ?_
      refine vc_ret ?_
      refine ⟨_, [], _, resC2 Tryd.results24 rfl (whole_agg Tryd.isAgg24 Tryd.sizeOf24 (cells_whole (by repeat (first | exact .head | apply In.tail | apply Take.tail | apply Upd.tail))) rfl) rfl, .nil, ?_⟩
      show Value.tuple #[.agg #[.int .i64 (hW (x - y)), .int .u64 (lW x)], .bool true] = .tuple #[.agg #[.int .i64 (hW (clW (x - y))), .int .u64 (lW (clW (x - y)))], .bool (decide (inW (x - y)))]
      rw [clW_id hno, decide_eq_true hno, show lW (x - y) = lW x by unfold lW; omega]
  · (try replace hc0 := of_decide_eq_false hc0)
    refine vc_skip ?_
    refine vc_seq ?_
    refine vc_drawsS [0, 1, 4, 5, 7] [] [0, 1, 2, 3, 4, 5, 6, 7] [cells r2 [.int .i64 (hW x), .int .u64 (lW x)] 24, cells r3 [.int .i64 (hW y), .int .u64 (lW y)] 24] (by repeat (first | exact .nil | (apply Sub.cons; · repeat (first | exact .head | apply Take.tail)))) rfl (by kernel_rfl) (fun _ _ _ h => h) ?_
    refine vd_val rfl rfl rfl (.some rfl) (val_loadAgg Tryd.isAgg24 Tryd.sizeOf24 rfl (by first | exact cells_whole (by repeat (first | exact .head | apply In.tail | apply Take.tail | apply Upd.tail)) | exact cells_part (by repeat (first | exact .head | apply In.tail | apply Take.tail | apply Upd.tail)) rfl) rfl) ?_
    refine vd_val rfl rfl rfl (.some rfl) (val_loadAgg Tryd.isAgg24 Tryd.sizeOf24 rfl (by first | exact cells_whole (by repeat (first | exact .head | apply In.tail | apply Take.tail | apply Upd.tail)) | exact cells_part (by repeat (first | exact .head | apply In.tail | apply Take.tail | apply Upd.tail)) rfl) rfl) ?_
    refine vd_op rfl rfl ?_
    refine vl_callV rfl rfl (.some rfl) Tryd.call33 rfl (fun w hw => rTurned y w) ?_
    refine vl_nil ?_
    refine ⟨fun _ => ⟨_, (by repeat (first | exact .nil | (apply Sub.cons; · repeat (first | exact .head | apply Take.tail))))⟩, ?_⟩
    refine vd_op rfl rfl ?_
    refine vl_callV rfl rfl (.some rfl) Tryd.call23 rfl (fun w hw => rAdd x (-y) hx ((neg_ok hy).2 (by simpa using hc0)) w) ?_
    rw [show x + -y = x - y by omega]
    refine vl_nil ?_
    refine ⟨fun _ => ⟨_, (by repeat (first | exact .nil | (apply Sub.cons; · repeat (first | exact .head | apply Take.tail))))⟩, ?_⟩
    refine vd_val rfl rfl rfl (.some rfl) (val_extract rfl rfl) ?_
    refine vd_val rfl rfl rfl (.some rfl) (val_extract rfl rfl) ?_
    refine vd_op rfl rfl ?_
    first | refine vl_store rfl rfl .none rfl rfl Tryd.sizeOf24 rfl (by repeat (first | exact .head | apply In.tail | apply Take.tail | apply Upd.tail)) (by first | decide | exact Nat.le_refl _ | exact Nat.le_of_ble_eq_true rfl | (simp; omega)) ?_ | refine vl_storeSl rfl rfl .none rfl rfl Tryd.sizeOf24 rfl (by simp [Value.cells]) (by repeat (first | exact .head | apply In.tail | apply Take.tail | apply Upd.tail)) (by first | decide | (simp [Value.cells]; omega)) ?_
    refine vl_nil ?_
    refine ⟨fun _ => ⟨_, (by repeat (first | exact .nil | (apply Sub.cons; · repeat (first | exact .head | apply Take.tail))))⟩, ?_⟩
    refine vd_val rfl rfl rfl (.some rfl) (val_assign rfl) ?_
    refine vd_nil ?_
    refine vc_ret ?_
    refine ⟨_, [], _, resC2 Tryd.results24 rfl (whole_agg Tryd.isAgg24 Tryd.sizeOf24 (cells_whole (by repeat (first | exact .head | apply In.tail | apply Take.tail | apply Upd.tail))) rfl) rfl, .nil, ?_⟩
    rfl
set_option maxRecDepth 20000 in
theorem rNeg (x : Int) (hx : inW x) (w : World) : FnV Tryd.prog 26 [wV x] (.tuple #[wV (clW (-x)), .bool (decide (inW (-x)))]) w := by
  refine fn_enter Tryd.func26 rfl Tryd.ntmps26 rfl ?_
  refine vc_seq ?_
  refine vc_region ?_
  refine vl_box rfl rfl (.some rfl) rfl (fun r1 => ?_)
  refine vl_alloc rfl rfl (.some rfl) Tryd.zeroValue24 (fun r2 => ?_)
  refine vl_val rfl (.some rfl) (val_assign rfl) ?_
  refine vl_nil ?_
  refine vc_seq ?_
  refine vc_seq ?_
  refine vc_region ?_
  refine vl_val rfl (.some rfl) (val_loadAgg Tryd.isAgg24 Tryd.sizeOf24 rfl (by first | exact cells_whole (by repeat (first | exact .head | apply In.tail | apply Take.tail | apply Upd.tail)) | exact cells_part (by repeat (first | exact .head | apply In.tail | apply Take.tail | apply Upd.tail)) rfl) rfl) ?_
  refine vl_callV rfl rfl (.some rfl) Tryd.call40 rfl (fun w hw => rLeast x hx w) ?_
  refine vl_nil ?_
  refine vc_cond rfl (fun hc0 => ?_) (fun hc0 => ?_)
  · (try replace hc0 := of_decide_eq_true hc0)
    have hno : ¬ inW (-x) := fun h => (neg_ok hx).1 h (by simpa using hc0)
    refine vc_seq ?_
    refine vc_region ?_
    refine vl_val rfl (.some rfl) (val_buildSt (pl := #[(0, 1), (1, 1)]) (cs := #[.int .i64 (0), .int .u64 (0)]) Tryd.runUnderlying24 Tryd.zeroValue24 (fun w => by kernel_rfl) rfl rfl) ?_
    first | refine vl_store rfl rfl .none rfl rfl Tryd.sizeOf24 rfl (by repeat (first | exact .head | apply In.tail | apply Take.tail | apply Upd.tail)) (by first | decide | exact Nat.le_refl _ | exact Nat.le_of_ble_eq_true rfl | (simp; omega)) ?_ | refine vl_storeSl rfl rfl .none rfl rfl Tryd.sizeOf24 rfl (by simp [Value.cells]) (by repeat (first | exact .head | apply In.tail | apply Take.tail | apply Upd.tail)) (by first | decide | (simp [Value.cells]; omega)) ?_
    refine vl_val rfl (.some rfl) (val_assign rfl) ?_
    refine vl_nil ?_
    refine vc_ret ?_
    refine ⟨_, [], _, resC2 Tryd.results26 rfl (whole_agg Tryd.isAgg24 Tryd.sizeOf24 (cells_whole (by repeat (first | exact .head | apply In.tail | apply Take.tail | apply Upd.tail))) rfl) rfl, .nil, ?_⟩
    show _ = _
    rw [clW, if_neg hno, decide_eq_false hno]
    rfl
  · (try replace hc0 := of_decide_eq_false hc0)
    have hno : inW (-x) := (neg_ok hx).2 (by simpa using hc0)
    refine vc_skip ?_
    refine vc_seq ?_
    refine vc_region ?_
    refine vl_val rfl (.some rfl) (val_loadAgg Tryd.isAgg24 Tryd.sizeOf24 rfl (by first | exact cells_whole (by repeat (first | exact .head | apply In.tail | apply Take.tail | apply Upd.tail)) | exact cells_part (by repeat (first | exact .head | apply In.tail | apply Take.tail | apply Upd.tail)) rfl) rfl) ?_
    refine vl_callV rfl rfl (.some rfl) Tryd.call33 rfl (fun w hw => rTurned x w) ?_
    first | refine vl_store rfl rfl .none rfl rfl Tryd.sizeOf24 rfl (by repeat (first | exact .head | apply In.tail | apply Take.tail | apply Upd.tail)) (by first | decide | exact Nat.le_refl _ | exact Nat.le_of_ble_eq_true rfl | (simp; omega)) ?_ | refine vl_storeSl rfl rfl .none rfl rfl Tryd.sizeOf24 rfl (by simp [Value.cells]) (by repeat (first | exact .head | apply In.tail | apply Take.tail | apply Upd.tail)) (by first | decide | (simp [Value.cells]; omega)) ?_
    refine vl_val rfl (.some rfl) (val_assign rfl) ?_
    refine vl_nil ?_
    refine vc_ret ?_
    refine ⟨_, [], _, resC2 Tryd.results26 rfl (whole_agg Tryd.isAgg24 Tryd.sizeOf24 (cells_whole (by repeat (first | exact .head | apply In.tail | apply Take.tail | apply Upd.tail))) rfl) rfl, .nil, ?_⟩
    show _ = _
    rw [clW, if_pos hno, decide_eq_true hno]
    rfl
set_option maxRecDepth 20000 in
theorem rCmp (x y : Int) (hx : inW x) (hy : inW y) (w : World) : FnV Tryd.prog 27 [wV x, wV y] (.int .i64 (if x = y then 0 else if x < y then -1 else 1)) w := by
  have e1 := hW_in hx
  have e2 := hW_in hy
  have e3 : lW x = x % 18446744073709551616 := rfl
  have e4 : lW y = y % 18446744073709551616 := rfl
  refine fn_enter Tryd.func27 rfl Tryd.ntmps27 rfl ?_
  refine vc_seq ?_
  refine vc_region ?_
  refine vl_box rfl rfl (.some rfl) rfl (fun r2 => ?_)
  refine vl_box rfl rfl (.some rfl) rfl (fun r3 => ?_)
  refine vl_val rfl (.some rfl) (val_assign rfl) ?_
  refine vl_nil ?_
  refine vc_seq ?_
  refine vc_block ?_
  refine vc_seq ?_
  refine vc_seq ?_
  refine vc_region ?_
  refine vl_val rfl (.some rfl) (by first | exact val_fieldAddr Tryd.runUnderlying24 rfl Tryd.sizeOf3 rfl | exact val_fieldAddrR Tryd.runUnderlying24 rfl Tryd.sizeOf3 rfl) ?_
  refine vl_val rfl (.some rfl) (val_load Tryd.isAgg3 rfl (by first | exact cell_cells (by repeat (first | exact .head | apply In.tail | apply Take.tail | apply Upd.tail)) rfl | exact cell_rd (rd_sl (by repeat (first | exact .head | apply In.tail | apply Take.tail | apply Upd.tail))) (by first | exact bcells_at (by omega) | exact ucells_at (by omega) | exact icells_at (by omega) | exact tcells_at (by omega) | exact bcells_get (by omega) | exact icells_get (by omega) | exact tcells_get (by omega) | exact ucells_get (by omega)) | exact cell_rd (rd_old (by assumption) rfl) (by first | exact bcells_at (by omega) | exact ucells_at (by omega) | exact icells_at (by omega) | exact tcells_at (by omega) | exact bcells_get (by omega) | exact icells_get (by omega) | exact tcells_get (by omega) | exact ucells_get (by omega)) | exact cell_old (by assumption) (by simp [fps]))) ?_
  refine vl_val rfl (.some rfl) (by first | exact val_fieldAddr Tryd.runUnderlying24 rfl Tryd.sizeOf3 rfl | exact val_fieldAddrR Tryd.runUnderlying24 rfl Tryd.sizeOf3 rfl) ?_
  refine vl_val rfl (.some rfl) (val_load Tryd.isAgg3 rfl (by first | exact cell_cells (by repeat (first | exact .head | apply In.tail | apply Take.tail | apply Upd.tail)) rfl | exact cell_rd (rd_sl (by repeat (first | exact .head | apply In.tail | apply Take.tail | apply Upd.tail))) (by first | exact bcells_at (by omega) | exact ucells_at (by omega) | exact icells_at (by omega) | exact tcells_at (by omega) | exact bcells_get (by omega) | exact icells_get (by omega) | exact tcells_get (by omega) | exact ucells_get (by omega)) | exact cell_rd (rd_old (by assumption) rfl) (by first | exact bcells_at (by omega) | exact ucells_at (by omega) | exact icells_at (by omega) | exact tcells_at (by omega) | exact bcells_get (by omega) | exact icells_get (by omega) | exact tcells_get (by omega) | exact ucells_get (by omega)) | exact cell_old (by assumption) (by simp [fps]))) ?_
  refine vl_val rfl (.some rfl) (val_lt rfl rfl) ?_
  refine vl_val rfl (.some rfl) (val_assign rfl) ?_
  refine vl_nil ?_
  refine vc_cond rfl (fun hc0 => ?_) (fun hc0 => ?_)
  · (try replace hc0 := of_decide_eq_true hc0)
    refine vc_skip ?_
    refine vc_cond rfl (fun _ => ?_) (fun h => absurd hc0 (of_decide_eq_false h))
    refine vc_seq ?_
    refine vc_region ?_
    refine vl_val rfl (.some rfl) (val_assign rfl) ?_
    refine vl_nil ?_
    refine vc_ret ?_
    refine ⟨_, [], _, res1 Tryd.results27 rfl, .nil, ?_⟩
    show _ = _
    rw [if_neg (show ¬ x = y by omega), if_pos (by omega)]
  · (try replace hc0 := of_decide_eq_false hc0)
    refine vc_region ?_
    refine vl_val rfl (.some rfl) (by first | exact val_fieldAddr Tryd.runUnderlying24 rfl Tryd.sizeOf3 rfl | exact val_fieldAddrR Tryd.runUnderlying24 rfl Tryd.sizeOf3 rfl) ?_
    refine vl_val rfl (.some rfl) (val_load Tryd.isAgg3 rfl (by first | exact cell_cells (by repeat (first | exact .head | apply In.tail | apply Take.tail | apply Upd.tail)) rfl | exact cell_rd (rd_sl (by repeat (first | exact .head | apply In.tail | apply Take.tail | apply Upd.tail))) (by first | exact bcells_at (by omega) | exact ucells_at (by omega) | exact icells_at (by omega) | exact tcells_at (by omega) | exact bcells_get (by omega) | exact icells_get (by omega) | exact tcells_get (by omega) | exact ucells_get (by omega)) | exact cell_rd (rd_old (by assumption) rfl) (by first | exact bcells_at (by omega) | exact ucells_at (by omega) | exact icells_at (by omega) | exact tcells_at (by omega) | exact bcells_get (by omega) | exact icells_get (by omega) | exact tcells_get (by omega) | exact ucells_get (by omega)) | exact cell_old (by assumption) (by simp [fps]))) ?_
    refine vl_val rfl (.some rfl) (by first | exact val_fieldAddr Tryd.runUnderlying24 rfl Tryd.sizeOf3 rfl | exact val_fieldAddrR Tryd.runUnderlying24 rfl Tryd.sizeOf3 rfl) ?_
    refine vl_val rfl (.some rfl) (val_load Tryd.isAgg3 rfl (by first | exact cell_cells (by repeat (first | exact .head | apply In.tail | apply Take.tail | apply Upd.tail)) rfl | exact cell_rd (rd_sl (by repeat (first | exact .head | apply In.tail | apply Take.tail | apply Upd.tail))) (by first | exact bcells_at (by omega) | exact ucells_at (by omega) | exact icells_at (by omega) | exact tcells_at (by omega) | exact bcells_get (by omega) | exact icells_get (by omega) | exact tcells_get (by omega) | exact ucells_get (by omega)) | exact cell_rd (rd_old (by assumption) rfl) (by first | exact bcells_at (by omega) | exact ucells_at (by omega) | exact icells_at (by omega) | exact tcells_at (by omega) | exact bcells_get (by omega) | exact icells_get (by omega) | exact tcells_get (by omega) | exact ucells_get (by omega)) | exact cell_old (by assumption) (by simp [fps]))) ?_
    refine vl_val rfl (.some rfl) (val_eq rfl rfl) ?_
    refine vl_val rfl (.some rfl) (val_move rfl) ?_
    refine vl_split (t := 16) rfl (fun hg16 => ?_) (fun hg16 => ?_)
    · (try replace hg16 := of_decide_eq_true hg16)
      refine vl_on rfl rfl rfl rfl ?_
      refine vl_val rfl (.some rfl) (by first | exact val_fieldAddr Tryd.runUnderlying24 rfl Tryd.sizeOf22 rfl | exact val_fieldAddrR Tryd.runUnderlying24 rfl Tryd.sizeOf22 rfl) ?_
      refine vl_on rfl rfl rfl rfl ?_
      refine vl_val rfl (.some rfl) (val_load Tryd.isAgg22 rfl (by first | exact cell_cells (by repeat (first | exact .head | apply In.tail | apply Take.tail | apply Upd.tail)) rfl | exact cell_rd (rd_sl (by repeat (first | exact .head | apply In.tail | apply Take.tail | apply Upd.tail))) (by first | exact bcells_at (by omega) | exact ucells_at (by omega) | exact icells_at (by omega) | exact tcells_at (by omega) | exact bcells_get (by omega) | exact icells_get (by omega) | exact tcells_get (by omega) | exact ucells_get (by omega)) | exact cell_rd (rd_old (by assumption) rfl) (by first | exact bcells_at (by omega) | exact ucells_at (by omega) | exact icells_at (by omega) | exact tcells_at (by omega) | exact bcells_get (by omega) | exact icells_get (by omega) | exact tcells_get (by omega) | exact ucells_get (by omega)) | exact cell_old (by assumption) (by simp [fps]))) ?_
      refine vl_on rfl rfl rfl rfl ?_
      refine vl_val rfl (.some rfl) (by first | exact val_fieldAddr Tryd.runUnderlying24 rfl Tryd.sizeOf22 rfl | exact val_fieldAddrR Tryd.runUnderlying24 rfl Tryd.sizeOf22 rfl) ?_
      refine vl_on rfl rfl rfl rfl ?_
      refine vl_val rfl (.some rfl) (val_load Tryd.isAgg22 rfl (by first | exact cell_cells (by repeat (first | exact .head | apply In.tail | apply Take.tail | apply Upd.tail)) rfl | exact cell_rd (rd_sl (by repeat (first | exact .head | apply In.tail | apply Take.tail | apply Upd.tail))) (by first | exact bcells_at (by omega) | exact ucells_at (by omega) | exact icells_at (by omega) | exact tcells_at (by omega) | exact bcells_get (by omega) | exact icells_get (by omega) | exact tcells_get (by omega) | exact ucells_get (by omega)) | exact cell_rd (rd_old (by assumption) rfl) (by first | exact bcells_at (by omega) | exact ucells_at (by omega) | exact icells_at (by omega) | exact tcells_at (by omega) | exact bcells_get (by omega) | exact icells_get (by omega) | exact tcells_get (by omega) | exact ucells_get (by omega)) | exact cell_old (by assumption) (by simp [fps]))) ?_
      refine vl_on rfl rfl rfl rfl ?_
      refine vl_val rfl (.some rfl) (val_lt rfl rfl) ?_
      refine vl_val rfl (.some rfl) (val_pick rfl rfl) ?_
      refine vl_val rfl (.some rfl) (val_assign rfl) ?_
      refine vl_nil ?_
      refine vc_cond rfl (fun hc1 => ?_) (fun hc1 => ?_)
      · (try replace hc1 := of_decide_eq_true hc1)
        refine vc_seq ?_
        refine vc_region ?_
        refine vl_val rfl (.some rfl) (val_assign rfl) ?_
        refine vl_nil ?_
        refine vc_ret ?_
        refine ⟨_, [], _, res1 Tryd.results27 rfl, .nil, ?_⟩
        show _ = _
        rw [if_neg (show ¬ x = y by omega), if_pos (by omega)]
      · (try replace hc1 := of_decide_eq_false hc1)
        refine vc_seq ?_
        refine vc_region ?_
        refine vl_val rfl (.some rfl) (val_loadAgg Tryd.isAgg24 Tryd.sizeOf24 rfl (by first | exact cells_whole (by repeat (first | exact .head | apply In.tail | apply Take.tail | apply Upd.tail)) | exact cells_part (by repeat (first | exact .head | apply In.tail | apply Take.tail | apply Upd.tail)) rfl) rfl) ?_
        refine vl_val rfl (.some rfl) (val_loadAgg Tryd.isAgg24 Tryd.sizeOf24 rfl (by first | exact cells_whole (by repeat (first | exact .head | apply In.tail | apply Take.tail | apply Upd.tail)) | exact cells_part (by repeat (first | exact .head | apply In.tail | apply Take.tail | apply Upd.tail)) rfl) rfl) ?_
        refine vl_val rfl (.some rfl) (val_opO rfl rfl (fun w => run_eqGuard_agg w _ _ _ _ _ _ (by kernel_rfl)) (bin_agg_eq (wide_equal x y hx hy))) ?_
        refine vl_val rfl (.some rfl) (val_assign rfl) ?_
        refine vl_nil ?_
        refine vc_cond rfl (fun hc2 => ?_) (fun hc2 => ?_)
        · (try replace hc2 := of_decide_eq_true hc2)
          refine vc_seq ?_
          refine vc_region ?_
          refine vl_val rfl (.some rfl) (val_assign rfl) ?_
          refine vl_nil ?_
          refine vc_ret ?_
          refine ⟨_, [], _, res1 Tryd.results27 rfl, .nil, ?_⟩
          show _ = _
          rw [if_pos (by assumption)]
        · (try replace hc2 := of_decide_eq_false hc2)
          refine vc_skip ?_
          refine vc_seq ?_
          refine vc_region ?_
          refine vl_val rfl (.some rfl) (val_assign rfl) ?_
          refine vl_nil ?_
          refine vc_ret ?_
          refine ⟨_, [], _, res1 Tryd.results27 rfl, .nil, ?_⟩
          show _ = _
          rw [if_neg (by assumption), if_neg (by omega)]
    · (try replace hg16 := of_decide_eq_false hg16)
      refine vl_off rfl rfl rfl rfl (.some rfl) ?_
      refine vl_off rfl rfl rfl rfl (.some rfl) ?_
      refine vl_off rfl rfl rfl rfl (.some rfl) ?_
      refine vl_off rfl rfl rfl rfl (.some rfl) ?_
      refine vl_off rfl rfl rfl rfl (.some rfl) ?_
      refine vl_val rfl (.some rfl) (val_pick rfl rfl) ?_
      refine vl_val rfl (.some rfl) (val_assign rfl) ?_
      refine vl_nil ?_
      refine vc_cond rfl (fun h => by cases h) (fun _ => ?_)
      refine vc_seq ?_
      refine vc_region ?_
      refine vl_val rfl (.some rfl) (val_loadAgg Tryd.isAgg24 Tryd.sizeOf24 rfl (by first | exact cells_whole (by repeat (first | exact .head | apply In.tail | apply Take.tail | apply Upd.tail)) | exact cells_part (by repeat (first | exact .head | apply In.tail | apply Take.tail | apply Upd.tail)) rfl) rfl) ?_
      refine vl_val rfl (.some rfl) (val_loadAgg Tryd.isAgg24 Tryd.sizeOf24 rfl (by first | exact cells_whole (by repeat (first | exact .head | apply In.tail | apply Take.tail | apply Upd.tail)) | exact cells_part (by repeat (first | exact .head | apply In.tail | apply Take.tail | apply Upd.tail)) rfl) rfl) ?_
      refine vl_val rfl (.some rfl) (val_opO rfl rfl (fun w => run_eqGuard_agg w _ _ _ _ _ _ (by kernel_rfl)) (bin_agg_eq (wide_equal x y hx hy))) ?_
      refine vl_val rfl (.some rfl) (val_assign rfl) ?_
      refine vl_nil ?_
      refine vc_cond rfl (fun hc2 => ?_) (fun hc2 => ?_)
      · (try replace hc2 := of_decide_eq_true hc2)
        refine vc_seq ?_
        refine vc_region ?_
        refine vl_val rfl (.some rfl) (val_assign rfl) ?_
        refine vl_nil ?_
        refine vc_ret ?_
        refine ⟨_, [], _, res1 Tryd.results27 rfl, .nil, ?_⟩
        show _ = _
        rw [if_pos (by assumption)]
      · (try replace hc2 := of_decide_eq_false hc2)
        refine vc_skip ?_
        refine vc_seq ?_
        refine vc_region ?_
        refine vl_val rfl (.some rfl) (val_assign rfl) ?_
        refine vl_nil ?_
        refine vc_ret ?_
        refine ⟨_, [], _, res1 Tryd.results27 rfl, .nil, ?_⟩
        show _ = _
        rw [if_neg (by assumption), if_neg (by omega)]
set_option maxRecDepth 20000 in
theorem rFits (x : Int) (hx : inW x) (w : World) : FnV Tryd.prog 10 [wV x] (.tuple #[.int .i64 (if inI x then x else 0), .bool (decide (inI x))]) w := by
  obtain ⟨n, hn⟩ : ∃ n, (lW x + 9223372036854775808) % 18446744073709551616 - 9223372036854775808 = n := ⟨_, rfl⟩
  have hn2 : inI n := by unfold inI; omega
  have hxb := hx
  unfold inW at hxb
  have hnx : inI x → n = x := by unfold lW at hn; unfold inI; omega
  refine fn_enter Tryd.func10 rfl Tryd.ntmps10 rfl ?_
  refine vc_seq ?_
  refine vc_region ?_
  refine vl_box rfl rfl (.some rfl) rfl (fun r1 => ?_)
  refine vl_val rfl (.some rfl) (val_assign rfl) ?_
  refine vl_val rfl (.some rfl) (val_assign rfl) ?_
  refine vl_nil ?_
  refine vc_seq ?_
  refine vc_region ?_
  refine vl_val rfl (.some rfl) (by first | exact val_fieldAddr Tryd.runUnderlying24 rfl Tryd.sizeOf22 rfl | exact val_fieldAddrR Tryd.runUnderlying24 rfl Tryd.sizeOf22 rfl) ?_
  refine vl_val rfl (.some rfl) (val_load Tryd.isAgg22 rfl (by first | exact cell_cells (by repeat (first | exact .head | apply In.tail | apply Take.tail | apply Upd.tail)) rfl | exact cell_rd (rd_sl (by repeat (first | exact .head | apply In.tail | apply Take.tail | apply Upd.tail))) (by first | exact bcells_at (by omega) | exact ucells_at (by omega) | exact icells_at (by omega) | exact tcells_at (by omega) | exact bcells_get (by omega) | exact icells_get (by omega) | exact tcells_get (by omega) | exact ucells_get (by omega)) | exact cell_rd (rd_old (by assumption) rfl) (by first | exact bcells_at (by omega) | exact ucells_at (by omega) | exact icells_at (by omega) | exact tcells_at (by omega) | exact bcells_get (by omega) | exact icells_get (by omega) | exact tcells_get (by omega) | exact ucells_get (by omega)) | exact cell_old (by assumption) (by simp [fps]))) ?_
  refine vl_val rfl (.some rfl) (val_convInt Tryd.runUnderlying22 Tryd.runUnderlying3 rfl (show _ = n by rw [w_smod64, hn])) ?_
  refine vl_val rfl (.some rfl) (val_assign rfl) ?_
  refine vl_nil ?_
  refine vc_seq ?_
  refine vc_seq ?_
  refine vc_drawsS [0, 2, 3] [] [0, 2, 1, 3] [cells r1 [.int .i64 (hW x), .int .u64 (lW x)] 24] (by repeat (first | exact .nil | (apply Sub.cons; · repeat (first | exact .head | apply Take.tail)))) rfl (by kernel_rfl) (fun _ _ _ h => h) ?_
  refine vd_val rfl rfl rfl (.some rfl) (val_move rfl) ?_
  refine vd_val rfl rfl rfl (.some rfl) (val_loadAgg Tryd.isAgg24 Tryd.sizeOf24 rfl (by first | exact cells_whole (by repeat (first | exact .head | apply In.tail | apply Take.tail | apply Upd.tail)) | exact cells_part (by repeat (first | exact .head | apply In.tail | apply Take.tail | apply Upd.tail)) rfl) rfl) ?_
  refine vd_op rfl rfl ?_
  refine vl_callV rfl rfl (.some rfl) Tryd.call12 rfl (fun w hw => rOf n hn2 w) ?_
  refine vl_nil ?_
  refine ⟨fun _ => ⟨_, (by repeat (first | exact .nil | (apply Sub.cons; · repeat (first | exact .head | apply Take.tail))))⟩, ?_⟩
  refine vd_val rfl rfl rfl (.some rfl) (val_opO rfl rfl (fun w => run_eqGuard_agg w _ _ _ _ _ _ (by kernel_rfl)) (bin_agg_ne (wide_equal n x (inI_in hn2) hx))) ?_
  refine vd_nil ?_
  refine vc_cond rfl (fun hc0 => ?_) (fun hc0 => ?_)
  · (try replace hc0 := of_decide_eq_true hc0)
    refine vc_seq ?_
    refine vc_region ?_
    refine vl_val rfl (.some rfl) (val_assign rfl) ?_
    refine vl_val rfl (.some rfl) (val_assign rfl) ?_
    refine vl_nil ?_
    refine vc_ret ?_
    refine ⟨_, [], _, res2 Tryd.results10 rfl rfl, .nil, ?_⟩
    show _ = _
    have hno : ¬ inI x := fun h => by have := hnx h; simp at hc0; contradiction
    rw [if_neg hno, decide_eq_false hno]
  · (try replace hc0 := of_decide_eq_false hc0)
    refine vc_skip ?_
    refine vc_seq ?_
    refine vc_region ?_
    refine vl_val rfl (.some rfl) (val_move rfl) ?_
    refine vl_val rfl (.some rfl) (val_assign rfl) ?_
    refine vl_val rfl (.some rfl) (val_assign rfl) ?_
    refine vl_nil ?_
    refine vc_ret ?_
    refine ⟨_, [], _, res2 Tryd.results10 rfl rfl, .nil, ?_⟩
    show _ = _
    have e : n = x := by simpa using hc0
    subst e
    rw [if_pos hn2, decide_eq_true hn2]
set_option maxRecDepth 20000 in
theorem rSize (n : Int) (hn : inI n) (w : World) : FnV Tryd.prog 32 [.int .i64 n] (.int .u64 (n.natAbs : Nat)) w := by
  unfold inI at hn
  refine fn_enter Tryd.func32 rfl Tryd.ntmps32 rfl ?_
  refine vc_seq ?_
  refine vc_region ?_
  refine vl_val rfl (.some rfl) (val_assign rfl) ?_
  refine vl_nil ?_
  refine vc_seq ?_
  refine vc_seq ?_
  refine vc_region ?_
  refine vl_val rfl (.some rfl) (val_move rfl) ?_
  refine vl_val rfl (.some rfl) (val_lt rfl rfl) ?_
  refine vl_nil ?_
  refine vc_cond rfl (fun hc0 => ?_) (fun hc0 => ?_)
  · (try replace hc0 := of_decide_eq_true hc0)
    refine vc_seq ?_
    refine vc_region ?_
    refine vl_val rfl (.some rfl) (val_move rfl) ?_
    refine vl_val rfl (.some rfl) (val_add rfl rfl (w_i64 (by omega) (by omega))) ?_
    refine vl_val rfl (.some rfl) (val_neg rfl (w_i64 (by omega) (by omega))) ?_
    refine vl_val rfl (.some rfl) (val_convInt Tryd.runUnderlying3 Tryd.runUnderlying22 rfl (w_u64 (by omega) (by omega))) ?_
    refine vl_val rfl (.some rfl) (val_add rfl rfl (show _ = ((n.natAbs : Nat) : Int) by rw [w_u64 (by omega) (by omega)]; omega)) ?_
    refine vl_val rfl (.some rfl) (val_assign rfl) ?_
    refine vl_nil ?_
    refine vc_ret ?_
    refine ⟨_, [], _, res1 Tryd.results32 rfl, .nil, ?_⟩
    rfl
  · (try replace hc0 := of_decide_eq_false hc0)
    refine vc_skip ?_
    refine vc_seq ?_
    refine vc_region ?_
    refine vl_val rfl (.some rfl) (val_move rfl) ?_
    refine vl_val rfl (.some rfl) (val_convInt Tryd.runUnderlying3 Tryd.runUnderlying22 rfl (show _ = ((n.natAbs : Nat) : Int) by rw [w_u64 (by omega) (by omega)]; omega)) ?_
    refine vl_val rfl (.some rfl) (val_assign rfl) ?_
    refine vl_nil ?_
    refine vc_ret ?_
    refine ⟨_, [], _, res1 Tryd.results32 rfl, .nil, ?_⟩
    rfl
set_option maxRecDepth 20000 in
theorem rMul (a b : Int) (ha : inI a) (hb : inI b) (w : World) : FnV Tryd.prog 14 [.int .i64 a, .int .i64 b] (wV (a * b)) w := by
  have hsm := sign_mul a b
  have ha' := ha
  have hb' := hb
  unfold inI at ha' hb'
  have hml := Nat.mul_le_mul (show a.natAbs ≤ 9223372036854775808 by omega) (show b.natAbs ≤ 9223372036854775808 by omega)
  refine fn_enter Tryd.func14 rfl Tryd.ntmps14 rfl ?_
  refine vc_seq ?_
  refine vc_region ?_
  refine vl_alloc rfl rfl (.some rfl) Tryd.zeroValue24 (fun r4 => ?_)
  refine vl_nil ?_
  refine vc_seq ?_
  refine vc_region ?_
  refine vl_val rfl (.some rfl) (val_move rfl) ?_
  refine vl_callV rfl rfl (.some rfl) Tryd.call32 rfl (fun w hw => rSize _ (by assumption) w) ?_
  refine vl_val rfl (.some rfl) (val_move rfl) ?_
  refine vl_callV rfl rfl (.some rfl) Tryd.call32 rfl (fun w hw => rSize _ (by assumption) w) ?_
  refine vl_callV rfl rfl (.some rfl) Tryd.call31 rfl (fun w hw => gTimes a.natAbs b.natAbs (by omega) (by omega) w) ?_
  generalize a.natAbs * b.natAbs = m at hsm hml ⊢
  rw [← hP_nat m (by omega), ← lW_nat m]
  refine vl_val rfl (.some rfl) (val_move rfl) ?_
  refine vl_val rfl (.some rfl) (val_extract rfl rfl) ?_
  refine vl_val rfl (.some rfl) (val_extract rfl rfl) ?_
  refine vl_val rfl (.some rfl) (val_assign rfl) ?_
  refine vl_val rfl (.some rfl) (val_assign rfl) ?_
  refine vl_nil ?_
  refine vc_seq ?_
  refine vc_region ?_
  refine vl_val rfl (.some rfl) (val_move rfl) ?_
  refine vl_val rfl (.some rfl) (val_convInt Tryd.runUnderlying22 Tryd.runUnderlying3 rfl (hW_of m)) ?_
  refine vl_val rfl (.some rfl) (val_move rfl) ?_
  refine vl_val rfl (.some rfl) (val_buildSt (pl := #[(0, 1), (1, 1)]) (cs := #[.int .i64 (hW m), .int .u64 (lW m)]) Tryd.runUnderlying24 Tryd.zeroValue24 (fun w => by kernel_rfl) rfl rfl) ?_
  refine vl_alloc rfl rfl (.some rfl) Tryd.zeroValue24 (fun r7 => ?_)
  first | refine vl_store rfl rfl .none rfl rfl Tryd.sizeOf24 rfl (by repeat (first | exact .head | apply In.tail | apply Take.tail | apply Upd.tail)) (by first | decide | exact Nat.le_refl _ | exact Nat.le_of_ble_eq_true rfl | (simp; omega)) ?_ | refine vl_storeSl rfl rfl .none rfl rfl Tryd.sizeOf24 rfl (by simp [Value.cells]) (by repeat (first | exact .head | apply In.tail | apply Take.tail | apply Upd.tail)) (by first | decide | (simp [Value.cells]; omega)) ?_
  refine vl_nil ?_
  refine vc_seq ?_
  refine vc_seq ?_
  refine vc_region ?_
  refine vl_val rfl (.some rfl) (val_move rfl) ?_
  refine vl_val rfl (.some rfl) (val_lt rfl rfl) ?_
  refine vl_val rfl (.some rfl) (val_move rfl) ?_
  refine vl_val rfl (.some rfl) (val_lt rfl rfl) ?_
  refine vl_val rfl (.some rfl) (val_bne Tryd.underlying4 rfl rfl) ?_
  refine vl_nil ?_
  refine vc_cond rfl (fun hc0 => ?_) (fun hc0 => ?_)
  · (try replace hc0 := of_decide_eq_true hc0)
    refine vc_seq ?_
    refine vc_region ?_
    refine vl_val rfl (.some rfl) (val_loadAgg Tryd.isAgg24 Tryd.sizeOf24 rfl (by first | exact cells_whole (by repeat (first | exact .head | apply In.tail | apply Take.tail | apply Upd.tail)) | exact cells_part (by repeat (first | exact .head | apply In.tail | apply Take.tail | apply Upd.tail)) rfl) rfl) ?_
    refine vl_callV rfl rfl (.some rfl) Tryd.call33 rfl (fun w hw => rTurned m w) ?_
    first | refine vl_store rfl rfl .none rfl rfl Tryd.sizeOf24 rfl (by repeat (first | exact .head | apply In.tail | apply Take.tail | apply Upd.tail)) (by first | decide | exact Nat.le_refl _ | exact Nat.le_of_ble_eq_true rfl | (simp; omega)) ?_ | refine vl_storeSl rfl rfl .none rfl rfl Tryd.sizeOf24 rfl (by simp [Value.cells]) (by repeat (first | exact .head | apply In.tail | apply Take.tail | apply Upd.tail)) (by first | decide | (simp [Value.cells]; omega)) ?_
    refine vl_nil ?_
    refine vc_ret ?_
    refine ⟨_, [], _, resC Tryd.results14 rfl (whole_agg Tryd.isAgg24 Tryd.sizeOf24 (cells_whole (by repeat (first | exact .head | apply In.tail | apply Take.tail | apply Upd.tail))) rfl), .nil, ?_⟩
    show wV _ = wV _
    rw [hsm, if_neg (by simpa using hc0)]
  · (try replace hc0 := of_decide_eq_false hc0)
    refine vc_skip ?_
    refine vc_seq ?_
    refine vc_region ?_
    refine vl_val rfl (.some rfl) (val_loadAgg Tryd.isAgg24 Tryd.sizeOf24 rfl (by first | exact cells_whole (by repeat (first | exact .head | apply In.tail | apply Take.tail | apply Upd.tail)) | exact cells_part (by repeat (first | exact .head | apply In.tail | apply Take.tail | apply Upd.tail)) rfl) rfl) ?_
    first | refine vl_store rfl rfl .none rfl rfl Tryd.sizeOf24 rfl (by repeat (first | exact .head | apply In.tail | apply Take.tail | apply Upd.tail)) (by first | decide | exact Nat.le_refl _ | exact Nat.le_of_ble_eq_true rfl | (simp; omega)) ?_ | refine vl_storeSl rfl rfl .none rfl rfl Tryd.sizeOf24 rfl (by simp [Value.cells]) (by repeat (first | exact .head | apply In.tail | apply Take.tail | apply Upd.tail)) (by first | decide | (simp [Value.cells]; omega)) ?_
    refine vl_nil ?_
    refine vc_ret ?_
    refine ⟨_, [], _, resC Tryd.results14 rfl (whole_agg Tryd.isAgg24 Tryd.sizeOf24 (cells_whole (by repeat (first | exact .head | apply In.tail | apply Take.tail | apply Upd.tail))) rfl), .nil, ?_⟩
    show wV _ = wV _
    rw [hsm, if_pos (by simpa using hc0)]
set_option maxRecDepth 20000 in
set_option maxHeartbeats 2000000 in
theorem wSums (x y : Int) (hx : inW x) (hy : inW y) (w : World) : FnV Tryd.prog 8 [wV x, wV y] (.bool true) w := by
  refine fn_enter Tryd.func8 rfl Tryd.ntmps8 rfl ?_
  refine vc_seq ?_
  refine vc_region ?_
  refine vl_box rfl rfl (.some rfl) rfl (fun r2 => ?_)
  refine vl_box rfl rfl (.some rfl) rfl (fun r3 => ?_)
  refine vl_val rfl (.some rfl) (val_assign rfl) ?_
  refine vl_nil ?_
  refine vc_seq ?_
  refine vc_region ?_
  refine vl_val rfl (.some rfl) (val_loadAgg Tryd.isAgg24 Tryd.sizeOf24 rfl (by first | exact cells_whole (by repeat (first | exact .head | apply In.tail | apply Take.tail | apply Upd.tail)) | exact cells_part (by repeat (first | exact .head | apply In.tail | apply Take.tail | apply Upd.tail)) rfl) rfl) ?_
  refine vl_val rfl (.some rfl) (val_loadAgg Tryd.isAgg24 Tryd.sizeOf24 rfl (by first | exact cells_whole (by repeat (first | exact .head | apply In.tail | apply Take.tail | apply Upd.tail)) | exact cells_part (by repeat (first | exact .head | apply In.tail | apply Take.tail | apply Upd.tail)) rfl) rfl) ?_
  refine vl_callV rfl rfl (.some rfl) Tryd.call20 rfl (fun w hw => wAdd x y hx hy w) ?_
  refine vl_val rfl (.some rfl) (val_move rfl) ?_
  refine vl_val rfl (.some rfl) (val_extract rfl rfl) ?_
  refine vl_val rfl (.some rfl) (val_extract rfl rfl) ?_
  refine vl_alloc rfl rfl (.some rfl) Tryd.zeroValue24 (fun r5 => ?_)
  first | refine vl_store rfl rfl .none rfl rfl Tryd.sizeOf24 rfl (by repeat (first | exact .head | apply In.tail | apply Take.tail | apply Upd.tail)) (by first | decide | exact Nat.le_refl _ | exact Nat.le_of_ble_eq_true rfl | (simp; omega)) ?_ | refine vl_storeSl rfl rfl .none rfl rfl Tryd.sizeOf24 rfl (by simp [Value.cells]) (by repeat (first | exact .head | apply In.tail | apply Take.tail | apply Upd.tail)) (by first | decide | (simp [Value.cells]; omega)) ?_
  refine vl_val rfl (.some rfl) (val_assign rfl) ?_
  refine vl_nil ?_
  refine vc_seq ?_
  refine vc_region ?_
  refine vl_val rfl (.some rfl) (val_loadAgg Tryd.isAgg24 Tryd.sizeOf24 rfl (by first | exact cells_whole (by repeat (first | exact .head | apply In.tail | apply Take.tail | apply Upd.tail)) | exact cells_part (by repeat (first | exact .head | apply In.tail | apply Take.tail | apply Upd.tail)) rfl) rfl) ?_
  refine vl_val rfl (.some rfl) (val_loadAgg Tryd.isAgg24 Tryd.sizeOf24 rfl (by first | exact cells_whole (by repeat (first | exact .head | apply In.tail | apply Take.tail | apply Upd.tail)) | exact cells_part (by repeat (first | exact .head | apply In.tail | apply Take.tail | apply Upd.tail)) rfl) rfl) ?_
  refine vl_callV rfl rfl (.some rfl) Tryd.call23 rfl (fun w hw => rAdd x y hx hy w) ?_
  refine vl_val rfl (.some rfl) (val_move rfl) ?_
  refine vl_val rfl (.some rfl) (val_extract rfl rfl) ?_
  refine vl_val rfl (.some rfl) (val_extract rfl rfl) ?_
  refine vl_alloc rfl rfl (.some rfl) Tryd.zeroValue24 (fun r7 => ?_)
  first | refine vl_store rfl rfl .none rfl rfl Tryd.sizeOf24 rfl (by repeat (first | exact .head | apply In.tail | apply Take.tail | apply Upd.tail)) (by first | decide | exact Nat.le_refl _ | exact Nat.le_of_ble_eq_true rfl | (simp; omega)) ?_ | refine vl_storeSl rfl rfl .none rfl rfl Tryd.sizeOf24 rfl (by simp [Value.cells]) (by repeat (first | exact .head | apply In.tail | apply Take.tail | apply Upd.tail)) (by first | decide | (simp [Value.cells]; omega)) ?_
  refine vl_val rfl (.some rfl) (val_assign rfl) ?_
  refine vl_nil ?_
  refine vc_seq ?_
  refine vc_region ?_
  refine vl_val rfl (.some rfl) (val_loadAgg Tryd.isAgg24 Tryd.sizeOf24 rfl (by first | exact cells_whole (by repeat (first | exact .head | apply In.tail | apply Take.tail | apply Upd.tail)) | exact cells_part (by repeat (first | exact .head | apply In.tail | apply Take.tail | apply Upd.tail)) rfl) rfl) ?_
  refine vl_val rfl (.some rfl) (val_loadAgg Tryd.isAgg24 Tryd.sizeOf24 rfl (by first | exact cells_whole (by repeat (first | exact .head | apply In.tail | apply Take.tail | apply Upd.tail)) | exact cells_part (by repeat (first | exact .head | apply In.tail | apply Take.tail | apply Upd.tail)) rfl) rfl) ?_
  refine vl_callV rfl rfl (.some rfl) Tryd.call22 rfl (fun w hw => wSub x y hx hy w) ?_
  refine vl_val rfl (.some rfl) (val_move rfl) ?_
  refine vl_val rfl (.some rfl) (val_extract rfl rfl) ?_
  refine vl_val rfl (.some rfl) (val_extract rfl rfl) ?_
  refine vl_alloc rfl rfl (.some rfl) Tryd.zeroValue24 (fun r9 => ?_)
  first | refine vl_store rfl rfl .none rfl rfl Tryd.sizeOf24 rfl (by repeat (first | exact .head | apply In.tail | apply Take.tail | apply Upd.tail)) (by first | decide | exact Nat.le_refl _ | exact Nat.le_of_ble_eq_true rfl | (simp; omega)) ?_ | refine vl_storeSl rfl rfl .none rfl rfl Tryd.sizeOf24 rfl (by simp [Value.cells]) (by repeat (first | exact .head | apply In.tail | apply Take.tail | apply Upd.tail)) (by first | decide | (simp [Value.cells]; omega)) ?_
  refine vl_val rfl (.some rfl) (val_assign rfl) ?_
  refine vl_nil ?_
  refine vc_seq ?_
  refine vc_region ?_
  refine vl_val rfl (.some rfl) (val_loadAgg Tryd.isAgg24 Tryd.sizeOf24 rfl (by first | exact cells_whole (by repeat (first | exact .head | apply In.tail | apply Take.tail | apply Upd.tail)) | exact cells_part (by repeat (first | exact .head | apply In.tail | apply Take.tail | apply Upd.tail)) rfl) rfl) ?_
  refine vl_val rfl (.some rfl) (val_loadAgg Tryd.isAgg24 Tryd.sizeOf24 rfl (by first | exact cells_whole (by repeat (first | exact .head | apply In.tail | apply Take.tail | apply Upd.tail)) | exact cells_part (by repeat (first | exact .head | apply In.tail | apply Take.tail | apply Upd.tail)) rfl) rfl) ?_
  refine vl_callV rfl rfl (.some rfl) Tryd.call24 rfl (fun w hw => rSub x y hx hy w) ?_
  refine vl_val rfl (.some rfl) (val_move rfl) ?_
  refine vl_val rfl (.some rfl) (val_extract rfl rfl) ?_
  refine vl_val rfl (.some rfl) (val_extract rfl rfl) ?_
  refine vl_alloc rfl rfl (.some rfl) Tryd.zeroValue24 (fun r11 => ?_)
  first | refine vl_store rfl rfl .none rfl rfl Tryd.sizeOf24 rfl (by repeat (first | exact .head | apply In.tail | apply Take.tail | apply Upd.tail)) (by first | decide | exact Nat.le_refl _ | exact Nat.le_of_ble_eq_true rfl | (simp; omega)) ?_ | refine vl_storeSl rfl rfl .none rfl rfl Tryd.sizeOf24 rfl (by simp [Value.cells]) (by repeat (first | exact .head | apply In.tail | apply Take.tail | apply Upd.tail)) (by first | decide | (simp [Value.cells]; omega)) ?_
  refine vl_val rfl (.some rfl) (val_assign rfl) ?_
  refine vl_nil ?_
  refine vc_seq ?_
  refine vc_region ?_
  refine vl_val rfl (.some rfl) (val_loadAgg Tryd.isAgg24 Tryd.sizeOf24 rfl (by first | exact cells_whole (by repeat (first | exact .head | apply In.tail | apply Take.tail | apply Upd.tail)) | exact cells_part (by repeat (first | exact .head | apply In.tail | apply Take.tail | apply Upd.tail)) rfl) rfl) ?_
  refine vl_callV rfl rfl (.some rfl) Tryd.call25 rfl (fun w hw => wNeg x hx w) ?_
  refine vl_val rfl (.some rfl) (val_move rfl) ?_
  refine vl_val rfl (.some rfl) (val_extract rfl rfl) ?_
  refine vl_val rfl (.some rfl) (val_extract rfl rfl) ?_
  refine vl_alloc rfl rfl (.some rfl) Tryd.zeroValue24 (fun r13 => ?_)
  first | refine vl_store rfl rfl .none rfl rfl Tryd.sizeOf24 rfl (by repeat (first | exact .head | apply In.tail | apply Take.tail | apply Upd.tail)) (by first | decide | exact Nat.le_refl _ | exact Nat.le_of_ble_eq_true rfl | (simp; omega)) ?_ | refine vl_storeSl rfl rfl .none rfl rfl Tryd.sizeOf24 rfl (by simp [Value.cells]) (by repeat (first | exact .head | apply In.tail | apply Take.tail | apply Upd.tail)) (by first | decide | (simp [Value.cells]; omega)) ?_
  refine vl_val rfl (.some rfl) (val_assign rfl) ?_
  refine vl_nil ?_
  refine vc_seq ?_
  refine vc_region ?_
  refine vl_val rfl (.some rfl) (val_loadAgg Tryd.isAgg24 Tryd.sizeOf24 rfl (by first | exact cells_whole (by repeat (first | exact .head | apply In.tail | apply Take.tail | apply Upd.tail)) | exact cells_part (by repeat (first | exact .head | apply In.tail | apply Take.tail | apply Upd.tail)) rfl) rfl) ?_
  refine vl_callV rfl rfl (.some rfl) Tryd.call26 rfl (fun w hw => rNeg x hx w) ?_
  refine vl_val rfl (.some rfl) (val_move rfl) ?_
  refine vl_val rfl (.some rfl) (val_extract rfl rfl) ?_
  refine vl_val rfl (.some rfl) (val_extract rfl rfl) ?_
  refine vl_alloc rfl rfl (.some rfl) Tryd.zeroValue24 (fun r15 => ?_)
  first | refine vl_store rfl rfl .none rfl rfl Tryd.sizeOf24 rfl (by repeat (first | exact .head | apply In.tail | apply Take.tail | apply Upd.tail)) (by first | decide | exact Nat.le_refl _ | exact Nat.le_of_ble_eq_true rfl | (simp; omega)) ?_ | refine vl_storeSl rfl rfl .none rfl rfl Tryd.sizeOf24 rfl (by simp [Value.cells]) (by repeat (first | exact .head | apply In.tail | apply Take.tail | apply Upd.tail)) (by first | decide | (simp [Value.cells]; omega)) ?_
  refine vl_val rfl (.some rfl) (val_assign rfl) ?_
  refine vl_nil ?_
  refine vc_seq ?_
  refine vc_drawsS [0, 1, 2, 3, 4, 5, 6, 7, 8, 9, 10, 11, 12, 13, 14, 15, 16, 17, 18, 19, 20, 21, 22, 23, 24, 25, 26, 27, 28, 29, 30, 32, 33, 35, 36, 37, 39, 40] [] [0, 1, 2, 3, 4, 5, 6, 7, 8, 9, 10, 11, 12, 13, 14, 15, 16, 17, 18, 19, 20, 21, 22, 23, 24, 25, 26, 27, 28, 29, 30, 32, 33, 31, 34, 35, 36, 37, 38, 39, 40] [cells r2 [.int .i64 (hW x), .int .u64 (lW x)] 24, cells r3 [.int .i64 (hW y), .int .u64 (lW y)] 24, cells r5 [.int .i64 (hW (clW (x + y))), .int .u64 (lW (clW (x + y)))] 24, cells r7 [.int .i64 (hW (clW (x + y))), .int .u64 (lW (clW (x + y)))] 24, cells r9 [.int .i64 (hW (clW (x - y))), .int .u64 (lW (clW (x - y)))] 24, cells r11 [.int .i64 (hW (clW (x - y))), .int .u64 (lW (clW (x - y)))] 24, cells r13 [.int .i64 (hW (clW (-x))), .int .u64 (lW (clW (-x)))] 24, cells r15 [.int .i64 (hW (clW (-x))), .int .u64 (lW (clW (-x)))] 24] (by repeat (first | exact .nil | (apply Sub.cons; · repeat (first | exact .head | apply Take.tail)))) rfl (by kernel_rfl) (fun _ _ _ h => h) ?_
  refine vd_val rfl rfl rfl (.some rfl) (val_loadAgg Tryd.isAgg24 Tryd.sizeOf24 rfl (by first | exact cells_whole (by repeat (first | exact .head | apply In.tail | apply Take.tail | apply Upd.tail)) | exact cells_part (by repeat (first | exact .head | apply In.tail | apply Take.tail | apply Upd.tail)) rfl) rfl) ?_
  refine vd_val rfl rfl rfl (.some rfl) (val_loadAgg Tryd.isAgg24 Tryd.sizeOf24 rfl (by first | exact cells_whole (by repeat (first | exact .head | apply In.tail | apply Take.tail | apply Upd.tail)) | exact cells_part (by repeat (first | exact .head | apply In.tail | apply Take.tail | apply Upd.tail)) rfl) rfl) ?_
  refine vd_val rfl rfl rfl (.some rfl) (val_opO rfl rfl (fun w => run_eqGuard_agg w _ _ _ _ _ _ (by kernel_rfl)) (bin_agg_eq (b := true) (fun w => (wide_equal (clW (x + y)) (clW (x + y)) (clW_in _) (clW_in _) w).trans (by simp)))) ?_
  refine vd_val rfl rfl rfl (.some rfl) (val_move rfl) ?_
  refine vd_on rfl rfl rfl rfl rfl rfl (.some rfl) (val_move rfl) ?_
  refine vd_on rfl rfl rfl rfl rfl rfl (.some rfl) (val_move rfl) ?_
  refine vd_on rfl rfl rfl rfl rfl rfl (.some rfl) (val_beqt Tryd.underlying4 rfl rfl (rfl)) ?_
  refine vd_val rfl rfl rfl (.some rfl) (val_pick rfl rfl) ?_
  refine vd_val rfl rfl rfl (.some rfl) (val_move rfl) ?_
  refine vd_on rfl rfl rfl rfl rfl rfl (.some rfl) (val_loadAgg Tryd.isAgg24 Tryd.sizeOf24 rfl (by first | exact cells_whole (by repeat (first | exact .head | apply In.tail | apply Take.tail | apply Upd.tail)) | exact cells_part (by repeat (first | exact .head | apply In.tail | apply Take.tail | apply Upd.tail)) rfl) rfl) ?_
  refine vd_on rfl rfl rfl rfl rfl rfl (.some rfl) (val_loadAgg Tryd.isAgg24 Tryd.sizeOf24 rfl (by first | exact cells_whole (by repeat (first | exact .head | apply In.tail | apply Take.tail | apply Upd.tail)) | exact cells_part (by repeat (first | exact .head | apply In.tail | apply Take.tail | apply Upd.tail)) rfl) rfl) ?_
  refine vd_on rfl rfl rfl rfl rfl rfl (.some rfl) (val_opO rfl rfl (fun w => run_eqGuard_agg w _ _ _ _ _ _ (by kernel_rfl)) (bin_agg_eq (b := true) (fun w => (wide_equal (clW (x - y)) (clW (x - y)) (clW_in _) (clW_in _) w).trans (by simp)))) ?_
  refine vd_val rfl rfl rfl (.some rfl) (val_pick rfl rfl) ?_
  refine vd_val rfl rfl rfl (.some rfl) (val_move rfl) ?_
  refine vd_on rfl rfl rfl rfl rfl rfl (.some rfl) (val_move rfl) ?_
  refine vd_on rfl rfl rfl rfl rfl rfl (.some rfl) (val_move rfl) ?_
  refine vd_on rfl rfl rfl rfl rfl rfl (.some rfl) (val_beqt Tryd.underlying4 rfl rfl (rfl)) ?_
  refine vd_val rfl rfl rfl (.some rfl) (val_pick rfl rfl) ?_
  refine vd_val rfl rfl rfl (.some rfl) (val_move rfl) ?_
  refine vd_on rfl rfl rfl rfl rfl rfl (.some rfl) (val_loadAgg Tryd.isAgg24 Tryd.sizeOf24 rfl (by first | exact cells_whole (by repeat (first | exact .head | apply In.tail | apply Take.tail | apply Upd.tail)) | exact cells_part (by repeat (first | exact .head | apply In.tail | apply Take.tail | apply Upd.tail)) rfl) rfl) ?_
  refine vd_on rfl rfl rfl rfl rfl rfl (.some rfl) (val_loadAgg Tryd.isAgg24 Tryd.sizeOf24 rfl (by first | exact cells_whole (by repeat (first | exact .head | apply In.tail | apply Take.tail | apply Upd.tail)) | exact cells_part (by repeat (first | exact .head | apply In.tail | apply Take.tail | apply Upd.tail)) rfl) rfl) ?_
  refine vd_on rfl rfl rfl rfl rfl rfl (.some rfl) (val_opO rfl rfl (fun w => run_eqGuard_agg w _ _ _ _ _ _ (by kernel_rfl)) (bin_agg_eq (b := true) (fun w => (wide_equal (clW (-x)) (clW (-x)) (clW_in _) (clW_in _) w).trans (by simp)))) ?_
  refine vd_val rfl rfl rfl (.some rfl) (val_pick rfl rfl) ?_
  refine vd_val rfl rfl rfl (.some rfl) (val_move rfl) ?_
  refine vd_on rfl rfl rfl rfl rfl rfl (.some rfl) (val_move rfl) ?_
  refine vd_on rfl rfl rfl rfl rfl rfl (.some rfl) (val_move rfl) ?_
  refine vd_on rfl rfl rfl rfl rfl rfl (.some rfl) (val_beqt Tryd.underlying4 rfl rfl (rfl)) ?_
  refine vd_val rfl rfl rfl (.some rfl) (val_pick rfl rfl) ?_
  refine vd_val rfl rfl rfl (.some rfl) (val_move rfl) ?_
  refine vd_on rfl rfl rfl rfl rfl rfl (.some rfl) (val_loadAgg Tryd.isAgg24 Tryd.sizeOf24 rfl (by first | exact cells_whole (by repeat (first | exact .head | apply In.tail | apply Take.tail | apply Upd.tail)) | exact cells_part (by repeat (first | exact .head | apply In.tail | apply Take.tail | apply Upd.tail)) rfl) rfl) ?_
  refine vd_on rfl rfl rfl rfl rfl rfl (.some rfl) (val_loadAgg Tryd.isAgg24 Tryd.sizeOf24 rfl (by first | exact cells_whole (by repeat (first | exact .head | apply In.tail | apply Take.tail | apply Upd.tail)) | exact cells_part (by repeat (first | exact .head | apply In.tail | apply Take.tail | apply Upd.tail)) rfl) rfl) ?_
  refine vd_on rfl rfl rfl rfl rfl rfl (.some rfl) (val_loadAgg Tryd.isAgg24 Tryd.sizeOf24 rfl (by first | exact cells_whole (by repeat (first | exact .head | apply In.tail | apply Take.tail | apply Upd.tail)) | exact cells_part (by repeat (first | exact .head | apply In.tail | apply Take.tail | apply Upd.tail)) rfl) rfl) ?_
  refine vd_on rfl rfl rfl rfl rfl rfl (.some rfl) (val_loadAgg Tryd.isAgg24 Tryd.sizeOf24 rfl (by first | exact cells_whole (by repeat (first | exact .head | apply In.tail | apply Take.tail | apply Upd.tail)) | exact cells_part (by repeat (first | exact .head | apply In.tail | apply Take.tail | apply Upd.tail)) rfl) rfl) ?_
  refine vd_op rfl rfl ?_
  refine vl_on rfl rfl rfl rfl ?_
  refine vl_callV rfl rfl (.some rfl) Tryd.call21 rfl (fun w hw => wCmp x y hx hy w) ?_
  refine vl_nil ?_
  refine ⟨fun _ => ⟨_, (by repeat (first | exact .nil | (apply Sub.cons; · repeat (first | exact .head | apply Take.tail))))⟩, ?_⟩
  refine vd_op rfl rfl ?_
  refine vl_on rfl rfl rfl rfl ?_
  refine vl_callV rfl rfl (.some rfl) Tryd.call27 rfl (fun w hw => rCmp x y hx hy w) ?_
  refine vl_nil ?_
  refine ⟨fun _ => ⟨_, (by repeat (first | exact .nil | (apply Sub.cons; · repeat (first | exact .head | apply Take.tail))))⟩, ?_⟩
  refine vd_on rfl rfl rfl rfl rfl rfl (.some rfl) (val_eqt rfl rfl (rfl)) ?_
  refine vd_val rfl rfl rfl (.some rfl) (val_pick rfl rfl) ?_
  refine vd_val rfl rfl rfl (.some rfl) (val_move rfl) ?_
  refine vd_op rfl rfl ?_
  refine vl_on rfl rfl rfl rfl ?_
  refine vl_callV rfl rfl (.some rfl) Tryd.call15 rfl (fun w hw => wLives w) ?_
  refine vl_nil ?_
  refine ⟨fun _ => ⟨_, (by repeat (first | exact .nil | (apply Sub.cons; · repeat (first | exact .head | apply Take.tail))))⟩, ?_⟩
  refine vd_val rfl rfl rfl (.some rfl) (val_pick rfl rfl) ?_
  refine vd_val rfl rfl rfl (.some rfl) (val_assign rfl) ?_
  refine vd_nil ?_
  refine vc_ret ?_
  refine ⟨_, [], _, res1 Tryd.results8 rfl, .nil, ?_⟩
  rfl
set_option maxRecDepth 20000 in
set_option maxHeartbeats 1000000 in
theorem wInts (n m x : Int) (hn : inI n) (hm : inI m) (hx : inW x) (w : World) : FnV Tryd.prog 3 [.int .i64 n, .int .i64 m, wV x] (.bool true) w := by
  have hnm : inW (n * m) := by
    have h1 := sign_mul n m
    have h2 := hn
    have h3 := hm
    unfold inI at h2 h3
    have h4 := Nat.mul_le_mul (show n.natAbs ≤ 9223372036854775808 by omega) (show m.natAbs ≤ 9223372036854775808 by omega)
    rw [h1]
    unfold inW
    split <;> omega
  refine fn_enter Tryd.func3 rfl Tryd.ntmps3 rfl ?_
  refine vc_seq ?_
  refine vc_region ?_
  refine vl_box rfl rfl (.some rfl) rfl (fun r5 => ?_)
  refine vl_val rfl (.some rfl) (val_assign rfl) ?_
  refine vl_nil ?_
  refine vc_seq ?_
  refine vc_region ?_
  refine vl_val rfl (.some rfl) (val_loadAgg Tryd.isAgg24 Tryd.sizeOf24 rfl (by first | exact cells_whole (by repeat (first | exact .head | apply In.tail | apply Take.tail | apply Upd.tail)) | exact cells_part (by repeat (first | exact .head | apply In.tail | apply Take.tail | apply Upd.tail)) rfl) rfl) ?_
  refine vl_callV rfl rfl (.some rfl) Tryd.call9 rfl (fun w hw => wFits x hx w) ?_
  refine vl_val rfl (.some rfl) (val_move rfl) ?_
  refine vl_val rfl (.some rfl) (val_extract rfl rfl) ?_
  refine vl_val rfl (.some rfl) (val_extract rfl rfl) ?_
  refine vl_val rfl (.some rfl) (val_assign rfl) ?_
  refine vl_val rfl (.some rfl) (val_assign rfl) ?_
  refine vl_nil ?_
  refine vc_seq ?_
  refine vc_region ?_
  refine vl_val rfl (.some rfl) (val_loadAgg Tryd.isAgg24 Tryd.sizeOf24 rfl (by first | exact cells_whole (by repeat (first | exact .head | apply In.tail | apply Take.tail | apply Upd.tail)) | exact cells_part (by repeat (first | exact .head | apply In.tail | apply Take.tail | apply Upd.tail)) rfl) rfl) ?_
  refine vl_callV rfl rfl (.some rfl) Tryd.call10 rfl (fun w hw => rFits x hx w) ?_
  refine vl_val rfl (.some rfl) (val_move rfl) ?_
  refine vl_val rfl (.some rfl) (val_extract rfl rfl) ?_
  refine vl_val rfl (.some rfl) (val_extract rfl rfl) ?_
  refine vl_val rfl (.some rfl) (val_assign rfl) ?_
  refine vl_val rfl (.some rfl) (val_assign rfl) ?_
  refine vl_nil ?_
  refine vc_seq ?_
  refine vc_region ?_
  refine vl_val rfl (.some rfl) (val_move rfl) ?_
  refine vl_callV rfl rfl (.some rfl) Tryd.call11 rfl (fun w hw => wOf n hn w) ?_
  refine vl_val rfl (.some rfl) (val_move rfl) ?_
  refine vl_callV rfl rfl (.some rfl) Tryd.call12 rfl (fun w hw => rOf n hn w) ?_
  refine vl_val rfl (.some rfl) (val_opO rfl rfl (fun w => run_eqGuard_agg w _ _ _ _ _ _ (by kernel_rfl)) (bin_agg_eq (b := true) (fun w => (wide_equal n n (inI_in hn) (inI_in hn) w).trans (by simp)))) ?_
  refine vl_val rfl (.some rfl) (val_move rfl) ?_
  refine vl_on rfl rfl rfl rfl ?_
  refine vl_val rfl (.some rfl) (val_move rfl) ?_
  refine vl_on rfl rfl rfl rfl ?_
  refine vl_val rfl (.some rfl) (val_move rfl) ?_
  refine vl_on rfl rfl rfl rfl ?_
  refine vl_callV rfl rfl (.some rfl) Tryd.call13 rfl (fun w hw => wMul n m hn hm w) ?_
  refine vl_on rfl rfl rfl rfl ?_
  refine vl_val rfl (.some rfl) (val_move rfl) ?_
  refine vl_on rfl rfl rfl rfl ?_
  refine vl_val rfl (.some rfl) (val_move rfl) ?_
  refine vl_on rfl rfl rfl rfl ?_
  refine vl_callV rfl rfl (.some rfl) Tryd.call14 rfl (fun w hw => rMul n m hn hm w) ?_
  refine vl_on rfl rfl rfl rfl ?_
  refine vl_val rfl (.some rfl) (val_opO rfl rfl (fun w => run_eqGuard_agg w _ _ _ _ _ _ (by kernel_rfl)) (bin_agg_eq (b := true) (fun w => (wide_equal (n * m) (n * m) hnm hnm w).trans (by simp)))) ?_
  refine vl_val rfl (.some rfl) (val_pick rfl rfl) ?_
  refine vl_val rfl (.some rfl) (val_move rfl) ?_
  refine vl_on rfl rfl rfl rfl ?_
  refine vl_val rfl (.some rfl) (val_move rfl) ?_
  refine vl_on rfl rfl rfl rfl ?_
  refine vl_val rfl (.some rfl) (val_move rfl) ?_
  refine vl_on rfl rfl rfl rfl ?_
  refine vl_val rfl (.some rfl) (val_eqt rfl rfl (rfl)) ?_
  refine vl_val rfl (.some rfl) (val_pick rfl rfl) ?_
  refine vl_val rfl (.some rfl) (val_move rfl) ?_
  refine vl_on rfl rfl rfl rfl ?_
  refine vl_val rfl (.some rfl) (val_move rfl) ?_
  refine vl_on rfl rfl rfl rfl ?_
  refine vl_val rfl (.some rfl) (val_move rfl) ?_
  refine vl_on rfl rfl rfl rfl ?_
  refine vl_val rfl (.some rfl) (val_beqt Tryd.underlying4 rfl rfl (rfl)) ?_
  refine vl_val rfl (.some rfl) (val_pick rfl rfl) ?_
  refine vl_val rfl (.some rfl) (val_move rfl) ?_
  refine vl_on rfl rfl rfl rfl ?_
  refine vl_callV rfl rfl (.some rfl) Tryd.call15 rfl (fun w hw => wLives w) ?_
  refine vl_val rfl (.some rfl) (val_pick rfl rfl) ?_
  refine vl_val rfl (.some rfl) (val_assign rfl) ?_
  refine vl_nil ?_
  refine vc_ret ?_
  refine ⟨_, [], _, res1 Tryd.results3 rfl, .nil, ?_⟩
  rfl

theorem law_WideSums (h1 : Int) (l1 : Nat) (h2 : Int) (l2 : Nat) (w : World) (g1 : -9223372036854775808 ≤ h1 ∧ h1 < 9223372036854775808) (k1 : l1 < 18446744073709551616) (g2 : -9223372036854775808 ≤ h2 ∧ h2 < 9223372036854775808) (k2 : l2 < 18446744073709551616) : FnV Tryd.prog 8 [.agg #[.int .i64 h1, .int .u64 (l1 : Nat)], .agg #[.int .i64 h2, .int .u64 (l2 : Nat)]] (.bool true) w := by
  obtain ⟨x, hx, e1⟩ := w_arg (h := h1) (l := ((l1 : Nat) : Int)) g1 (by omega) (by omega)
  rw [e1]
  obtain ⟨y, hy, e2⟩ := w_arg (h := h2) (l := ((l2 : Nat) : Int)) g2 (by omega) (by omega)
  rw [e2]
  exact wSums x y hx hy w
theorem law_WideInts (n m : Int) (h1 : Int) (l1 : Nat) (w : World) (hn : -9223372036854775808 ≤ n ∧ n < 9223372036854775808) (hm : -9223372036854775808 ≤ m ∧ m < 9223372036854775808) (g1 : -9223372036854775808 ≤ h1 ∧ h1 < 9223372036854775808) (k1 : l1 < 18446744073709551616) : FnV Tryd.prog 3 [.int .i64 n, .int .i64 m, .agg #[.int .i64 h1, .int .u64 (l1 : Nat)]] (.bool true) w := by
  obtain ⟨x, hx, e1⟩ := w_arg (h := h1) (l := ((l1 : Nat) : Int)) g1 (by omega) (by omega)
  rw [e1]
  exact wInts n m x hn hm hx w

end Go.Proofs.YtpgopfidbmiifaaDoor.K
