/- Walks of the program's functions, printed by a program of this session; Lean checks them. -/
import Derived.Test.YtpgopfidbmiifaaDoorMf
import Derived.Test.YtpgopfidbmiifaaDoorCg
import Derived.Test.YtpgopfidbmiifaaDoorYka
namespace Go.Proofs.YtpgopfidbmiifaaDoor.K
open Go Go.RowKit Go.Proofs
set_option linter.unusedVariables false
set_option linter.unusedSimpArgs false


theorem add_run (x y c : Int) (hx : 0 ≤ x) (hy : 0 ≤ y) (h0 : 0 ≤ c) (h1 : c ≤ 1) (w : World) : (callFunc 43 #[.int .u64 x, .int .u64 y, .int .u64 c]).run Tryd.prog w = .ok (.value (.tuple #[.int .u64 ((x + y + c) % 18446744073709551616), .int .u64 ((x + y + c) / 18446744073709551616)])) w := by
  rw [run_callFunc_extern (e := add64Entry) Tryd.func43 (by kernel_rfl) (by kernel_rfl) (by kernel_rfl) (by kernel_rfl), run_add64 x y c hx hy h0 h1]
  rfl
theorem sub_entry (x y b : Nat) (hb : b ≤ 1) (w : World) : ((Extern.MathBitsCarry.rows.getD 1 ("", fun _ => pure (.bool false))).2 #[.int .u64 x, .int .u64 y, .int .u64 b]).run Tryd.prog w = .ok (.tuple #[.int .u64 (((x + 18446744073709551616 - y - b) % 18446744073709551616 : Nat) : Int), .int .u64 ((if x < y + b then 1 else 0 : Nat) : Int)]) w := by
  have : b = 0 ∨ b = 1 := by omega
  rcases this with rfl | rfl <;> rfl
theorem sub_run (x y b : Int) (hx : 0 ≤ x) (hx1 : x < 18446744073709551616) (hy : 0 ≤ y) (hy1 : y < 18446744073709551616) (h0 : 0 ≤ b) (h1 : b ≤ 1) (w : World) : (callFunc 41 #[.int .u64 x, .int .u64 y, .int .u64 b]).run Tryd.prog w = .ok (.value (.tuple #[.int .u64 ((x - y - b) % 18446744073709551616), .int .u64 (if x < y + b then 1 else 0)])) w := by
  obtain ⟨x, rfl⟩ := Int.eq_ofNat_of_zero_le hx
  obtain ⟨y, rfl⟩ := Int.eq_ofNat_of_zero_le hy
  obtain ⟨b, rfl⟩ := Int.eq_ofNat_of_zero_le h0
  rw [run_callFunc_extern (e := (Extern.MathBitsCarry.rows.getD 1 ("", fun _ => pure (.bool false))).2) Tryd.func41 (by kernel_rfl) (by kernel_rfl) (by kernel_rfl) (by kernel_rfl), sub_entry x y b (by omega)]
  have e1 : (((x + 18446744073709551616 - y - b) % 18446744073709551616 : Nat) : Int) = ((x : Int) - y - b) % 18446744073709551616 := by omega
  have e2 : ((if x < y + b then 1 else 0 : Nat) : Int) = if (x : Int) < y + b then 1 else 0 := by split <;> split <;> omega
  rw [e1, e2]
  rfl
theorem fsWide : (Tryd.prog.fieldsOf 24).toList = [⟨"Hi", 3, 0, false, "", "", 0⟩, ⟨"Lo", 22, 1, false, "", "", 8⟩] := by kernel_rfl
theorem wide_equal (x y : Int) (hx : inW x) (hy : inW y) (w : World) : (Op.equal 24 (wV x) (wV y)).run Tryd.prog w = .ok (decide (x = y)) w := by
  unfold Op.equal
  rw [show Op.maxDepth = 9999 + 1 from rfl, run_equalIn_agg w 9999 24 _ _ (by kernel_rfl) (by kernel_rfl), fsWide]
  have e3 : ∀ a b : Int, (Op.equalIn 9999 22 (.int .u64 a) (.int .u64 b)).run Tryd.prog w = .ok (decide (a = b)) w := fun a b => by
    rw [show (9999 : Nat) = 9998 + 1 from rfl, run_equalIn_int w 9998 22 .u64 .u64 a b Tryd.underlying22, int_beq]
  have e4 : ∀ a b : Int, (Op.equalIn 9999 3 (.int .i64 a) (.int .i64 b)).run Tryd.prog w = .ok (decide (a = b)) w := fun a b => by
    rw [show (9999 : Nat) = 9998 + 1 from rfl, run_equalIn_int w 9998 3 .i64 .i64 a b Tryd.underlying3, int_beq]
  have key : (x = y) ↔ (hW x = hW y ∧ lW x = lW y) := ⟨fun h => by subst h; exact ⟨rfl, rfl⟩, fun h => w_eq hx hy h.1 h.2⟩
  simp only [Op.eqFields, part, Sem.run_bind, Tryd.isAgg22, Tryd.isAgg3, Result.andThen_ok]
  simp [e3, e4]
  by_cases h1 : hW x = hW y
  · simp [h1, e3]
    by_cases h2 : lW x = lW y <;> simp [h2, key, h1]
  · simp [h1, key]

set_option maxRecDepth 20000 in
theorem wHalves (x : Int) (w : World) : FnV Tryd.prog 36 [wV x] (pV x) w := by
  refine fn_enter Tryd.func36 rfl Tryd.ntmps36 rfl ?_
  refine vc_seq ?_
  refine vc_region ?_
  refine vl_box rfl rfl (.some rfl) rfl (fun r1 => ?_)
  refine vl_alloc rfl rfl (.some rfl) Tryd.zeroValue46 (fun r2 => ?_)
  refine vl_nil ?_
  refine vc_seq ?_
  refine vc_region ?_
  refine vl_val rfl (.some rfl) (by first | exact val_fieldAddr Tryd.runUnderlying24 rfl Tryd.sizeOf3 rfl | exact val_fieldAddrR Tryd.runUnderlying24 rfl Tryd.sizeOf3 rfl) ?_
  refine vl_val rfl (.some rfl) (val_load Tryd.isAgg3 rfl (by first | exact cell_cells (by repeat (first | exact .head | apply In.tail | apply Take.tail | apply Upd.tail)) rfl | exact cell_rd (rd_sl (by repeat (first | exact .head | apply In.tail | apply Take.tail | apply Upd.tail))) (by first | exact bcells_at (by omega) | exact ucells_at (by omega) | exact icells_at (by omega) | exact tcells_at (by omega) | exact bcells_get (by omega) | exact icells_get (by omega) | exact tcells_get (by omega) | exact ucells_get (by omega)) | exact cell_rd (rd_old (by assumption) rfl) (by first | exact bcells_at (by omega) | exact ucells_at (by omega) | exact icells_at (by omega) | exact tcells_at (by omega) | exact bcells_get (by omega) | exact icells_get (by omega) | exact tcells_get (by omega) | exact ucells_get (by omega)) | exact cell_old (by assumption) (by simp [fps]))) ?_
  refine vl_val rfl (.some rfl) (val_convInt Tryd.runUnderlying3 Tryd.runUnderlying22 rfl (hP_of x)) ?_
  refine vl_val rfl (.some rfl) (by first | exact val_fieldAddr Tryd.runUnderlying24 rfl Tryd.sizeOf22 rfl | exact val_fieldAddrR Tryd.runUnderlying24 rfl Tryd.sizeOf22 rfl) ?_
  refine vl_val rfl (.some rfl) (val_load Tryd.isAgg22 rfl (by first | exact cell_cells (by repeat (first | exact .head | apply In.tail | apply Take.tail | apply Upd.tail)) rfl | exact cell_rd (rd_sl (by repeat (first | exact .head | apply In.tail | apply Take.tail | apply Upd.tail))) (by first | exact bcells_at (by omega) | exact ucells_at (by omega) | exact icells_at (by omega) | exact tcells_at (by omega) | exact bcells_get (by omega) | exact icells_get (by omega) | exact tcells_get (by omega) | exact ucells_get (by omega)) | exact cell_rd (rd_old (by assumption) rfl) (by first | exact bcells_at (by omega) | exact ucells_at (by omega) | exact icells_at (by omega) | exact tcells_at (by omega) | exact bcells_get (by omega) | exact icells_get (by omega) | exact tcells_get (by omega) | exact ucells_get (by omega)) | exact cell_old (by assumption) (by simp [fps]))) ?_
  refine vl_val rfl (.some rfl) (val_buildSt (pl := #[(0, 1), (1, 1)]) (cs := #[.int .u64 (hP x), .int .u64 (lW x)]) Tryd.runUnderlying46 Tryd.zeroValue46 (fun w => by kernel_rfl) rfl rfl) ?_
  first | refine vl_store rfl rfl .none rfl rfl Tryd.sizeOf46 rfl (by repeat (first | exact .head | apply In.tail | apply Take.tail | apply Upd.tail)) (by first | decide | exact Nat.le_refl _ | exact Nat.le_of_ble_eq_true rfl | (simp; omega)) ?_ | refine vl_storeSl rfl rfl .none rfl rfl Tryd.sizeOf46 rfl (by simp [Value.cells]) (by repeat (first | exact .head | apply In.tail | apply Take.tail | apply Upd.tail)) (by first | decide | (simp [Value.cells]; omega)) ?_
  refine vl_nil ?_
  refine vc_ret ?_
  refine ⟨_, [], _, resC Tryd.results36 rfl (whole_agg Tryd.isAgg46 Tryd.sizeOf46 (cells_whole (by repeat (first | exact .head | apply In.tail | apply Take.tail | apply Upd.tail))) rfl), .nil, ?_⟩
  rfl
set_option maxRecDepth 20000 in
theorem wWide (x : Int) (w : World) : FnV Tryd.prog 30 [pV x] (wV x) w := by
  refine fn_enter Tryd.func30 rfl Tryd.ntmps30 rfl ?_
  refine vc_seq ?_
  refine vc_region ?_
  refine vl_box rfl rfl (.some rfl) rfl (fun r1 => ?_)
  refine vl_alloc rfl rfl (.some rfl) Tryd.zeroValue24 (fun r2 => ?_)
  refine vl_nil ?_
  refine vc_seq ?_
  refine vc_region ?_
  refine vl_val rfl (.some rfl) (by first | exact val_fieldAddr Tryd.runUnderlying46 rfl Tryd.sizeOf22 rfl | exact val_fieldAddrR Tryd.runUnderlying46 rfl Tryd.sizeOf22 rfl) ?_
  refine vl_val rfl (.some rfl) (val_load Tryd.isAgg22 rfl (by first | exact cell_cells (by repeat (first | exact .head | apply In.tail | apply Take.tail | apply Upd.tail)) rfl | exact cell_rd (rd_sl (by repeat (first | exact .head | apply In.tail | apply Take.tail | apply Upd.tail))) (by first | exact bcells_at (by omega) | exact ucells_at (by omega) | exact icells_at (by omega) | exact tcells_at (by omega) | exact bcells_get (by omega) | exact icells_get (by omega) | exact tcells_get (by omega) | exact ucells_get (by omega)) | exact cell_rd (rd_old (by assumption) rfl) (by first | exact bcells_at (by omega) | exact ucells_at (by omega) | exact icells_at (by omega) | exact tcells_at (by omega) | exact bcells_get (by omega) | exact icells_get (by omega) | exact tcells_get (by omega) | exact ucells_get (by omega)) | exact cell_old (by assumption) (by simp [fps]))) ?_
  refine vl_val rfl (.some rfl) (val_convInt Tryd.runUnderlying22 Tryd.runUnderlying3 rfl (hW_of x)) ?_
  refine vl_val rfl (.some rfl) (by first | exact val_fieldAddr Tryd.runUnderlying46 rfl Tryd.sizeOf22 rfl | exact val_fieldAddrR Tryd.runUnderlying46 rfl Tryd.sizeOf22 rfl) ?_
  refine vl_val rfl (.some rfl) (val_load Tryd.isAgg22 rfl (by first | exact cell_cells (by repeat (first | exact .head | apply In.tail | apply Take.tail | apply Upd.tail)) rfl | exact cell_rd (rd_sl (by repeat (first | exact .head | apply In.tail | apply Take.tail | apply Upd.tail))) (by first | exact bcells_at (by omega) | exact ucells_at (by omega) | exact icells_at (by omega) | exact tcells_at (by omega) | exact bcells_get (by omega) | exact icells_get (by omega) | exact tcells_get (by omega) | exact ucells_get (by omega)) | exact cell_rd (rd_old (by assumption) rfl) (by first | exact bcells_at (by omega) | exact ucells_at (by omega) | exact icells_at (by omega) | exact tcells_at (by omega) | exact bcells_get (by omega) | exact icells_get (by omega) | exact tcells_get (by omega) | exact ucells_get (by omega)) | exact cell_old (by assumption) (by simp [fps]))) ?_
  refine vl_val rfl (.some rfl) (val_buildSt (pl := #[(0, 1), (1, 1)]) (cs := #[.int .i64 (hW x), .int .u64 (lW x)]) Tryd.runUnderlying24 Tryd.zeroValue24 (fun w => by kernel_rfl) rfl rfl) ?_
  first | refine vl_store rfl rfl .none rfl rfl Tryd.sizeOf24 rfl (by repeat (first | exact .head | apply In.tail | apply Take.tail | apply Upd.tail)) (by first | decide | exact Nat.le_refl _ | exact Nat.le_of_ble_eq_true rfl | (simp; omega)) ?_ | refine vl_storeSl rfl rfl .none rfl rfl Tryd.sizeOf24 rfl (by simp [Value.cells]) (by repeat (first | exact .head | apply In.tail | apply Take.tail | apply Upd.tail)) (by first | decide | (simp [Value.cells]; omega)) ?_
  refine vl_nil ?_
  refine vc_ret ?_
  refine ⟨_, [], _, resC Tryd.results30 rfl (whole_agg Tryd.isAgg24 Tryd.sizeOf24 (cells_whole (by repeat (first | exact .head | apply In.tail | apply Take.tail | apply Upd.tail))) rfl), .nil, ?_⟩
  rfl
set_option maxRecDepth 20000 in
theorem wBelow (x : Int) (w : World) : FnV Tryd.prog 37 [pV x] (.bool (decide (hW x < 0))) w := by
  refine fn_enter Tryd.func37 rfl Tryd.ntmps37 rfl ?_
  refine vc_seq ?_
  refine vc_region ?_
  refine vl_box rfl rfl (.some rfl) rfl (fun r1 => ?_)
  refine vl_val rfl (.some rfl) (val_assign rfl) ?_
  refine vl_nil ?_
  refine vc_seq ?_
  refine vc_region ?_
  refine vl_val rfl (.some rfl) (by first | exact val_fieldAddr Tryd.runUnderlying46 rfl Tryd.sizeOf22 rfl | exact val_fieldAddrR Tryd.runUnderlying46 rfl Tryd.sizeOf22 rfl) ?_
  refine vl_val rfl (.some rfl) (val_load Tryd.isAgg22 rfl (by first | exact cell_cells (by repeat (first | exact .head | apply In.tail | apply Take.tail | apply Upd.tail)) rfl | exact cell_rd (rd_sl (by repeat (first | exact .head | apply In.tail | apply Take.tail | apply Upd.tail))) (by first | exact bcells_at (by omega) | exact ucells_at (by omega) | exact icells_at (by omega) | exact tcells_at (by omega) | exact bcells_get (by omega) | exact icells_get (by omega) | exact tcells_get (by omega) | exact ucells_get (by omega)) | exact cell_rd (rd_old (by assumption) rfl) (by first | exact bcells_at (by omega) | exact ucells_at (by omega) | exact icells_at (by omega) | exact tcells_at (by omega) | exact bcells_get (by omega) | exact icells_get (by omega) | exact tcells_get (by omega) | exact ucells_get (by omega)) | exact cell_old (by assumption) (by simp [fps]))) ?_
  refine vl_val rfl (.some rfl) (val_shr rfl rfl (by decide) (shr_lit 9223372036854775808 rfl (by decide))) ?_
  refine vl_val rfl (.some rfl) (val_eq rfl rfl) ?_
  refine vl_val rfl (.some rfl) (val_assign rfl) ?_
  refine vl_nil ?_
  refine vc_ret ?_
  refine ⟨_, [], _, res1 Tryd.results37 rfl, .nil, ?_⟩
  show Value.bool _ = Value.bool _
  refine congrArg Value.bool ?_
  have := hP_b x
  rw [decide_eq_decide, hW_neg]; omega
set_option maxRecDepth 20000 in
theorem wPlus (x y : Int) (w : World) : FnV Tryd.prog 35 [pV x, pV y] (pV (x + y)) w := by
  have hx := lW_b x
  have hy := lW_b y
  have hx2 := hP_b x
  have hy2 := hP_b y
  refine fn_enter Tryd.func35 rfl Tryd.ntmps35 rfl ?_
  refine vc_seq ?_
  refine vc_region ?_
  refine vl_box rfl rfl (.some rfl) rfl (fun r2 => ?_)
  refine vl_box rfl rfl (.some rfl) rfl (fun r3 => ?_)
  refine vl_alloc rfl rfl (.some rfl) Tryd.zeroValue46 (fun r4 => ?_)
  refine vl_nil ?_
  refine vc_seq ?_
  refine vc_region ?_
  refine vl_val rfl (.some rfl) (by first | exact val_fieldAddr Tryd.runUnderlying46 rfl Tryd.sizeOf22 rfl | exact val_fieldAddrR Tryd.runUnderlying46 rfl Tryd.sizeOf22 rfl) ?_
  refine vl_val rfl (.some rfl) (val_load Tryd.isAgg22 rfl (by first | exact cell_cells (by repeat (first | exact .head | apply In.tail | apply Take.tail | apply Upd.tail)) rfl | exact cell_rd (rd_sl (by repeat (first | exact .head | apply In.tail | apply Take.tail | apply Upd.tail))) (by first | exact bcells_at (by omega) | exact ucells_at (by omega) | exact icells_at (by omega) | exact tcells_at (by omega) | exact bcells_get (by omega) | exact icells_get (by omega) | exact tcells_get (by omega) | exact ucells_get (by omega)) | exact cell_rd (rd_old (by assumption) rfl) (by first | exact bcells_at (by omega) | exact ucells_at (by omega) | exact icells_at (by omega) | exact tcells_at (by omega) | exact bcells_get (by omega) | exact icells_get (by omega) | exact tcells_get (by omega) | exact ucells_get (by omega)) | exact cell_old (by assumption) (by simp [fps]))) ?_
  refine vl_val rfl (.some rfl) (by first | exact val_fieldAddr Tryd.runUnderlying46 rfl Tryd.sizeOf22 rfl | exact val_fieldAddrR Tryd.runUnderlying46 rfl Tryd.sizeOf22 rfl) ?_
  refine vl_val rfl (.some rfl) (val_load Tryd.isAgg22 rfl (by first | exact cell_cells (by repeat (first | exact .head | apply In.tail | apply Take.tail | apply Upd.tail)) rfl | exact cell_rd (rd_sl (by repeat (first | exact .head | apply In.tail | apply Take.tail | apply Upd.tail))) (by first | exact bcells_at (by omega) | exact ucells_at (by omega) | exact icells_at (by omega) | exact tcells_at (by omega) | exact bcells_get (by omega) | exact icells_get (by omega) | exact tcells_get (by omega) | exact ucells_get (by omega)) | exact cell_rd (rd_old (by assumption) rfl) (by first | exact bcells_at (by omega) | exact ucells_at (by omega) | exact icells_at (by omega) | exact tcells_at (by omega) | exact bcells_get (by omega) | exact icells_get (by omega) | exact tcells_get (by omega) | exact ucells_get (by omega)) | exact cell_old (by assumption) (by simp [fps]))) ?_
  refine vl_ext rfl rfl (.some rfl) rfl (add_run (lW x) (lW y) 0 hx.1 hy.1 (by omega) (by omega)) ?_
  rw [Int.add_zero, add_lo]
  refine vl_val rfl (.some rfl) (val_move rfl) ?_
  refine vl_val rfl (.some rfl) (val_extract rfl rfl) ?_
  refine vl_val rfl (.some rfl) (val_extract rfl rfl) ?_
  refine vl_val rfl (.some rfl) (val_assign rfl) ?_
  refine vl_val rfl (.some rfl) (val_assign rfl) ?_
  refine vl_nil ?_
  refine vc_seq ?_
  refine vc_region ?_
  refine vl_val rfl (.some rfl) (by first | exact val_fieldAddr Tryd.runUnderlying46 rfl Tryd.sizeOf22 rfl | exact val_fieldAddrR Tryd.runUnderlying46 rfl Tryd.sizeOf22 rfl) ?_
  refine vl_val rfl (.some rfl) (val_load Tryd.isAgg22 rfl (by first | exact cell_cells (by repeat (first | exact .head | apply In.tail | apply Take.tail | apply Upd.tail)) rfl | exact cell_rd (rd_sl (by repeat (first | exact .head | apply In.tail | apply Take.tail | apply Upd.tail))) (by first | exact bcells_at (by omega) | exact ucells_at (by omega) | exact icells_at (by omega) | exact tcells_at (by omega) | exact bcells_get (by omega) | exact icells_get (by omega) | exact tcells_get (by omega) | exact ucells_get (by omega)) | exact cell_rd (rd_old (by assumption) rfl) (by first | exact bcells_at (by omega) | exact ucells_at (by omega) | exact icells_at (by omega) | exact tcells_at (by omega) | exact bcells_get (by omega) | exact icells_get (by omega) | exact tcells_get (by omega) | exact ucells_get (by omega)) | exact cell_old (by assumption) (by simp [fps]))) ?_
  refine vl_val rfl (.some rfl) (by first | exact val_fieldAddr Tryd.runUnderlying46 rfl Tryd.sizeOf22 rfl | exact val_fieldAddrR Tryd.runUnderlying46 rfl Tryd.sizeOf22 rfl) ?_
  refine vl_val rfl (.some rfl) (val_load Tryd.isAgg22 rfl (by first | exact cell_cells (by repeat (first | exact .head | apply In.tail | apply Take.tail | apply Upd.tail)) rfl | exact cell_rd (rd_sl (by repeat (first | exact .head | apply In.tail | apply Take.tail | apply Upd.tail))) (by first | exact bcells_at (by omega) | exact ucells_at (by omega) | exact icells_at (by omega) | exact tcells_at (by omega) | exact bcells_get (by omega) | exact icells_get (by omega) | exact tcells_get (by omega) | exact ucells_get (by omega)) | exact cell_rd (rd_old (by assumption) rfl) (by first | exact bcells_at (by omega) | exact ucells_at (by omega) | exact icells_at (by omega) | exact tcells_at (by omega) | exact bcells_get (by omega) | exact icells_get (by omega) | exact tcells_get (by omega) | exact ucells_get (by omega)) | exact cell_old (by assumption) (by simp [fps]))) ?_
  refine vl_val rfl (.some rfl) (val_move rfl) ?_
  refine vl_ext rfl rfl (.some rfl) rfl (add_run (hP x) (hP y) ((lW x + lW y) / 18446744073709551616) hx2.1 hy2.1 (by omega) (by omega)) ?_
  rw [add_hi]
  refine vl_val rfl (.some rfl) (val_move rfl) ?_
  refine vl_val rfl (.some rfl) (val_extract rfl rfl) ?_
  refine vl_val rfl (.some rfl) (val_extract rfl rfl) ?_
  refine vl_val rfl (.some rfl) (val_assign rfl) ?_
  refine vl_val rfl (.some rfl) (val_assign rfl) ?_
  refine vl_nil ?_
  refine vc_seq ?_
  refine vc_region ?_
  refine vl_val rfl (.some rfl) (val_move rfl) ?_
  refine vl_val rfl (.some rfl) (val_move rfl) ?_
  refine vl_val rfl (.some rfl) (val_buildSt (pl := #[(0, 1), (1, 1)]) (cs := #[.int .u64 (hP (x + y)), .int .u64 (lW (x + y))]) Tryd.runUnderlying46 Tryd.zeroValue46 (fun w => by kernel_rfl) rfl rfl) ?_
  first | refine vl_store rfl rfl .none rfl rfl Tryd.sizeOf46 rfl (by repeat (first | exact .head | apply In.tail | apply Take.tail | apply Upd.tail)) (by first | decide | exact Nat.le_refl _ | exact Nat.le_of_ble_eq_true rfl | (simp; omega)) ?_ | refine vl_storeSl rfl rfl .none rfl rfl Tryd.sizeOf46 rfl (by simp [Value.cells]) (by repeat (first | exact .head | apply In.tail | apply Take.tail | apply Upd.tail)) (by first | decide | (simp [Value.cells]; omega)) ?_
  refine vl_nil ?_
  refine vc_ret ?_
  refine ⟨_, [], _, resC Tryd.results35 rfl (whole_agg Tryd.isAgg46 Tryd.sizeOf46 (cells_whole (by repeat (first | exact .head | apply In.tail | apply Take.tail | apply Upd.tail))) rfl), .nil, ?_⟩
  rfl
set_option maxRecDepth 20000 in
theorem wMinus (x y : Int) (w : World) : FnV Tryd.prog 29 [pV x, pV y] (pV (x - y)) w := by
  have hx := lW_b x
  have hy := lW_b y
  have hx2 := hP_b x
  have hy2 := hP_b y
  refine fn_enter Tryd.func29 rfl Tryd.ntmps29 rfl ?_
  refine vc_seq ?_
  refine vc_region ?_
  refine vl_box rfl rfl (.some rfl) rfl (fun r2 => ?_)
  refine vl_box rfl rfl (.some rfl) rfl (fun r3 => ?_)
  refine vl_alloc rfl rfl (.some rfl) Tryd.zeroValue46 (fun r4 => ?_)
  refine vl_nil ?_
  refine vc_seq ?_
  refine vc_region ?_
  refine vl_val rfl (.some rfl) (by first | exact val_fieldAddr Tryd.runUnderlying46 rfl Tryd.sizeOf22 rfl | exact val_fieldAddrR Tryd.runUnderlying46 rfl Tryd.sizeOf22 rfl) ?_
  refine vl_val rfl (.some rfl) (val_load Tryd.isAgg22 rfl (by first | exact cell_cells (by repeat (first | exact .head | apply In.tail | apply Take.tail | apply Upd.tail)) rfl | exact cell_rd (rd_sl (by repeat (first | exact .head | apply In.tail | apply Take.tail | apply Upd.tail))) (by first | exact bcells_at (by omega) | exact ucells_at (by omega) | exact icells_at (by omega) | exact tcells_at (by omega) | exact bcells_get (by omega) | exact icells_get (by omega) | exact tcells_get (by omega) | exact ucells_get (by omega)) | exact cell_rd (rd_old (by assumption) rfl) (by first | exact bcells_at (by omega) | exact ucells_at (by omega) | exact icells_at (by omega) | exact tcells_at (by omega) | exact bcells_get (by omega) | exact icells_get (by omega) | exact tcells_get (by omega) | exact ucells_get (by omega)) | exact cell_old (by assumption) (by simp [fps]))) ?_
  refine vl_val rfl (.some rfl) (by first | exact val_fieldAddr Tryd.runUnderlying46 rfl Tryd.sizeOf22 rfl | exact val_fieldAddrR Tryd.runUnderlying46 rfl Tryd.sizeOf22 rfl) ?_
  refine vl_val rfl (.some rfl) (val_load Tryd.isAgg22 rfl (by first | exact cell_cells (by repeat (first | exact .head | apply In.tail | apply Take.tail | apply Upd.tail)) rfl | exact cell_rd (rd_sl (by repeat (first | exact .head | apply In.tail | apply Take.tail | apply Upd.tail))) (by first | exact bcells_at (by omega) | exact ucells_at (by omega) | exact icells_at (by omega) | exact tcells_at (by omega) | exact bcells_get (by omega) | exact icells_get (by omega) | exact tcells_get (by omega) | exact ucells_get (by omega)) | exact cell_rd (rd_old (by assumption) rfl) (by first | exact bcells_at (by omega) | exact ucells_at (by omega) | exact icells_at (by omega) | exact tcells_at (by omega) | exact bcells_get (by omega) | exact icells_get (by omega) | exact tcells_get (by omega) | exact ucells_get (by omega)) | exact cell_old (by assumption) (by simp [fps]))) ?_
  refine vl_ext rfl rfl (.some rfl) rfl (sub_run (lW x) (lW y) 0 hx.1 hx.2 hy.1 hy.2 (by omega) (by omega)) ?_
  rw [Int.sub_zero, Int.add_zero, sub_lo]
  refine vl_val rfl (.some rfl) (val_move rfl) ?_
  refine vl_val rfl (.some rfl) (val_extract rfl rfl) ?_
  refine vl_val rfl (.some rfl) (val_extract rfl rfl) ?_
  refine vl_val rfl (.some rfl) (val_assign rfl) ?_
  refine vl_val rfl (.some rfl) (val_assign rfl) ?_
  refine vl_nil ?_
  refine vc_seq ?_
  refine vc_region ?_
  refine vl_val rfl (.some rfl) (by first | exact val_fieldAddr Tryd.runUnderlying46 rfl Tryd.sizeOf22 rfl | exact val_fieldAddrR Tryd.runUnderlying46 rfl Tryd.sizeOf22 rfl) ?_
  refine vl_val rfl (.some rfl) (val_load Tryd.isAgg22 rfl (by first | exact cell_cells (by repeat (first | exact .head | apply In.tail | apply Take.tail | apply Upd.tail)) rfl | exact cell_rd (rd_sl (by repeat (first | exact .head | apply In.tail | apply Take.tail | apply Upd.tail))) (by first | exact bcells_at (by omega) | exact ucells_at (by omega) | exact icells_at (by omega) | exact tcells_at (by omega) | exact bcells_get (by omega) | exact icells_get (by omega) | exact tcells_get (by omega) | exact ucells_get (by omega)) | exact cell_rd (rd_old (by assumption) rfl) (by first | exact bcells_at (by omega) | exact ucells_at (by omega) | exact icells_at (by omega) | exact tcells_at (by omega) | exact bcells_get (by omega) | exact icells_get (by omega) | exact tcells_get (by omega) | exact ucells_get (by omega)) | exact cell_old (by assumption) (by simp [fps]))) ?_
  refine vl_val rfl (.some rfl) (by first | exact val_fieldAddr Tryd.runUnderlying46 rfl Tryd.sizeOf22 rfl | exact val_fieldAddrR Tryd.runUnderlying46 rfl Tryd.sizeOf22 rfl) ?_
  refine vl_val rfl (.some rfl) (val_load Tryd.isAgg22 rfl (by first | exact cell_cells (by repeat (first | exact .head | apply In.tail | apply Take.tail | apply Upd.tail)) rfl | exact cell_rd (rd_sl (by repeat (first | exact .head | apply In.tail | apply Take.tail | apply Upd.tail))) (by first | exact bcells_at (by omega) | exact ucells_at (by omega) | exact icells_at (by omega) | exact tcells_at (by omega) | exact bcells_get (by omega) | exact icells_get (by omega) | exact tcells_get (by omega) | exact ucells_get (by omega)) | exact cell_rd (rd_old (by assumption) rfl) (by first | exact bcells_at (by omega) | exact ucells_at (by omega) | exact icells_at (by omega) | exact tcells_at (by omega) | exact bcells_get (by omega) | exact icells_get (by omega) | exact tcells_get (by omega) | exact ucells_get (by omega)) | exact cell_old (by assumption) (by simp [fps]))) ?_
  refine vl_val rfl (.some rfl) (val_move rfl) ?_
  refine vl_ext rfl rfl (.some rfl) rfl (sub_run (hP x) (hP y) (if lW x < lW y then 1 else 0) hx2.1 hx2.2 hy2.1 hy2.2 (by split <;> omega) (by split <;> omega)) ?_
  rw [sub_hi]
  refine vl_val rfl (.some rfl) (val_move rfl) ?_
  refine vl_val rfl (.some rfl) (val_extract rfl rfl) ?_
  refine vl_val rfl (.some rfl) (val_extract rfl rfl) ?_
  refine vl_val rfl (.some rfl) (val_assign rfl) ?_
  refine vl_val rfl (.some rfl) (val_assign rfl) ?_
  refine vl_nil ?_
  refine vc_seq ?_
  refine vc_region ?_
  refine vl_val rfl (.some rfl) (val_move rfl) ?_
  refine vl_val rfl (.some rfl) (val_move rfl) ?_
  refine vl_val rfl (.some rfl) (val_buildSt (pl := #[(0, 1), (1, 1)]) (cs := #[.int .u64 (hP (x - y)), .int .u64 (lW (x - y))]) Tryd.runUnderlying46 Tryd.zeroValue46 (fun w => by kernel_rfl) rfl rfl) ?_
  first | refine vl_store rfl rfl .none rfl rfl Tryd.sizeOf46 rfl (by repeat (first | exact .head | apply In.tail | apply Take.tail | apply Upd.tail)) (by first | decide | exact Nat.le_refl _ | exact Nat.le_of_ble_eq_true rfl | (simp; omega)) ?_ | refine vl_storeSl rfl rfl .none rfl rfl Tryd.sizeOf46 rfl (by simp [Value.cells]) (by repeat (first | exact .head | apply In.tail | apply Take.tail | apply Upd.tail)) (by first | decide | (simp [Value.cells]; omega)) ?_
  refine vl_nil ?_
  refine vc_ret ?_
  refine ⟨_, [], _, resC Tryd.results29 rfl (whole_agg Tryd.isAgg46 Tryd.sizeOf46 (cells_whole (by repeat (first | exact .head | apply In.tail | apply Take.tail | apply Upd.tail))) rfl), .nil, ?_⟩
  rfl
set_option maxRecDepth 20000 in
theorem wAdd (x y : Int) (hx : inW x) (hy : inW y) (w : World) : FnV Tryd.prog 20 [wV x, wV y] (.tuple #[wV (clW (x + y)), .bool (decide (inW (x + y)))]) w := by
  have hok := add_ok hx hy
  refine fn_enter Tryd.func20 rfl Tryd.ntmps20 rfl ?_
  refine vc_seq ?_
  refine vc_region ?_
  refine vl_box rfl rfl (.some rfl) rfl (fun r2 => ?_)
  refine vl_box rfl rfl (.some rfl) rfl (fun r3 => ?_)
  refine vl_alloc rfl rfl (.some rfl) Tryd.zeroValue24 (fun r4 => ?_)
  refine vl_val rfl (.some rfl) (val_assign rfl) ?_
  refine vl_nil ?_
  refine vc_cut (fun E H => ∃ E0 H0 F, Env.le E0 E ∧ Sub H0 H F ∧ (fun E H => ∃ r6 r7 : Nat, E = [(4, .pointer (some ⟨r4, 0, none⟩)), (6, .pointer (some ⟨r6, 0, none⟩)), (7, .pointer (some ⟨r7, 0, none⟩))] ∧ H = [cells r6 [.int .u64 (hP x), .int .u64 (lW x)] 46, cells r7 [.int .u64 (hP y), .int .u64 (lW y)] 46, cells r4 [.int .i64 0, .int .u64 0] 24]) E0 H0) ?_ (fun E H h => ?_)
  ·
    refine vc_drawsT 8 [0, 2] ([cells r2 [.int .i64 (hW x), .int .u64 (lW x)] 24, cells r3 [.int .i64 (hW y), .int .u64 (lW y)] 24]) (by repeat (first | exact .nil | (apply Sub.cons; · repeat (first | exact .head | apply Take.tail)))) rfl (by kernel_rfl) rfl (fun _ _ _ h => h) ?_
    refine vt_val 0 rfl rfl (by kernel_rfl) rfl (.some rfl) (val_loadAgg Tryd.isAgg24 Tryd.sizeOf24 rfl (by first | exact cells_whole (by repeat (first | exact .head | apply In.tail | apply Take.tail | apply Upd.tail)) | exact cells_part (by repeat (first | exact .head | apply In.tail | apply Take.tail | apply Upd.tail)) rfl) rfl) ?_
    refine vt_val 2 rfl rfl (by kernel_rfl) rfl (.some rfl) (val_loadAgg Tryd.isAgg24 Tryd.sizeOf24 rfl (by first | exact cells_whole (by repeat (first | exact .head | apply In.tail | apply Take.tail | apply Upd.tail)) | exact cells_part (by repeat (first | exact .head | apply In.tail | apply Take.tail | apply Upd.tail)) rfl) rfl) ?_
    refine vt_fork3 1 4 5 (by kernel_rfl) ?_ ?_ ?_
    · refine vt_op rfl ?_
      refine vl_callV rfl rfl (.some rfl) Tryd.call36 rfl (fun w hw => wHalves _ w) ?_
      refine vl_nil ?_
      refine ⟨⟨_, (by repeat (first | exact .nil | (apply Sub.cons; · repeat (first | exact .head | apply Take.tail))))⟩, ?_⟩
      refine vt_fork3 3 4 5 (by kernel_rfl) ?_ ?_ ?_
      · refine vt_op rfl ?_
        refine vl_callV rfl rfl (.some rfl) Tryd.call36 rfl (fun w hw => wHalves _ w) ?_
        refine vl_nil ?_
        refine ⟨⟨_, (by repeat (first | exact .nil | (apply Sub.cons; · repeat (first | exact .head | apply Take.tail))))⟩, ?_⟩
        refine vt_fork2 4 5 (by kernel_rfl) ?_ ?_
        · refine vt_op rfl ?_
          refine vl_alloc rfl rfl (.some rfl) Tryd.zeroValue46 (fun r6 => ?_)
          refine vl_nil ?_
          refine ⟨⟨_, (by repeat (first | exact .nil | (apply Sub.cons; · repeat (first | exact .head | apply Take.tail))))⟩, ?_⟩
          refine vt_fork1 5 (by kernel_rfl) ?_
          · refine vt_op rfl ?_
            refine vl_alloc rfl rfl (.some rfl) Tryd.zeroValue46 (fun r7 => ?_)
            refine vl_nil ?_
            refine ⟨⟨_, (by repeat (first | exact .nil | (apply Sub.cons; · repeat (first | exact .head | apply Take.tail))))⟩, ?_⟩
            refine vt_fork1 6 (by kernel_rfl) ?_
            · refine vt_op rfl ?_
              first | refine vl_store rfl rfl .none rfl rfl Tryd.sizeOf46 rfl (by repeat (first | exact .head | apply In.tail | apply Take.tail | apply Upd.tail)) (by first | decide | exact Nat.le_refl _ | exact Nat.le_of_ble_eq_true rfl | (simp; omega)) ?_ | refine vl_storeSl rfl rfl .none rfl rfl Tryd.sizeOf46 rfl (by simp [Value.cells]) (by repeat (first | exact .head | apply In.tail | apply Take.tail | apply Upd.tail)) (by first | decide | (simp [Value.cells]; omega)) ?_
              refine vl_nil ?_
              refine ⟨⟨_, (by repeat (first | exact .nil | (apply Sub.cons; · repeat (first | exact .head | apply Take.tail))))⟩, ?_⟩
              refine vt_fork1 7 (by kernel_rfl) ?_
              · refine vt_op rfl ?_
                first | refine vl_store rfl rfl .none rfl rfl Tryd.sizeOf46 rfl (by repeat (first | exact .head | apply In.tail | apply Take.tail | apply Upd.tail)) (by first | decide | exact Nat.le_refl _ | exact Nat.le_of_ble_eq_true rfl | (simp; omega)) ?_ | refine vl_storeSl rfl rfl .none rfl rfl Tryd.sizeOf46 rfl (by simp [Value.cells]) (by repeat (first | exact .head | apply In.tail | apply Take.tail | apply Upd.tail)) (by first | decide | (simp [Value.cells]; omega)) ?_
                refine vl_nil ?_
                refine ⟨⟨_, (by repeat (first | exact .nil | (apply Sub.cons; · repeat (first | exact .head | apply Take.tail))))⟩, ?_⟩
                refine vt_nil (by kernel_rfl) ?_
                exact ⟨_, _, _, (by repeat (first | exact trivial | refine ⟨rfl, ?_⟩ | refine ⟨le_item rfl (by first | rfl | (congr 1; omega) | (simp; done) | (simp; omega)), ?_⟩)), (by repeat (first | exact .nil | (apply Sub.cons; · repeat (first | exact .head | apply Take.tail)))), ⟨r6, r7, rfl, rfl⟩⟩
        · refine vt_op rfl ?_
          refine vl_alloc rfl rfl (.some rfl) Tryd.zeroValue46 (fun r7 => ?_)
          refine vl_nil ?_
          refine ⟨⟨_, (by repeat (first | exact .nil | (apply Sub.cons; · repeat (first | exact .head | apply Take.tail))))⟩, ?_⟩
          refine vt_fork1 4 (by kernel_rfl) ?_
          · refine vt_op rfl ?_
            refine vl_alloc rfl rfl (.some rfl) Tryd.zeroValue46 (fun r6 => ?_)
            refine vl_nil ?_
            refine ⟨⟨_, (by repeat (first | exact .nil | (apply Sub.cons; · repeat (first | exact .head | apply Take.tail))))⟩, ?_⟩
            refine vt_fork1 6 (by kernel_rfl) ?_
            · refine vt_op rfl ?_
              first | refine vl_store rfl rfl .none rfl rfl Tryd.sizeOf46 rfl (by repeat (first | exact .head | apply In.tail | apply Take.tail | apply Upd.tail)) (by first | decide | exact Nat.le_refl _ | exact Nat.le_of_ble_eq_true rfl | (simp; omega)) ?_ | refine vl_storeSl rfl rfl .none rfl rfl Tryd.sizeOf46 rfl (by simp [Value.cells]) (by repeat (first | exact .head | apply In.tail | apply Take.tail | apply Upd.tail)) (by first | decide | (simp [Value.cells]; omega)) ?_
              refine vl_nil ?_
              refine ⟨⟨_, (by repeat (first | exact .nil | (apply Sub.cons; · repeat (first | exact .head | apply Take.tail))))⟩, ?_⟩
              refine vt_fork1 7 (by kernel_rfl) ?_
              · refine vt_op rfl ?_
                first | refine vl_store rfl rfl .none rfl rfl Tryd.sizeOf46 rfl (by repeat (first | exact .head | apply In.tail | apply Take.tail | apply Upd.tail)) (by first | decide | exact Nat.le_refl _ | exact Nat.le_of_ble_eq_true rfl | (simp; omega)) ?_ | refine vl_storeSl rfl rfl .none rfl rfl Tryd.sizeOf46 rfl (by simp [Value.cells]) (by repeat (first | exact .head | apply In.tail | apply Take.tail | apply Upd.tail)) (by first | decide | (simp [Value.cells]; omega)) ?_
                refine vl_nil ?_
                refine ⟨⟨_, (by repeat (first | exact .nil | (apply Sub.cons; · repeat (first | exact .head | apply Take.tail))))⟩, ?_⟩
                refine vt_nil (by kernel_rfl) ?_
                exact ⟨_, _, _, (by repeat (first | exact trivial | refine ⟨rfl, ?_⟩ | refine ⟨le_item rfl (by first | rfl | (congr 1; omega) | (simp; done) | (simp; omega)), ?_⟩)), (by repeat (first | exact .nil | (apply Sub.cons; · repeat (first | exact .head | apply Take.tail)))), ⟨r6, r7, rfl, rfl⟩⟩
      · refine vt_op rfl ?_
        refine vl_alloc rfl rfl (.some rfl) Tryd.zeroValue46 (fun r6 => ?_)
        refine vl_nil ?_
        refine ⟨⟨_, (by repeat (first | exact .nil | (apply Sub.cons; · repeat (first | exact .head | apply Take.tail))))⟩, ?_⟩
        refine vt_fork2 3 5 (by kernel_rfl) ?_ ?_
        · refine vt_op rfl ?_
          refine vl_callV rfl rfl (.some rfl) Tryd.call36 rfl (fun w hw => wHalves _ w) ?_
          refine vl_nil ?_
          refine ⟨⟨_, (by repeat (first | exact .nil | (apply Sub.cons; · repeat (first | exact .head | apply Take.tail))))⟩, ?_⟩
          refine vt_fork1 5 (by kernel_rfl) ?_
          · refine vt_op rfl ?_
            refine vl_alloc rfl rfl (.some rfl) Tryd.zeroValue46 (fun r7 => ?_)
            refine vl_nil ?_
            refine ⟨⟨_, (by repeat (first | exact .nil | (apply Sub.cons; · repeat (first | exact .head | apply Take.tail))))⟩, ?_⟩
            refine vt_fork1 6 (by kernel_rfl) ?_
            · refine vt_op rfl ?_
              first | refine vl_store rfl rfl .none rfl rfl Tryd.sizeOf46 rfl (by repeat (first | exact .head | apply In.tail | apply Take.tail | apply Upd.tail)) (by first | decide | exact Nat.le_refl _ | exact Nat.le_of_ble_eq_true rfl | (simp; omega)) ?_ | refine vl_storeSl rfl rfl .none rfl rfl Tryd.sizeOf46 rfl (by simp [Value.cells]) (by repeat (first | exact .head | apply In.tail | apply Take.tail | apply Upd.tail)) (by first | decide | (simp [Value.cells]; omega)) ?_
              refine vl_nil ?_
              refine ⟨⟨_, (by repeat (first | exact .nil | (apply Sub.cons; · repeat (first | exact .head | apply Take.tail))))⟩, ?_⟩
              refine vt_fork1 7 (by kernel_rfl) ?_
              · refine vt_op rfl ?_
                first | refine vl_store rfl rfl .none rfl rfl Tryd.sizeOf46 rfl (by repeat (first | exact .head | apply In.tail | apply Take.tail | apply Upd.tail)) (by first | decide | exact Nat.le_refl _ | exact Nat.le_of_ble_eq_true rfl | (simp; omega)) ?_ | refine vl_storeSl rfl rfl .none rfl rfl Tryd.sizeOf46 rfl (by simp [Value.cells]) (by repeat (first | exact .head | apply In.tail | apply Take.tail | apply Upd.tail)) (by first | decide | (simp [Value.cells]; omega)) ?_
                refine vl_nil ?_
                refine ⟨⟨_, (by repeat (first | exact .nil | (apply Sub.cons; · repeat (first | exact .head | apply Take.tail))))⟩, ?_⟩
                refine vt_nil (by kernel_rfl) ?_
                exact ⟨_, _, _, (by repeat (first | exact trivial | refine ⟨rfl, ?_⟩ | refine ⟨le_item rfl (by first | rfl | (congr 1; omega) | (simp; done) | (simp; omega)), ?_⟩)), (by repeat (first | exact .nil | (apply Sub.cons; · repeat (first | exact .head | apply Take.tail)))), ⟨r6, r7, rfl, rfl⟩⟩
        · refine vt_op rfl ?_
          refine vl_alloc rfl rfl (.some rfl) Tryd.zeroValue46 (fun r7 => ?_)
          refine vl_nil ?_
          refine ⟨⟨_, (by repeat (first | exact .nil | (apply Sub.cons; · repeat (first | exact .head | apply Take.tail))))⟩, ?_⟩
          refine vt_fork1 3 (by kernel_rfl) ?_
          · refine vt_op rfl ?_
            refine vl_callV rfl rfl (.some rfl) Tryd.call36 rfl (fun w hw => wHalves _ w) ?_
            refine vl_nil ?_
            refine ⟨⟨_, (by repeat (first | exact .nil | (apply Sub.cons; · repeat (first | exact .head | apply Take.tail))))⟩, ?_⟩
            refine vt_fork1 6 (by kernel_rfl) ?_
            · refine vt_op rfl ?_
              first | refine vl_store rfl rfl .none rfl rfl Tryd.sizeOf46 rfl (by repeat (first | exact .head | apply In.tail | apply Take.tail | apply Upd.tail)) (by first | decide | exact Nat.le_refl _ | exact Nat.le_of_ble_eq_true rfl | (simp; omega)) ?_ | refine vl_storeSl rfl rfl .none rfl rfl Tryd.sizeOf46 rfl (by simp [Value.cells]) (by repeat (first | exact .head | apply In.tail | apply Take.tail | apply Upd.tail)) (by first | decide | (simp [Value.cells]; omega)) ?_
              refine vl_nil ?_
              refine ⟨⟨_, (by repeat (first | exact .nil | (apply Sub.cons; · repeat (first | exact .head | apply Take.tail))))⟩, ?_⟩
              refine vt_fork1 7 (by kernel_rfl) ?_
              · refine vt_op rfl ?_
                first | refine vl_store rfl rfl .none rfl rfl Tryd.sizeOf46 rfl (by repeat (first | exact .head | apply In.tail | apply Take.tail | apply Upd.tail)) (by first | decide | exact Nat.le_refl _ | exact Nat.le_of_ble_eq_true rfl | (simp; omega)) ?_ | refine vl_storeSl rfl rfl .none rfl rfl Tryd.sizeOf46 rfl (by simp [Value.cells]) (by repeat (first | exact .head | apply In.tail | apply Take.tail | apply Upd.tail)) (by first | decide | (simp [Value.cells]; omega)) ?_
                refine vl_nil ?_
                refine ⟨⟨_, (by repeat (first | exact .nil | (apply Sub.cons; · repeat (first | exact .head | apply Take.tail))))⟩, ?_⟩
                refine vt_nil (by kernel_rfl) ?_
                exact ⟨_, _, _, (by repeat (first | exact trivial | refine ⟨rfl, ?_⟩ | refine ⟨le_item rfl (by first | rfl | (congr 1; omega) | (simp; done) | (simp; omega)), ?_⟩)), (by repeat (first | exact .nil | (apply Sub.cons; · repeat (first | exact .head | apply Take.tail)))), ⟨r6, r7, rfl, rfl⟩⟩
      · refine vt_op rfl ?_
        refine vl_alloc rfl rfl (.some rfl) Tryd.zeroValue46 (fun r7 => ?_)
        refine vl_nil ?_
        refine ⟨⟨_, (by repeat (first | exact .nil | (apply Sub.cons; · repeat (first | exact .head | apply Take.tail))))⟩, ?_⟩
        refine vt_fork2 3 4 (by kernel_rfl) ?_ ?_
        · refine vt_op rfl ?_
          refine vl_callV rfl rfl (.some rfl) Tryd.call36 rfl (fun w hw => wHalves _ w) ?_
          refine vl_nil ?_
          refine ⟨⟨_, (by repeat (first | exact .nil | (apply Sub.cons; · repeat (first | exact .head | apply Take.tail))))⟩, ?_⟩
          refine vt_fork1 4 (by kernel_rfl) ?_
          · refine vt_op rfl ?_
            refine vl_alloc rfl rfl (.some rfl) Tryd.zeroValue46 (fun r6 => ?_)
            refine vl_nil ?_
            refine ⟨⟨_, (by repeat (first | exact .nil | (apply Sub.cons; · repeat (first | exact .head | apply Take.tail))))⟩, ?_⟩
            refine vt_fork1 6 (by kernel_rfl) ?_
            · refine vt_op rfl ?_
              first | refine vl_store rfl rfl .none rfl rfl Tryd.sizeOf46 rfl (by repeat (first | exact .head | apply In.tail | apply Take.tail | apply Upd.tail)) (by first | decide | exact Nat.le_refl _ | exact Nat.le_of_ble_eq_true rfl | (simp; omega)) ?_ | refine vl_storeSl rfl rfl .none rfl rfl Tryd.sizeOf46 rfl (by simp [Value.cells]) (by repeat (first | exact .head | apply In.tail | apply Take.tail | apply Upd.tail)) (by first | decide | (simp [Value.cells]; omega)) ?_
              refine vl_nil ?_
              refine ⟨⟨_, (by repeat (first | exact .nil | (apply Sub.cons; · repeat (first | exact .head | apply Take.tail))))⟩, ?_⟩
              refine vt_fork1 7 (by kernel_rfl) ?_
              · refine vt_op rfl ?_
                first | refine vl_store rfl rfl .none rfl rfl Tryd.sizeOf46 rfl (by repeat (first | exact .head | apply In.tail | apply Take.tail | apply Upd.tail)) (by first | decide | exact Nat.le_refl _ | exact Nat.le_of_ble_eq_true rfl | (simp; omega)) ?_ | refine vl_storeSl rfl rfl .none rfl rfl Tryd.sizeOf46 rfl (by simp [Value.cells]) (by repeat (first | exact .head | apply In.tail | apply Take.tail | apply Upd.tail)) (by first | decide | (simp [Value.cells]; omega)) ?_
                refine vl_nil ?_
                refine ⟨⟨_, (by repeat (first | exact .nil | (apply Sub.cons; · repeat (first | exact .head | apply Take.tail))))⟩, ?_⟩
                refine vt_nil (by kernel_rfl) ?_
                exact ⟨_, _, _, (by repeat (first | exact trivial | refine ⟨rfl, ?_⟩ | refine ⟨le_item rfl (by first | rfl | (congr 1; omega) | (simp; done) | (simp; omega)), ?_⟩)), (by repeat (first | exact .nil | (apply Sub.cons; · repeat (first | exact .head | apply Take.tail)))), ⟨r6, r7, rfl, rfl⟩⟩
        · refine vt_op rfl ?_
          refine vl_alloc rfl rfl (.some rfl) Tryd.zeroValue46 (fun r6 => ?_)
          refine vl_nil ?_
          refine ⟨⟨_, (by repeat (first | exact .nil | (apply Sub.cons; · repeat (first | exact .head | apply Take.tail))))⟩, ?_⟩
          refine vt_fork1 3 (by kernel_rfl) ?_
          · refine vt_op rfl ?_
            refine vl_callV rfl rfl (.some rfl) Tryd.call36 rfl (fun w hw => wHalves _ w) ?_
            refine vl_nil ?_
            refine ⟨⟨_, (by repeat (first | exact .nil | (apply Sub.cons; · repeat (first | exact .head | apply Take.tail))))⟩, ?_⟩
            refine vt_fork1 6 (by kernel_rfl) ?_
            · refine vt_op rfl ?_
              first | refine vl_store rfl rfl .none rfl rfl Tryd.sizeOf46 rfl (by repeat (first | exact .head | apply In.tail | apply Take.tail | apply Upd.tail)) (by first | decide | exact Nat.le_refl _ | exact Nat.le_of_ble_eq_true rfl | (simp; omega)) ?_ | refine vl_storeSl rfl rfl .none rfl rfl Tryd.sizeOf46 rfl (by simp [Value.cells]) (by repeat (first | exact .head | apply In.tail | apply Take.tail | apply Upd.tail)) (by first | decide | (simp [Value.cells]; omega)) ?_
              refine vl_nil ?_
              refine ⟨⟨_, (by repeat (first | exact .nil | (apply Sub.cons; · repeat (first | exact .head | apply Take.tail))))⟩, ?_⟩
              refine vt_fork1 7 (by kernel_rfl) ?_
              · refine vt_op rfl ?_
                first | refine vl_store rfl rfl .none rfl rfl Tryd.sizeOf46 rfl (by repeat (first | exact .head | apply In.tail | apply Take.tail | apply Upd.tail)) (by first | decide | exact Nat.le_refl _ | exact Nat.le_of_ble_eq_true rfl | (simp; omega)) ?_ | refine vl_storeSl rfl rfl .none rfl rfl Tryd.sizeOf46 rfl (by simp [Value.cells]) (by repeat (first | exact .head | apply In.tail | apply Take.tail | apply Upd.tail)) (by first | decide | (simp [Value.cells]; omega)) ?_
                refine vl_nil ?_
                refine ⟨⟨_, (by repeat (first | exact .nil | (apply Sub.cons; · repeat (first | exact .head | apply Take.tail))))⟩, ?_⟩
                refine vt_nil (by kernel_rfl) ?_
                exact ⟨_, _, _, (by repeat (first | exact trivial | refine ⟨rfl, ?_⟩ | refine ⟨le_item rfl (by first | rfl | (congr 1; omega) | (simp; done) | (simp; omega)), ?_⟩)), (by repeat (first | exact .nil | (apply Sub.cons; · repeat (first | exact .head | apply Take.tail)))), ⟨r6, r7, rfl, rfl⟩⟩
    · refine vt_op rfl ?_
      refine vl_alloc rfl rfl (.some rfl) Tryd.zeroValue46 (fun r6 => ?_)
      refine vl_nil ?_
      refine ⟨⟨_, (by repeat (first | exact .nil | (apply Sub.cons; · repeat (first | exact .head | apply Take.tail))))⟩, ?_⟩
      refine vt_fork2 1 5 (by kernel_rfl) ?_ ?_
      · refine vt_op rfl ?_
        refine vl_callV rfl rfl (.some rfl) Tryd.call36 rfl (fun w hw => wHalves _ w) ?_
        refine vl_nil ?_
        refine ⟨⟨_, (by repeat (first | exact .nil | (apply Sub.cons; · repeat (first | exact .head | apply Take.tail))))⟩, ?_⟩
        refine vt_fork2 3 5 (by kernel_rfl) ?_ ?_
        · refine vt_op rfl ?_
          refine vl_callV rfl rfl (.some rfl) Tryd.call36 rfl (fun w hw => wHalves _ w) ?_
          refine vl_nil ?_
          refine ⟨⟨_, (by repeat (first | exact .nil | (apply Sub.cons; · repeat (first | exact .head | apply Take.tail))))⟩, ?_⟩
          refine vt_fork1 5 (by kernel_rfl) ?_
          · refine vt_op rfl ?_
            refine vl_alloc rfl rfl (.some rfl) Tryd.zeroValue46 (fun r7 => ?_)
            refine vl_nil ?_
            refine ⟨⟨_, (by repeat (first | exact .nil | (apply Sub.cons; · repeat (first | exact .head | apply Take.tail))))⟩, ?_⟩
            refine vt_fork1 6 (by kernel_rfl) ?_
            · refine vt_op rfl ?_
              first | refine vl_store rfl rfl .none rfl rfl Tryd.sizeOf46 rfl (by repeat (first | exact .head | apply In.tail | apply Take.tail | apply Upd.tail)) (by first | decide | exact Nat.le_refl _ | exact Nat.le_of_ble_eq_true rfl | (simp; omega)) ?_ | refine vl_storeSl rfl rfl .none rfl rfl Tryd.sizeOf46 rfl (by simp [Value.cells]) (by repeat (first | exact .head | apply In.tail | apply Take.tail | apply Upd.tail)) (by first | decide | (simp [Value.cells]; omega)) ?_
              refine vl_nil ?_
              refine ⟨⟨_, (by repeat (first | exact .nil | (apply Sub.cons; · repeat (first | exact .head | apply Take.tail))))⟩, ?_⟩
              refine vt_fork1 7 (by kernel_rfl) ?_
              · refine vt_op rfl ?_
                first | refine vl_store rfl rfl .none rfl rfl Tryd.sizeOf46 rfl (by repeat (first | exact .head | apply In.tail | apply Take.tail | apply Upd.tail)) (by first | decide | exact Nat.le_refl _ | exact Nat.le_of_ble_eq_true rfl | (simp; omega)) ?_ | refine vl_storeSl rfl rfl .none rfl rfl Tryd.sizeOf46 rfl (by simp [Value.cells]) (by repeat (first | exact .head | apply In.tail | apply Take.tail | apply Upd.tail)) (by first | decide | (simp [Value.cells]; omega)) ?_
                refine vl_nil ?_
                refine ⟨⟨_, (by repeat (first | exact .nil | (apply Sub.cons; · repeat (first | exact .head | apply Take.tail))))⟩, ?_⟩
                refine vt_nil (by kernel_rfl) ?_
                exact ⟨_, _, _, (by repeat (first | exact trivial | refine ⟨rfl, ?_⟩ | refine ⟨le_item rfl (by first | rfl | (congr 1; omega) | (simp; done) | (simp; omega)), ?_⟩)), (by repeat (first | exact .nil | (apply Sub.cons; · repeat (first | exact .head | apply Take.tail)))), ⟨r6, r7, rfl, rfl⟩⟩
        · refine vt_op rfl ?_
          refine vl_alloc rfl rfl (.some rfl) Tryd.zeroValue46 (fun r7 => ?_)
          refine vl_nil ?_
          refine ⟨⟨_, (by repeat (first | exact .nil | (apply Sub.cons; · repeat (first | exact .head | apply Take.tail))))⟩, ?_⟩
          refine vt_fork1 3 (by kernel_rfl) ?_
          · refine vt_op rfl ?_
            refine vl_callV rfl rfl (.some rfl) Tryd.call36 rfl (fun w hw => wHalves _ w) ?_
            refine vl_nil ?_
            refine ⟨⟨_, (by repeat (first | exact .nil | (apply Sub.cons; · repeat (first | exact .head | apply Take.tail))))⟩, ?_⟩
            refine vt_fork1 6 (by kernel_rfl) ?_
            · refine vt_op rfl ?_
              first | refine vl_store rfl rfl .none rfl rfl Tryd.sizeOf46 rfl (by repeat (first | exact .head | apply In.tail | apply Take.tail | apply Upd.tail)) (by first | decide | exact Nat.le_refl _ | exact Nat.le_of_ble_eq_true rfl | (simp; omega)) ?_ | refine vl_storeSl rfl rfl .none rfl rfl Tryd.sizeOf46 rfl (by simp [Value.cells]) (by repeat (first | exact .head | apply In.tail | apply Take.tail | apply Upd.tail)) (by first | decide | (simp [Value.cells]; omega)) ?_
              refine vl_nil ?_
              refine ⟨⟨_, (by repeat (first | exact .nil | (apply Sub.cons; · repeat (first | exact .head | apply Take.tail))))⟩, ?_⟩
              refine vt_fork1 7 (by kernel_rfl) ?_
              · refine vt_op rfl ?_
                first | refine vl_store rfl rfl .none rfl rfl Tryd.sizeOf46 rfl (by repeat (first | exact .head | apply In.tail | apply Take.tail | apply Upd.tail)) (by first | decide | exact Nat.le_refl _ | exact Nat.le_of_ble_eq_true rfl | (simp; omega)) ?_ | refine vl_storeSl rfl rfl .none rfl rfl Tryd.sizeOf46 rfl (by simp [Value.cells]) (by repeat (first | exact .head | apply In.tail | apply Take.tail | apply Upd.tail)) (by first | decide | (simp [Value.cells]; omega)) ?_
                refine vl_nil ?_
                refine ⟨⟨_, (by repeat (first | exact .nil | (apply Sub.cons; · repeat (first | exact .head | apply Take.tail))))⟩, ?_⟩
                refine vt_nil (by kernel_rfl) ?_
                exact ⟨_, _, _, (by repeat (first | exact trivial | refine ⟨rfl, ?_⟩ | refine ⟨le_item rfl (by first | rfl | (congr 1; omega) | (simp; done) | (simp; omega)), ?_⟩)), (by repeat (first | exact .nil | (apply Sub.cons; · repeat (first | exact .head | apply Take.tail)))), ⟨r6, r7, rfl, rfl⟩⟩
      · refine vt_op rfl ?_
        refine vl_alloc rfl rfl (.some rfl) Tryd.zeroValue46 (fun r7 => ?_)
        refine vl_nil ?_
        refine ⟨⟨_, (by repeat (first | exact .nil | (apply Sub.cons; · repeat (first | exact .head | apply Take.tail))))⟩, ?_⟩
        refine vt_fork1 1 (by kernel_rfl) ?_
        · refine vt_op rfl ?_
          refine vl_callV rfl rfl (.some rfl) Tryd.call36 rfl (fun w hw => wHalves _ w) ?_
          refine vl_nil ?_
          refine ⟨⟨_, (by repeat (first | exact .nil | (apply Sub.cons; · repeat (first | exact .head | apply Take.tail))))⟩, ?_⟩
          refine vt_fork1 3 (by kernel_rfl) ?_
          · refine vt_op rfl ?_
            refine vl_callV rfl rfl (.some rfl) Tryd.call36 rfl (fun w hw => wHalves _ w) ?_
            refine vl_nil ?_
            refine ⟨⟨_, (by repeat (first | exact .nil | (apply Sub.cons; · repeat (first | exact .head | apply Take.tail))))⟩, ?_⟩
            refine vt_fork1 6 (by kernel_rfl) ?_
            · refine vt_op rfl ?_
              first | refine vl_store rfl rfl .none rfl rfl Tryd.sizeOf46 rfl (by repeat (first | exact .head | apply In.tail | apply Take.tail | apply Upd.tail)) (by first | decide | exact Nat.le_refl _ | exact Nat.le_of_ble_eq_true rfl | (simp; omega)) ?_ | refine vl_storeSl rfl rfl .none rfl rfl Tryd.sizeOf46 rfl (by simp [Value.cells]) (by repeat (first | exact .head | apply In.tail | apply Take.tail | apply Upd.tail)) (by first | decide | (simp [Value.cells]; omega)) ?_
              refine vl_nil ?_
              refine ⟨⟨_, (by repeat (first | exact .nil | (apply Sub.cons; · repeat (first | exact .head | apply Take.tail))))⟩, ?_⟩
              refine vt_fork1 7 (by kernel_rfl) ?_
              · refine vt_op rfl ?_
                first | refine vl_store rfl rfl .none rfl rfl Tryd.sizeOf46 rfl (by repeat (first | exact .head | apply In.tail | apply Take.tail | apply Upd.tail)) (by first | decide | exact Nat.le_refl _ | exact Nat.le_of_ble_eq_true rfl | (simp; omega)) ?_ | refine vl_storeSl rfl rfl .none rfl rfl Tryd.sizeOf46 rfl (by simp [Value.cells]) (by repeat (first | exact .head | apply In.tail | apply Take.tail | apply Upd.tail)) (by first | decide | (simp [Value.cells]; omega)) ?_
                refine vl_nil ?_
                refine ⟨⟨_, (by repeat (first | exact .nil | (apply Sub.cons; · repeat (first | exact .head | apply Take.tail))))⟩, ?_⟩
                refine vt_nil (by kernel_rfl) ?_
                exact ⟨_, _, _, (by repeat (first | exact trivial | refine ⟨rfl, ?_⟩ | refine ⟨le_item rfl (by first | rfl | (congr 1; omega) | (simp; done) | (simp; omega)), ?_⟩)), (by repeat (first | exact .nil | (apply Sub.cons; · repeat (first | exact .head | apply Take.tail)))), ⟨r6, r7, rfl, rfl⟩⟩
    · refine vt_op rfl ?_
      refine vl_alloc rfl rfl (.some rfl) Tryd.zeroValue46 (fun r7 => ?_)
      refine vl_nil ?_
      refine ⟨⟨_, (by repeat (first | exact .nil | (apply Sub.cons; · repeat (first | exact .head | apply Take.tail))))⟩, ?_⟩
      refine vt_fork2 1 4 (by kernel_rfl) ?_ ?_
      · refine vt_op rfl ?_
        refine vl_callV rfl rfl (.some rfl) Tryd.call36 rfl (fun w hw => wHalves _ w) ?_
        refine vl_nil ?_
        refine ⟨⟨_, (by repeat (first | exact .nil | (apply Sub.cons; · repeat (first | exact .head | apply Take.tail))))⟩, ?_⟩
        refine vt_fork2 3 4 (by kernel_rfl) ?_ ?_
        · refine vt_op rfl ?_
          refine vl_callV rfl rfl (.some rfl) Tryd.call36 rfl (fun w hw => wHalves _ w) ?_
          refine vl_nil ?_
          refine ⟨⟨_, (by repeat (first | exact .nil | (apply Sub.cons; · repeat (first | exact .head | apply Take.tail))))⟩, ?_⟩
          refine vt_fork1 4 (by kernel_rfl) ?_
          · refine vt_op rfl ?_
            refine vl_alloc rfl rfl (.some rfl) Tryd.zeroValue46 (fun r6 => ?_)
            refine vl_nil ?_
            refine ⟨⟨_, (by repeat (first | exact .nil | (apply Sub.cons; · repeat (first | exact .head | apply Take.tail))))⟩, ?_⟩
            refine vt_fork1 6 (by kernel_rfl) ?_
            · refine vt_op rfl ?_
              first | refine vl_store rfl rfl .none rfl rfl Tryd.sizeOf46 rfl (by repeat (first | exact .head | apply In.tail | apply Take.tail | apply Upd.tail)) (by first | decide | exact Nat.le_refl _ | exact Nat.le_of_ble_eq_true rfl | (simp; omega)) ?_ | refine vl_storeSl rfl rfl .none rfl rfl Tryd.sizeOf46 rfl (by simp [Value.cells]) (by repeat (first | exact .head | apply In.tail | apply Take.tail | apply Upd.tail)) (by first | decide | (simp [Value.cells]; omega)) ?_
              refine vl_nil ?_
              refine ⟨⟨_, (by repeat (first | exact .nil | (apply Sub.cons; · repeat (first | exact .head | apply Take.tail))))⟩, ?_⟩
              refine vt_fork1 7 (by kernel_rfl) ?_
              · refine vt_op rfl ?_
                first | refine vl_store rfl rfl .none rfl rfl Tryd.sizeOf46 rfl (by repeat (first | exact .head | apply In.tail | apply Take.tail | apply Upd.tail)) (by first | decide | exact Nat.le_refl _ | exact Nat.le_of_ble_eq_true rfl | (simp; omega)) ?_ | refine vl_storeSl rfl rfl .none rfl rfl Tryd.sizeOf46 rfl (by simp [Value.cells]) (by repeat (first | exact .head | apply In.tail | apply Take.tail | apply Upd.tail)) (by first | decide | (simp [Value.cells]; omega)) ?_
                refine vl_nil ?_
                refine ⟨⟨_, (by repeat (first | exact .nil | (apply Sub.cons; · repeat (first | exact .head | apply Take.tail))))⟩, ?_⟩
                refine vt_nil (by kernel_rfl) ?_
                exact ⟨_, _, _, (by repeat (first | exact trivial | refine ⟨rfl, ?_⟩ | refine ⟨le_item rfl (by first | rfl | (congr 1; omega) | (simp; done) | (simp; omega)), ?_⟩)), (by repeat (first | exact .nil | (apply Sub.cons; · repeat (first | exact .head | apply Take.tail)))), ⟨r6, r7, rfl, rfl⟩⟩
        · refine vt_op rfl ?_
          refine vl_alloc rfl rfl (.some rfl) Tryd.zeroValue46 (fun r6 => ?_)
          refine vl_nil ?_
          refine ⟨⟨_, (by repeat (first | exact .nil | (apply Sub.cons; · repeat (first | exact .head | apply Take.tail))))⟩, ?_⟩
          refine vt_fork1 3 (by kernel_rfl) ?_
          · refine vt_op rfl ?_
            refine vl_callV rfl rfl (.some rfl) Tryd.call36 rfl (fun w hw => wHalves _ w) ?_
            refine vl_nil ?_
            refine ⟨⟨_, (by repeat (first | exact .nil | (apply Sub.cons; · repeat (first | exact .head | apply Take.tail))))⟩, ?_⟩
            refine vt_fork1 6 (by kernel_rfl) ?_
            · refine vt_op rfl ?_
              first | refine vl_store rfl rfl .none rfl rfl Tryd.sizeOf46 rfl (by repeat (first | exact .head | apply In.tail | apply Take.tail | apply Upd.tail)) (by first | decide | exact Nat.le_refl _ | exact Nat.le_of_ble_eq_true rfl | (simp; omega)) ?_ | refine vl_storeSl rfl rfl .none rfl rfl Tryd.sizeOf46 rfl (by simp [Value.cells]) (by repeat (first | exact .head | apply In.tail | apply Take.tail | apply Upd.tail)) (by first | decide | (simp [Value.cells]; omega)) ?_
              refine vl_nil ?_
              refine ⟨⟨_, (by repeat (first | exact .nil | (apply Sub.cons; · repeat (first | exact .head | apply Take.tail))))⟩, ?_⟩
              refine vt_fork1 7 (by kernel_rfl) ?_
              · refine vt_op rfl ?_
                first | refine vl_store rfl rfl .none rfl rfl Tryd.sizeOf46 rfl (by repeat (first | exact .head | apply In.tail | apply Take.tail | apply Upd.tail)) (by first | decide | exact Nat.le_refl _ | exact Nat.le_of_ble_eq_true rfl | (simp; omega)) ?_ | refine vl_storeSl rfl rfl .none rfl rfl Tryd.sizeOf46 rfl (by simp [Value.cells]) (by repeat (first | exact .head | apply In.tail | apply Take.tail | apply Upd.tail)) (by first | decide | (simp [Value.cells]; omega)) ?_
                refine vl_nil ?_
                refine ⟨⟨_, (by repeat (first | exact .nil | (apply Sub.cons; · repeat (first | exact .head | apply Take.tail))))⟩, ?_⟩
                refine vt_nil (by kernel_rfl) ?_
                exact ⟨_, _, _, (by repeat (first | exact trivial | refine ⟨rfl, ?_⟩ | refine ⟨le_item rfl (by first | rfl | (congr 1; omega) | (simp; done) | (simp; omega)), ?_⟩)), (by repeat (first | exact .nil | (apply Sub.cons; · repeat (first | exact .head | apply Take.tail)))), ⟨r6, r7, rfl, rfl⟩⟩
      · refine vt_op rfl ?_
        refine vl_alloc rfl rfl (.some rfl) Tryd.zeroValue46 (fun r6 => ?_)
        refine vl_nil ?_
        refine ⟨⟨_, (by repeat (first | exact .nil | (apply Sub.cons; · repeat (first | exact .head | apply Take.tail))))⟩, ?_⟩
        refine vt_fork1 1 (by kernel_rfl) ?_
        · refine vt_op rfl ?_
          refine vl_callV rfl rfl (.some rfl) Tryd.call36 rfl (fun w hw => wHalves _ w) ?_
          refine vl_nil ?_
          refine ⟨⟨_, (by repeat (first | exact .nil | (apply Sub.cons; · repeat (first | exact .head | apply Take.tail))))⟩, ?_⟩
          refine vt_fork1 3 (by kernel_rfl) ?_
          · refine vt_op rfl ?_
            refine vl_callV rfl rfl (.some rfl) Tryd.call36 rfl (fun w hw => wHalves _ w) ?_
            refine vl_nil ?_
            refine ⟨⟨_, (by repeat (first | exact .nil | (apply Sub.cons; · repeat (first | exact .head | apply Take.tail))))⟩, ?_⟩
            refine vt_fork1 6 (by kernel_rfl) ?_
            · refine vt_op rfl ?_
              first | refine vl_store rfl rfl .none rfl rfl Tryd.sizeOf46 rfl (by repeat (first | exact .head | apply In.tail | apply Take.tail | apply Upd.tail)) (by first | decide | exact Nat.le_refl _ | exact Nat.le_of_ble_eq_true rfl | (simp; omega)) ?_ | refine vl_storeSl rfl rfl .none rfl rfl Tryd.sizeOf46 rfl (by simp [Value.cells]) (by repeat (first | exact .head | apply In.tail | apply Take.tail | apply Upd.tail)) (by first | decide | (simp [Value.cells]; omega)) ?_
              refine vl_nil ?_
              refine ⟨⟨_, (by repeat (first | exact .nil | (apply Sub.cons; · repeat (first | exact .head | apply Take.tail))))⟩, ?_⟩
              refine vt_fork1 7 (by kernel_rfl) ?_
              · refine vt_op rfl ?_
                first | refine vl_store rfl rfl .none rfl rfl Tryd.sizeOf46 rfl (by repeat (first | exact .head | apply In.tail | apply Take.tail | apply Upd.tail)) (by first | decide | exact Nat.le_refl _ | exact Nat.le_of_ble_eq_true rfl | (simp; omega)) ?_ | refine vl_storeSl rfl rfl .none rfl rfl Tryd.sizeOf46 rfl (by simp [Value.cells]) (by repeat (first | exact .head | apply In.tail | apply Take.tail | apply Upd.tail)) (by first | decide | (simp [Value.cells]; omega)) ?_
                refine vl_nil ?_
                refine ⟨⟨_, (by repeat (first | exact .nil | (apply Sub.cons; · repeat (first | exact .head | apply Take.tail))))⟩, ?_⟩
                refine vt_nil (by kernel_rfl) ?_
                exact ⟨_, _, _, (by repeat (first | exact trivial | refine ⟨rfl, ?_⟩ | refine ⟨le_item rfl (by first | rfl | (congr 1; omega) | (simp; done) | (simp; omega)), ?_⟩)), (by repeat (first | exact .nil | (apply Sub.cons; · repeat (first | exact .head | apply Take.tail)))), ⟨r6, r7, rfl, rfl⟩⟩
  · obtain ⟨E0, H0, F, hE0, hH0, hJ⟩ := h
    obtain ⟨r6, r7, rfl, rfl⟩ := hJ
    refine vc_weak hE0 hH0 ?_
    refine vc_seq ?_
    refine vc_region ?_
    refine vl_val rfl (.some rfl) (val_loadAgg Tryd.isAgg46 Tryd.sizeOf46 rfl (by first | exact cells_whole (by repeat (first | exact .head | apply In.tail | apply Take.tail | apply Upd.tail)) | exact cells_part (by repeat (first | exact .head | apply In.tail | apply Take.tail | apply Upd.tail)) rfl) rfl) ?_
    refine vl_val rfl (.some rfl) (val_loadAgg Tryd.isAgg46 Tryd.sizeOf46 rfl (by first | exact cells_whole (by repeat (first | exact .head | apply In.tail | apply Take.tail | apply Upd.tail)) | exact cells_part (by repeat (first | exact .head | apply In.tail | apply Take.tail | apply Upd.tail)) rfl) rfl) ?_
    refine vl_callV rfl rfl (.some rfl) Tryd.call35 rfl (fun w hw => wPlus _ _ w) ?_
    refine vl_alloc rfl rfl (.some rfl) Tryd.zeroValue46 (fun r8 => ?_)
    first | refine vl_store rfl rfl .none rfl rfl Tryd.sizeOf46 rfl (by repeat (first | exact .head | apply In.tail | apply Take.tail | apply Upd.tail)) (by first | decide | exact Nat.le_refl _ | exact Nat.le_of_ble_eq_true rfl | (simp; omega)) ?_ | refine vl_storeSl rfl rfl .none rfl rfl Tryd.sizeOf46 rfl (by simp [Value.cells]) (by repeat (first | exact .head | apply In.tail | apply Take.tail | apply Upd.tail)) (by first | decide | (simp [Value.cells]; omega)) ?_
    refine vl_nil ?_
    refine vc_seq ?_
    refine vc_seq ?_
    refine vc_drawsS [0, 2, 4, 5, 6, 8, 10, 11] [] [0, 2, 1, 3, 4, 5, 6, 8, 7, 9, 10, 11] [cells r6 [.int .u64 (hP x), .int .u64 (lW x)] 46, cells r7 [.int .u64 (hP y), .int .u64 (lW y)] 46, cells r8 [.int .u64 (hP (x + y)), .int .u64 (lW (x + y))] 46] (by repeat (first | exact .nil | (apply Sub.cons; · repeat (first | exact .head | apply Take.tail)))) rfl (by kernel_rfl) (fun _ _ _ h => h) ?_
    refine vd_val rfl rfl rfl (.some rfl) (val_loadAgg Tryd.isAgg46 Tryd.sizeOf46 rfl (by first | exact cells_whole (by repeat (first | exact .head | apply In.tail | apply Take.tail | apply Upd.tail)) | exact cells_part (by repeat (first | exact .head | apply In.tail | apply Take.tail | apply Upd.tail)) rfl) rfl) ?_
    refine vd_val rfl rfl rfl (.some rfl) (val_loadAgg Tryd.isAgg46 Tryd.sizeOf46 rfl (by first | exact cells_whole (by repeat (first | exact .head | apply In.tail | apply Take.tail | apply Upd.tail)) | exact cells_part (by repeat (first | exact .head | apply In.tail | apply Take.tail | apply Upd.tail)) rfl) rfl) ?_
    refine vd_op rfl rfl ?_
    refine vl_callV rfl rfl (.some rfl) Tryd.call37 rfl (fun w hw => wBelow _ w) ?_
    refine vl_nil ?_
    refine ⟨fun _ => ⟨_, (by repeat (first | exact .nil | (apply Sub.cons; · repeat (first | exact .head | apply Take.tail))))⟩, ?_⟩
    refine vd_op rfl rfl ?_
    refine vl_callV rfl rfl (.some rfl) Tryd.call37 rfl (fun w hw => wBelow _ w) ?_
    refine vl_nil ?_
    refine ⟨fun _ => ⟨_, (by repeat (first | exact .nil | (apply Sub.cons; · repeat (first | exact .head | apply Take.tail))))⟩, ?_⟩
    refine vd_val rfl rfl rfl (.some rfl) (val_beq Tryd.underlying4 rfl rfl) ?_
    refine vd_val rfl rfl rfl (.some rfl) (val_move rfl) ?_
    refine vd_split (t := 21) rfl (fun hg21 => ?_) (fun hg21 => ?_)
    · (try replace hg21 := of_decide_eq_true hg21)
      refine vd_on rfl rfl rfl rfl rfl rfl (.some rfl) (val_loadAgg Tryd.isAgg46 Tryd.sizeOf46 rfl (by first | exact cells_whole (by repeat (first | exact .head | apply In.tail | apply Take.tail | apply Upd.tail)) | exact cells_part (by repeat (first | exact .head | apply In.tail | apply Take.tail | apply Upd.tail)) rfl) rfl) ?_
      refine vd_on rfl rfl rfl rfl rfl rfl (.some rfl) (val_loadAgg Tryd.isAgg46 Tryd.sizeOf46 rfl (by first | exact cells_whole (by repeat (first | exact .head | apply In.tail | apply Take.tail | apply Upd.tail)) | exact cells_part (by repeat (first | exact .head | apply In.tail | apply Take.tail | apply Upd.tail)) rfl) rfl) ?_
      refine vd_op rfl rfl ?_
      refine vl_on rfl rfl rfl rfl ?_
      refine vl_callV rfl rfl (.some rfl) Tryd.call37 rfl (fun w hw => wBelow _ w) ?_
      refine vl_nil ?_
      refine ⟨fun _ => ⟨_, (by repeat (first | exact .nil | (apply Sub.cons; · repeat (first | exact .head | apply Take.tail))))⟩, ?_⟩
      refine vd_op rfl rfl ?_
      refine vl_on rfl rfl rfl rfl ?_
      refine vl_callV rfl rfl (.some rfl) Tryd.call37 rfl (fun w hw => wBelow _ w) ?_
      refine vl_nil ?_
      refine ⟨fun _ => ⟨_, (by repeat (first | exact .nil | (apply Sub.cons; · repeat (first | exact .head | apply Take.tail))))⟩, ?_⟩
      refine vd_on rfl rfl rfl rfl rfl rfl (.some rfl) (val_bne Tryd.underlying4 rfl rfl) ?_
      refine vd_val rfl rfl rfl (.some rfl) (val_pick rfl rfl) ?_
      refine vd_nil ?_
      refine vc_cond rfl (fun hc0 => ?_) (fun hc0 => ?_)
      · (try replace hc0 := of_decide_eq_true hc0)
        refine vc_seq ?_
        refine vc_region ?_
        refine vl_val rfl (.some rfl) (val_buildSt (pl := #[(0, 1), (1, 1)]) (cs := #[.int .i64 (0), .int .u64 (0)]) Tryd.runUnderlying24 Tryd.zeroValue24 (fun w => by kernel_rfl) rfl rfl) ?_
        first | refine vl_store rfl rfl .none rfl rfl Tryd.sizeOf24 rfl (by repeat (first | exact .head | apply In.tail | apply Take.tail | apply Upd.tail)) (by first | decide | exact Nat.le_refl _ | exact Nat.le_of_ble_eq_true rfl | (simp; omega)) ?_ | refine vl_storeSl rfl rfl .none rfl rfl Tryd.sizeOf24 rfl (by simp [Value.cells]) (by repeat (first | exact .head | apply In.tail | apply Take.tail | apply Upd.tail)) (by first | decide | (simp [Value.cells]; omega)) ?_
        refine vl_val rfl (.some rfl) (val_assign rfl) ?_
        refine vl_nil ?_
        refine vc_ret ?_
        refine ⟨_, [], _, resC2 Tryd.results20 rfl (whole_agg Tryd.isAgg24 Tryd.sizeOf24 (cells_whole (by repeat (first | exact .head | apply In.tail | apply Take.tail | apply Upd.tail))) rfl) rfl, .nil, ?_⟩
        show _ = _
        rw [clW, if_neg (show ¬ inW (x + y) by rw [hok]; (try simp at hg21); (try simp at hc0); simp; omega), decide_eq_false (show ¬ inW (x + y) by rw [hok]; (try simp at hg21); (try simp at hc0); simp; omega)]
        rfl
      · (try replace hc0 := of_decide_eq_false hc0)
        refine vc_skip ?_
        refine vc_seq ?_
        refine vc_region ?_
        refine vl_val rfl (.some rfl) (val_loadAgg Tryd.isAgg46 Tryd.sizeOf46 rfl (by first | exact cells_whole (by repeat (first | exact .head | apply In.tail | apply Take.tail | apply Upd.tail)) | exact cells_part (by repeat (first | exact .head | apply In.tail | apply Take.tail | apply Upd.tail)) rfl) rfl) ?_
        refine vl_callV rfl rfl (.some rfl) Tryd.call30 rfl (fun w hw => wWide _ w) ?_
        first | refine vl_store rfl rfl .none rfl rfl Tryd.sizeOf24 rfl (by repeat (first | exact .head | apply In.tail | apply Take.tail | apply Upd.tail)) (by first | decide | exact Nat.le_refl _ | exact Nat.le_of_ble_eq_true rfl | (simp; omega)) ?_ | refine vl_storeSl rfl rfl .none rfl rfl Tryd.sizeOf24 rfl (by simp [Value.cells]) (by repeat (first | exact .head | apply In.tail | apply Take.tail | apply Upd.tail)) (by first | decide | (simp [Value.cells]; omega)) ?_
        refine vl_val rfl (.some rfl) (val_assign rfl) ?_
        refine vl_nil ?_
        refine vc_ret ?_
        refine ⟨_, [], _, resC2 Tryd.results20 rfl (whole_agg Tryd.isAgg24 Tryd.sizeOf24 (cells_whole (by repeat (first | exact .head | apply In.tail | apply Take.tail | apply Upd.tail))) rfl) rfl, .nil, ?_⟩
        show _ = _
        rw [clW, if_pos (show inW (x + y) by rw [hok]; (try simp at hg21); (try simp at hc0); simp; omega), decide_eq_true (show inW (x + y) by rw [hok]; (try simp at hg21); (try simp at hc0); simp; omega)]
        rfl
    · (try replace hg21 := of_decide_eq_false hg21)
      refine vd_off rfl rfl rfl rfl rfl rfl (.some rfl) ?_
      refine vd_off rfl rfl rfl rfl rfl rfl (.some rfl) ?_
      refine vd_op rfl rfl ?_
      refine vl_off rfl rfl rfl rfl (.some rfl) ?_
      refine vl_nil ?_
      refine ⟨fun _ => ⟨_, (by repeat (first | exact .nil | (apply Sub.cons; · repeat (first | exact .head | apply Take.tail))))⟩, ?_⟩
      refine vd_op rfl rfl ?_
      refine vl_off rfl rfl rfl rfl (.some rfl) ?_
      refine vl_nil ?_
      refine ⟨fun _ => ⟨_, (by repeat (first | exact .nil | (apply Sub.cons; · repeat (first | exact .head | apply Take.tail))))⟩, ?_⟩
      refine vd_off rfl rfl rfl rfl rfl rfl (.some rfl) ?_
      refine vd_val rfl rfl rfl (.some rfl) (val_pick rfl rfl) ?_
      refine vd_nil ?_
      refine vc_cond rfl (fun h => by cases h) (fun _ => ?_)
      refine vc_skip ?_
      refine vc_seq ?_
      refine vc_region ?_
      refine vl_val rfl (.some rfl) (val_loadAgg Tryd.isAgg46 Tryd.sizeOf46 rfl (by first | exact cells_whole (by repeat (first | exact .head | apply In.tail | apply Take.tail | apply Upd.tail)) | exact cells_part (by repeat (first | exact .head | apply In.tail | apply Take.tail | apply Upd.tail)) rfl) rfl) ?_
      refine vl_callV rfl rfl (.some rfl) Tryd.call30 rfl (fun w hw => wWide _ w) ?_
      first | refine vl_store rfl rfl .none rfl rfl Tryd.sizeOf24 rfl (by repeat (first | exact .head | apply In.tail | apply Take.tail | apply Upd.tail)) (by first | decide | exact Nat.le_refl _ | exact Nat.le_of_ble_eq_true rfl | (simp; omega)) ?_ | refine vl_storeSl rfl rfl .none rfl rfl Tryd.sizeOf24 rfl (by simp [Value.cells]) (by repeat (first | exact .head | apply In.tail | apply Take.tail | apply Upd.tail)) (by first | decide | (simp [Value.cells]; omega)) ?_
      refine vl_val rfl (.some rfl) (val_assign rfl) ?_
      refine vl_nil ?_
      refine vc_ret ?_
      refine ⟨_, [], _, resC2 Tryd.results20 rfl (whole_agg Tryd.isAgg24 Tryd.sizeOf24 (cells_whole (by repeat (first | exact .head | apply In.tail | apply Take.tail | apply Upd.tail))) rfl) rfl, .nil, ?_⟩
      show _ = _
      rw [clW, if_pos (show inW (x + y) by rw [hok]; (try simp at hg21); (try simp at hc0); simp; omega), decide_eq_true (show inW (x + y) by rw [hok]; (try simp at hg21); (try simp at hc0); simp; omega)]
      rfl
set_option maxRecDepth 20000 in
theorem wSub (x y : Int) (hx : inW x) (hy : inW y) (w : World) : FnV Tryd.prog 22 [wV x, wV y] (.tuple #[wV (clW (x - y)), .bool (decide (inW (x - y)))]) w := by
  have hok := sub_ok hx hy
  refine fn_enter Tryd.func22 rfl Tryd.ntmps22 rfl ?_
  refine vc_seq ?_
  refine vc_region ?_
  refine vl_box rfl rfl (.some rfl) rfl (fun r2 => ?_)
  refine vl_box rfl rfl (.some rfl) rfl (fun r3 => ?_)
  refine vl_alloc rfl rfl (.some rfl) Tryd.zeroValue24 (fun r4 => ?_)
  refine vl_val rfl (.some rfl) (val_assign rfl) ?_
  refine vl_nil ?_
  refine vc_cut (fun E H => ∃ E0 H0 F, Env.le E0 E ∧ Sub H0 H F ∧ (fun E H => ∃ r6 r7 : Nat, E = [(4, .pointer (some ⟨r4, 0, none⟩)), (6, .pointer (some ⟨r6, 0, none⟩)), (7, .pointer (some ⟨r7, 0, none⟩))] ∧ H = [cells r6 [.int .u64 (hP x), .int .u64 (lW x)] 46, cells r7 [.int .u64 (hP y), .int .u64 (lW y)] 46, cells r4 [.int .i64 0, .int .u64 0] 24]) E0 H0) ?_ (fun E H h => ?_)
  ·
    refine vc_drawsT 8 [0, 2] ([cells r2 [.int .i64 (hW x), .int .u64 (lW x)] 24, cells r3 [.int .i64 (hW y), .int .u64 (lW y)] 24]) (by repeat (first | exact .nil | (apply Sub.cons; · repeat (first | exact .head | apply Take.tail)))) rfl (by kernel_rfl) rfl (fun _ _ _ h => h) ?_
    refine vt_val 0 rfl rfl (by kernel_rfl) rfl (.some rfl) (val_loadAgg Tryd.isAgg24 Tryd.sizeOf24 rfl (by first | exact cells_whole (by repeat (first | exact .head | apply In.tail | apply Take.tail | apply Upd.tail)) | exact cells_part (by repeat (first | exact .head | apply In.tail | apply Take.tail | apply Upd.tail)) rfl) rfl) ?_
    refine vt_val 2 rfl rfl (by kernel_rfl) rfl (.some rfl) (val_loadAgg Tryd.isAgg24 Tryd.sizeOf24 rfl (by first | exact cells_whole (by repeat (first | exact .head | apply In.tail | apply Take.tail | apply Upd.tail)) | exact cells_part (by repeat (first | exact .head | apply In.tail | apply Take.tail | apply Upd.tail)) rfl) rfl) ?_
    refine vt_fork3 1 4 5 (by kernel_rfl) ?_ ?_ ?_
    · refine vt_op rfl ?_
      refine vl_callV rfl rfl (.some rfl) Tryd.call36 rfl (fun w hw => wHalves _ w) ?_
      refine vl_nil ?_
      refine ⟨⟨_, (by repeat (first | exact .nil | (apply Sub.cons; · repeat (first | exact .head | apply Take.tail))))⟩, ?_⟩
      refine vt_fork3 3 4 5 (by kernel_rfl) ?_ ?_ ?_
      · refine vt_op rfl ?_
        refine vl_callV rfl rfl (.some rfl) Tryd.call36 rfl (fun w hw => wHalves _ w) ?_
        refine vl_nil ?_
        refine ⟨⟨_, (by repeat (first | exact .nil | (apply Sub.cons; · repeat (first | exact .head | apply Take.tail))))⟩, ?_⟩
        refine vt_fork2 4 5 (by kernel_rfl) ?_ ?_
        · refine vt_op rfl ?_
          refine vl_alloc rfl rfl (.some rfl) Tryd.zeroValue46 (fun r6 => ?_)
          refine vl_nil ?_
          refine ⟨⟨_, (by repeat (first | exact .nil | (apply Sub.cons; · repeat (first | exact .head | apply Take.tail))))⟩, ?_⟩
          refine vt_fork1 5 (by kernel_rfl) ?_
          · refine vt_op rfl ?_
            refine vl_alloc rfl rfl (.some rfl) Tryd.zeroValue46 (fun r7 => ?_)
            refine vl_nil ?_
            refine ⟨⟨_, (by repeat (first | exact .nil | (apply Sub.cons; · repeat (first | exact .head | apply Take.tail))))⟩, ?_⟩
            refine vt_fork1 6 (by kernel_rfl) ?_
            · refine vt_op rfl ?_
              first | refine vl_store rfl rfl .none rfl rfl Tryd.sizeOf46 rfl (by repeat (first | exact .head | apply In.tail | apply Take.tail | apply Upd.tail)) (by first | decide | exact Nat.le_refl _ | exact Nat.le_of_ble_eq_true rfl | (simp; omega)) ?_ | refine vl_storeSl rfl rfl .none rfl rfl Tryd.sizeOf46 rfl (by simp [Value.cells]) (by repeat (first | exact .head | apply In.tail | apply Take.tail | apply Upd.tail)) (by first | decide | (simp [Value.cells]; omega)) ?_
              refine vl_nil ?_
              refine ⟨⟨_, (by repeat (first | exact .nil | (apply Sub.cons; · repeat (first | exact .head | apply Take.tail))))⟩, ?_⟩
              refine vt_fork1 7 (by kernel_rfl) ?_
              · refine vt_op rfl ?_
                first | refine vl_store rfl rfl .none rfl rfl Tryd.sizeOf46 rfl (by repeat (first | exact .head | apply In.tail | apply Take.tail | apply Upd.tail)) (by first | decide | exact Nat.le_refl _ | exact Nat.le_of_ble_eq_true rfl | (simp; omega)) ?_ | refine vl_storeSl rfl rfl .none rfl rfl Tryd.sizeOf46 rfl (by simp [Value.cells]) (by repeat (first | exact .head | apply In.tail | apply Take.tail | apply Upd.tail)) (by first | decide | (simp [Value.cells]; omega)) ?_
                refine vl_nil ?_
                refine ⟨⟨_, (by repeat (first | exact .nil | (apply Sub.cons; · repeat (first | exact .head | apply Take.tail))))⟩, ?_⟩
                refine vt_nil (by kernel_rfl) ?_
                exact ⟨_, _, _, (by repeat (first | exact trivial | refine ⟨rfl, ?_⟩ | refine ⟨le_item rfl (by first | rfl | (congr 1; omega) | (simp; done) | (simp; omega)), ?_⟩)), (by repeat (first | exact .nil | (apply Sub.cons; · repeat (first | exact .head | apply Take.tail)))), ⟨r6, r7, rfl, rfl⟩⟩
        · refine vt_op rfl ?_
          refine vl_alloc rfl rfl (.some rfl) Tryd.zeroValue46 (fun r7 => ?_)
          refine vl_nil ?_
          refine ⟨⟨_, (by repeat (first | exact .nil | (apply Sub.cons; · repeat (first | exact .head | apply Take.tail))))⟩, ?_⟩
          refine vt_fork1 4 (by kernel_rfl) ?_
          · refine vt_op rfl ?_
            refine vl_alloc rfl rfl (.some rfl) Tryd.zeroValue46 (fun r6 => ?_)
            refine vl_nil ?_
            refine ⟨⟨_, (by repeat (first | exact .nil | (apply Sub.cons; · repeat (first | exact .head | apply Take.tail))))⟩, ?_⟩
            refine vt_fork1 6 (by kernel_rfl) ?_
            · refine vt_op rfl ?_
              first | refine vl_store rfl rfl .none rfl rfl Tryd.sizeOf46 rfl (by repeat (first | exact .head | apply In.tail | apply Take.tail | apply Upd.tail)) (by first | decide | exact Nat.le_refl _ | exact Nat.le_of_ble_eq_true rfl | (simp; omega)) ?_ | refine vl_storeSl rfl rfl .none rfl rfl Tryd.sizeOf46 rfl (by simp [Value.cells]) (by repeat (first | exact .head | apply In.tail | apply Take.tail | apply Upd.tail)) (by first | decide | (simp [Value.cells]; omega)) ?_
              refine vl_nil ?_
              refine ⟨⟨_, (by repeat (first | exact .nil | (apply Sub.cons; · repeat (first | exact .head | apply Take.tail))))⟩, ?_⟩
              refine vt_fork1 7 (by kernel_rfl) ?_
              · refine vt_op rfl ?_
                first | refine vl_store rfl rfl .none rfl rfl Tryd.sizeOf46 rfl (by repeat (first | exact .head | apply In.tail | apply Take.tail | apply Upd.tail)) (by first | decide | exact Nat.le_refl _ | exact Nat.le_of_ble_eq_true rfl | (simp; omega)) ?_ | refine vl_storeSl rfl rfl .none rfl rfl Tryd.sizeOf46 rfl (by simp [Value.cells]) (by repeat (first | exact .head | apply In.tail | apply Take.tail | apply Upd.tail)) (by first | decide | (simp [Value.cells]; omega)) ?_
                refine vl_nil ?_
                refine ⟨⟨_, (by repeat (first | exact .nil | (apply Sub.cons; · repeat (first | exact .head | apply Take.tail))))⟩, ?_⟩
                refine vt_nil (by kernel_rfl) ?_
                exact ⟨_, _, _, (by repeat (first | exact trivial | refine ⟨rfl, ?_⟩ | refine ⟨le_item rfl (by first | rfl | (congr 1; omega) | (simp; done) | (simp; omega)), ?_⟩)), (by repeat (first | exact .nil | (apply Sub.cons; · repeat (first | exact .head | apply Take.tail)))), ⟨r6, r7, rfl, rfl⟩⟩
      · refine vt_op rfl ?_
        refine vl_alloc rfl rfl (.some rfl) Tryd.zeroValue46 (fun r6 => ?_)
        refine vl_nil ?_
        refine ⟨⟨_, (by repeat (first | exact .nil | (apply Sub.cons; · repeat (first | exact .head | apply Take.tail))))⟩, ?_⟩
        refine vt_fork2 3 5 (by kernel_rfl) ?_ ?_
        · refine vt_op rfl ?_
          refine vl_callV rfl rfl (.some rfl) Tryd.call36 rfl (fun w hw => wHalves _ w) ?_
          refine vl_nil ?_
          refine ⟨⟨_, (by repeat (first | exact .nil | (apply Sub.cons; · repeat (first | exact .head | apply Take.tail))))⟩, ?_⟩
          refine vt_fork1 5 (by kernel_rfl) ?_
          · refine vt_op rfl ?_
            refine vl_alloc rfl rfl (.some rfl) Tryd.zeroValue46 (fun r7 => ?_)
            refine vl_nil ?_
            refine ⟨⟨_, (by repeat (first | exact .nil | (apply Sub.cons; · repeat (first | exact .head | apply Take.tail))))⟩, ?_⟩
            refine vt_fork1 6 (by kernel_rfl) ?_
            · refine vt_op rfl ?_
              first | refine vl_store rfl rfl .none rfl rfl Tryd.sizeOf46 rfl (by repeat (first | exact .head | apply In.tail | apply Take.tail | apply Upd.tail)) (by first | decide | exact Nat.le_refl _ | exact Nat.le_of_ble_eq_true rfl | (simp; omega)) ?_ | refine vl_storeSl rfl rfl .none rfl rfl Tryd.sizeOf46 rfl (by simp [Value.cells]) (by repeat (first | exact .head | apply In.tail | apply Take.tail | apply Upd.tail)) (by first | decide | (simp [Value.cells]; omega)) ?_
              refine vl_nil ?_
              refine ⟨⟨_, (by repeat (first | exact .nil | (apply Sub.cons; · repeat (first | exact .head | apply Take.tail))))⟩, ?_⟩
              refine vt_fork1 7 (by kernel_rfl) ?_
              · refine vt_op rfl ?_
                first | refine vl_store rfl rfl .none rfl rfl Tryd.sizeOf46 rfl (by repeat (first | exact .head | apply In.tail | apply Take.tail | apply Upd.tail)) (by first | decide | exact Nat.le_refl _ | exact Nat.le_of_ble_eq_true rfl | (simp; omega)) ?_ | refine vl_storeSl rfl rfl .none rfl rfl Tryd.sizeOf46 rfl (by simp [Value.cells]) (by repeat (first | exact .head | apply In.tail | apply Take.tail | apply Upd.tail)) (by first | decide | (simp [Value.cells]; omega)) ?_
                refine vl_nil ?_
                refine ⟨⟨_, (by repeat (first | exact .nil | (apply Sub.cons; · repeat (first | exact .head | apply Take.tail))))⟩, ?_⟩
                refine vt_nil (by kernel_rfl) ?_
                exact ⟨_, _, _, (by repeat (first | exact trivial | refine ⟨rfl, ?_⟩ | refine ⟨le_item rfl (by first | rfl | (congr 1; omega) | (simp; done) | (simp; omega)), ?_⟩)), (by repeat (first | exact .nil | (apply Sub.cons; · repeat (first | exact .head | apply Take.tail)))), ⟨r6, r7, rfl, rfl⟩⟩
        · refine vt_op rfl ?_
          refine vl_alloc rfl rfl (.some rfl) Tryd.zeroValue46 (fun r7 => ?_)
          refine vl_nil ?_
          refine ⟨⟨_, (by repeat (first | exact .nil | (apply Sub.cons; · repeat (first | exact .head | apply Take.tail))))⟩, ?_⟩
          refine vt_fork1 3 (by kernel_rfl) ?_
          · refine vt_op rfl ?_
            refine vl_callV rfl rfl (.some rfl) Tryd.call36 rfl (fun w hw => wHalves _ w) ?_
            refine vl_nil ?_
            refine ⟨⟨_, (by repeat (first | exact .nil | (apply Sub.cons; · repeat (first | exact .head | apply Take.tail))))⟩, ?_⟩
            refine vt_fork1 6 (by kernel_rfl) ?_
            · refine vt_op rfl ?_
              first | refine vl_store rfl rfl .none rfl rfl Tryd.sizeOf46 rfl (by repeat (first | exact .head | apply In.tail | apply Take.tail | apply Upd.tail)) (by first | decide | exact Nat.le_refl _ | exact Nat.le_of_ble_eq_true rfl | (simp; omega)) ?_ | refine vl_storeSl rfl rfl .none rfl rfl Tryd.sizeOf46 rfl (by simp [Value.cells]) (by repeat (first | exact .head | apply In.tail | apply Take.tail | apply Upd.tail)) (by first | decide | (simp [Value.cells]; omega)) ?_
              refine vl_nil ?_
              refine ⟨⟨_, (by repeat (first | exact .nil | (apply Sub.cons; · repeat (first | exact .head | apply Take.tail))))⟩, ?_⟩
              refine vt_fork1 7 (by kernel_rfl) ?_
              · refine vt_op rfl ?_
                first | refine vl_store rfl rfl .none rfl rfl Tryd.sizeOf46 rfl (by repeat (first | exact .head | apply In.tail | apply Take.tail | apply Upd.tail)) (by first | decide | exact Nat.le_refl _ | exact Nat.le_of_ble_eq_true rfl | (simp; omega)) ?_ | refine vl_storeSl rfl rfl .none rfl rfl Tryd.sizeOf46 rfl (by simp [Value.cells]) (by repeat (first | exact .head | apply In.tail | apply Take.tail | apply Upd.tail)) (by first | decide | (simp [Value.cells]; omega)) ?_
                refine vl_nil ?_
                refine ⟨⟨_, (by repeat (first | exact .nil | (apply Sub.cons; · repeat (first | exact .head | apply Take.tail))))⟩, ?_⟩
                refine vt_nil (by kernel_rfl) ?_
                exact ⟨_, _, _, (by repeat (first | exact trivial | refine ⟨rfl, ?_⟩ | refine ⟨le_item rfl (by first | rfl | (congr 1; omega) | (simp; done) | (simp; omega)), ?_⟩)), (by repeat (first | exact .nil | (apply Sub.cons; · repeat (first | exact .head | apply Take.tail)))), ⟨r6, r7, rfl, rfl⟩⟩
      · refine vt_op rfl ?_
        refine vl_alloc rfl rfl (.some rfl) Tryd.zeroValue46 (fun r7 => ?_)
        refine vl_nil ?_
        refine ⟨⟨_, (by repeat (first | exact .nil | (apply Sub.cons; · repeat (first | exact .head | apply Take.tail))))⟩, ?_⟩
        refine vt_fork2 3 4 (by kernel_rfl) ?_ ?_
        · refine vt_op rfl ?_
          refine vl_callV rfl rfl (.some rfl) Tryd.call36 rfl (fun w hw => wHalves _ w) ?_
          refine vl_nil ?_
          refine ⟨⟨_, (by repeat (first | exact .nil | (apply Sub.cons; · repeat (first | exact .head | apply Take.tail))))⟩, ?_⟩
          refine vt_fork1 4 (by kernel_rfl) ?_
          · refine vt_op rfl ?_
            refine vl_alloc rfl rfl (.some rfl) Tryd.zeroValue46 (fun r6 => ?_)
            refine vl_nil ?_
            refine ⟨⟨_, (by repeat (first | exact .nil | (apply Sub.cons; · repeat (first | exact .head | apply Take.tail))))⟩, ?_⟩
            refine vt_fork1 6 (by kernel_rfl) ?_
            · refine vt_op rfl ?_
              first | refine vl_store rfl rfl .none rfl rfl Tryd.sizeOf46 rfl (by repeat (first | exact .head | apply In.tail | apply Take.tail | apply Upd.tail)) (by first | decide | exact Nat.le_refl _ | exact Nat.le_of_ble_eq_true rfl | (simp; omega)) ?_ | refine vl_storeSl rfl rfl .none rfl rfl Tryd.sizeOf46 rfl (by simp [Value.cells]) (by repeat (first | exact .head | apply In.tail | apply Take.tail | apply Upd.tail)) (by first | decide | (simp [Value.cells]; omega)) ?_
              refine vl_nil ?_
              refine ⟨⟨_, (by repeat (first | exact .nil | (apply Sub.cons; · repeat (first | exact .head | apply Take.tail))))⟩, ?_⟩
              refine vt_fork1 7 (by kernel_rfl) ?_
              · refine vt_op rfl ?_
                first | refine vl_store rfl rfl .none rfl rfl Tryd.sizeOf46 rfl (by repeat (first | exact .head | apply In.tail | apply Take.tail | apply Upd.tail)) (by first | decide | exact Nat.le_refl _ | exact Nat.le_of_ble_eq_true rfl | (simp; omega)) ?_ | refine vl_storeSl rfl rfl .none rfl rfl Tryd.sizeOf46 rfl (by simp [Value.cells]) (by repeat (first | exact .head | apply In.tail | apply Take.tail | apply Upd.tail)) (by first | decide | (simp [Value.cells]; omega)) ?_
                refine vl_nil ?_
                refine ⟨⟨_, (by repeat (first | exact .nil | (apply Sub.cons; · repeat (first | exact .head | apply Take.tail))))⟩, ?_⟩
                refine vt_nil (by kernel_rfl) ?_
                exact ⟨_, _, _, (by repeat (first | exact trivial | refine ⟨rfl, ?_⟩ | refine ⟨le_item rfl (by first | rfl | (congr 1; omega) | (simp; done) | (simp; omega)), ?_⟩)), (by repeat (first | exact .nil | (apply Sub.cons; · repeat (first | exact .head | apply Take.tail)))), ⟨r6, r7, rfl, rfl⟩⟩
        · refine vt_op rfl ?_
          refine vl_alloc rfl rfl (.some rfl) Tryd.zeroValue46 (fun r6 => ?_)
          refine vl_nil ?_
          refine ⟨⟨_, (by repeat (first | exact .nil | (apply Sub.cons; · repeat (first | exact .head | apply Take.tail))))⟩, ?_⟩
          refine vt_fork1 3 (by kernel_rfl) ?_
          · refine vt_op rfl ?_
            refine vl_callV rfl rfl (.some rfl) Tryd.call36 rfl (fun w hw => wHalves _ w) ?_
            refine vl_nil ?_
            refine ⟨⟨_, (by repeat (first | exact .nil | (apply Sub.cons; · repeat (first | exact .head | apply Take.tail))))⟩, ?_⟩
            refine vt_fork1 6 (by kernel_rfl) ?_
            · refine vt_op rfl ?_
              first | refine vl_store rfl rfl .none rfl rfl Tryd.sizeOf46 rfl (by repeat (first | exact .head | apply In.tail | apply Take.tail | apply Upd.tail)) (by first | decide | exact Nat.le_refl _ | exact Nat.le_of_ble_eq_true rfl | (simp; omega)) ?_ | refine vl_storeSl rfl rfl .none rfl rfl Tryd.sizeOf46 rfl (by simp [Value.cells]) (by repeat (first | exact .head | apply In.tail | apply Take.tail | apply Upd.tail)) (by first | decide | (simp [Value.cells]; omega)) ?_
              refine vl_nil ?_
              refine ⟨⟨_, (by repeat (first | exact .nil | (apply Sub.cons; · repeat (first | exact .head | apply Take.tail))))⟩, ?_⟩
              refine vt_fork1 7 (by kernel_rfl) ?_
              · refine vt_op rfl ?_
                first | refine vl_store rfl rfl .none rfl rfl Tryd.sizeOf46 rfl (by repeat (first | exact .head | apply In.tail | apply Take.tail | apply Upd.tail)) (by first | decide | exact Nat.le_refl _ | exact Nat.le_of_ble_eq_true rfl | (simp; omega)) ?_ | refine vl_storeSl rfl rfl .none rfl rfl Tryd.sizeOf46 rfl (by simp [Value.cells]) (by repeat (first | exact .head | apply In.tail | apply Take.tail | apply Upd.tail)) (by first | decide | (simp [Value.cells]; omega)) ?_
                refine vl_nil ?_
                refine ⟨⟨_, (by repeat (first | exact .nil | (apply Sub.cons; · repeat (first | exact .head | apply Take.tail))))⟩, ?_⟩
                refine vt_nil (by kernel_rfl) ?_
                exact ⟨_, _, _, (by repeat (first | exact trivial | refine ⟨rfl, ?_⟩ | refine ⟨le_item rfl (by first | rfl | (congr 1; omega) | (simp; done) | (simp; omega)), ?_⟩)), (by repeat (first | exact .nil | (apply Sub.cons; · repeat (first | exact .head | apply Take.tail)))), ⟨r6, r7, rfl, rfl⟩⟩
    · refine vt_op rfl ?_
      refine vl_alloc rfl rfl (.some rfl) Tryd.zeroValue46 (fun r6 => ?_)
      refine vl_nil ?_
      refine ⟨⟨_, (by repeat (first | exact .nil | (apply Sub.cons; · repeat (first | exact .head | apply Take.tail))))⟩, ?_⟩
      refine vt_fork2 1 5 (by kernel_rfl) ?_ ?_
      · refine vt_op rfl ?_
        refine vl_callV rfl rfl (.some rfl) Tryd.call36 rfl (fun w hw => wHalves _ w) ?_
        refine vl_nil ?_
        refine ⟨⟨_, (by repeat (first | exact .nil | (apply Sub.cons; · repeat (first | exact .head | apply Take.tail))))⟩, ?_⟩
        refine vt_fork2 3 5 (by kernel_rfl) ?_ ?_
        · refine vt_op rfl ?_
          refine vl_callV rfl rfl (.some rfl) Tryd.call36 rfl (fun w hw => wHalves _ w) ?_
          refine vl_nil ?_
          refine ⟨⟨_, (by repeat (first | exact .nil | (apply Sub.cons; · repeat (first | exact .head | apply Take.tail))))⟩, ?_⟩
          refine vt_fork1 5 (by kernel_rfl) ?_
          · refine vt_op rfl ?_
            refine vl_alloc rfl rfl (.some rfl) Tryd.zeroValue46 (fun r7 => ?_)
            refine vl_nil ?_
            refine ⟨⟨_, (by repeat (first | exact .nil | (apply Sub.cons; · repeat (first | exact .head | apply Take.tail))))⟩, ?_⟩
            refine vt_fork1 6 (by kernel_rfl) ?_
            · refine vt_op rfl ?_
              first | refine vl_store rfl rfl .none rfl rfl Tryd.sizeOf46 rfl (by repeat (first | exact .head | apply In.tail | apply Take.tail | apply Upd.tail)) (by first | decide | exact Nat.le_refl _ | exact Nat.le_of_ble_eq_true rfl | (simp; omega)) ?_ | refine vl_storeSl rfl rfl .none rfl rfl Tryd.sizeOf46 rfl (by simp [Value.cells]) (by repeat (first | exact .head | apply In.tail | apply Take.tail | apply Upd.tail)) (by first | decide | (simp [Value.cells]; omega)) ?_
              refine vl_nil ?_
              refine ⟨⟨_, (by repeat (first | exact .nil | (apply Sub.cons; · repeat (first | exact .head | apply Take.tail))))⟩, ?_⟩
              refine vt_fork1 7 (by kernel_rfl) ?_
              · refine vt_op rfl ?_
                first | refine vl_store rfl rfl .none rfl rfl Tryd.sizeOf46 rfl (by repeat (first | exact .head | apply In.tail | apply Take.tail | apply Upd.tail)) (by first | decide | exact Nat.le_refl _ | exact Nat.le_of_ble_eq_true rfl | (simp; omega)) ?_ | refine vl_storeSl rfl rfl .none rfl rfl Tryd.sizeOf46 rfl (by simp [Value.cells]) (by repeat (first | exact .head | apply In.tail | apply Take.tail | apply Upd.tail)) (by first | decide | (simp [Value.cells]; omega)) ?_
                refine vl_nil ?_
                refine ⟨⟨_, (by repeat (first | exact .nil | (apply Sub.cons; · repeat (first | exact .head | apply Take.tail))))⟩, ?_⟩
                refine vt_nil (by kernel_rfl) ?_
                exact ⟨_, _, _, (by repeat (first | exact trivial | refine ⟨rfl, ?_⟩ | refine ⟨le_item rfl (by first | rfl | (congr 1; omega) | (simp; done) | (simp; omega)), ?_⟩)), (by repeat (first | exact .nil | (apply Sub.cons; · repeat (first | exact .head | apply Take.tail)))), ⟨r6, r7, rfl, rfl⟩⟩
        · refine vt_op rfl ?_
          refine vl_alloc rfl rfl (.some rfl) Tryd.zeroValue46 (fun r7 => ?_)
          refine vl_nil ?_
          refine ⟨⟨_, (by repeat (first | exact .nil | (apply Sub.cons; · repeat (first | exact .head | apply Take.tail))))⟩, ?_⟩
          refine vt_fork1 3 (by kernel_rfl) ?_
          · refine vt_op rfl ?_
            refine vl_callV rfl rfl (.some rfl) Tryd.call36 rfl (fun w hw => wHalves _ w) ?_
            refine vl_nil ?_
            refine ⟨⟨_, (by repeat (first | exact .nil | (apply Sub.cons; · repeat (first | exact .head | apply Take.tail))))⟩, ?_⟩
            refine vt_fork1 6 (by kernel_rfl) ?_
            · refine vt_op rfl ?_
              first | refine vl_store rfl rfl .none rfl rfl Tryd.sizeOf46 rfl (by repeat (first | exact .head | apply In.tail | apply Take.tail | apply Upd.tail)) (by first | decide | exact Nat.le_refl _ | exact Nat.le_of_ble_eq_true rfl | (simp; omega)) ?_ | refine vl_storeSl rfl rfl .none rfl rfl Tryd.sizeOf46 rfl (by simp [Value.cells]) (by repeat (first | exact .head | apply In.tail | apply Take.tail | apply Upd.tail)) (by first | decide | (simp [Value.cells]; omega)) ?_
              refine vl_nil ?_
              refine ⟨⟨_, (by repeat (first | exact .nil | (apply Sub.cons; · repeat (first | exact .head | apply Take.tail))))⟩, ?_⟩
              refine vt_fork1 7 (by kernel_rfl) ?_
              · refine vt_op rfl ?_
                first | refine vl_store rfl rfl .none rfl rfl Tryd.sizeOf46 rfl (by repeat (first | exact .head | apply In.tail | apply Take.tail | apply Upd.tail)) (by first | decide | exact Nat.le_refl _ | exact Nat.le_of_ble_eq_true rfl | (simp; omega)) ?_ | refine vl_storeSl rfl rfl .none rfl rfl Tryd.sizeOf46 rfl (by simp [Value.cells]) (by repeat (first | exact .head | apply In.tail | apply Take.tail | apply Upd.tail)) (by first | decide | (simp [Value.cells]; omega)) ?_
                refine vl_nil ?_
                refine ⟨⟨_, (by repeat (first | exact .nil | (apply Sub.cons; · repeat (first | exact .head | apply Take.tail))))⟩, ?_⟩
                refine vt_nil (by kernel_rfl) ?_
                exact ⟨_, _, _, (by repeat (first | exact trivial | refine ⟨rfl, ?_⟩ | refine ⟨le_item rfl (by first | rfl | (congr 1; omega) | (simp; done) | (simp; omega)), ?_⟩)), (by repeat (first | exact .nil | (apply Sub.cons; · repeat (first | exact .head | apply Take.tail)))), ⟨r6, r7, rfl, rfl⟩⟩
      · refine vt_op rfl ?_
        refine vl_alloc rfl rfl (.some rfl) Tryd.zeroValue46 (fun r7 => ?_)
        refine vl_nil ?_
        refine ⟨⟨_, (by repeat (first | exact .nil | (apply Sub.cons; · repeat (first | exact .head | apply Take.tail))))⟩, ?_⟩
        refine vt_fork1 1 (by kernel_rfl) ?_
        · refine vt_op rfl ?_
          refine vl_callV rfl rfl (.some rfl) Tryd.call36 rfl (fun w hw => wHalves _ w) ?_
          refine vl_nil ?_
          refine ⟨⟨_, (by repeat (first | exact .nil | (apply Sub.cons; · repeat (first | exact .head | apply Take.tail))))⟩, ?_⟩
          refine vt_fork1 3 (by kernel_rfl) ?_
          · refine vt_op rfl ?_
            refine vl_callV rfl rfl (.some rfl) Tryd.call36 rfl (fun w hw => wHalves _ w) ?_
            refine vl_nil ?_
            refine ⟨⟨_, (by repeat (first | exact .nil | (apply Sub.cons; · repeat (first | exact .head | apply Take.tail))))⟩, ?_⟩
            refine vt_fork1 6 (by kernel_rfl) ?_
            · refine vt_op rfl ?_
              first | refine vl_store rfl rfl .none rfl rfl Tryd.sizeOf46 rfl (by repeat (first | exact .head | apply In.tail | apply Take.tail | apply Upd.tail)) (by first | decide | exact Nat.le_refl _ | exact Nat.le_of_ble_eq_true rfl | (simp; omega)) ?_ | refine vl_storeSl rfl rfl .none rfl rfl Tryd.sizeOf46 rfl (by simp [Value.cells]) (by repeat (first | exact .head | apply In.tail | apply Take.tail | apply Upd.tail)) (by first | decide | (simp [Value.cells]; omega)) ?_
              refine vl_nil ?_
              refine ⟨⟨_, (by repeat (first | exact .nil | (apply Sub.cons; · repeat (first | exact .head | apply Take.tail))))⟩, ?_⟩
              refine vt_fork1 7 (by kernel_rfl) ?_
              · refine vt_op rfl ?_
                first | refine vl_store rfl rfl .none rfl rfl Tryd.sizeOf46 rfl (by repeat (first | exact .head | apply In.tail | apply Take.tail | apply Upd.tail)) (by first | decide | exact Nat.le_refl _ | exact Nat.le_of_ble_eq_true rfl | (simp; omega)) ?_ | refine vl_storeSl rfl rfl .none rfl rfl Tryd.sizeOf46 rfl (by simp [Value.cells]) (by repeat (first | exact .head | apply In.tail | apply Take.tail | apply Upd.tail)) (by first | decide | (simp [Value.cells]; omega)) ?_
                refine vl_nil ?_
                refine ⟨⟨_, (by repeat (first | exact .nil | (apply Sub.cons; · repeat (first | exact .head | apply Take.tail))))⟩, ?_⟩
                refine vt_nil (by kernel_rfl) ?_
                exact ⟨_, _, _, (by repeat (first | exact trivial | refine ⟨rfl, ?_⟩ | refine ⟨le_item rfl (by first | rfl | (congr 1; omega) | (simp; done) | (simp; omega)), ?_⟩)), (by repeat (first | exact .nil | (apply Sub.cons; · repeat (first | exact .head | apply Take.tail)))), ⟨r6, r7, rfl, rfl⟩⟩
    · refine vt_op rfl ?_
      refine vl_alloc rfl rfl (.some rfl) Tryd.zeroValue46 (fun r7 => ?_)
      refine vl_nil ?_
      refine ⟨⟨_, (by repeat (first | exact .nil | (apply Sub.cons; · repeat (first | exact .head | apply Take.tail))))⟩, ?_⟩
      refine vt_fork2 1 4 (by kernel_rfl) ?_ ?_
      · refine vt_op rfl ?_
        refine vl_callV rfl rfl (.some rfl) Tryd.call36 rfl (fun w hw => wHalves _ w) ?_
        refine vl_nil ?_
        refine ⟨⟨_, (by repeat (first | exact .nil | (apply Sub.cons; · repeat (first | exact .head | apply Take.tail))))⟩, ?_⟩
        refine vt_fork2 3 4 (by kernel_rfl) ?_ ?_
        · refine vt_op rfl ?_
          refine vl_callV rfl rfl (.some rfl) Tryd.call36 rfl (fun w hw => wHalves _ w) ?_
          refine vl_nil ?_
          refine ⟨⟨_, (by repeat (first | exact .nil | (apply Sub.cons; · repeat (first | exact .head | apply Take.tail))))⟩, ?_⟩
          refine vt_fork1 4 (by kernel_rfl) ?_
          · refine vt_op rfl ?_
            refine vl_alloc rfl rfl (.some rfl) Tryd.zeroValue46 (fun r6 => ?_)
            refine vl_nil ?_
            refine ⟨⟨_, (by repeat (first | exact .nil | (apply Sub.cons; · repeat (first | exact .head | apply Take.tail))))⟩, ?_⟩
            refine vt_fork1 6 (by kernel_rfl) ?_
            · refine vt_op rfl ?_
              first | refine vl_store rfl rfl .none rfl rfl Tryd.sizeOf46 rfl (by repeat (first | exact .head | apply In.tail | apply Take.tail | apply Upd.tail)) (by first | decide | exact Nat.le_refl _ | exact Nat.le_of_ble_eq_true rfl | (simp; omega)) ?_ | refine vl_storeSl rfl rfl .none rfl rfl Tryd.sizeOf46 rfl (by simp [Value.cells]) (by repeat (first | exact .head | apply In.tail | apply Take.tail | apply Upd.tail)) (by first | decide | (simp [Value.cells]; omega)) ?_
              refine vl_nil ?_
              refine ⟨⟨_, (by repeat (first | exact .nil | (apply Sub.cons; · repeat (first | exact .head | apply Take.tail))))⟩, ?_⟩
              refine vt_fork1 7 (by kernel_rfl) ?_
              · refine vt_op rfl ?_
                first | refine vl_store rfl rfl .none rfl rfl Tryd.sizeOf46 rfl (by repeat (first | exact .head | apply In.tail | apply Take.tail | apply Upd.tail)) (by first | decide | exact Nat.le_refl _ | exact Nat.le_of_ble_eq_true rfl | (simp; omega)) ?_ | refine vl_storeSl rfl rfl .none rfl rfl Tryd.sizeOf46 rfl (by simp [Value.cells]) (by repeat (first | exact .head | apply In.tail | apply Take.tail | apply Upd.tail)) (by first | decide | (simp [Value.cells]; omega)) ?_
                refine vl_nil ?_
                refine ⟨⟨_, (by repeat (first | exact .nil | (apply Sub.cons; · repeat (first | exact .head | apply Take.tail))))⟩, ?_⟩
                refine vt_nil (by kernel_rfl) ?_
                exact ⟨_, _, _, (by repeat (first | exact trivial | refine ⟨rfl, ?_⟩ | refine ⟨le_item rfl (by first | rfl | (congr 1; omega) | (simp; done) | (simp; omega)), ?_⟩)), (by repeat (first | exact .nil | (apply Sub.cons; · repeat (first | exact .head | apply Take.tail)))), ⟨r6, r7, rfl, rfl⟩⟩
        · refine vt_op rfl ?_
          refine vl_alloc rfl rfl (.some rfl) Tryd.zeroValue46 (fun r6 => ?_)
          refine vl_nil ?_
          refine ⟨⟨_, (by repeat (first | exact .nil | (apply Sub.cons; · repeat (first | exact .head | apply Take.tail))))⟩, ?_⟩
          refine vt_fork1 3 (by kernel_rfl) ?_
          · refine vt_op rfl ?_
            refine vl_callV rfl rfl (.some rfl) Tryd.call36 rfl (fun w hw => wHalves _ w) ?_
            refine vl_nil ?_
            refine ⟨⟨_, (by repeat (first | exact .nil | (apply Sub.cons; · repeat (first | exact .head | apply Take.tail))))⟩, ?_⟩
            refine vt_fork1 6 (by kernel_rfl) ?_
            · refine vt_op rfl ?_
              first | refine vl_store rfl rfl .none rfl rfl Tryd.sizeOf46 rfl (by repeat (first | exact .head | apply In.tail | apply Take.tail | apply Upd.tail)) (by first | decide | exact Nat.le_refl _ | exact Nat.le_of_ble_eq_true rfl | (simp; omega)) ?_ | refine vl_storeSl rfl rfl .none rfl rfl Tryd.sizeOf46 rfl (by simp [Value.cells]) (by repeat (first | exact .head | apply In.tail | apply Take.tail | apply Upd.tail)) (by first | decide | (simp [Value.cells]; omega)) ?_
              refine vl_nil ?_
              refine ⟨⟨_, (by repeat (first | exact .nil | (apply Sub.cons; · repeat (first | exact .head | apply Take.tail))))⟩, ?_⟩
              refine vt_fork1 7 (by kernel_rfl) ?_
              · refine vt_op rfl ?_
                first | refine vl_store rfl rfl .none rfl rfl Tryd.sizeOf46 rfl (by repeat (first | exact .head | apply In.tail | apply Take.tail | apply Upd.tail)) (by first | decide | exact Nat.le_refl _ | exact Nat.le_of_ble_eq_true rfl | (simp; omega)) ?_ | refine vl_storeSl rfl rfl .none rfl rfl Tryd.sizeOf46 rfl (by simp [Value.cells]) (by repeat (first | exact .head | apply In.tail | apply Take.tail | apply Upd.tail)) (by first | decide | (simp [Value.cells]; omega)) ?_
                refine vl_nil ?_
                refine ⟨⟨_, (by repeat (first | exact .nil | (apply Sub.cons; · repeat (first | exact .head | apply Take.tail))))⟩, ?_⟩
                refine vt_nil (by kernel_rfl) ?_
                exact ⟨_, _, _, (by repeat (first | exact trivial | refine ⟨rfl, ?_⟩ | refine ⟨le_item rfl (by first | rfl | (congr 1; omega) | (simp; done) | (simp; omega)), ?_⟩)), (by repeat (first | exact .nil | (apply Sub.cons; · repeat (first | exact .head | apply Take.tail)))), ⟨r6, r7, rfl, rfl⟩⟩
      · refine vt_op rfl ?_
        refine vl_alloc rfl rfl (.some rfl) Tryd.zeroValue46 (fun r6 => ?_)
        refine vl_nil ?_
        refine ⟨⟨_, (by repeat (first | exact .nil | (apply Sub.cons; · repeat (first | exact .head | apply Take.tail))))⟩, ?_⟩
        refine vt_fork1 1 (by kernel_rfl) ?_
        · refine vt_op rfl ?_
          refine vl_callV rfl rfl (.some rfl) Tryd.call36 rfl (fun w hw => wHalves _ w) ?_
          refine vl_nil ?_
          refine ⟨⟨_, (by repeat (first | exact .nil | (apply Sub.cons; · repeat (first | exact .head | apply Take.tail))))⟩, ?_⟩
          refine vt_fork1 3 (by kernel_rfl) ?_
          · refine vt_op rfl ?_
            refine vl_callV rfl rfl (.some rfl) Tryd.call36 rfl (fun w hw => wHalves _ w) ?_
            refine vl_nil ?_
            refine ⟨⟨_, (by repeat (first | exact .nil | (apply Sub.cons; · repeat (first | exact .head | apply Take.tail))))⟩, ?_⟩
            refine vt_fork1 6 (by kernel_rfl) ?_
            · refine vt_op rfl ?_
              first | refine vl_store rfl rfl .none rfl rfl Tryd.sizeOf46 rfl (by repeat (first | exact .head | apply In.tail | apply Take.tail | apply Upd.tail)) (by first | decide | exact Nat.le_refl _ | exact Nat.le_of_ble_eq_true rfl | (simp; omega)) ?_ | refine vl_storeSl rfl rfl .none rfl rfl Tryd.sizeOf46 rfl (by simp [Value.cells]) (by repeat (first | exact .head | apply In.tail | apply Take.tail | apply Upd.tail)) (by first | decide | (simp [Value.cells]; omega)) ?_
              refine vl_nil ?_
              refine ⟨⟨_, (by repeat (first | exact .nil | (apply Sub.cons; · repeat (first | exact .head | apply Take.tail))))⟩, ?_⟩
              refine vt_fork1 7 (by kernel_rfl) ?_
              · refine vt_op rfl ?_
                first | refine vl_store rfl rfl .none rfl rfl Tryd.sizeOf46 rfl (by repeat (first | exact .head | apply In.tail | apply Take.tail | apply Upd.tail)) (by first | decide | exact Nat.le_refl _ | exact Nat.le_of_ble_eq_true rfl | (simp; omega)) ?_ | refine vl_storeSl rfl rfl .none rfl rfl Tryd.sizeOf46 rfl (by simp [Value.cells]) (by repeat (first | exact .head | apply In.tail | apply Take.tail | apply Upd.tail)) (by first | decide | (simp [Value.cells]; omega)) ?_
                refine vl_nil ?_
                refine ⟨⟨_, (by repeat (first | exact .nil | (apply Sub.cons; · repeat (first | exact .head | apply Take.tail))))⟩, ?_⟩
                refine vt_nil (by kernel_rfl) ?_
                exact ⟨_, _, _, (by repeat (first | exact trivial | refine ⟨rfl, ?_⟩ | refine ⟨le_item rfl (by first | rfl | (congr 1; omega) | (simp; done) | (simp; omega)), ?_⟩)), (by repeat (first | exact .nil | (apply Sub.cons; · repeat (first | exact .head | apply Take.tail)))), ⟨r6, r7, rfl, rfl⟩⟩
  · obtain ⟨E0, H0, F, hE0, hH0, hJ⟩ := h
    obtain ⟨r6, r7, rfl, rfl⟩ := hJ
    refine vc_weak hE0 hH0 ?_
    refine vc_seq ?_
    refine vc_region ?_
    refine vl_val rfl (.some rfl) (val_loadAgg Tryd.isAgg46 Tryd.sizeOf46 rfl (by first | exact cells_whole (by repeat (first | exact .head | apply In.tail | apply Take.tail | apply Upd.tail)) | exact cells_part (by repeat (first | exact .head | apply In.tail | apply Take.tail | apply Upd.tail)) rfl) rfl) ?_
    refine vl_val rfl (.some rfl) (val_loadAgg Tryd.isAgg46 Tryd.sizeOf46 rfl (by first | exact cells_whole (by repeat (first | exact .head | apply In.tail | apply Take.tail | apply Upd.tail)) | exact cells_part (by repeat (first | exact .head | apply In.tail | apply Take.tail | apply Upd.tail)) rfl) rfl) ?_
    refine vl_callV rfl rfl (.some rfl) Tryd.call29 rfl (fun w hw => wMinus _ _ w) ?_
    refine vl_alloc rfl rfl (.some rfl) Tryd.zeroValue46 (fun r8 => ?_)
    first | refine vl_store rfl rfl .none rfl rfl Tryd.sizeOf46 rfl (by repeat (first | exact .head | apply In.tail | apply Take.tail | apply Upd.tail)) (by first | decide | exact Nat.le_refl _ | exact Nat.le_of_ble_eq_true rfl | (simp; omega)) ?_ | refine vl_storeSl rfl rfl .none rfl rfl Tryd.sizeOf46 rfl (by simp [Value.cells]) (by repeat (first | exact .head | apply In.tail | apply Take.tail | apply Upd.tail)) (by first | decide | (simp [Value.cells]; omega)) ?_
    refine vl_nil ?_
    refine vc_seq ?_
    refine vc_seq ?_
    refine vc_drawsS [0, 2, 4, 5, 6, 8, 10, 11] [] [0, 2, 1, 3, 4, 5, 6, 8, 7, 9, 10, 11] [cells r6 [.int .u64 (hP x), .int .u64 (lW x)] 46, cells r7 [.int .u64 (hP y), .int .u64 (lW y)] 46, cells r8 [.int .u64 (hP (x - y)), .int .u64 (lW (x - y))] 46] (by repeat (first | exact .nil | (apply Sub.cons; · repeat (first | exact .head | apply Take.tail)))) rfl (by kernel_rfl) (fun _ _ _ h => h) ?_
    refine vd_val rfl rfl rfl (.some rfl) (val_loadAgg Tryd.isAgg46 Tryd.sizeOf46 rfl (by first | exact cells_whole (by repeat (first | exact .head | apply In.tail | apply Take.tail | apply Upd.tail)) | exact cells_part (by repeat (first | exact .head | apply In.tail | apply Take.tail | apply Upd.tail)) rfl) rfl) ?_
    refine vd_val rfl rfl rfl (.some rfl) (val_loadAgg Tryd.isAgg46 Tryd.sizeOf46 rfl (by first | exact cells_whole (by repeat (first | exact .head | apply In.tail | apply Take.tail | apply Upd.tail)) | exact cells_part (by repeat (first | exact .head | apply In.tail | apply Take.tail | apply Upd.tail)) rfl) rfl) ?_
    refine vd_op rfl rfl ?_
    refine vl_callV rfl rfl (.some rfl) Tryd.call37 rfl (fun w hw => wBelow _ w) ?_
    refine vl_nil ?_
    refine ⟨fun _ => ⟨_, (by repeat (first | exact .nil | (apply Sub.cons; · repeat (first | exact .head | apply Take.tail))))⟩, ?_⟩
    refine vd_op rfl rfl ?_
    refine vl_callV rfl rfl (.some rfl) Tryd.call37 rfl (fun w hw => wBelow _ w) ?_
    refine vl_nil ?_
    refine ⟨fun _ => ⟨_, (by repeat (first | exact .nil | (apply Sub.cons; · repeat (first | exact .head | apply Take.tail))))⟩, ?_⟩
    refine vd_val rfl rfl rfl (.some rfl) (val_bne Tryd.underlying4 rfl rfl) ?_
    refine vd_val rfl rfl rfl (.some rfl) (val_move rfl) ?_
    refine vd_split (t := 21) rfl (fun hg21 => ?_) (fun hg21 => ?_)
    · (try replace hg21 := of_decide_eq_true hg21)
      refine vd_on rfl rfl rfl rfl rfl rfl (.some rfl) (val_loadAgg Tryd.isAgg46 Tryd.sizeOf46 rfl (by first | exact cells_whole (by repeat (first | exact .head | apply In.tail | apply Take.tail | apply Upd.tail)) | exact cells_part (by repeat (first | exact .head | apply In.tail | apply Take.tail | apply Upd.tail)) rfl) rfl) ?_
      refine vd_on rfl rfl rfl rfl rfl rfl (.some rfl) (val_loadAgg Tryd.isAgg46 Tryd.sizeOf46 rfl (by first | exact cells_whole (by repeat (first | exact .head | apply In.tail | apply Take.tail | apply Upd.tail)) | exact cells_part (by repeat (first | exact .head | apply In.tail | apply Take.tail | apply Upd.tail)) rfl) rfl) ?_
      refine vd_op rfl rfl ?_
      refine vl_on rfl rfl rfl rfl ?_
      refine vl_callV rfl rfl (.some rfl) Tryd.call37 rfl (fun w hw => wBelow _ w) ?_
      refine vl_nil ?_
      refine ⟨fun _ => ⟨_, (by repeat (first | exact .nil | (apply Sub.cons; · repeat (first | exact .head | apply Take.tail))))⟩, ?_⟩
      refine vd_op rfl rfl ?_
      refine vl_on rfl rfl rfl rfl ?_
      refine vl_callV rfl rfl (.some rfl) Tryd.call37 rfl (fun w hw => wBelow _ w) ?_
      refine vl_nil ?_
      refine ⟨fun _ => ⟨_, (by repeat (first | exact .nil | (apply Sub.cons; · repeat (first | exact .head | apply Take.tail))))⟩, ?_⟩
      refine vd_on rfl rfl rfl rfl rfl rfl (.some rfl) (val_bne Tryd.underlying4 rfl rfl) ?_
      refine vd_val rfl rfl rfl (.some rfl) (val_pick rfl rfl) ?_
      refine vd_nil ?_
      refine vc_cond rfl (fun hc0 => ?_) (fun hc0 => ?_)
      · (try replace hc0 := of_decide_eq_true hc0)
        refine vc_seq ?_
        refine vc_region ?_
        refine vl_val rfl (.some rfl) (val_buildSt (pl := #[(0, 1), (1, 1)]) (cs := #[.int .i64 (0), .int .u64 (0)]) Tryd.runUnderlying24 Tryd.zeroValue24 (fun w => by kernel_rfl) rfl rfl) ?_
        first | refine vl_store rfl rfl .none rfl rfl Tryd.sizeOf24 rfl (by repeat (first | exact .head | apply In.tail | apply Take.tail | apply Upd.tail)) (by first | decide | exact Nat.le_refl _ | exact Nat.le_of_ble_eq_true rfl | (simp; omega)) ?_ | refine vl_storeSl rfl rfl .none rfl rfl Tryd.sizeOf24 rfl (by simp [Value.cells]) (by repeat (first | exact .head | apply In.tail | apply Take.tail | apply Upd.tail)) (by first | decide | (simp [Value.cells]; omega)) ?_
        refine vl_val rfl (.some rfl) (val_assign rfl) ?_
        refine vl_nil ?_
        refine vc_ret ?_
        refine ⟨_, [], _, resC2 Tryd.results22 rfl (whole_agg Tryd.isAgg24 Tryd.sizeOf24 (cells_whole (by repeat (first | exact .head | apply In.tail | apply Take.tail | apply Upd.tail))) rfl) rfl, .nil, ?_⟩
        show _ = _
        rw [clW, if_neg (show ¬ inW (x - y) by rw [hok]; (try simp at hg21); (try simp at hc0); simp; omega), decide_eq_false (show ¬ inW (x - y) by rw [hok]; (try simp at hg21); (try simp at hc0); simp; omega)]
        rfl
      · (try replace hc0 := of_decide_eq_false hc0)
        refine vc_skip ?_
        refine vc_seq ?_
        refine vc_region ?_
        refine vl_val rfl (.some rfl) (val_loadAgg Tryd.isAgg46 Tryd.sizeOf46 rfl (by first | exact cells_whole (by repeat (first | exact .head | apply In.tail | apply Take.tail | apply Upd.tail)) | exact cells_part (by repeat (first | exact .head | apply In.tail | apply Take.tail | apply Upd.tail)) rfl) rfl) ?_
        refine vl_callV rfl rfl (.some rfl) Tryd.call30 rfl (fun w hw => wWide _ w) ?_
        first | refine vl_store rfl rfl .none rfl rfl Tryd.sizeOf24 rfl (by repeat (first | exact .head | apply In.tail | apply Take.tail | apply Upd.tail)) (by first | decide | exact Nat.le_refl _ | exact Nat.le_of_ble_eq_true rfl | (simp; omega)) ?_ | refine vl_storeSl rfl rfl .none rfl rfl Tryd.sizeOf24 rfl (by simp [Value.cells]) (by repeat (first | exact .head | apply In.tail | apply Take.tail | apply Upd.tail)) (by first | decide | (simp [Value.cells]; omega)) ?_
        refine vl_val rfl (.some rfl) (val_assign rfl) ?_
        refine vl_nil ?_
        refine vc_ret ?_
        refine ⟨_, [], _, resC2 Tryd.results22 rfl (whole_agg Tryd.isAgg24 Tryd.sizeOf24 (cells_whole (by repeat (first | exact .head | apply In.tail | apply Take.tail | apply Upd.tail))) rfl) rfl, .nil, ?_⟩
        show _ = _
        rw [clW, if_pos (show inW (x - y) by rw [hok]; (try simp at hg21); (try simp at hc0); simp; omega), decide_eq_true (show inW (x - y) by rw [hok]; (try simp at hg21); (try simp at hc0); simp; omega)]
        rfl
    · (try replace hg21 := of_decide_eq_false hg21)
      refine vd_off rfl rfl rfl rfl rfl rfl (.some rfl) ?_
      refine vd_off rfl rfl rfl rfl rfl rfl (.some rfl) ?_
      refine vd_op rfl rfl ?_
      refine vl_off rfl rfl rfl rfl (.some rfl) ?_
      refine vl_nil ?_
      refine ⟨fun _ => ⟨_, (by repeat (first | exact .nil | (apply Sub.cons; · repeat (first | exact .head | apply Take.tail))))⟩, ?_⟩
      refine vd_op rfl rfl ?_
      refine vl_off rfl rfl rfl rfl (.some rfl) ?_
      refine vl_nil ?_
      refine ⟨fun _ => ⟨_, (by repeat (first | exact .nil | (apply Sub.cons; · repeat (first | exact .head | apply Take.tail))))⟩, ?_⟩
      refine vd_off rfl rfl rfl rfl rfl rfl (.some rfl) ?_
      refine vd_val rfl rfl rfl (.some rfl) (val_pick rfl rfl) ?_
      refine vd_nil ?_
      refine vc_cond rfl (fun h => by cases h) (fun _ => ?_)
      refine vc_skip ?_
      refine vc_seq ?_
      refine vc_region ?_
      refine vl_val rfl (.some rfl) (val_loadAgg Tryd.isAgg46 Tryd.sizeOf46 rfl (by first | exact cells_whole (by repeat (first | exact .head | apply In.tail | apply Take.tail | apply Upd.tail)) | exact cells_part (by repeat (first | exact .head | apply In.tail | apply Take.tail | apply Upd.tail)) rfl) rfl) ?_
      refine vl_callV rfl rfl (.some rfl) Tryd.call30 rfl (fun w hw => wWide _ w) ?_
      first | refine vl_store rfl rfl .none rfl rfl Tryd.sizeOf24 rfl (by repeat (first | exact .head | apply In.tail | apply Take.tail | apply Upd.tail)) (by first | decide | exact Nat.le_refl _ | exact Nat.le_of_ble_eq_true rfl | (simp; omega)) ?_ | refine vl_storeSl rfl rfl .none rfl rfl Tryd.sizeOf24 rfl (by simp [Value.cells]) (by repeat (first | exact .head | apply In.tail | apply Take.tail | apply Upd.tail)) (by first | decide | (simp [Value.cells]; omega)) ?_
      refine vl_val rfl (.some rfl) (val_assign rfl) ?_
      refine vl_nil ?_
      refine vc_ret ?_
      refine ⟨_, [], _, resC2 Tryd.results22 rfl (whole_agg Tryd.isAgg24 Tryd.sizeOf24 (cells_whole (by repeat (first | exact .head | apply In.tail | apply Take.tail | apply Upd.tail))) rfl) rfl, .nil, ?_⟩
      show _ = _
      rw [clW, if_pos (show inW (x - y) by rw [hok]; (try simp at hg21); (try simp at hc0); simp; omega), decide_eq_true (show inW (x - y) by rw [hok]; (try simp at hg21); (try simp at hc0); simp; omega)]
      rfl
set_option maxRecDepth 20000 in
theorem wNeg (x : Int) (hx : inW x) (w : World) : FnV Tryd.prog 25 [wV x] (.tuple #[wV (clW (-x)), .bool (decide (inW (-x)))]) w := by
  refine fn_enter Tryd.func25 rfl Tryd.ntmps25 rfl ?_
  refine vc_seq ?_
  refine vc_region ?_
  refine vl_box rfl rfl (.some rfl) rfl (fun r1 => ?_)
  refine vl_alloc rfl rfl (.some rfl) Tryd.zeroValue24 (fun r2 => ?_)
  refine vl_val rfl (.some rfl) (val_assign rfl) ?_
  refine vl_nil ?_
  refine vc_seq ?_
  refine vc_region ?_
  refine vl_val rfl (.some rfl) (val_buildSt (pl := #[(0, 1), (1, 1)]) (cs := #[.int .i64 (hW 0), .int .u64 (lW 0)]) Tryd.runUnderlying24 Tryd.zeroValue24 (fun w => by kernel_rfl) rfl rfl) ?_
  refine vl_val rfl (.some rfl) (val_loadAgg Tryd.isAgg24 Tryd.sizeOf24 rfl (by first | exact cells_whole (by repeat (first | exact .head | apply In.tail | apply Take.tail | apply Upd.tail)) | exact cells_part (by repeat (first | exact .head | apply In.tail | apply Take.tail | apply Upd.tail)) rfl) rfl) ?_
  refine vl_callV rfl rfl (.some rfl) Tryd.call22 rfl (fun w hw => wSub 0 x (by decide) hx w) ?_
  rw [Int.zero_sub]
  refine vl_val rfl (.some rfl) (val_extract rfl rfl) ?_
  refine vl_val rfl (.some rfl) (val_extract rfl rfl) ?_
  first | refine vl_store rfl rfl .none rfl rfl Tryd.sizeOf24 rfl (by repeat (first | exact .head | apply In.tail | apply Take.tail | apply Upd.tail)) (by first | decide | exact Nat.le_refl _ | exact Nat.le_of_ble_eq_true rfl | (simp; omega)) ?_ | refine vl_storeSl rfl rfl .none rfl rfl Tryd.sizeOf24 rfl (by simp [Value.cells]) (by repeat (first | exact .head | apply In.tail | apply Take.tail | apply Upd.tail)) (by first | decide | (simp [Value.cells]; omega)) ?_
  refine vl_val rfl (.some rfl) (val_assign rfl) ?_
  refine vl_nil ?_
  refine vc_ret ?_
  refine ⟨_, [], _, resC2 Tryd.results25 rfl (whole_agg Tryd.isAgg24 Tryd.sizeOf24 (cells_whole (by repeat (first | exact .head | apply In.tail | apply Take.tail | apply Upd.tail))) rfl) rfl, .nil, ?_⟩
  rfl
set_option maxRecDepth 20000 in
theorem wCmp (x y : Int) (hx : inW x) (hy : inW y) (w : World) : FnV Tryd.prog 21 [wV x, wV y] (.int .i64 (if x = y then 0 else if x < y then -1 else 1)) w := by
  have e1 := hW_in hx
  have e2 := hW_in hy
  have e3 : lW x = x % 18446744073709551616 := rfl
  have e4 : lW y = y % 18446744073709551616 := rfl
  refine fn_enter Tryd.func21 rfl Tryd.ntmps21 rfl ?_
  refine vc_seq ?_
  refine vc_region ?_
  refine vl_box rfl rfl (.some rfl) rfl (fun r2 => ?_)
  refine vl_box rfl rfl (.some rfl) rfl (fun r3 => ?_)
  refine vl_val rfl (.some rfl) (val_assign rfl) ?_
  refine vl_nil ?_
  refine vc_seq ?_
  refine vc_block ?_
  refine vc_seq ?_
  refine vc_region ?_
  refine vl_val rfl (.some rfl) (val_loadAgg Tryd.isAgg24 Tryd.sizeOf24 rfl (by first | exact cells_whole (by repeat (first | exact .head | apply In.tail | apply Take.tail | apply Upd.tail)) | exact cells_part (by repeat (first | exact .head | apply In.tail | apply Take.tail | apply Upd.tail)) rfl) rfl) ?_
  refine vl_val rfl (.some rfl) (val_loadAgg Tryd.isAgg24 Tryd.sizeOf24 rfl (by first | exact cells_whole (by repeat (first | exact .head | apply In.tail | apply Take.tail | apply Upd.tail)) | exact cells_part (by repeat (first | exact .head | apply In.tail | apply Take.tail | apply Upd.tail)) rfl) rfl) ?_
  refine vl_val rfl (.some rfl) (val_opO rfl rfl (fun w => run_eqGuard_agg w _ _ _ _ _ _ (by kernel_rfl)) (bin_agg_eq (wide_equal x y hx hy))) ?_
  refine vl_val rfl (.some rfl) (val_assign rfl) ?_
  refine vl_nil ?_
  refine vc_cond rfl (fun hc0 => ?_) (fun hc0 => ?_)
  · (try replace hc0 := of_decide_eq_true hc0)
    refine vc_seq ?_
    refine vc_region ?_
    refine vl_val rfl (.some rfl) (val_assign rfl) ?_
    refine vl_nil ?_
    refine vc_ret ?_
    refine ⟨_, [], _, res1 Tryd.results21 rfl, .nil, ?_⟩
    show _ = _
    rw [if_pos (by assumption)]
  · (try replace hc0 := of_decide_eq_false hc0)
    refine vc_seq ?_
    refine vc_seq ?_
    refine vc_region ?_
    refine vl_val rfl (.some rfl) (by first | exact val_fieldAddr Tryd.runUnderlying24 rfl Tryd.sizeOf3 rfl | exact val_fieldAddrR Tryd.runUnderlying24 rfl Tryd.sizeOf3 rfl) ?_
    refine vl_val rfl (.some rfl) (val_load Tryd.isAgg3 rfl (by first | exact cell_cells (by repeat (first | exact .head | apply In.tail | apply Take.tail | apply Upd.tail)) rfl | exact cell_rd (rd_sl (by repeat (first | exact .head | apply In.tail | apply Take.tail | apply Upd.tail))) (by first | exact bcells_at (by omega) | exact ucells_at (by omega) | exact icells_at (by omega) | exact tcells_at (by omega) | exact bcells_get (by omega) | exact icells_get (by omega) | exact tcells_get (by omega) | exact ucells_get (by omega)) | exact cell_rd (rd_old (by assumption) rfl) (by first | exact bcells_at (by omega) | exact ucells_at (by omega) | exact icells_at (by omega) | exact tcells_at (by omega) | exact bcells_get (by omega) | exact icells_get (by omega) | exact tcells_get (by omega) | exact ucells_get (by omega)) | exact cell_old (by assumption) (by simp [fps]))) ?_
    refine vl_val rfl (.some rfl) (by first | exact val_fieldAddr Tryd.runUnderlying24 rfl Tryd.sizeOf3 rfl | exact val_fieldAddrR Tryd.runUnderlying24 rfl Tryd.sizeOf3 rfl) ?_
    refine vl_val rfl (.some rfl) (val_load Tryd.isAgg3 rfl (by first | exact cell_cells (by repeat (first | exact .head | apply In.tail | apply Take.tail | apply Upd.tail)) rfl | exact cell_rd (rd_sl (by repeat (first | exact .head | apply In.tail | apply Take.tail | apply Upd.tail))) (by first | exact bcells_at (by omega) | exact ucells_at (by omega) | exact icells_at (by omega) | exact tcells_at (by omega) | exact bcells_get (by omega) | exact icells_get (by omega) | exact tcells_get (by omega) | exact ucells_get (by omega)) | exact cell_rd (rd_old (by assumption) rfl) (by first | exact bcells_at (by omega) | exact ucells_at (by omega) | exact icells_at (by omega) | exact tcells_at (by omega) | exact bcells_get (by omega) | exact icells_get (by omega) | exact tcells_get (by omega) | exact ucells_get (by omega)) | exact cell_old (by assumption) (by simp [fps]))) ?_
    refine vl_val rfl (.some rfl) (val_lt rfl rfl) ?_
    refine vl_val rfl (.some rfl) (val_assign rfl) ?_
    refine vl_nil ?_
    refine vc_cond rfl (fun hc1 => ?_) (fun hc1 => ?_)
    · (try replace hc1 := of_decide_eq_true hc1)
      refine vc_skip ?_
      refine vc_cond rfl (fun _ => ?_) (fun h => absurd hc1 (of_decide_eq_false h))
      refine vc_seq ?_
      refine vc_region ?_
      refine vl_val rfl (.some rfl) (val_assign rfl) ?_
      refine vl_nil ?_
      refine vc_ret ?_
      refine ⟨_, [], _, res1 Tryd.results21 rfl, .nil, ?_⟩
      show _ = _
      rw [if_neg (by assumption), if_pos (by omega)]
    · (try replace hc1 := of_decide_eq_false hc1)
      refine vc_region ?_
      refine vl_val rfl (.some rfl) (by first | exact val_fieldAddr Tryd.runUnderlying24 rfl Tryd.sizeOf3 rfl | exact val_fieldAddrR Tryd.runUnderlying24 rfl Tryd.sizeOf3 rfl) ?_
      refine vl_val rfl (.some rfl) (val_load Tryd.isAgg3 rfl (by first | exact cell_cells (by repeat (first | exact .head | apply In.tail | apply Take.tail | apply Upd.tail)) rfl | exact cell_rd (rd_sl (by repeat (first | exact .head | apply In.tail | apply Take.tail | apply Upd.tail))) (by first | exact bcells_at (by omega) | exact ucells_at (by omega) | exact icells_at (by omega) | exact tcells_at (by omega) | exact bcells_get (by omega) | exact icells_get (by omega) | exact tcells_get (by omega) | exact ucells_get (by omega)) | exact cell_rd (rd_old (by assumption) rfl) (by first | exact bcells_at (by omega) | exact ucells_at (by omega) | exact icells_at (by omega) | exact tcells_at (by omega) | exact bcells_get (by omega) | exact icells_get (by omega) | exact tcells_get (by omega) | exact ucells_get (by omega)) | exact cell_old (by assumption) (by simp [fps]))) ?_
      refine vl_val rfl (.some rfl) (by first | exact val_fieldAddr Tryd.runUnderlying24 rfl Tryd.sizeOf3 rfl | exact val_fieldAddrR Tryd.runUnderlying24 rfl Tryd.sizeOf3 rfl) ?_
      refine vl_val rfl (.some rfl) (val_load Tryd.isAgg3 rfl (by first | exact cell_cells (by repeat (first | exact .head | apply In.tail | apply Take.tail | apply Upd.tail)) rfl | exact cell_rd (rd_sl (by repeat (first | exact .head | apply In.tail | apply Take.tail | apply Upd.tail))) (by first | exact bcells_at (by omega) | exact ucells_at (by omega) | exact icells_at (by omega) | exact tcells_at (by omega) | exact bcells_get (by omega) | exact icells_get (by omega) | exact tcells_get (by omega) | exact ucells_get (by omega)) | exact cell_rd (rd_old (by assumption) rfl) (by first | exact bcells_at (by omega) | exact ucells_at (by omega) | exact icells_at (by omega) | exact tcells_at (by omega) | exact bcells_get (by omega) | exact icells_get (by omega) | exact tcells_get (by omega) | exact ucells_get (by omega)) | exact cell_old (by assumption) (by simp [fps]))) ?_
      refine vl_val rfl (.some rfl) (val_eq rfl rfl) ?_
      refine vl_val rfl (.some rfl) (val_move rfl) ?_
      refine vl_split (t := 20) rfl (fun hg20 => ?_) (fun hg20 => ?_)
      · (try replace hg20 := of_decide_eq_true hg20)
        refine vl_on rfl rfl rfl rfl ?_
        refine vl_val rfl (.some rfl) (by first | exact val_fieldAddr Tryd.runUnderlying24 rfl Tryd.sizeOf22 rfl | exact val_fieldAddrR Tryd.runUnderlying24 rfl Tryd.sizeOf22 rfl) ?_
        refine vl_on rfl rfl rfl rfl ?_
        refine vl_val rfl (.some rfl) (val_load Tryd.isAgg22 rfl (by first | exact cell_cells (by repeat (first | exact .head | apply In.tail | apply Take.tail | apply Upd.tail)) rfl | exact cell_rd (rd_sl (by repeat (first | exact .head | apply In.tail | apply Take.tail | apply Upd.tail))) (by first | exact bcells_at (by omega) | exact ucells_at (by omega) | exact icells_at (by omega) | exact tcells_at (by omega) | exact bcells_get (by omega) | exact icells_get (by omega) | exact tcells_get (by omega) | exact ucells_get (by omega)) | exact cell_rd (rd_old (by assumption) rfl) (by first | exact bcells_at (by omega) | exact ucells_at (by omega) | exact icells_at (by omega) | exact tcells_at (by omega) | exact bcells_get (by omega) | exact icells_get (by omega) | exact tcells_get (by omega) | exact ucells_get (by omega)) | exact cell_old (by assumption) (by simp [fps]))) ?_
        refine vl_on rfl rfl rfl rfl ?_
        refine vl_val rfl (.some rfl) (by first | exact val_fieldAddr Tryd.runUnderlying24 rfl Tryd.sizeOf22 rfl | exact val_fieldAddrR Tryd.runUnderlying24 rfl Tryd.sizeOf22 rfl) ?_
        refine vl_on rfl rfl rfl rfl ?_
        refine vl_val rfl (.some rfl) (val_load Tryd.isAgg22 rfl (by first | exact cell_cells (by repeat (first | exact .head | apply In.tail | apply Take.tail | apply Upd.tail)) rfl | exact cell_rd (rd_sl (by repeat (first | exact .head | apply In.tail | apply Take.tail | apply Upd.tail))) (by first | exact bcells_at (by omega) | exact ucells_at (by omega) | exact icells_at (by omega) | exact tcells_at (by omega) | exact bcells_get (by omega) | exact icells_get (by omega) | exact tcells_get (by omega) | exact ucells_get (by omega)) | exact cell_rd (rd_old (by assumption) rfl) (by first | exact bcells_at (by omega) | exact ucells_at (by omega) | exact icells_at (by omega) | exact tcells_at (by omega) | exact bcells_get (by omega) | exact icells_get (by omega) | exact tcells_get (by omega) | exact ucells_get (by omega)) | exact cell_old (by assumption) (by simp [fps]))) ?_
        refine vl_on rfl rfl rfl rfl ?_
        refine vl_val rfl (.some rfl) (val_lt rfl rfl) ?_
        refine vl_val rfl (.some rfl) (val_pick rfl rfl) ?_
        refine vl_val rfl (.some rfl) (val_assign rfl) ?_
        refine vl_nil ?_
        refine vc_cond rfl (fun hc2 => ?_) (fun hc2 => ?_)
        · (try replace hc2 := of_decide_eq_true hc2)
          refine vc_seq ?_
          refine vc_region ?_
          refine vl_val rfl (.some rfl) (val_assign rfl) ?_
          refine vl_nil ?_
          refine vc_ret ?_
          refine ⟨_, [], _, res1 Tryd.results21 rfl, .nil, ?_⟩
          show _ = _
          rw [if_neg (by assumption), if_pos (by omega)]
        · (try replace hc2 := of_decide_eq_false hc2)
          refine vc_skip ?_
          refine vc_seq ?_
          refine vc_region ?_
          refine vl_val rfl (.some rfl) (val_assign rfl) ?_
          refine vl_nil ?_
          refine vc_ret ?_
          refine ⟨_, [], _, res1 Tryd.results21 rfl, .nil, ?_⟩
          show _ = _
          rw [if_neg (by assumption), if_neg (by omega)]
      · (try replace hg20 := of_decide_eq_false hg20)
        refine vl_off rfl rfl rfl rfl (.some rfl) ?_
        refine vl_off rfl rfl rfl rfl (.some rfl) ?_
        refine vl_off rfl rfl rfl rfl (.some rfl) ?_
        refine vl_off rfl rfl rfl rfl (.some rfl) ?_
        refine vl_off rfl rfl rfl rfl (.some rfl) ?_
        refine vl_val rfl (.some rfl) (val_pick rfl rfl) ?_
        refine vl_val rfl (.some rfl) (val_assign rfl) ?_
        refine vl_nil ?_
        refine vc_cond rfl (fun h => by cases h) (fun _ => ?_)
        refine vc_skip ?_
        refine vc_seq ?_
        refine vc_region ?_
        refine vl_val rfl (.some rfl) (val_assign rfl) ?_
        refine vl_nil ?_
        refine vc_ret ?_
        refine ⟨_, [], _, res1 Tryd.results21 rfl, .nil, ?_⟩
        show _ = _
        rw [if_neg (by assumption), if_neg (by omega)]
set_option maxRecDepth 20000 in
theorem wOf (n : Int) (hn : inI n) (w : World) : FnV Tryd.prog 11 [.int .i64 n] (wV n) w := by
  refine fn_enter Tryd.func11 rfl Tryd.ntmps11 rfl ?_
  refine vc_seq ?_
  refine vc_region ?_
  refine vl_alloc rfl rfl (.some rfl) Tryd.zeroValue24 (fun r2 => ?_)
  refine vl_nil ?_
  refine vc_seq ?_
  refine vc_region ?_
  refine vl_val rfl (.some rfl) (val_move rfl) ?_
  refine vl_val rfl (.some rfl) (val_shr rfl rfl (by decide) (show _ = hW n by rw [shr_lit 9223372036854775808 rfl (by decide)]; exact fdiv63 hn)) ?_
  refine vl_val rfl (.some rfl) (val_move rfl) ?_
  refine vl_val rfl (.some rfl) (val_convInt Tryd.runUnderlying3 Tryd.runUnderlying22 rfl (show _ = lW n by rw [w_mod64]; rfl)) ?_
  refine vl_val rfl (.some rfl) (val_buildSt (pl := #[(0, 1), (1, 1)]) (cs := #[.int .i64 (hW n), .int .u64 (lW n)]) Tryd.runUnderlying24 Tryd.zeroValue24 (fun w => by kernel_rfl) rfl rfl) ?_
  first | refine vl_store rfl rfl .none rfl rfl Tryd.sizeOf24 rfl (by repeat (first | exact .head | apply In.tail | apply Take.tail | apply Upd.tail)) (by first | decide | exact Nat.le_refl _ | exact Nat.le_of_ble_eq_true rfl | (simp; omega)) ?_ | refine vl_storeSl rfl rfl .none rfl rfl Tryd.sizeOf24 rfl (by simp [Value.cells]) (by repeat (first | exact .head | apply In.tail | apply Take.tail | apply Upd.tail)) (by first | decide | (simp [Value.cells]; omega)) ?_
  refine vl_nil ?_
  refine vc_ret ?_
  refine ⟨_, [], _, resC Tryd.results11 rfl (whole_agg Tryd.isAgg24 Tryd.sizeOf24 (cells_whole (by repeat (first | exact .head | apply In.tail | apply Take.tail | apply Upd.tail))) rfl), .nil, ?_⟩
  rfl
set_option maxRecDepth 20000 in
theorem wFits (x : Int) (hx : inW x) (w : World) : FnV Tryd.prog 9 [wV x] (.tuple #[.int .i64 (if inI x then x else 0), .bool (decide (inI x))]) w := by
  have e1 := hW_in hx
  obtain ⟨n, hn⟩ : ∃ n, (lW x + 9223372036854775808) % 18446744073709551616 - 9223372036854775808 = n := ⟨_, rfl⟩
  have hn2 : inI n := by unfold inI; omega
  have hfi : (hW x = n / 9223372036854775808) ↔ inI x := by unfold lW at hn; unfold inI; omega
  have hnx : inI x → n = x := by unfold lW at hn; unfold inI; omega
  refine fn_enter Tryd.func9 rfl Tryd.ntmps9 rfl ?_
  refine vc_seq ?_
  refine vc_region ?_
  refine vl_box rfl rfl (.some rfl) rfl (fun r1 => ?_)
  refine vl_val rfl (.some rfl) (val_assign rfl) ?_
  refine vl_val rfl (.some rfl) (val_assign rfl) ?_
  refine vl_nil ?_
  refine vc_seq ?_
  refine vc_region ?_
  refine vl_val rfl (.some rfl) (by first | exact val_fieldAddr Tryd.runUnderlying24 rfl Tryd.sizeOf22 rfl | exact val_fieldAddrR Tryd.runUnderlying24 rfl Tryd.sizeOf22 rfl) ?_
  refine vl_val rfl (.some rfl) (val_load Tryd.isAgg22 rfl (by first | exact cell_cells (by repeat (first | exact .head | apply In.tail | apply Take.tail | apply Upd.tail)) rfl | exact cell_rd (rd_sl (by repeat (first | exact .head | apply In.tail | apply Take.tail | apply Upd.tail))) (by first | exact bcells_at (by omega) | exact ucells_at (by omega) | exact icells_at (by omega) | exact tcells_at (by omega) | exact bcells_get (by omega) | exact icells_get (by omega) | exact tcells_get (by omega) | exact ucells_get (by omega)) | exact cell_rd (rd_old (by assumption) rfl) (by first | exact bcells_at (by omega) | exact ucells_at (by omega) | exact icells_at (by omega) | exact tcells_at (by omega) | exact bcells_get (by omega) | exact icells_get (by omega) | exact tcells_get (by omega) | exact ucells_get (by omega)) | exact cell_old (by assumption) (by simp [fps]))) ?_
  refine vl_val rfl (.some rfl) (val_convInt Tryd.runUnderlying22 Tryd.runUnderlying3 rfl (show _ = n by rw [w_smod64, hn])) ?_
  refine vl_val rfl (.some rfl) (val_assign rfl) ?_
  refine vl_nil ?_
  refine vc_seq ?_
  refine vc_seq ?_
  refine vc_region ?_
  refine vl_val rfl (.some rfl) (by first | exact val_fieldAddr Tryd.runUnderlying24 rfl Tryd.sizeOf3 rfl | exact val_fieldAddrR Tryd.runUnderlying24 rfl Tryd.sizeOf3 rfl) ?_
  refine vl_val rfl (.some rfl) (val_load Tryd.isAgg3 rfl (by first | exact cell_cells (by repeat (first | exact .head | apply In.tail | apply Take.tail | apply Upd.tail)) rfl | exact cell_rd (rd_sl (by repeat (first | exact .head | apply In.tail | apply Take.tail | apply Upd.tail))) (by first | exact bcells_at (by omega) | exact ucells_at (by omega) | exact icells_at (by omega) | exact tcells_at (by omega) | exact bcells_get (by omega) | exact icells_get (by omega) | exact tcells_get (by omega) | exact ucells_get (by omega)) | exact cell_rd (rd_old (by assumption) rfl) (by first | exact bcells_at (by omega) | exact ucells_at (by omega) | exact icells_at (by omega) | exact tcells_at (by omega) | exact bcells_get (by omega) | exact icells_get (by omega) | exact tcells_get (by omega) | exact ucells_get (by omega)) | exact cell_old (by assumption) (by simp [fps]))) ?_
  refine vl_val rfl (.some rfl) (val_move rfl) ?_
  refine vl_val rfl (.some rfl) (val_shr rfl rfl (by decide) (show _ = n / 9223372036854775808 by rw [shr_lit 9223372036854775808 rfl (by decide)])) ?_
  refine vl_val rfl (.some rfl) (val_ne rfl rfl) ?_
  refine vl_nil ?_
  refine vc_cond rfl (fun hc0 => ?_) (fun hc0 => ?_)
  · (try replace hc0 := of_decide_eq_true hc0)
    refine vc_seq ?_
    refine vc_region ?_
    refine vl_val rfl (.some rfl) (val_assign rfl) ?_
    refine vl_val rfl (.some rfl) (val_assign rfl) ?_
    refine vl_nil ?_
    refine vc_ret ?_
    refine ⟨_, [], _, res2 Tryd.results9 rfl rfl, .nil, ?_⟩
    show _ = _
    have hno : ¬ inI x := fun h => by have := hfi.2 h; contradiction
    rw [if_neg hno, decide_eq_false hno]
  · (try replace hc0 := of_decide_eq_false hc0)
    refine vc_skip ?_
    refine vc_seq ?_
    refine vc_region ?_
    refine vl_val rfl (.some rfl) (val_move rfl) ?_
    refine vl_val rfl (.some rfl) (val_assign rfl) ?_
    refine vl_val rfl (.some rfl) (val_assign rfl) ?_
    refine vl_nil ?_
    refine vc_ret ?_
    refine ⟨_, [], _, res2 Tryd.results9 rfl rfl, .nil, ?_⟩
    show _ = _
    have hno : inI x := hfi.1 (by simpa using hc0)
    rw [if_pos hno, decide_eq_true hno, hnx hno]

end Go.Proofs.YtpgopfidbmiifaaDoor.K
