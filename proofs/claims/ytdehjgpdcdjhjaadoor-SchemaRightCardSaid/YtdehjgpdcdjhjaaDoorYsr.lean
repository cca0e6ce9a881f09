/- Walks of the program's functions, printed by a program of this session; Lean checks them. -/
import Derived.Test.YtdehjgpdcdjhjaaDoorYsp
namespace Go.Proofs.YtdehjgpdcdjhjaaDoor.K
open Go Go.RowKit Go.Proofs
set_option linter.unusedVariables false
set_option linter.unusedSimpArgs false
set_option maxRecDepth 20000 in
theorem sT24 : SlT Tryd.prog 24 41 2 24 (.agg #[.string .empty, .int .i64 0]) := ⟨Tryd.underlying24, ⟨Tryd.t41, Tryd.type41, rfl, rfl, rfl⟩, rfl, Nat.lt_of_sub_eq_succ rfl⟩
set_option maxRecDepth 20000 in
theorem sT28 : SlT Tryd.prog 28 43 2 24 (.agg #[.int .i64 0, .string .empty]) := ⟨Tryd.underlying28, ⟨Tryd.t43, Tryd.type43, rfl, rfl, rfl⟩, rfl, Nat.lt_of_sub_eq_succ rfl⟩

set_option maxRecDepth 20000 in
set_option maxHeartbeats 1000000 in
theorem xLives (w : World) : FnV Tryd.prog 8 [] (.bool true) w := by
  refine fn_enter Tryd.func8 rfl Tryd.ntmps8 rfl ?_
  refine vc_seq ?_
  refine vc_region ?_
  refine vl_val rfl (.some rfl) (val_assign rfl) ?_
  refine vl_nil ?_
  refine vc_seq ?_
  refine vc_region ?_
  refine vl_val rfl (.some rfl) (val_buildSt (pl := #[(0, 1), (1, 1)]) (cs := #[.string (sL [97]), .int .i64 1]) Tryd.runUnderlying41 Tryd.zeroValue41 (fun w => by kernel_rfl) rfl rfl) ?_
  refine vl_val rfl (.some rfl) (val_buildSt (pl := #[(0, 1), (1, 1)]) (cs := #[.string (sL [97]), .int .i64 1]) Tryd.runUnderlying41 Tryd.zeroValue41 (fun w => by kernel_rfl) rfl rfl) ?_
  refine vl_lit sT24 rfl rfl (.some rfl) rfl rfl rfl (by decide) (by decide) rfl rfl (fun r5 => ?_)
  refine vl_val rfl (.some rfl) (val_buildSt (pl := #[(0, 1), (1, 1)]) (cs := #[.string (sL [116]), .slice (some ⟨r5, 0, none⟩) 2 2]) Tryd.runUnderlying26 Tryd.zeroValue26 (fun w => by kernel_rfl) rfl rfl) ?_
  refine vl_alloc rfl rfl (.some rfl) Tryd.zeroValue26 (fun r1 => ?_)
  first | refine vl_store rfl rfl .none rfl rfl Tryd.sizeOf26 rfl (by repeat (first | exact .head | apply In.tail | apply Take.tail | apply Upd.tail)) (by first | decide | exact Nat.le_refl _ | exact Nat.le_of_ble_eq_true rfl | (simp; omega)) ?_ | refine vl_storeSl rfl rfl .none rfl rfl Tryd.sizeOf26 rfl (by simp [Value.cells]) (by repeat (first | exact .head | apply In.tail | apply Take.tail | apply Upd.tail)) (by first | decide | (simp [Value.cells]; omega)) ?_
  refine vl_nil ?_
  refine vc_seq ?_
  refine vc_region ?_
  refine vl_val rfl (.some rfl) (val_buildSt (pl := #[(0, 1), (1, 1)]) (cs := #[.string (sL [98]), .int .i64 3]) Tryd.runUnderlying41 Tryd.zeroValue41 (fun w => by kernel_rfl) rfl rfl) ?_
  refine vl_lit sT24 rfl rfl (.some rfl) rfl rfl rfl (by decide) (by decide) rfl rfl (fun r8 => ?_)
  refine vl_val rfl (.some rfl) (val_buildSt (pl := #[(0, 1), (1, 1)]) (cs := #[.string (sL [116]), .slice (some ⟨r8, 0, none⟩) 1 1]) Tryd.runUnderlying26 Tryd.zeroValue26 (fun w => by kernel_rfl) rfl rfl) ?_
  refine vl_alloc rfl rfl (.some rfl) Tryd.zeroValue26 (fun r2 => ?_)
  first | refine vl_store rfl rfl .none rfl rfl Tryd.sizeOf26 rfl (by repeat (first | exact .head | apply In.tail | apply Take.tail | apply Upd.tail)) (by first | decide | exact Nat.le_refl _ | exact Nat.le_of_ble_eq_true rfl | (simp; omega)) ?_ | refine vl_storeSl rfl rfl .none rfl rfl Tryd.sizeOf26 rfl (by simp [Value.cells]) (by repeat (first | exact .head | apply In.tail | apply Take.tail | apply Upd.tail)) (by first | decide | (simp [Value.cells]; omega)) ?_
  refine vl_nil ?_
  refine vc_seq ?_
  refine vc_region ?_
  refine vl_val rfl (.some rfl) (val_loadAgg Tryd.isAgg26 Tryd.sizeOf26 rfl (by first | exact cells_whole (by repeat (first | exact .head | apply In.tail | apply Take.tail | apply Upd.tail)) | exact cells_part (by repeat (first | exact .head | apply In.tail | apply Take.tail | apply Upd.tail)) rfl) rfl) ?_
  refine vl_callV rfl rfl (.some rfl) Tryd.call13 rfl (fun w hw => xTable [116] (by decide) (some ⟨r5, 0, none⟩) 2 2 [([97], 1), ([97], 1)] rfl (by decide) (by decide) w (rdw (rd_sl (vs := [.string (sL [97]), .int .i64 1, .string (sL [97]), .int .i64 1]) (by repeat (first | exact .head | apply In.tail | apply Take.tail | apply Upd.tail))) hw)) ?_
  refine vl_val rfl (.some rfl) (val_eqt rfl rfl (by decide +kernel)) ?_
  refine vl_val rfl (.some rfl) (val_move rfl) ?_
  refine vl_on rfl rfl rfl rfl ?_
  refine vl_val rfl (.some rfl) (val_buildSt (pl := #[(0, 1), (1, 1)]) (cs := #[.int .i64 2, .string (sL [98])]) Tryd.runUnderlying43 Tryd.zeroValue43 (fun w => by kernel_rfl) rfl rfl) ?_
  refine vl_on rfl rfl rfl rfl ?_
  refine vl_lit sT28 rfl rfl (.some rfl) rfl rfl rfl (by decide) (by decide) rfl rfl (fun r15 => ?_)
  refine vl_on rfl rfl rfl rfl ?_
  refine vl_val rfl (.some rfl) (val_buildSt (pl := #[(0, 1), (1, 1), (2, 1), (3, 1)]) (cs := #[.string (sL [114]), .string (sL [116]), .slice none 0 0, .slice (some ⟨r15, 0, none⟩) 1 1]) Tryd.runUnderlying30 Tryd.zeroValue30 (fun w => by kernel_rfl) rfl rfl) ?_
  refine vl_on rfl rfl rfl rfl ?_
  refine vl_val rfl (.some rfl) (val_loadAgg Tryd.isAgg26 Tryd.sizeOf26 rfl (by first | exact cells_whole (by repeat (first | exact .head | apply In.tail | apply Take.tail | apply Upd.tail)) | exact cells_part (by repeat (first | exact .head | apply In.tail | apply Take.tail | apply Upd.tail)) rfl) rfl) ?_
  refine vl_on rfl rfl rfl rfl ?_
  refine vl_callV rfl rfl (.some rfl) Tryd.call15 rfl (fun w hw => xRollup [114] [116] (by decide) none 0 0 [] rfl (by decide) (by decide) (some ⟨r15, 0, none⟩) 1 1 [(2, [98])] rfl (by decide) (by decide) [116] (some ⟨r8, 0, none⟩) 1 1 [([98], 3)] rfl (by decide) w (fun j u hj => by simp [tcS] at hj) (rdw (rd_sl (vs := [.int .i64 2, .string (sL [98])]) (by repeat (first | exact .head | apply In.tail | apply Take.tail | apply Upd.tail))) hw) (rdw (rd_sl (vs := [.string (sL [98]), .int .i64 3]) (by repeat (first | exact .head | apply In.tail | apply Take.tail | apply Upd.tail))) hw)) ?_
  refine vl_on rfl rfl rfl rfl ?_
  refine vl_val rfl (.some rfl) (val_eqt rfl rfl (by decide +kernel)) ?_
  refine vl_val rfl (.some rfl) (val_pick rfl rfl) ?_
  refine vl_val rfl (.some rfl) (val_move rfl) ?_
  refine vl_on rfl rfl rfl rfl ?_
  refine vl_callV rfl rfl (.some rfl) Tryd.call9 rfl (fun w hw => sName [115, 101, 108, 101, 99, 116] (by decide) w) ?_
  rw [show decide (nameP [115, 101, 108, 101, 99, 116]) = false by decide +kernel]
  refine vl_on rfl rfl rfl rfl ?_
  refine vl_val rfl (.some rfl) (val_not rfl) ?_
  refine vl_val rfl (.some rfl) (val_pick rfl rfl) ?_
  refine vl_val rfl (.some rfl) (val_move rfl) ?_
  refine vl_on rfl rfl rfl rfl ?_
  refine vl_callV rfl rfl (.some rfl) Tryd.call9 rfl (fun w hw => sName [97, 95, 49] (by decide) w) ?_
  rw [show decide (nameP [97, 95, 49]) = true by decide +kernel]
  refine vl_val rfl (.some rfl) (val_pick rfl rfl) ?_
  refine vl_val rfl (.some rfl) (val_move rfl) ?_
  refine vl_on rfl rfl rfl rfl ?_
  refine vl_val rfl (.some rfl) (val_loadAgg Tryd.isAgg26 Tryd.sizeOf26 rfl (by first | exact cells_whole (by repeat (first | exact .head | apply In.tail | apply Take.tail | apply Upd.tail)) | exact cells_part (by repeat (first | exact .head | apply In.tail | apply Take.tail | apply Upd.tail)) rfl) rfl) ?_
  refine vl_on rfl rfl rfl rfl ?_
  refine vl_callV rfl rfl (.some rfl) Tryd.call13 rfl (fun w hw => xTable [116] (by decide) (some ⟨r8, 0, none⟩) 1 1 [([98], 3)] rfl (by decide) (by decide) w (rdw (rd_sl (vs := [.string (sL [98]), .int .i64 3]) (by repeat (first | exact .head | apply In.tail | apply Take.tail | apply Upd.tail))) hw)) ?_
  refine vl_on rfl rfl rfl rfl ?_
  refine vl_val rfl (.some rfl) (val_eqt rfl rfl (by decide +kernel)) ?_
  refine vl_val rfl (.some rfl) (val_pick rfl rfl) ?_
  refine vl_val rfl (.some rfl) (val_assign rfl) ?_
  refine vl_nil ?_
  refine vc_ret ?_
  refine ⟨_, [], _, res1 Tryd.results8 rfl, .nil, ?_⟩
  rfl


end Go.Proofs.YtdehjgpdcdjhjaaDoor.K
