/- Walks of the program's functions, printed by a program of this session; Lean checks them. -/
import Derived.Test.YtclknendeeljaaaKv
import Derived.Test.YtclknendeeljaaaVof
namespace Go.Proofs.Ytclknendeeljaaa.K
open Go Go.RowKit Go.Proofs
set_option linter.unusedVariables false
set_option linter.unusedSimpArgs false
set_option maxRecDepth 20000 in
theorem sT43 : SlT Try.prog 43 5 1 1 (.int .u8 0) := ⟨Try.underlying43, ⟨Try.t5, Try.type5, rfl, rfl, rfl⟩, rfl, Nat.lt_of_sub_eq_succ rfl⟩
abbrev BC (b : Nat) (o : Option Addr) (A : Option Addr) (n c : Nat) : Chunk := cells b [.pointer o, .slice A n c] 176
theorem noesc_run (v : Value) (w : World) : (callFunc 173 #[v]).run Try.prog w = .ok (.value v) w := by
  rw [run_callFunc_extern (e := Extern.AbiNoEscape.same) Try.func173 (by kernel_rfl) (by kernel_rfl) (by kernel_rfl) (by kernel_rfl)]; rfl
theorem noz_run (n : Nat) (hn : n ≤ 1000) (w : World) : ∃ cs : Array Value, (callFunc 174 #[.int .i64 (n : Int)]).run Try.prog w = .ok (.value (.slice (some ⟨w.heap.size, 0, none⟩) n cs.size)) (w.drew.drew.alloc (.cells cs 5)) ∧ n ≤ cs.size ∧ cs.size ≤ maxLen := by
  obtain ⟨cs, hrun, hle, hmax⟩ := Lib.run_makeNoZero (P := Try.prog) (w := w) #[3] 43 5 Try.underlying43 n (by omega)
  refine ⟨cs, ?_, hle, hmax (by unfold maxLen; omega)⟩
  rw [run_callFunc_extern (e := Extern.BytealgMakeNoZero.makeNoZero #[3] #[43]) Try.func174 (by kernel_rfl) (by kernel_rfl) (by kernel_rfl) (by kernel_rfl), hrun]
  rfl

set_option maxRecDepth 20000 in
theorem bCheck0 (b : Nat) (w : World) : Fn Try.prog 169 [.pointer (some ⟨b, 0, none⟩)] [BC b none none 0 0] (ret fun u H' => H' = [BC b (some ⟨b, 0, none⟩) none 0 0]) w := by
  refine fn_enter Try.func169 rfl Try.ntmps169 rfl ?_
  refine vc_seq ?_
  refine vc_region ?_
  refine vl_val rfl (.some rfl) (val_move rfl) ?_
  refine vl_val rfl (.some rfl) (val_nil rfl rfl) ?_
  refine vl_val rfl (.some rfl) (by first | exact val_fieldAddr Try.runUnderlying176 rfl Try.sizeOf174 rfl | exact val_fieldAddrR Try.runUnderlying176 rfl Try.sizeOf174 rfl) ?_
  refine vl_val rfl (.some rfl) (val_load Try.isAgg174 rfl (by first | exact cell_cells (by repeat (first | exact .head | apply In.tail | apply Take.tail | apply Upd.tail)) rfl | exact cell_rd (rd_sl (by repeat (first | exact .head | apply In.tail | apply Take.tail | apply Upd.tail))) (by first | exact bcells_at (by omega) | exact ucells_at (by omega) | exact icells_at (by omega) | exact tcells_at (by omega) | exact bcells_get (by omega) | exact icells_get (by omega) | exact tcells_get (by omega) | exact ucells_get (by omega)) | exact cell_rd (rd_old (by assumption) rfl) (by first | exact bcells_at (by omega) | exact ucells_at (by omega) | exact icells_at (by omega) | exact tcells_at (by omega) | exact bcells_get (by omega) | exact icells_get (by omega) | exact tcells_get (by omega) | exact ucells_get (by omega)) | exact cell_old (by assumption) (by simp [fps]))) ?_
  refine vl_val rfl (.some rfl) (val_opO rfl rfl guard_ptr (bin_nil_eq Try.runUnderlying174)) ?_
  refine vl_nil ?_
  refine vc_cond rfl (fun _ => ?_) (fun h => by cases h)
  refine vc_region ?_
  refine vl_val rfl (.some rfl) (val_move rfl) ?_
  refine vl_val rfl (.some rfl) (val_move rfl) ?_
  refine vl_val rfl (.some rfl) (val_toUn Try.runUnderlying174 Try.runUnderlying184 Try.sizeOf176 rfl rfl (by repeat (first | exact .head | apply In.tail | apply Take.tail | apply Upd.tail)) rfl) ?_
  refine vl_ext rfl rfl (.some rfl) rfl (noesc_run _) ?_
  refine vl_val rfl (.some rfl) (val_ofUn Try.runUnderlying184 Try.runUnderlying174 Try.sizeOf176 rfl rfl (by repeat (first | exact .head | apply In.tail | apply Take.tail | apply Upd.tail)) (by kernel_rfl)) ?_
  refine vl_val rfl (.some rfl) (val_nil rfl rfl) ?_
  refine vl_val rfl (.some rfl) (by first | exact val_fieldAddr Try.runUnderlying176 rfl Try.sizeOf174 rfl | exact val_fieldAddrR Try.runUnderlying176 rfl Try.sizeOf174 rfl) ?_
  first | refine vl_store rfl rfl .none rfl rfl Try.sizeOf174 rfl (by repeat (first | exact .head | apply In.tail | apply Take.tail | apply Upd.tail)) (by first | decide | exact Nat.le_refl _ | exact Nat.le_of_ble_eq_true rfl | (simp; omega)) ?_ | refine vl_storeSl rfl rfl .none rfl rfl Try.sizeOf174 rfl (by simp [Value.cells]) (by repeat (first | exact .head | apply In.tail | apply Take.tail | apply Upd.tail)) (by first | decide | (simp [Value.cells]; omega)) ?_
  refine vl_nil ?_
  refine ⟨_, [BC b (some ⟨b, 0, none⟩) none 0 0], _, res0 Try.results169, (by repeat (first | exact .nil | (apply Sub.cons; · repeat (first | exact .head | apply Take.tail)))), ?_⟩
  rfl
set_option maxRecDepth 20000 in
theorem bCheck (b : Nat) (A : Option Addr) (n c : Nat) (w : World) : FnR Try.prog 169 [.pointer (some ⟨b, 0, none⟩)] [BC b (some ⟨b, 0, none⟩) A n c] (.tuple #[]) w := by
  refine fn_enter Try.func169 rfl Try.ntmps169 rfl ?_
  refine vc_seq ?_
  refine vc_region ?_
  refine vl_val rfl (.some rfl) (val_move rfl) ?_
  refine vl_val rfl (.some rfl) (val_nil rfl rfl) ?_
  refine vl_val rfl (.some rfl) (by first | exact val_fieldAddr Try.runUnderlying176 rfl Try.sizeOf174 rfl | exact val_fieldAddrR Try.runUnderlying176 rfl Try.sizeOf174 rfl) ?_
  refine vl_val rfl (.some rfl) (val_load Try.isAgg174 rfl (by first | exact cell_cells (by repeat (first | exact .head | apply In.tail | apply Take.tail | apply Upd.tail)) rfl | exact cell_rd (rd_sl (by repeat (first | exact .head | apply In.tail | apply Take.tail | apply Upd.tail))) (by first | exact bcells_at (by omega) | exact ucells_at (by omega) | exact icells_at (by omega) | exact tcells_at (by omega) | exact bcells_get (by omega) | exact icells_get (by omega) | exact tcells_get (by omega) | exact ucells_get (by omega)) | exact cell_rd (rd_old (by assumption) rfl) (by first | exact bcells_at (by omega) | exact ucells_at (by omega) | exact icells_at (by omega) | exact tcells_at (by omega) | exact bcells_get (by omega) | exact icells_get (by omega) | exact tcells_get (by omega) | exact ucells_get (by omega)) | exact cell_old (by assumption) (by simp [fps]))) ?_
  refine vl_val rfl (.some rfl) (val_opO rfl rfl guard_ptr (bin_ptr_eq Try.runUnderlying174)) ?_
  refine vl_nil ?_
  refine vc_cond rfl (fun h => by cases h) (fun _ => ?_)
  refine vc_seq ?_
  refine vc_region ?_
  refine vl_val rfl (.some rfl) (val_move rfl) ?_
  refine vl_val rfl (.some rfl) (val_nil rfl rfl) ?_
  refine vl_val rfl (.some rfl) (by first | exact val_fieldAddr Try.runUnderlying176 rfl Try.sizeOf174 rfl | exact val_fieldAddrR Try.runUnderlying176 rfl Try.sizeOf174 rfl) ?_
  refine vl_val rfl (.some rfl) (val_load Try.isAgg174 rfl (by first | exact cell_cells (by repeat (first | exact .head | apply In.tail | apply Take.tail | apply Upd.tail)) rfl | exact cell_rd (rd_sl (by repeat (first | exact .head | apply In.tail | apply Take.tail | apply Upd.tail))) (by first | exact bcells_at (by omega) | exact ucells_at (by omega) | exact icells_at (by omega) | exact tcells_at (by omega) | exact bcells_get (by omega) | exact icells_get (by omega) | exact tcells_get (by omega) | exact ucells_get (by omega)) | exact cell_rd (rd_old (by assumption) rfl) (by first | exact bcells_at (by omega) | exact ucells_at (by omega) | exact icells_at (by omega) | exact tcells_at (by omega) | exact bcells_get (by omega) | exact icells_get (by omega) | exact tcells_get (by omega) | exact ucells_get (by omega)) | exact cell_old (by assumption) (by simp [fps]))) ?_
  refine vl_val rfl (.some rfl) (val_move rfl) ?_
  refine vl_val rfl (.some rfl) (val_opO rfl rfl guard_ptr (bin_same_ne Try.runUnderlying174 Try.sizeOf176)) ?_
  refine vl_nil ?_
  refine vc_cond rfl (fun h => by cases h) (fun _ => ?_)
  refine vc_skip ?_
  refine ⟨_, [BC b (some ⟨b, 0, none⟩) A n c], _, res0 Try.results169, (by repeat (first | exact .nil | (apply Sub.cons; · repeat (first | exact .head | apply Take.tail)))), ?_⟩
  exact ⟨rfl, rfl⟩
set_option maxRecDepth 20000 in
theorem bGrow0 (b : Nat) (w : World) : Fn Try.prog 170 [.pointer (some ⟨b, 0, none⟩), .int .i64 5] [BC b (some ⟨b, 0, none⟩) none 0 0] (ret fun u H' => ∃ g c, 5 ≤ c ∧ H' = [BC b (some ⟨b, 0, none⟩) (some ⟨g, 0, none⟩) 0 c, sl (some ⟨g, 0, none⟩) 0 c 5 1 (bcells [])]) w := by
  refine fn_enter Try.func170 rfl Try.ntmps170 rfl ?_
  refine vc_seq ?_
  refine vc_draws [0, 1, 2, 3, 4, 5, 6, 7, 9, 10, 11, 12, 13, 14, 15] [] [0, 1, 2, 3, 4, 5, 6, 7, 9, 10, 11, 12, 13, 8, 14, 15] rfl (by kernel_rfl) (fun _ _ _ h => h) ?_
  refine vd_val rfl rfl rfl (.some rfl) (val_move rfl) ?_
  refine vd_val rfl rfl rfl (.some rfl) (val_nil rfl rfl) ?_
  refine vd_val rfl rfl rfl (.some rfl) (by first | exact val_fieldAddr Try.runUnderlying176 rfl Try.sizeOf43 rfl | exact val_fieldAddrR Try.runUnderlying176 rfl Try.sizeOf43 rfl) ?_
  refine vd_val rfl rfl rfl (.some rfl) (val_load Try.isAgg43 rfl (by first | exact cell_cells (by repeat (first | exact .head | apply In.tail | apply Take.tail | apply Upd.tail)) rfl | exact cell_rd (rd_sl (by repeat (first | exact .head | apply In.tail | apply Take.tail | apply Upd.tail))) (by first | exact bcells_at (by omega) | exact ucells_at (by omega) | exact icells_at (by omega) | exact tcells_at (by omega) | exact bcells_get (by omega) | exact icells_get (by omega) | exact tcells_get (by omega) | exact ucells_get (by omega)) | exact cell_rd (rd_old (by assumption) rfl) (by first | exact bcells_at (by omega) | exact ucells_at (by omega) | exact icells_at (by omega) | exact tcells_at (by omega) | exact bcells_get (by omega) | exact icells_get (by omega) | exact tcells_get (by omega) | exact ucells_get (by omega)) | exact cell_old (by assumption) (by simp [fps]))) ?_
  refine vd_val rfl rfl rfl (.some rfl) (val_capSl Try.runUnderlying43 rfl) ?_
  refine vd_val rfl rfl rfl (.some rfl) (val_mul rfl rfl (by first | exact w_i64 (by omega) (by omega) | rfl)) ?_
  refine vd_val rfl rfl rfl (.some rfl) (val_move rfl) ?_
  refine vd_val rfl rfl rfl (.some rfl) (val_add rfl rfl (by first | exact w_i64 (by omega) (by omega) | rfl)) ?_
  refine vd_val rfl rfl rfl (.some rfl) (val_move rfl) ?_
  refine vd_val rfl rfl rfl (.some rfl) (val_nil rfl rfl) ?_
  refine vd_val rfl rfl rfl (.some rfl) (by first | exact val_fieldAddr Try.runUnderlying176 rfl Try.sizeOf43 rfl | exact val_fieldAddrR Try.runUnderlying176 rfl Try.sizeOf43 rfl) ?_
  refine vd_val rfl rfl rfl (.some rfl) (val_load Try.isAgg43 rfl (by first | exact cell_cells (by repeat (first | exact .head | apply In.tail | apply Take.tail | apply Upd.tail)) rfl | exact cell_rd (rd_sl (by repeat (first | exact .head | apply In.tail | apply Take.tail | apply Upd.tail))) (by first | exact bcells_at (by omega) | exact ucells_at (by omega) | exact icells_at (by omega) | exact tcells_at (by omega) | exact bcells_get (by omega) | exact icells_get (by omega) | exact tcells_get (by omega) | exact ucells_get (by omega)) | exact cell_rd (rd_old (by assumption) rfl) (by first | exact bcells_at (by omega) | exact ucells_at (by omega) | exact icells_at (by omega) | exact tcells_at (by omega) | exact bcells_get (by omega) | exact icells_get (by omega) | exact tcells_get (by omega) | exact ucells_get (by omega)) | exact cell_old (by assumption) (by simp [fps]))) ?_
  refine vd_val rfl rfl rfl (.some rfl) (val_lenSl Try.runUnderlying43 rfl) ?_
  refine vd_op rfl rfl ?_
  refine vl_noZero (n := 5) rfl rfl (.some rfl) rfl (noz_run 5 (by decide)) (fun g c hgc => ?_)
  refine vl_nil ?_
  refine ⟨fun _ => ⟨_, (by repeat (first | exact .nil | (apply Sub.cons; · repeat (first | exact .head | apply Take.tail))))⟩, ?_⟩
  refine vd_val rfl rfl rfl (.some rfl) (val_cutTo Try.runUnderlying43 Try.sizeOf5 rfl rfl (by decide) (by omega)) ?_
  refine vd_val rfl rfl rfl (.some rfl) (val_assign rfl) ?_
  refine vd_nil ?_
  refine vc_seq ?_
  refine vc_region ?_
  refine vl_val rfl (.some rfl) (val_move rfl) ?_
  refine vl_val rfl (.some rfl) (val_move rfl) ?_
  refine vl_val rfl (.some rfl) (val_nil rfl rfl) ?_
  refine vl_val rfl (.some rfl) (by first | exact val_fieldAddr Try.runUnderlying176 rfl Try.sizeOf43 rfl | exact val_fieldAddrR Try.runUnderlying176 rfl Try.sizeOf43 rfl) ?_
  refine vl_val rfl (.some rfl) (val_load Try.isAgg43 rfl (by first | exact cell_cells (by repeat (first | exact .head | apply In.tail | apply Take.tail | apply Upd.tail)) rfl | exact cell_rd (rd_sl (by repeat (first | exact .head | apply In.tail | apply Take.tail | apply Upd.tail))) (by first | exact bcells_at (by omega) | exact ucells_at (by omega) | exact icells_at (by omega) | exact tcells_at (by omega) | exact bcells_get (by omega) | exact icells_get (by omega) | exact tcells_get (by omega) | exact ucells_get (by omega)) | exact cell_rd (rd_old (by assumption) rfl) (by first | exact bcells_at (by omega) | exact ucells_at (by omega) | exact icells_at (by omega) | exact tcells_at (by omega) | exact bcells_get (by omega) | exact icells_get (by omega) | exact tcells_get (by omega) | exact ucells_get (by omega)) | exact cell_old (by assumption) (by simp [fps]))) ?_
  refine vl_val rfl (.some rfl) (val_copyNil Try.underlying43 (by kernel_rfl) rfl rfl) ?_
  refine vl_nil ?_
  refine vc_region ?_
  refine vl_val rfl (.some rfl) (val_move rfl) ?_
  refine vl_val rfl (.some rfl) (val_move rfl) ?_
  refine vl_val rfl (.some rfl) (val_nil rfl rfl) ?_
  refine vl_val rfl (.some rfl) (by first | exact val_fieldAddr Try.runUnderlying176 rfl Try.sizeOf43 rfl | exact val_fieldAddrR Try.runUnderlying176 rfl Try.sizeOf43 rfl) ?_
  first | refine vl_store rfl rfl .none rfl rfl Try.sizeOf43 rfl (by repeat (first | exact .head | apply In.tail | apply Take.tail | apply Upd.tail)) (by first | decide | exact Nat.le_refl _ | exact Nat.le_of_ble_eq_true rfl | (simp; omega)) ?_ | refine vl_storeSl rfl rfl .none rfl rfl Try.sizeOf43 rfl (by simp [Value.cells]) (by repeat (first | exact .head | apply In.tail | apply Take.tail | apply Upd.tail)) (by first | decide | (simp [Value.cells]; omega)) ?_
  refine vl_nil ?_
  refine ⟨_, [BC b (some ⟨b, 0, none⟩) (some ⟨g, 0, none⟩) 0 c, sl (some ⟨g, 0, none⟩) 0 c 5 1 []], _, res0 Try.results170, (by repeat (first | exact .nil | (apply Sub.cons; · repeat (first | exact .head | apply Take.tail)))), ?_⟩
  exact ⟨g, c, hgc, rfl⟩
set_option maxRecDepth 20000 in
theorem bGrow (b : Nat) (w : World) : Fn Try.prog 162 [.pointer (some ⟨b, 0, none⟩), .int .i64 5] [BC b none none 0 0] (ret fun u H' => ∃ g c, 5 ≤ c ∧ H' = [BC b (some ⟨b, 0, none⟩) (some ⟨g, 0, none⟩) 0 c, sl (some ⟨g, 0, none⟩) 0 c 5 1 (bcells [])]) w := by
  refine fn_enter Try.func162 rfl Try.ntmps162 rfl ?_
  refine vc_seq ?_
  refine vc_region ?_
  refine vl_val rfl (.some rfl) (val_move rfl) ?_
  refine vl_call (C := [BC b none none 0 0]) rfl rfl (.some rfl) Try.call169 rfl (by repeat (first | exact .nil | (apply Sub.cons; · repeat (first | exact .head | apply Take.tail)))) (fun w hw => bCheck0 b w) (fun v H' h => ?_)
  obtain rfl := h
  show VL _ _ _ _ _ (_ :: _)
  refine vl_nil ?_
  refine vc_seq ?_
  refine vc_seq ?_
  refine vc_region ?_
  refine vl_val rfl (.some rfl) (val_move rfl) ?_
  refine vl_val rfl (.some rfl) (val_lt rfl rfl) ?_
  refine vl_nil ?_
  refine vc_cond rfl (fun hc0 => False.elim (by (try replace hc0 := of_decide_eq_true hc0); omega)) (fun hc0 => ?_)
  (try replace hc0 := of_decide_eq_false hc0)
  refine vc_skip ?_
  refine vc_seq ?_
  refine vc_draws [0, 1, 2, 3, 4, 5, 6, 7, 8, 9, 10, 11, 12] [] [0, 1, 2, 3, 4, 5, 6, 7, 8, 9, 10, 11, 12] rfl (by kernel_rfl) (fun _ _ _ h => h) ?_
  refine vd_val rfl rfl rfl (.some rfl) (val_move rfl) ?_
  refine vd_val rfl rfl rfl (.some rfl) (val_nil rfl rfl) ?_
  refine vd_val rfl rfl rfl (.some rfl) (by first | exact val_fieldAddr Try.runUnderlying176 rfl Try.sizeOf43 rfl | exact val_fieldAddrR Try.runUnderlying176 rfl Try.sizeOf43 rfl) ?_
  refine vd_val rfl rfl rfl (.some rfl) (val_load Try.isAgg43 rfl (by first | exact cell_cells (by repeat (first | exact .head | apply In.tail | apply Take.tail | apply Upd.tail)) rfl | exact cell_rd (rd_sl (by repeat (first | exact .head | apply In.tail | apply Take.tail | apply Upd.tail))) (by first | exact bcells_at (by omega) | exact ucells_at (by omega) | exact icells_at (by omega) | exact tcells_at (by omega) | exact bcells_get (by omega) | exact icells_get (by omega) | exact tcells_get (by omega) | exact ucells_get (by omega)) | exact cell_rd (rd_old (by assumption) rfl) (by first | exact bcells_at (by omega) | exact ucells_at (by omega) | exact icells_at (by omega) | exact tcells_at (by omega) | exact bcells_get (by omega) | exact icells_get (by omega) | exact tcells_get (by omega) | exact ucells_get (by omega)) | exact cell_old (by assumption) (by simp [fps]))) ?_
  refine vd_val rfl rfl rfl (.some rfl) (val_capSl Try.runUnderlying43 rfl) ?_
  refine vd_val rfl rfl rfl (.some rfl) (val_move rfl) ?_
  refine vd_val rfl rfl rfl (.some rfl) (val_nil rfl rfl) ?_
  refine vd_val rfl rfl rfl (.some rfl) (by first | exact val_fieldAddr Try.runUnderlying176 rfl Try.sizeOf43 rfl | exact val_fieldAddrR Try.runUnderlying176 rfl Try.sizeOf43 rfl) ?_
  refine vd_val rfl rfl rfl (.some rfl) (val_load Try.isAgg43 rfl (by first | exact cell_cells (by repeat (first | exact .head | apply In.tail | apply Take.tail | apply Upd.tail)) rfl | exact cell_rd (rd_sl (by repeat (first | exact .head | apply In.tail | apply Take.tail | apply Upd.tail))) (by first | exact bcells_at (by omega) | exact ucells_at (by omega) | exact icells_at (by omega) | exact tcells_at (by omega) | exact bcells_get (by omega) | exact icells_get (by omega) | exact tcells_get (by omega) | exact ucells_get (by omega)) | exact cell_rd (rd_old (by assumption) rfl) (by first | exact bcells_at (by omega) | exact ucells_at (by omega) | exact icells_at (by omega) | exact tcells_at (by omega) | exact bcells_get (by omega) | exact icells_get (by omega) | exact tcells_get (by omega) | exact ucells_get (by omega)) | exact cell_old (by assumption) (by simp [fps]))) ?_
  refine vd_val rfl rfl rfl (.some rfl) (val_lenSl Try.runUnderlying43 rfl) ?_
  refine vd_val rfl rfl rfl (.some rfl) (val_sub rfl rfl (by first | exact w_i64 (by omega) (by omega) | rfl)) ?_
  refine vd_val rfl rfl rfl (.some rfl) (val_move rfl) ?_
  refine vd_val rfl rfl rfl (.some rfl) (val_lt rfl rfl) ?_
  refine vd_nil ?_
  refine vc_cond rfl (fun hc1 => ?_) (fun hc1 => False.elim (by (try replace hc1 := of_decide_eq_false hc1); omega))
  (try replace hc1 := of_decide_eq_true hc1)
  refine vc_region ?_
  refine vl_val rfl (.some rfl) (val_move rfl) ?_
  refine vl_val rfl (.some rfl) (val_move rfl) ?_
  refine vl_call (C := [BC b (some ⟨b, 0, none⟩) none 0 0]) rfl rfl (.some rfl) Try.call170 rfl (by repeat (first | exact .nil | (apply Sub.cons; · repeat (first | exact .head | apply Take.tail)))) (fun w hw => bGrow0 b w) (fun v H' h => ?_)
  obtain ⟨g, c, hgc, rfl⟩ := h
  show VL _ _ _ _ _ (_ :: _ :: _)
  refine vl_nil ?_
  refine ⟨_, [BC b (some ⟨b, 0, none⟩) (some ⟨g, 0, none⟩) 0 c, sl (some ⟨g, 0, none⟩) 0 c 5 1 (bcells [])], _, res0 Try.results162, (by repeat (first | exact .nil | (apply Sub.cons; · repeat (first | exact .head | apply Take.tail)))), ?_⟩
  exact ⟨g, c, hgc, rfl⟩
set_option maxRecDepth 20000 in
theorem bWrite (b : Nat) (A : Option Addr) (c : Nat) (l : List UInt8) (hl : l.length ≤ 1000000) (s : ByteArray) (hs : s.size ≤ 1000000) (w : World) : Fn Try.prog 164 [.pointer (some ⟨b, 0, none⟩), .string s] [BC b (some ⟨b, 0, none⟩) A l.length c, sl A l.length c 5 1 (bcells l)] (ret fun u H' => ∃ A' c', H' = [BC b (some ⟨b, 0, none⟩) A' (l ++ s.data.toList).length c', sl A' (l ++ s.data.toList).length c' 5 1 (bcells (l ++ s.data.toList))]) w := by
  refine fn_enter Try.func164 rfl Try.ntmps164 rfl ?_
  refine vc_seq ?_
  refine vc_region ?_
  refine vl_val rfl (.some rfl) (val_assign rfl) ?_
  refine vl_val rfl (.some rfl) (val_assign rfl) ?_
  refine vl_nil ?_
  refine vc_seq ?_
  refine vc_region ?_
  refine vl_val rfl (.some rfl) (val_move rfl) ?_
  refine vl_callR [BC b (some ⟨b, 0, none⟩) A l.length c] rfl rfl (.some rfl) Try.call169 rfl (by repeat (first | exact .nil | (apply Sub.cons; · repeat (first | exact .head | apply Take.tail)))) (fun w hw => bCheck b A l.length c w) ?_
  refine vl_nil ?_
  refine vc_seq ?_
  refine vc_region ?_
  refine vl_val rfl (.some rfl) (val_move rfl) ?_
  refine vl_val rfl (.some rfl) (val_move rfl) ?_
  refine vl_val rfl (.some rfl) (val_nil rfl rfl) ?_
  refine vl_val rfl (.some rfl) (by first | exact val_fieldAddr Try.runUnderlying176 rfl Try.sizeOf43 rfl | exact val_fieldAddrR Try.runUnderlying176 rfl Try.sizeOf43 rfl) ?_
  refine vl_val rfl (.some rfl) (val_load Try.isAgg43 rfl (by first | exact cell_cells (by repeat (first | exact .head | apply In.tail | apply Take.tail | apply Upd.tail)) rfl | exact cell_rd (rd_sl (by repeat (first | exact .head | apply In.tail | apply Take.tail | apply Upd.tail))) (by first | exact bcells_at (by omega) | exact ucells_at (by omega) | exact icells_at (by omega) | exact tcells_at (by omega) | exact bcells_get (by omega) | exact icells_get (by omega) | exact tcells_get (by omega) | exact ucells_get (by omega)) | exact cell_rd (rd_old (by assumption) rfl) (by first | exact bcells_at (by omega) | exact ucells_at (by omega) | exact icells_at (by omega) | exact tcells_at (by omega) | exact bcells_get (by omega) | exact icells_get (by omega) | exact tcells_get (by omega) | exact ucells_get (by omega)) | exact cell_old (by assumption) (by simp [fps]))) ?_
  refine vl_val rfl (.some rfl) (val_move rfl) ?_
  refine vl_appendStr sT43 Try.underlying9 rfl rfl (.some rfl) rfl rfl (by omega) (by repeat (first | exact .head | apply In.tail | apply Take.tail | apply Upd.tail)) (fun A14 k14 => ?_)
  refine vl_val rfl (.some rfl) (val_nil rfl rfl) ?_
  refine vl_val rfl (.some rfl) (by first | exact val_fieldAddr Try.runUnderlying176 rfl Try.sizeOf43 rfl | exact val_fieldAddrR Try.runUnderlying176 rfl Try.sizeOf43 rfl) ?_
  first | refine vl_store rfl rfl .none rfl rfl Try.sizeOf43 rfl (by repeat (first | exact .head | apply In.tail | apply Take.tail | apply Upd.tail)) (by first | decide | exact Nat.le_refl _ | exact Nat.le_of_ble_eq_true rfl | (simp; omega)) ?_ | refine vl_storeSl rfl rfl .none rfl rfl Try.sizeOf43 rfl (by simp [Value.cells]) (by repeat (first | exact .head | apply In.tail | apply Take.tail | apply Upd.tail)) (by first | decide | (simp [Value.cells]; omega)) ?_
  refine vl_nil ?_
  refine vc_seq ?_
  refine vc_region ?_
  refine vl_val rfl (.some rfl) (val_move rfl) ?_
  refine vl_val rfl (.some rfl) (val_lenStr Try.runUnderlying9 rfl) ?_
  refine vl_val rfl (.some rfl) (val_assign rfl) ?_
  refine vl_val rfl (.some rfl) (val_assign rfl) ?_
  refine vl_nil ?_
  refine vc_ret ?_
  refine ⟨_, [BC b (some ⟨b, 0, none⟩) A14 (l.length + s.size) k14, sl A14 (l.length + s.size) k14 5 1 (bcells l ++ Lib.strCells s)], _, res2 Try.results164 rfl rfl, (by repeat (first | exact .nil | (apply Sub.cons; · repeat (first | exact .head | apply Take.tail)))), ?_⟩
  exact ⟨A14, k14, by rw [List.length_append, size_list, show bcells l ++ Lib.strCells s = bcells (l ++ s.data.toList) by simp [bcells, Lib.strCells]]⟩
set_option maxRecDepth 20000 in
theorem bString (b : Nat) (A : Option Addr) (c : Nat) (l : List UInt8) (h0 : l ≠ []) (hl : l.length ≤ 1000000) (w : World) : Fn Try.prog 166 [.pointer (some ⟨b, 0, none⟩)] [BC b (some ⟨b, 0, none⟩) A l.length c, sl A l.length c 5 1 (bcells l)] (ret fun u H' => u = .string ⟨l.toArray⟩) w := by
  refine fn_enter Try.func166 rfl Try.ntmps166 rfl ?_
  refine vc_seq ?_
  refine vc_region ?_
  refine vl_val rfl (.some rfl) (val_assign rfl) ?_
  refine vl_slSome (A := A) (n := l.length) (c := c) (e := 5) (sz := 1) (vs := bcells l) (by repeat (first | exact .head | apply In.tail | apply Take.tail | apply Upd.tail)) (fun e => h0 (List.length_eq_zero_iff.1 e)) (fun g hg hgc => ?_)
  subst hg
  have hlp : 0 < l.length := List.length_pos_iff.2 h0
  refine vl_nil ?_
  refine vc_seq ?_
  refine vc_drawsS [0, 1, 2, 3, 5, 6, 7, 8, 9, 11] [] [0, 1, 2, 3, 5, 6, 7, 8, 9, 4, 10, 11] [BC b (some ⟨b, 0, none⟩) (some ⟨g, 0, none⟩) l.length c] (by repeat (first | exact .nil | (apply Sub.cons; · repeat (first | exact .head | apply Take.tail)))) rfl (by kernel_rfl) (fun _ _ _ h => h) ?_
  refine vd_val rfl rfl rfl (.some rfl) (val_move rfl) ?_
  refine vd_val rfl rfl rfl (.some rfl) (val_nil rfl rfl) ?_
  refine vd_val rfl rfl rfl (.some rfl) (by first | exact val_fieldAddr Try.runUnderlying176 rfl Try.sizeOf43 rfl | exact val_fieldAddrR Try.runUnderlying176 rfl Try.sizeOf43 rfl) ?_
  refine vd_val rfl rfl rfl (.some rfl) (val_load Try.isAgg43 rfl (by first | exact cell_cells (by repeat (first | exact .head | apply In.tail | apply Take.tail | apply Upd.tail)) rfl | exact cell_rd (rd_sl (by repeat (first | exact .head | apply In.tail | apply Take.tail | apply Upd.tail))) (by first | exact bcells_at (by omega) | exact ucells_at (by omega) | exact icells_at (by omega) | exact tcells_at (by omega) | exact bcells_get (by omega) | exact icells_get (by omega) | exact tcells_get (by omega) | exact ucells_get (by omega)) | exact cell_rd (rd_old (by assumption) rfl) (by first | exact bcells_at (by omega) | exact ucells_at (by omega) | exact icells_at (by omega) | exact tcells_at (by omega) | exact bcells_get (by omega) | exact icells_get (by omega) | exact tcells_get (by omega) | exact ucells_get (by omega)) | exact cell_old (by assumption) (by simp [fps]))) ?_
  refine vd_val rfl rfl rfl (.some rfl) (val_move rfl) ?_
  refine vd_val rfl rfl rfl (.some rfl) (val_nil rfl rfl) ?_
  refine vd_val rfl rfl rfl (.some rfl) (by first | exact val_fieldAddr Try.runUnderlying176 rfl Try.sizeOf43 rfl | exact val_fieldAddrR Try.runUnderlying176 rfl Try.sizeOf43 rfl) ?_
  refine vd_val rfl rfl rfl (.some rfl) (val_load Try.isAgg43 rfl (by first | exact cell_cells (by repeat (first | exact .head | apply In.tail | apply Take.tail | apply Upd.tail)) rfl | exact cell_rd (rd_sl (by repeat (first | exact .head | apply In.tail | apply Take.tail | apply Upd.tail))) (by first | exact bcells_at (by omega) | exact ucells_at (by omega) | exact icells_at (by omega) | exact tcells_at (by omega) | exact bcells_get (by omega) | exact icells_get (by omega) | exact tcells_get (by omega) | exact ucells_get (by omega)) | exact cell_rd (rd_old (by assumption) rfl) (by first | exact bcells_at (by omega) | exact ucells_at (by omega) | exact icells_at (by omega) | exact tcells_at (by omega) | exact bcells_get (by omega) | exact icells_get (by omega) | exact tcells_get (by omega) | exact ucells_get (by omega)) | exact cell_old (by assumption) (by simp [fps]))) ?_
  refine vd_val rfl rfl rfl (.some rfl) (val_lenSl Try.runUnderlying43 rfl) ?_
  refine vd_op rfl rfl ?_
  refine vl_val rfl (.some rfl) (val_sliceData (c := c) (by omega) rfl) ?_
  refine vl_nil ?_
  refine ⟨fun _ => ⟨_, (by repeat (first | exact .nil | (apply Sub.cons; · repeat (first | exact .head | apply Take.tail))))⟩, ?_⟩
  refine vd_op rfl rfl ?_
  refine vl_unsafeStr rfl rfl (.some rfl) Try.underlying167 (by kernel_rfl) rfl rfl h0 (by omega) (by repeat (first | exact .head | apply In.tail | apply Take.tail | apply Upd.tail)) ?_
  refine vl_nil ?_
  refine ⟨fun _ => ⟨_, (by repeat (first | exact .nil | (apply Sub.cons; · repeat (first | exact .head | apply Take.tail))))⟩, ?_⟩
  refine vd_val rfl rfl rfl (.some rfl) (val_assign rfl) ?_
  refine vd_nil ?_
  refine vc_ret ?_
  refine ⟨_, [], _, res1 Try.results166 rfl, (by repeat (first | exact .nil | (apply Sub.cons; · repeat (first | exact .head | apply Take.tail)))), ?_⟩
  rfl

end Go.Proofs.Ytclknendeeljaaa.K
