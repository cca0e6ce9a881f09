/- Walks of the program's functions, printed by a program of this session; Lean checks them. -/
import Derived.Test.YtclnhfdgiaamhaaYug
namespace Go.Proofs.Ytclnhfdgiaamhaa.K
open Go Go.RowKit Go.Proofs
set_option linter.unusedVariables false
set_option linter.unusedSimpArgs false


/-! A disk that was never made. -/
abbrev ZD (z : Nat) : Chunk := cells z [.map none, .bool false, .int .i64 0, .slice none 0 0, .int .i64 0] 91

set_option maxRecDepth 20000 in
theorem nMade0 (z : Nat) (w : World) : FnR Try.prog 80 [.pointer none] [ZD z] (.bool false) w := by
  refine fn_enter Try.func80 rfl Try.ntmps80 rfl ?_
  refine vc_seq ?_
  refine vc_region ?_
  refine vl_val rfl (.some rfl) (val_assign rfl) ?_
  refine vl_nil ?_
  refine vc_seq ?_
  refine vc_region ?_
  refine vl_val rfl (.some rfl) (val_move rfl) ?_
  refine vl_val rfl (.some rfl) (val_opO rfl rfl guard_ptr (bin_nil_ne Try.runUnderlying64)) ?_
  refine vl_val rfl (.some rfl) (val_move rfl) ?_
  refine vl_off rfl rfl rfl rfl (.some rfl) ?_
  refine vl_off rfl rfl rfl rfl (.some rfl) ?_
  refine vl_off rfl rfl rfl rfl (.some rfl) ?_
  refine vl_off rfl rfl rfl rfl (.some rfl) ?_
  refine vl_off rfl rfl rfl rfl (.some rfl) ?_
  refine vl_val rfl (.some rfl) (val_pick rfl rfl) ?_
  refine vl_val rfl (.some rfl) (val_assign rfl) ?_
  refine vl_nil ?_
  refine vc_ret ?_
  refine ⟨_, [ZD z], _, res1 Try.results80 rfl, (by repeat constructor), ?_⟩
  exact ⟨rfl, rfl⟩
set_option maxRecDepth 20000 in
theorem nMade1 (z : Nat) (w : World) : FnR Try.prog 80 [.pointer (some ⟨z, 0, none⟩)] [ZD z] (.bool false) w := by
  refine fn_enter Try.func80 rfl Try.ntmps80 rfl ?_
  refine vc_seq ?_
  refine vc_region ?_
  refine vl_val rfl (.some rfl) (val_assign rfl) ?_
  refine vl_nil ?_
  refine vc_seq ?_
  refine vc_region ?_
  refine vl_val rfl (.some rfl) (val_move rfl) ?_
  refine vl_val rfl (.some rfl) (val_opO rfl rfl guard_ptr (bin_ptr_ne Try.runUnderlying64)) ?_
  refine vl_val rfl (.some rfl) (val_move rfl) ?_
  refine vl_on rfl rfl rfl rfl ?_
  refine vl_val rfl (.some rfl) (val_move rfl) ?_
  refine vl_on rfl rfl rfl rfl ?_
  refine vl_val rfl (.some rfl) (val_nil rfl rfl) ?_
  refine vl_on rfl rfl rfl rfl ?_
  refine vl_val rfl (.some rfl) (by first | exact val_fieldAddr Try.runUnderlying91 rfl Try.sizeOf89 rfl | exact val_fieldAddrR Try.runUnderlying91 rfl Try.sizeOf89 rfl) ?_
  refine vl_on rfl rfl rfl rfl ?_
  refine vl_val rfl (.some rfl) (val_load Try.isAgg89 rfl (by first | exact cell_cells (by repeat constructor) rfl | exact cell_rd (by first | exact rd_sl (by repeat constructor) | exact rd_old (by assumption) rfl) (by first | exact bcells_at (by omega) | exact ucells_at (by omega) | exact icells_at (by omega) | exact tcells_at (by omega) | exact bcells_get (by omega) | exact icells_get (by omega) | exact tcells_get (by omega) | exact ucells_get (by omega)) | exact cell_old (by assumption) (by simp [fps]))) ?_
  refine vl_on rfl rfl rfl rfl ?_
  refine vl_val rfl (.some rfl) (val_opO rfl rfl guard_map (bin_nilmap_ne Try.runUnderlying89)) ?_
  refine vl_val rfl (.some rfl) (val_pick rfl rfl) ?_
  refine vl_val rfl (.some rfl) (val_assign rfl) ?_
  refine vl_nil ?_
  refine vc_ret ?_
  refine ⟨_, [ZD z], _, res1 Try.results80 rfl, (by repeat constructor), ?_⟩
  exact ⟨rfl, rfl⟩
set_option maxRecDepth 20000 in
theorem nIns (A : Option Addr) (c : Nat) (w : World) : Fn Try.prog 132 [.slice A 0 c, .int .i64 0, .int .i64 0] [] (ret fun v H' => H' = []) w := by
  refine fn_enter Try.func132 rfl Try.ntmps132 rfl ?_
  refine vc_seq ?_
  refine vc_region ?_
  refine vl_val rfl (.some rfl) (val_move rfl) ?_
  refine vl_val rfl (.some rfl) (val_add rfl rfl (by first | exact w_i64 (by omega) (by omega) | rfl)) ?_
  refine vl_val rfl (.some rfl) (val_assign rfl) ?_
  refine vl_nil ?_
  refine vc_block ?_
  refine vc_loopw (fun m E H => E = [(0, .slice A 0 c), (1, .int .i64 0), (2, .int .i64 0), (6, .int .i64 1)] ∧ H = []) (0) ⟨_, _, _, ⟨rfl, rfl⟩, (by repeat (first | exact trivial | refine ⟨rfl, ?_⟩ | refine ⟨le_item rfl (by first | rfl | (congr 1; omega) | (simp; done) | (simp; omega)), ?_⟩)), (by repeat constructor)⟩ ?_
  intro m E H hI
  obtain ⟨rfl, rfl⟩ := hI
  refine vc_seq ?_
  refine vc_seq ?_
  refine vc_region ?_
  refine vl_val rfl (.some rfl) (val_move rfl) ?_
  refine vl_val rfl (.some rfl) (val_move rfl) ?_
  refine vl_val rfl (.some rfl) (val_lt rfl rfl) ?_
  refine vl_nil ?_
  refine vc_cond rfl (fun hc0 => False.elim (by (try replace hc0 := of_decide_eq_true hc0); revert hc0; decide)) (fun hc0 => ?_)
  (try replace hc0 := of_decide_eq_false hc0)
  refine vc_exit ?_
  refine ⟨_, [], _, res0 Try.results132, (by repeat constructor), ?_⟩
  exact rfl
set_option maxRecDepth 20000 in
theorem nPdq (A : Option Addr) (c : Nat) (lim : Int) (w : World) : Fn Try.prog 117 [.slice A 0 c, .int .i64 0, .int .i64 0, .int .i64 lim] [] (ret fun v H' => H' = []) w := by
  refine fn_enter Try.func117 rfl Try.ntmps117 rfl ?_
  refine vc_seq ?_
  refine vc_region ?_
  refine vl_val rfl (.some rfl) (val_assign rfl) ?_
  refine vl_nil ?_
  refine vc_seq ?_
  refine vc_region ?_
  refine vl_val rfl (.some rfl) (val_assign rfl) ?_
  refine vl_nil ?_
  refine vc_block ?_
  refine vc_loopw (fun m E H => E = [(0, .slice A 0 c), (1, .int .i64 0), (2, .int .i64 0), (3, .int .i64 lim)] ∧ H = []) (0) ⟨_, _, _, ⟨rfl, rfl⟩, (by repeat (first | exact trivial | refine ⟨rfl, ?_⟩ | refine ⟨le_item rfl (by first | rfl | (congr 1; omega) | (simp; done) | (simp; omega)), ?_⟩)), (by repeat constructor)⟩ ?_
  intro m E H hI
  obtain ⟨rfl, rfl⟩ := hI
  refine vc_block ?_
  refine vc_seq ?_
  refine vc_region ?_
  refine vl_val rfl (.some rfl) (val_move rfl) ?_
  refine vl_val rfl (.some rfl) (val_move rfl) ?_
  refine vl_val rfl (.some rfl) (val_sub rfl rfl (by first | exact w_i64 (by omega) (by omega) | rfl)) ?_
  refine vl_val rfl (.some rfl) (val_assign rfl) ?_
  refine vl_nil ?_
  refine vc_seq ?_
  refine vc_seq ?_
  refine vc_region ?_
  refine vl_val rfl (.some rfl) (val_move rfl) ?_
  refine vl_val rfl (.some rfl) (val_le rfl rfl) ?_
  refine vl_nil ?_
  refine vc_cond rfl (fun hc0 => ?_) (fun hc0 => False.elim (by (try replace hc0 := of_decide_eq_false hc0); revert hc0; decide))
  (try replace hc0 := of_decide_eq_true hc0)
  refine vc_seq ?_
  refine vc_region ?_
  refine vl_val rfl (.some rfl) (val_move rfl) ?_
  refine vl_val rfl (.some rfl) (val_move rfl) ?_
  refine vl_val rfl (.some rfl) (val_move rfl) ?_
  refine vl_call (C := []) rfl rfl (.some rfl) Try.call132 rfl .nil (fun w hw => nIns A c w) (fun v H' h => ?_)
  obtain rfl := h
  show VL _ _ _ _ _ _
  refine vl_nil ?_
  refine vc_ret ?_
  refine ⟨_, [], _, res0 Try.results117, (by repeat constructor), ?_⟩
  exact rfl
set_option maxRecDepth 20000 in
theorem nLen64 (w : World) : Fn Try.prog 142 [.int .u64 0] [] (ret fun v H' => ∃ n, v = .int .i64 n ∧ H' = []) w := by
  refine fn_enter Try.func142 rfl Try.ntmps142 rfl ?_
  refine vc_seq ?_
  refine vc_region ?_
  refine vl_val rfl (.some rfl) (val_assign rfl) ?_
  refine vl_nil ?_
  refine vc_seq ?_
  refine vc_seq ?_
  refine vc_region ?_
  refine vl_val rfl (.some rfl) (val_move rfl) ?_
  refine vl_val rfl (.some rfl) (val_ge rfl rfl) ?_
  refine vl_nil ?_
  refine vc_cond rfl (fun hc0 => False.elim (by (try replace hc0 := of_decide_eq_true hc0); revert hc0; decide)) (fun hc0 => ?_)
  (try replace hc0 := of_decide_eq_false hc0)
  refine vc_skip ?_
  refine vc_seq ?_
  refine vc_seq ?_
  refine vc_region ?_
  refine vl_val rfl (.some rfl) (val_move rfl) ?_
  refine vl_val rfl (.some rfl) (val_ge rfl rfl) ?_
  refine vl_nil ?_
  refine vc_cond rfl (fun hc1 => False.elim (by (try replace hc1 := of_decide_eq_true hc1); revert hc1; decide)) (fun hc1 => ?_)
  (try replace hc1 := of_decide_eq_false hc1)
  refine vc_skip ?_
  refine vc_seq ?_
  refine vc_seq ?_
  refine vc_region ?_
  refine vl_val rfl (.some rfl) (val_move rfl) ?_
  refine vl_val rfl (.some rfl) (val_ge rfl rfl) ?_
  refine vl_nil ?_
  refine vc_cond rfl (fun hc2 => False.elim (by (try replace hc2 := of_decide_eq_true hc2); revert hc2; decide)) (fun hc2 => ?_)
  (try replace hc2 := of_decide_eq_false hc2)
  refine vc_skip ?_
  refine vc_seq ?_
  refine vc_region ?_
  refine vl_val rfl (.some rfl) (val_move rfl) ?_
  refine vl_val rfl (.some rfl) (val_move rfl) ?_
  refine vl_val rfl (.some rfl) (val_convInt Try.runUnderlying23 Try.runUnderlying5 rfl (w_u8 (by omega) (by omega))) ?_
  refine vl_val rfl (.some rfl) (val_indexStr Try.runUnderlying9 rfl rfl (by omega) (by decide +kernel)) ?_
  refine vl_val rfl (.some rfl) (val_convInt Try.runUnderlying5 Try.runUnderlying3 rfl rfl) ?_
  refine vl_val rfl (.some rfl) (val_add rfl rfl (by first | exact w_i64 (by omega) (by omega) | rfl)) ?_
  refine vl_val rfl (.some rfl) (val_assign rfl) ?_
  refine vl_nil ?_
  refine vc_ret ?_
  refine ⟨_, [], _, res1 Try.results142 rfl, (by repeat constructor), ?_⟩
  exact ⟨_, rfl, rfl⟩
set_option maxRecDepth 20000 in
theorem nLen (w : World) : Fn Try.prog 118 [.int .u64 0] [] (ret fun v H' => ∃ n, v = .int .i64 n ∧ H' = []) w := by
  refine fn_enter Try.func118 rfl Try.ntmps118 rfl ?_
  refine vc_seq ?_
  refine vc_region ?_
  refine vl_val rfl (.some rfl) (val_assign rfl) ?_
  refine vl_nil ?_
  refine vc_seq ?_
  refine vc_cond rfl (fun h => by cases h) (fun _ => ?_)
  refine vc_skip ?_
  refine vc_seq ?_
  refine vc_region ?_
  refine vl_val rfl (.some rfl) (val_move rfl) ?_
  refine vl_call (C := []) rfl rfl (.some rfl) Try.call142 rfl .nil (fun w hw => nLen64 w) (fun v H' h => ?_)
  obtain ⟨n, rfl, rfl⟩ := h
  show VL _ _ _ _ _ _
  refine vl_val rfl (.some rfl) (val_assign rfl) ?_
  refine vl_nil ?_
  refine vc_ret ?_
  refine ⟨_, [], _, res1 Try.results118 rfl, (by repeat constructor), ?_⟩
  exact ⟨_, rfl, rfl⟩
set_option maxRecDepth 20000 in
theorem nSort (A : Option Addr) (c : Nat) (w : World) : Fn Try.prog 83 [.slice A 0 c] [] (ret fun v H' => H' = []) w := by
  refine fn_enter Try.func83 rfl Try.ntmps83 rfl ?_
  refine vc_seq ?_
  refine vc_region ?_
  refine vl_val rfl (.some rfl) (val_move rfl) ?_
  refine vl_val rfl (.some rfl) (val_lenSl Try.runUnderlying37 rfl) ?_
  refine vl_val rfl (.some rfl) (val_assign rfl) ?_
  refine vl_nil ?_
  refine vc_region ?_
  refine vl_val rfl (.some rfl) (val_move rfl) ?_
  refine vl_val rfl (.some rfl) (val_move rfl) ?_
  refine vl_val rfl (.some rfl) (val_move rfl) ?_
  refine vl_val rfl (.some rfl) (val_convInt Try.runUnderlying3 Try.runUnderlying59 rfl (by first | exact w_u64 (by omega) (by omega) | rfl)) ?_
  refine vl_call (C := []) rfl rfl (.some rfl) Try.call118 rfl .nil (fun w hw => nLen w) (fun v H' h => ?_)
  obtain ⟨lim, rfl, rfl⟩ := h
  show VL _ _ _ _ _ _
  refine vl_call (C := []) rfl rfl (.some rfl) Try.call117 rfl .nil (fun w hw => nPdq A c lim w) (fun v H' h => ?_)
  obtain rfl := h
  show VL _ _ _ _ _ _
  refine vl_nil ?_
  refine ⟨_, [], _, res0 Try.results83, (by repeat constructor), ?_⟩
  exact rfl




theorem nMade (p : Option Addr) (z : Nat) (hq : p = none ∨ p = some ⟨z, 0, none⟩) (w : World) : FnR Try.prog 80 [.pointer p] [ZD z] (.bool false) w := by
  rcases hq with rfl | rfl
  · exact nMade0 z w
  · exact nMade1 z w

set_option maxRecDepth 20000 in
theorem nMay (p : Option Addr) (z : Nat) (hq : p = none ∨ p = some ⟨z, 0, none⟩) (ws : Value) (w : World) : FnR Try.prog 73 [.pointer p, ws] [ZD z] (.int .i64 1) w := by
  refine fn_enter Try.func73 rfl Try.ntmps73 rfl ?_
  refine vc_seq ?_
  refine vc_region ?_
  refine vl_val rfl (.some rfl) (val_assign rfl) ?_
  refine vl_nil ?_
  refine vc_seq ?_
  refine vc_block ?_
  refine vc_seq ?_
  refine vc_region ?_
  refine vl_val rfl (.some rfl) (val_move rfl) ?_
  refine vl_callR [ZD z] rfl rfl (.some rfl) Try.call80 rfl (by repeat constructor) (fun w hw => nMade p z hq w) ?_
  refine vl_val rfl (.some rfl) (val_not rfl) ?_
  refine vl_val rfl (.some rfl) (val_assign rfl) ?_
  refine vl_nil ?_
  refine vc_cond rfl (fun _ => ?_) (fun h => by cases h)
  refine vc_seq ?_
  refine vc_region ?_
  refine vl_val rfl (.some rfl) (val_assign rfl) ?_
  refine vl_nil ?_
  refine vc_ret ?_
  refine ⟨_, [ZD z], _, res1 Try.results73 rfl, (by repeat constructor), ?_⟩
  exact ⟨rfl, rfl⟩
set_option maxRecDepth 20000 in
theorem nOf (p : Option Addr) (z : Nat) (hq : p = none ∨ p = some ⟨z, 0, none⟩) (s : ByteArray) (O : Option Addr) (on oc : Nat) (us : List Value) (hul : us.length = on) (hus : us.all (·.oneCell') = true) (hon : on ≤ 5) (w : World) : FnR Try.prog 76 [.pointer p, .string s, .slice O on oc] [ZD z, sl O on oc 9 1 us] (.tuple #[.pointer none, .int .i64 1]) w := by
  refine fn_enter Try.func76 rfl Try.ntmps76 rfl ?_
  refine vc_seq ?_
  refine vc_region ?_
  refine vl_val rfl (.some rfl) (val_assign rfl) ?_
  refine vl_val rfl (.some rfl) (val_assign rfl) ?_
  refine vl_nil ?_
  refine vc_seq ?_
  refine vc_seq ?_
  refine vc_region ?_
  refine vl_val rfl (.some rfl) (val_move rfl) ?_
  refine vl_val rfl (.some rfl) (val_move rfl) ?_
  refine vl_lit sT37 rfl rfl (.some rfl) rfl rfl rfl (by decide) (by decide) rfl (flat_one rfl) (fun r12 => ?_)
  refine vl_val rfl (.some rfl) (val_move rfl) ?_
  refine vl_append (vs := [.string s]) (us := us) sT37 rfl rfl (.some rfl) rfl rfl (rd_sl (by repeat constructor)) (by omega) hus (by omega) (by omega) (by repeat constructor) (fun A14 k14 => ?_)
  refine vl_callR [ZD z] rfl rfl (.some rfl) Try.call73 rfl (by repeat constructor) (fun w hw => nMay p z hq _ w) ?_
  refine vl_val rfl (.some rfl) (val_assign rfl) ?_
  refine vl_nil ?_
  refine vc_seq ?_
  refine vc_region ?_
  refine vl_val rfl (.some rfl) (val_move rfl) ?_
  refine vl_val rfl (.some rfl) (val_ne rfl rfl) ?_
  refine vl_nil ?_
  refine vc_cond rfl (fun hc0 => ?_) (fun hc0 => False.elim (by (try replace hc0 := of_decide_eq_false hc0); exact hc0 (by decide)))
  (try replace hc0 := of_decide_eq_true hc0)
  refine vc_seq ?_
  refine vc_region ?_
  refine vl_val rfl (.some rfl) (val_move rfl) ?_
  refine vl_val rfl (.some rfl) (val_assign rfl) ?_
  refine vl_val rfl (.some rfl) (val_assign rfl) ?_
  refine vl_nil ?_
  refine vc_ret ?_
  refine ⟨_, [ZD z, sl O on oc 9 1 us], _, res2 Try.results76 rfl rfl, (by repeat constructor), ?_⟩
  exact ⟨rfl, rfl⟩
set_option maxRecDepth 20000 in
theorem nCreate (p : Option Addr) (z : Nat) (hq : p = none ∨ p = some ⟨z, 0, none⟩) (s : ByteArray) (w : World) : FnR Try.prog 34 [.pointer p, .string s] [ZD z] (.int .i64 1) w := by
  refine fn_enter Try.func34 rfl Try.ntmps34 rfl ?_
  refine vc_seq ?_
  refine vc_region ?_
  refine vl_box rfl rfl (.some rfl) rfl (fun r2 => ?_)
  refine vl_box rfl rfl (.some rfl) rfl (fun r3 => ?_)
  refine vl_val rfl (.some rfl) (val_assign rfl) ?_
  refine vl_nil ?_
  refine vc_seq ?_
  refine vc_seq ?_
  refine vc_region ?_
  refine vl_val rfl (.some rfl) (val_load Try.isAgg64 rfl (by first | exact cell_cells (by repeat constructor) rfl | exact cell_rd (by first | exact rd_sl (by repeat constructor) | exact rd_old (by assumption) rfl) (by first | exact bcells_at (by omega) | exact ucells_at (by omega) | exact icells_at (by omega) | exact tcells_at (by omega) | exact bcells_get (by omega) | exact icells_get (by omega) | exact tcells_get (by omega) | exact ucells_get (by omega)) | exact cell_old (by assumption) (by simp [fps]))) ?_
  refine vl_val rfl (.some rfl) (val_load Try.isAgg9 rfl (by first | exact cell_cells (by repeat constructor) rfl | exact cell_rd (by first | exact rd_sl (by repeat constructor) | exact rd_old (by assumption) rfl) (by first | exact bcells_at (by omega) | exact ucells_at (by omega) | exact icells_at (by omega) | exact tcells_at (by omega) | exact bcells_get (by omega) | exact icells_get (by omega) | exact tcells_get (by omega) | exact ucells_get (by omega)) | exact cell_old (by assumption) (by simp [fps]))) ?_
  refine vl_lit sT37 rfl rfl (.some rfl) rfl rfl rfl (by decide) (by decide) rfl (flat_one rfl) (fun r8 => ?_)
  refine vl_callR [ZD z] rfl rfl (.some rfl) Try.call73 rfl (by repeat constructor) (fun w hw => nMay p z hq _ w) ?_
  refine vl_val rfl (.some rfl) (val_assign rfl) ?_
  refine vl_nil ?_
  refine vc_seq ?_
  refine vc_region ?_
  refine vl_val rfl (.some rfl) (val_move rfl) ?_
  refine vl_val rfl (.some rfl) (val_ne rfl rfl) ?_
  refine vl_nil ?_
  refine vc_cond rfl (fun hc0 => ?_) (fun hc0 => False.elim (by (try replace hc0 := of_decide_eq_false hc0); exact hc0 (by decide)))
  (try replace hc0 := of_decide_eq_true hc0)
  refine vc_seq ?_
  refine vc_region ?_
  refine vl_val rfl (.some rfl) (val_move rfl) ?_
  refine vl_val rfl (.some rfl) (val_assign rfl) ?_
  refine vl_nil ?_
  refine vc_ret ?_
  refine ⟨_, [ZD z], _, res1 Try.results34 rfl, (by repeat constructor), ?_⟩
  exact ⟨rfl, rfl⟩
set_option maxRecDepth 20000 in
theorem nWrite (p : Option Addr) (z : Nat) (hq : p = none ∨ p = some ⟨z, 0, none⟩) (s : ByteArray) (B : Value) (w : World) : FnR Try.prog 35 [.pointer p, .string s, B] [ZD z] (.int .i64 1) w := by
  refine fn_enter Try.func35 rfl Try.ntmps35 rfl ?_
  refine vc_seq ?_
  refine vc_region ?_
  refine vl_val rfl (.some rfl) (val_assign rfl) ?_
  refine vl_nil ?_
  refine vc_seq ?_
  refine vc_region ?_
  refine vl_val rfl (.some rfl) (val_move rfl) ?_
  refine vl_val rfl (.some rfl) (val_move rfl) ?_
  refine vl_nilSl 9 1 ?_
  refine vl_callR [ZD z, sl none 0 0 9 1 []] rfl rfl (.some rfl) Try.call76 rfl (by repeat constructor) (fun w hw => nOf p z hq s none 0 0 [] rfl rfl (by decide) w) ?_
  refine vl_val rfl (.some rfl) (val_move rfl) ?_
  refine vl_val rfl (.some rfl) (val_extract rfl rfl) ?_
  refine vl_val rfl (.some rfl) (val_extract rfl rfl) ?_
  refine vl_val rfl (.some rfl) (val_assign rfl) ?_
  refine vl_val rfl (.some rfl) (val_assign rfl) ?_
  refine vl_nil ?_
  refine vc_seq ?_
  refine vc_block ?_
  refine vc_seq ?_
  refine vc_region ?_
  refine vl_val rfl (.some rfl) (val_move rfl) ?_
  refine vl_val rfl (.some rfl) (val_ne rfl rfl) ?_
  refine vl_val rfl (.some rfl) (val_assign rfl) ?_
  refine vl_nil ?_
  refine vc_cond rfl (fun hc0 => ?_) (fun hc0 => False.elim (by (try replace hc0 := of_decide_eq_false hc0); exact hc0 (by decide)))
  (try replace hc0 := of_decide_eq_true hc0)
  refine vc_seq ?_
  refine vc_region ?_
  refine vl_val rfl (.some rfl) (val_move rfl) ?_
  refine vl_val rfl (.some rfl) (val_assign rfl) ?_
  refine vl_nil ?_
  refine vc_ret ?_
  refine ⟨_, [ZD z], _, res1 Try.results35 rfl, (by repeat constructor), ?_⟩
  exact ⟨rfl, rfl⟩
set_option maxRecDepth 20000 in
theorem nSync (p : Option Addr) (z : Nat) (hq : p = none ∨ p = some ⟨z, 0, none⟩) (s : ByteArray) (w : World) : FnR Try.prog 36 [.pointer p, .string s] [ZD z] (.int .i64 1) w := by
  refine fn_enter Try.func36 rfl Try.ntmps36 rfl ?_
  refine vc_seq ?_
  refine vc_region ?_
  refine vl_val rfl (.some rfl) (val_assign rfl) ?_
  refine vl_nil ?_
  refine vc_seq ?_
  refine vc_region ?_
  refine vl_val rfl (.some rfl) (val_move rfl) ?_
  refine vl_val rfl (.some rfl) (val_move rfl) ?_
  refine vl_nilSl 9 1 ?_
  refine vl_callR [ZD z, sl none 0 0 9 1 []] rfl rfl (.some rfl) Try.call76 rfl (by repeat constructor) (fun w hw => nOf p z hq s none 0 0 [] rfl rfl (by decide) w) ?_
  refine vl_val rfl (.some rfl) (val_move rfl) ?_
  refine vl_val rfl (.some rfl) (val_extract rfl rfl) ?_
  refine vl_val rfl (.some rfl) (val_extract rfl rfl) ?_
  refine vl_alloc rfl rfl (.some rfl) Try.zeroValue136 (fun r5 => ?_)
  first | refine vl_store rfl rfl .none rfl rfl Try.sizeOf136 rfl (by repeat constructor) (by first | decide | exact Nat.le_refl _ | exact Nat.le_of_ble_eq_true rfl | (simp; omega)) ?_ | refine vl_storeSl rfl rfl .none rfl rfl Try.sizeOf136 rfl (by simp [Value.cells]) (by repeat constructor) (by first | decide | (simp [Value.cells]; omega)) ?_
  refine vl_val rfl (.some rfl) (val_assign rfl) ?_
  refine vl_nil ?_
  refine vc_seq ?_
  refine vc_seq ?_
  refine vc_region ?_
  refine vl_val rfl (.some rfl) (val_move rfl) ?_
  refine vl_val rfl (.some rfl) (val_ne rfl rfl) ?_
  refine vl_nil ?_
  refine vc_cond rfl (fun hc0 => ?_) (fun hc0 => False.elim (by (try replace hc0 := of_decide_eq_false hc0); exact hc0 (by decide)))
  (try replace hc0 := of_decide_eq_true hc0)
  refine vc_seq ?_
  refine vc_region ?_
  refine vl_val rfl (.some rfl) (val_move rfl) ?_
  refine vl_val rfl (.some rfl) (val_assign rfl) ?_
  refine vl_nil ?_
  refine vc_ret ?_
  refine ⟨_, [ZD z], _, res1 Try.results36 rfl, (by repeat constructor), ?_⟩
  exact ⟨rfl, rfl⟩
set_option maxRecDepth 20000 in
theorem nRemove (p : Option Addr) (z : Nat) (hq : p = none ∨ p = some ⟨z, 0, none⟩) (s : ByteArray) (w : World) : FnR Try.prog 47 [.pointer p, .string s] [ZD z] (.int .i64 1) w := by
  refine fn_enter Try.func47 rfl Try.ntmps47 rfl ?_
  refine vc_seq ?_
  refine vc_region ?_
  refine vl_box rfl rfl (.some rfl) rfl (fun r2 => ?_)
  refine vl_box rfl rfl (.some rfl) rfl (fun r3 => ?_)
  refine vl_val rfl (.some rfl) (val_assign rfl) ?_
  refine vl_nil ?_
  refine vc_seq ?_
  refine vc_seq ?_
  refine vc_region ?_
  refine vl_val rfl (.some rfl) (val_load Try.isAgg64 rfl (by first | exact cell_cells (by repeat constructor) rfl | exact cell_rd (by first | exact rd_sl (by repeat constructor) | exact rd_old (by assumption) rfl) (by first | exact bcells_at (by omega) | exact ucells_at (by omega) | exact icells_at (by omega) | exact tcells_at (by omega) | exact bcells_get (by omega) | exact icells_get (by omega) | exact tcells_get (by omega) | exact ucells_get (by omega)) | exact cell_old (by assumption) (by simp [fps]))) ?_
  refine vl_val rfl (.some rfl) (val_load Try.isAgg9 rfl (by first | exact cell_cells (by repeat constructor) rfl | exact cell_rd (by first | exact rd_sl (by repeat constructor) | exact rd_old (by assumption) rfl) (by first | exact bcells_at (by omega) | exact ucells_at (by omega) | exact icells_at (by omega) | exact tcells_at (by omega) | exact bcells_get (by omega) | exact icells_get (by omega) | exact tcells_get (by omega) | exact ucells_get (by omega)) | exact cell_old (by assumption) (by simp [fps]))) ?_
  refine vl_nilSl 9 1 ?_
  refine vl_callR [ZD z, sl none 0 0 9 1 []] rfl rfl (.some rfl) Try.call76 rfl (by repeat constructor) (fun w hw => nOf p z hq s none 0 0 [] rfl rfl (by decide) w) ?_
  refine vl_val rfl (.some rfl) (val_move rfl) ?_
  refine vl_val rfl (.some rfl) (val_extract rfl rfl) ?_
  refine vl_val rfl (.some rfl) (val_extract rfl rfl) ?_
  refine vl_val rfl (.some rfl) (val_assign rfl) ?_
  refine vl_val rfl (.some rfl) (val_assign rfl) ?_
  refine vl_nil ?_
  refine vc_seq ?_
  refine vc_region ?_
  refine vl_val rfl (.some rfl) (val_move rfl) ?_
  refine vl_val rfl (.some rfl) (val_ne rfl rfl) ?_
  refine vl_nil ?_
  refine vc_cond rfl (fun hc0 => ?_) (fun hc0 => False.elim (by (try replace hc0 := of_decide_eq_false hc0); exact hc0 (by decide)))
  (try replace hc0 := of_decide_eq_true hc0)
  refine vc_seq ?_
  refine vc_region ?_
  refine vl_val rfl (.some rfl) (val_move rfl) ?_
  refine vl_val rfl (.some rfl) (val_assign rfl) ?_
  refine vl_nil ?_
  refine vc_ret ?_
  refine ⟨_, [ZD z], _, res1 Try.results47 rfl, (by repeat constructor), ?_⟩
  exact ⟨rfl, rfl⟩
set_option maxRecDepth 20000 in
theorem nSpoil (p : Option Addr) (z : Nat) (hq : p = none ∨ p = some ⟨z, 0, none⟩) (s : ByteArray) (x y : Value) (w : World) : FnR Try.prog 48 [.pointer p, .string s, x, y] [ZD z] (.int .i64 1) w := by
  refine fn_enter Try.func48 rfl Try.ntmps48 rfl ?_
  refine vc_seq ?_
  refine vc_region ?_
  refine vl_val rfl (.some rfl) (val_assign rfl) ?_
  refine vl_nil ?_
  refine vc_seq ?_
  refine vc_region ?_
  refine vl_val rfl (.some rfl) (val_move rfl) ?_
  refine vl_val rfl (.some rfl) (val_move rfl) ?_
  refine vl_nilSl 9 1 ?_
  refine vl_callR [ZD z, sl none 0 0 9 1 []] rfl rfl (.some rfl) Try.call76 rfl (by repeat constructor) (fun w hw => nOf p z hq s none 0 0 [] rfl rfl (by decide) w) ?_
  refine vl_val rfl (.some rfl) (val_move rfl) ?_
  refine vl_val rfl (.some rfl) (val_extract rfl rfl) ?_
  refine vl_val rfl (.some rfl) (val_extract rfl rfl) ?_
  refine vl_val rfl (.some rfl) (val_assign rfl) ?_
  refine vl_val rfl (.some rfl) (val_assign rfl) ?_
  refine vl_nil ?_
  refine vc_seq ?_
  refine vc_block ?_
  refine vc_seq ?_
  refine vc_region ?_
  refine vl_val rfl (.some rfl) (val_move rfl) ?_
  refine vl_val rfl (.some rfl) (val_ne rfl rfl) ?_
  refine vl_val rfl (.some rfl) (val_assign rfl) ?_
  refine vl_nil ?_
  refine vc_cond rfl (fun hc0 => ?_) (fun hc0 => False.elim (by (try replace hc0 := of_decide_eq_false hc0); exact hc0 (by decide)))
  (try replace hc0 := of_decide_eq_true hc0)
  refine vc_seq ?_
  refine vc_region ?_
  refine vl_val rfl (.some rfl) (val_move rfl) ?_
  refine vl_val rfl (.some rfl) (val_assign rfl) ?_
  refine vl_nil ?_
  refine vc_ret ?_
  refine ⟨_, [ZD z], _, res1 Try.results48 rfl, (by repeat constructor), ?_⟩
  exact ⟨rfl, rfl⟩
set_option maxRecDepth 20000 in
theorem nRead (p : Option Addr) (z : Nat) (hq : p = none ∨ p = some ⟨z, 0, none⟩) (s : ByteArray) (w : World) : FnR Try.prog 40 [.pointer p, .string s] [ZD z] (.tuple #[.slice none 0 0, .int .i64 1]) w := by
  refine fn_enter Try.func40 rfl Try.ntmps40 rfl ?_
  refine vc_seq ?_
  refine vc_region ?_
  refine vl_val rfl (.some rfl) (val_assign rfl) ?_
  refine vl_val rfl (.some rfl) (val_assign rfl) ?_
  refine vl_nil ?_
  refine vc_seq ?_
  refine vc_region ?_
  refine vl_val rfl (.some rfl) (val_move rfl) ?_
  refine vl_val rfl (.some rfl) (val_move rfl) ?_
  refine vl_nilSl 9 1 ?_
  refine vl_callR [ZD z, sl none 0 0 9 1 []] rfl rfl (.some rfl) Try.call76 rfl (by repeat constructor) (fun w hw => nOf p z hq s none 0 0 [] rfl rfl (by decide) w) ?_
  refine vl_val rfl (.some rfl) (val_move rfl) ?_
  refine vl_val rfl (.some rfl) (val_extract rfl rfl) ?_
  refine vl_val rfl (.some rfl) (val_extract rfl rfl) ?_
  refine vl_val rfl (.some rfl) (val_assign rfl) ?_
  refine vl_val rfl (.some rfl) (val_assign rfl) ?_
  refine vl_nil ?_
  refine vc_seq ?_
  refine vc_seq ?_
  refine vc_region ?_
  refine vl_val rfl (.some rfl) (val_move rfl) ?_
  refine vl_val rfl (.some rfl) (val_ne rfl rfl) ?_
  refine vl_nil ?_
  refine vc_cond rfl (fun hc0 => ?_) (fun hc0 => False.elim (by (try replace hc0 := of_decide_eq_false hc0); exact hc0 (by decide)))
  (try replace hc0 := of_decide_eq_true hc0)
  refine vc_seq ?_
  refine vc_region ?_
  refine vl_val rfl (.some rfl) (val_move rfl) ?_
  refine vl_val rfl (.some rfl) (val_assign rfl) ?_
  refine vl_val rfl (.some rfl) (val_assign rfl) ?_
  refine vl_nil ?_
  refine vc_ret ?_
  refine ⟨_, [ZD z], _, res2 Try.results40 rfl rfl, (by repeat constructor), ?_⟩
  exact ⟨rfl, rfl⟩
set_option maxRecDepth 20000 in
theorem nPend (p : Option Addr) (z : Nat) (hq : p = none ∨ p = some ⟨z, 0, none⟩) (s : ByteArray) (w : World) : FnR Try.prog 45 [.pointer p, .string s] [ZD z] (.tuple #[.int .i64 0, .int .i64 1]) w := by
  refine fn_enter Try.func45 rfl Try.ntmps45 rfl ?_
  refine vc_seq ?_
  refine vc_region ?_
  refine vl_val rfl (.some rfl) (val_assign rfl) ?_
  refine vl_val rfl (.some rfl) (val_assign rfl) ?_
  refine vl_nil ?_
  refine vc_seq ?_
  refine vc_region ?_
  refine vl_val rfl (.some rfl) (val_move rfl) ?_
  refine vl_val rfl (.some rfl) (val_move rfl) ?_
  refine vl_nilSl 9 1 ?_
  refine vl_callR [ZD z, sl none 0 0 9 1 []] rfl rfl (.some rfl) Try.call76 rfl (by repeat constructor) (fun w hw => nOf p z hq s none 0 0 [] rfl rfl (by decide) w) ?_
  refine vl_val rfl (.some rfl) (val_move rfl) ?_
  refine vl_val rfl (.some rfl) (val_extract rfl rfl) ?_
  refine vl_val rfl (.some rfl) (val_extract rfl rfl) ?_
  refine vl_val rfl (.some rfl) (val_assign rfl) ?_
  refine vl_val rfl (.some rfl) (val_assign rfl) ?_
  refine vl_nil ?_
  refine vc_seq ?_
  refine vc_seq ?_
  refine vc_region ?_
  refine vl_val rfl (.some rfl) (val_move rfl) ?_
  refine vl_val rfl (.some rfl) (val_ne rfl rfl) ?_
  refine vl_nil ?_
  refine vc_cond rfl (fun hc0 => ?_) (fun hc0 => False.elim (by (try replace hc0 := of_decide_eq_false hc0); exact hc0 (by decide)))
  (try replace hc0 := of_decide_eq_true hc0)
  refine vc_seq ?_
  refine vc_region ?_
  refine vl_val rfl (.some rfl) (val_move rfl) ?_
  refine vl_val rfl (.some rfl) (val_assign rfl) ?_
  refine vl_val rfl (.some rfl) (val_assign rfl) ?_
  refine vl_nil ?_
  refine vc_ret ?_
  refine ⟨_, [ZD z], _, res2 Try.results45 rfl rfl, (by repeat constructor), ?_⟩
  exact ⟨rfl, rfl⟩
set_option maxRecDepth 20000 in
theorem nCut (p : Option Addr) (z : Nat) (hq : p = none ∨ p = some ⟨z, 0, none⟩) (n K : Value) (w : World) : FnR Try.prog 37 [.pointer p, n, K] [ZD z] (.int .i64 1) w := by
  refine fn_enter Try.func37 rfl Try.ntmps37 rfl ?_
  refine vc_seq ?_
  refine vc_region ?_
  refine vl_val rfl (.some rfl) (val_assign rfl) ?_
  refine vl_nil ?_
  refine vc_seq ?_
  refine vc_seq ?_
  refine vc_region ?_
  refine vl_val rfl (.some rfl) (val_move rfl) ?_
  refine vl_callR [ZD z] rfl rfl (.some rfl) Try.call73 rfl (by repeat constructor) (fun w hw => nMay p z hq _ w) ?_
  refine vl_val rfl (.some rfl) (val_assign rfl) ?_
  refine vl_nil ?_
  refine vc_seq ?_
  refine vc_region ?_
  refine vl_val rfl (.some rfl) (val_move rfl) ?_
  refine vl_val rfl (.some rfl) (val_ne rfl rfl) ?_
  refine vl_nil ?_
  refine vc_cond rfl (fun hc0 => ?_) (fun hc0 => False.elim (by (try replace hc0 := of_decide_eq_false hc0); exact hc0 (by decide)))
  (try replace hc0 := of_decide_eq_true hc0)
  refine vc_seq ?_
  refine vc_region ?_
  refine vl_val rfl (.some rfl) (val_move rfl) ?_
  refine vl_val rfl (.some rfl) (val_assign rfl) ?_
  refine vl_nil ?_
  refine vc_ret ?_
  refine ⟨_, [ZD z], _, res1 Try.results37 rfl, (by repeat constructor), ?_⟩
  exact ⟨rfl, rfl⟩
set_option maxRecDepth 20000 in
theorem nRename (p : Option Addr) (z : Nat) (hq : p = none ∨ p = some ⟨z, 0, none⟩) (s s2 : ByteArray) (w : World) : FnR Try.prog 41 [.pointer p, .string s, .string s2] [ZD z] (.int .i64 1) w := by
  refine fn_enter Try.func41 rfl Try.ntmps41 rfl ?_
  refine vc_seq ?_
  refine vc_region ?_
  refine vl_box rfl rfl (.some rfl) rfl (fun r3 => ?_)
  refine vl_box rfl rfl (.some rfl) rfl (fun r4 => ?_)
  refine vl_box rfl rfl (.some rfl) rfl (fun r5 => ?_)
  refine vl_val rfl (.some rfl) (val_assign rfl) ?_
  refine vl_nil ?_
  refine vc_seq ?_
  refine vc_region ?_
  refine vl_val rfl (.some rfl) (val_load Try.isAgg64 rfl (by first | exact cell_cells (by repeat constructor) rfl | exact cell_rd (by first | exact rd_sl (by repeat constructor) | exact rd_old (by assumption) rfl) (by first | exact bcells_at (by omega) | exact ucells_at (by omega) | exact icells_at (by omega) | exact tcells_at (by omega) | exact bcells_get (by omega) | exact icells_get (by omega) | exact tcells_get (by omega) | exact ucells_get (by omega)) | exact cell_old (by assumption) (by simp [fps]))) ?_
  refine vl_val rfl (.some rfl) (val_load Try.isAgg9 rfl (by first | exact cell_cells (by repeat constructor) rfl | exact cell_rd (by first | exact rd_sl (by repeat constructor) | exact rd_old (by assumption) rfl) (by first | exact bcells_at (by omega) | exact ucells_at (by omega) | exact icells_at (by omega) | exact tcells_at (by omega) | exact bcells_get (by omega) | exact icells_get (by omega) | exact tcells_get (by omega) | exact ucells_get (by omega)) | exact cell_old (by assumption) (by simp [fps]))) ?_
  refine vl_val rfl (.some rfl) (val_load Try.isAgg9 rfl (by first | exact cell_cells (by repeat constructor) rfl | exact cell_rd (by first | exact rd_sl (by repeat constructor) | exact rd_old (by assumption) rfl) (by first | exact bcells_at (by omega) | exact ucells_at (by omega) | exact icells_at (by omega) | exact tcells_at (by omega) | exact bcells_get (by omega) | exact icells_get (by omega) | exact tcells_get (by omega) | exact ucells_get (by omega)) | exact cell_old (by assumption) (by simp [fps]))) ?_
  refine vl_lit sT37 rfl rfl (.some rfl) rfl rfl rfl (by decide) (by decide) rfl (flat_one rfl) (fun r13 => ?_)
  refine vl_callR [ZD z, sl (some ⟨r13, 0, none⟩) 1 1 9 1 [.string s2]] rfl rfl (.some rfl) Try.call76 rfl (by repeat constructor) (fun w hw => nOf p z hq s (some ⟨r13, 0, none⟩) 1 1 [.string s2] rfl rfl (by decide) w) ?_
  refine vl_val rfl (.some rfl) (val_move rfl) ?_
  refine vl_val rfl (.some rfl) (val_extract rfl rfl) ?_
  refine vl_val rfl (.some rfl) (val_extract rfl rfl) ?_
  refine vl_alloc rfl rfl (.some rfl) Try.zeroValue136 (fun r7 => ?_)
  first | refine vl_store rfl rfl .none rfl rfl Try.sizeOf136 rfl (by repeat constructor) (by first | decide | exact Nat.le_refl _ | exact Nat.le_of_ble_eq_true rfl | (simp; omega)) ?_ | refine vl_storeSl rfl rfl .none rfl rfl Try.sizeOf136 rfl (by simp [Value.cells]) (by repeat constructor) (by first | decide | (simp [Value.cells]; omega)) ?_
  refine vl_val rfl (.some rfl) (val_assign rfl) ?_
  refine vl_nil ?_
  refine vc_seq ?_
  refine vc_seq ?_
  refine vc_region ?_
  refine vl_val rfl (.some rfl) (val_move rfl) ?_
  refine vl_val rfl (.some rfl) (val_ne rfl rfl) ?_
  refine vl_nil ?_
  refine vc_cond rfl (fun hc0 => ?_) (fun hc0 => False.elim (by (try replace hc0 := of_decide_eq_false hc0); exact hc0 (by decide)))
  (try replace hc0 := of_decide_eq_true hc0)
  refine vc_seq ?_
  refine vc_region ?_
  refine vl_val rfl (.some rfl) (val_move rfl) ?_
  refine vl_val rfl (.some rfl) (val_assign rfl) ?_
  refine vl_nil ?_
  refine vc_ret ?_
  refine ⟨_, [ZD z], _, res1 Try.results41 rfl, (by repeat constructor), ?_⟩
  exact ⟨rfl, rfl⟩
set_option maxRecDepth 20000 in
theorem nStart (p : Option Addr) (z : Nat) (hq : p = none ∨ p = some ⟨z, 0, none⟩) (w : World) : Fn Try.prog 39 [.pointer p] [ZD z] (ret fun v H' => H' = [ZD z]) w := by
  refine fn_enter Try.func39 rfl Try.ntmps39 rfl ?_
  refine vc_seq ?_
  refine vc_region ?_
  refine vl_val rfl (.some rfl) (val_move rfl) ?_
  refine vl_callR [ZD z] rfl rfl (.some rfl) Try.call80 rfl (by repeat constructor) (fun w hw => nMade p z hq w) ?_
  refine vl_nil ?_
  refine vc_cond rfl (fun h => by cases h) (fun _ => ?_)
  refine vc_skip ?_
  refine ⟨_, [ZD z], _, res0 Try.results39, (by repeat constructor), ?_⟩
  exact rfl
set_option maxRecDepth 20000 in
theorem nOn (p : Option Addr) (z : Nat) (hq : p = none ∨ p = some ⟨z, 0, none⟩) (w : World) : FnR Try.prog 38 [.pointer p] [ZD z] (.bool false) w := by
  refine fn_enter Try.func38 rfl Try.ntmps38 rfl ?_
  refine vc_seq ?_
  refine vc_region ?_
  refine vl_val rfl (.some rfl) (val_assign rfl) ?_
  refine vl_nil ?_
  refine vc_seq ?_
  refine vc_region ?_
  refine vl_val rfl (.some rfl) (val_move rfl) ?_
  refine vl_callR [ZD z] rfl rfl (.some rfl) Try.call80 rfl (by repeat constructor) (fun w hw => nMade p z hq w) ?_
  refine vl_val rfl (.some rfl) (val_move rfl) ?_
  refine vl_off rfl rfl rfl rfl (.some rfl) ?_
  refine vl_off rfl rfl rfl rfl (.some rfl) ?_
  refine vl_off rfl rfl rfl rfl (.some rfl) ?_
  refine vl_off rfl rfl rfl rfl (.some rfl) ?_
  refine vl_off rfl rfl rfl rfl (.some rfl) ?_
  refine vl_val rfl (.some rfl) (val_pick rfl rfl) ?_
  refine vl_val rfl (.some rfl) (val_assign rfl) ?_
  refine vl_nil ?_
  refine vc_ret ?_
  refine ⟨_, [ZD z], _, res1 Try.results38 rfl, (by repeat constructor), ?_⟩
  exact ⟨rfl, rfl⟩
set_option maxRecDepth 20000 in
theorem nOps (p : Option Addr) (z : Nat) (hq : p = none ∨ p = some ⟨z, 0, none⟩) (w : World) : FnR Try.prog 43 [.pointer p] [ZD z] (.int .i64 0) w := by
  refine fn_enter Try.func43 rfl Try.ntmps43 rfl ?_
  refine vc_seq ?_
  refine vc_region ?_
  refine vl_val rfl (.some rfl) (val_assign rfl) ?_
  refine vl_nil ?_
  refine vc_seq ?_
  refine vc_seq ?_
  refine vc_region ?_
  refine vl_val rfl (.some rfl) (val_move rfl) ?_
  refine vl_callR [ZD z] rfl rfl (.some rfl) Try.call80 rfl (by repeat constructor) (fun w hw => nMade p z hq w) ?_
  refine vl_val rfl (.some rfl) (val_not rfl) ?_
  refine vl_nil ?_
  refine vc_cond rfl (fun _ => ?_) (fun h => by cases h)
  refine vc_seq ?_
  refine vc_region ?_
  refine vl_val rfl (.some rfl) (val_assign rfl) ?_
  refine vl_nil ?_
  refine vc_ret ?_
  refine ⟨_, [ZD z], _, res1 Try.results43 rfl, (by repeat constructor), ?_⟩
  exact ⟨rfl, rfl⟩
set_option maxRecDepth 20000 in
theorem nList (p : Option Addr) (z : Nat) (hq : p = none ∨ p = some ⟨z, 0, none⟩) (w : World) : FnR Try.prog 42 [.pointer p] [ZD z] (.slice none 0 0) w := by
  refine fn_enter Try.func42 rfl Try.ntmps42 rfl ?_
  refine vc_seq ?_
  refine vc_region ?_
  refine vl_val rfl (.some rfl) (val_assign rfl) ?_
  refine vl_nil ?_
  refine vc_seq ?_
  refine vc_region ?_
  refine vl_val rfl (.some rfl) (val_assign rfl) ?_
  refine vl_nil ?_
  refine vc_seq ?_
  refine vc_seq ?_
  refine vc_region ?_
  refine vl_val rfl (.some rfl) (val_move rfl) ?_
  refine vl_callR [ZD z] rfl rfl (.some rfl) Try.call80 rfl (by repeat constructor) (fun w hw => nMade p z hq w) ?_
  refine vl_nil ?_
  refine vc_cond rfl (fun h => by cases h) (fun _ => ?_)
  refine vc_skip ?_
  refine vc_seq ?_
  refine vc_region ?_
  refine vl_val rfl (.some rfl) (val_move rfl) ?_
  refine vl_call (C := []) rfl rfl (.some rfl) Try.call83 rfl .nil (fun w hw => nSort none 0 w) (fun v H' h => ?_)
  obtain rfl := h
  show VL _ _ _ _ _ _
  refine vl_nil ?_
  refine vc_seq ?_
  refine vc_region ?_
  refine vl_val rfl (.some rfl) (val_move rfl) ?_
  refine vl_val rfl (.some rfl) (val_assign rfl) ?_
  refine vl_nil ?_
  refine vc_ret ?_
  refine ⟨_, [ZD z], _, res1 Try.results42 rfl, (by repeat constructor), ?_⟩
  exact ⟨rfl, rfl⟩




theorem val_buildArrV {X : Cx} {E : Env} {H : List Chunk} {T e n sz ty : Nat} {z : Value} {ps : Array (Nat × Operand)} {us : List Value} {cs : Array Value} (hu : ∀ w, (underlying T).run X.P w = .ok (.array n e) w) (hz : ∀ w, (zeroValue T).run X.P w = .ok z w)
    (hs : ∀ w, (sizeOf e).run X.P w = .ok sz w) (hx : E.evs (ps.toList.map (·.2)) = some us) (hf : Instr.fill (fun i => some (i * sz, sz)) z.cells ((ps.toList.map (·.1)).zip us) = some cs) : Val X E H (.build T ps) ty (.agg cs) := by
  intro ac w o ho _ ha hw
  have hparts : (ps.map fun p => (p.1, ac.eval p.2)).toList = (ps.toList.map (·.1)).zip us := by
    rw [Array.toList_map]
    exact evs_zip ha _ _ hx
  simp only [execOp, ho, Instr.build, Sem.run_bind, hu, hz, Result.andThen_ok, hs]
  rw [hparts, hf]
  rfl
/-- No disk, or one that was never made. -/
def dq (i z : Nat) : Option Addr := if i = 0 then none else some ⟨z, 0, none⟩
theorem dq_is (i z : Nat) : dq i z = none ∨ dq i z = some ⟨z, 0, none⟩ := by unfold dq; split <;> simp

set_option maxRecDepth 20000 in
theorem xNone (k : Int) (s s2 : ByteArray) (n m : Int) (B : Option Addr) (bn bc : Nat) (K : Option Addr) (kn kc : Nat) (w : World) : FnV Try.prog 13 [.agg ([.int .i64 k, .string s, .string s2, .int .i64 n, .int .i64 m, .slice B bn bc, .slice K kn kc] : List Value).toArray] (.bool true) w := by
  refine fn_enter Try.func13 rfl Try.ntmps13 rfl ?_
  refine vc_seq ?_
  refine vc_region ?_
  refine vl_box rfl rfl (.some rfl) rfl (fun r1 => ?_)
  refine vl_val rfl (.some rfl) (val_assign rfl) ?_
  refine vl_nil ?_
  refine vc_seq ?_
  refine vc_region ?_
  refine vl_alloc rfl rfl (.some rfl) Try.zeroValue91 (fun r3 => ?_)
  refine vl_nil ?_
  refine vc_seq ?_
  refine vc_seq ?_
  refine vc_region ?_
  refine vl_val rfl (.some rfl) (val_buildArrV (cs := #[.pointer none, .pointer (some ⟨r3, 0, none⟩)]) Try.runUnderlying92 Try.zeroValue92 Try.sizeOf64 rfl rfl) ?_
  refine vl_val rfl (.some rfl) (val_move rfl) ?_
  refine vl_nil ?_
  refine vc_block ?_
  refine vc_loopw (fun q E H => ∃ i : Nat, i ≤ 2 ∧ q = 2 - i ∧ E = [(1, .pointer (some ⟨r1, 0, none⟩)), (10, .agg #[.pointer none, .pointer (some ⟨r3, 0, none⟩)]), (11, .int .i64 i)] ∧ H = [cells r1 [.int .i64 k, .string s, .string s2, .int .i64 n, .int .i64 m, .slice B bn bc, .slice K kn kc] 77, ZD r3]) (2) ⟨_, _, _, ⟨0, by omega, rfl, rfl, rfl⟩, (by repeat (first | exact trivial | refine ⟨rfl, ?_⟩ | refine ⟨le_item rfl (by first | rfl | (congr 1; omega) | (simp; done) | (simp; omega)), ?_⟩)), (by repeat constructor)⟩ ?_
  intro q E H hI
  obtain ⟨i, hi, rfl, rfl, rfl⟩ := hI
  refine vc_seq ?_
  refine vc_region ?_
  refine vl_val rfl (.some rfl) (val_lt rfl rfl) ?_
  refine vl_nil ?_
  refine vc_seq ?_
  refine vc_cond rfl (fun hc0 => ?_) (fun hc0 => ?_)
  · (try replace hc0 := of_decide_eq_true hc0)
    refine vc_skip ?_
    refine vc_seq ?_
    refine vc_block ?_
    refine vc_seq ?_
    refine vc_region ?_
    refine vl_val rfl (.some rfl) (val_indexArr (v := .pointer (dq i r3)) Try.runUnderlying92 Try.isAgg64 Try.sizeOf64 rfl rfl (by omega) (by omega) (by
      rw [Int.toNat_natCast]
      have hi2 : i = 0 ∨ i = 1 := by omega
      rcases hi2 with rfl | rfl <;> rfl)) ?_
    refine vl_val rfl (.some rfl) (val_assign rfl) ?_
    refine vl_nil ?_
    refine vc_seq ?_
    refine vc_region ?_
    refine vl_val rfl (.some rfl) (val_move rfl) ?_
    refine vl_val rfl (.some rfl) (by first | exact val_fieldAddr Try.runUnderlying77 rfl Try.sizeOf9 rfl | exact val_fieldAddrR Try.runUnderlying77 rfl Try.sizeOf9 rfl) ?_
    refine vl_val rfl (.some rfl) (val_load Try.isAgg9 rfl (by first | exact cell_cells (by repeat constructor) rfl | exact cell_rd (by first | exact rd_sl (by repeat constructor) | exact rd_old (by assumption) rfl) (by first | exact bcells_at (by omega) | exact ucells_at (by omega) | exact icells_at (by omega) | exact tcells_at (by omega) | exact bcells_get (by omega) | exact icells_get (by omega) | exact tcells_get (by omega) | exact ucells_get (by omega)) | exact cell_old (by assumption) (by simp [fps]))) ?_
    refine vl_callR [ZD r3] rfl rfl (.some rfl) Try.call40 rfl (by repeat constructor) (fun w hw => nRead (dq i r3) r3 (dq_is i r3) s w) ?_
    refine vl_val rfl (.some rfl) (val_move rfl) ?_
    refine vl_val rfl (.some rfl) (val_extract rfl rfl) ?_
    refine vl_val rfl (.some rfl) (val_extract rfl rfl) ?_
    refine vl_val rfl (.some rfl) (val_assign rfl) ?_
    refine vl_val rfl (.some rfl) (val_assign rfl) ?_
    refine vl_nil ?_
    refine vc_seq ?_
    refine vc_region ?_
    refine vl_val rfl (.some rfl) (val_move rfl) ?_
    refine vl_val rfl (.some rfl) (by first | exact val_fieldAddr Try.runUnderlying77 rfl Try.sizeOf9 rfl | exact val_fieldAddrR Try.runUnderlying77 rfl Try.sizeOf9 rfl) ?_
    refine vl_val rfl (.some rfl) (val_load Try.isAgg9 rfl (by first | exact cell_cells (by repeat constructor) rfl | exact cell_rd (by first | exact rd_sl (by repeat constructor) | exact rd_old (by assumption) rfl) (by first | exact bcells_at (by omega) | exact ucells_at (by omega) | exact icells_at (by omega) | exact tcells_at (by omega) | exact bcells_get (by omega) | exact icells_get (by omega) | exact tcells_get (by omega) | exact ucells_get (by omega)) | exact cell_old (by assumption) (by simp [fps]))) ?_
    refine vl_callR [ZD r3] rfl rfl (.some rfl) Try.call45 rfl (by repeat constructor) (fun w hw => nPend (dq i r3) r3 (dq_is i r3) s w) ?_
    refine vl_val rfl (.some rfl) (val_move rfl) ?_
    refine vl_val rfl (.some rfl) (val_extract rfl rfl) ?_
    refine vl_val rfl (.some rfl) (val_extract rfl rfl) ?_
    refine vl_val rfl (.some rfl) (val_assign rfl) ?_
    refine vl_val rfl (.some rfl) (val_assign rfl) ?_
    refine vl_nil ?_
    refine vc_seq ?_
    refine vc_region ?_
    refine vl_val rfl (.some rfl) (val_move rfl) ?_
    refine vl_call (C := [ZD r3]) rfl rfl (.some rfl) Try.call39 rfl (by repeat constructor) (fun w hw => nStart (dq i r3) r3 (dq_is i r3) w) (fun v H' h => ?_)
    obtain rfl := h
    show VL _ _ _ _ _ (_ :: _)
    refine vl_nil ?_
    refine vc_seq ?_
    refine vc_seq ?_
    refine vc_region ?_
    refine vl_val rfl (.some rfl) (val_move rfl) ?_
    refine vl_val rfl (.some rfl) (by first | exact val_fieldAddr Try.runUnderlying77 rfl Try.sizeOf9 rfl | exact val_fieldAddrR Try.runUnderlying77 rfl Try.sizeOf9 rfl) ?_
    refine vl_val rfl (.some rfl) (val_load Try.isAgg9 rfl (by first | exact cell_cells (by repeat constructor) rfl | exact cell_rd (by first | exact rd_sl (by repeat constructor) | exact rd_old (by assumption) rfl) (by first | exact bcells_at (by omega) | exact ucells_at (by omega) | exact icells_at (by omega) | exact tcells_at (by omega) | exact bcells_get (by omega) | exact icells_get (by omega) | exact tcells_get (by omega) | exact ucells_get (by omega)) | exact cell_old (by assumption) (by simp [fps]))) ?_
    refine vl_callR [ZD r3] rfl rfl (.some rfl) Try.call34 rfl (by repeat constructor) (fun w hw => nCreate (dq i r3) r3 (dq_is i r3) s w) ?_
    refine vl_val rfl (.some rfl) (val_net rfl rfl (rfl)) ?_
    refine vl_val rfl (.some rfl) (val_move rfl) ?_
    refine vl_on rfl rfl rfl rfl ?_
    refine vl_val rfl (.some rfl) (val_move rfl) ?_
    refine vl_on rfl rfl rfl rfl ?_
    refine vl_val rfl (.some rfl) (by first | exact val_fieldAddr Try.runUnderlying77 rfl Try.sizeOf9 rfl | exact val_fieldAddrR Try.runUnderlying77 rfl Try.sizeOf9 rfl) ?_
    refine vl_on rfl rfl rfl rfl ?_
    refine vl_val rfl (.some rfl) (val_load Try.isAgg9 rfl (by first | exact cell_cells (by repeat constructor) rfl | exact cell_rd (by first | exact rd_sl (by repeat constructor) | exact rd_old (by assumption) rfl) (by first | exact bcells_at (by omega) | exact ucells_at (by omega) | exact icells_at (by omega) | exact tcells_at (by omega) | exact bcells_get (by omega) | exact icells_get (by omega) | exact tcells_get (by omega) | exact ucells_get (by omega)) | exact cell_old (by assumption) (by simp [fps]))) ?_
    refine vl_on rfl rfl rfl rfl ?_
    refine vl_val rfl (.some rfl) (by first | exact val_fieldAddr Try.runUnderlying77 rfl Try.sizeOf22 rfl | exact val_fieldAddrR Try.runUnderlying77 rfl Try.sizeOf22 rfl) ?_
    refine vl_on rfl rfl rfl rfl ?_
    refine vl_val rfl (.some rfl) (val_load Try.isAgg22 rfl (by first | exact cell_cells (by repeat constructor) rfl | exact cell_rd (by first | exact rd_sl (by repeat constructor) | exact rd_old (by assumption) rfl) (by first | exact bcells_at (by omega) | exact ucells_at (by omega) | exact icells_at (by omega) | exact tcells_at (by omega) | exact bcells_get (by omega) | exact icells_get (by omega) | exact tcells_get (by omega) | exact ucells_get (by omega)) | exact cell_old (by assumption) (by simp [fps]))) ?_
    refine vl_on rfl rfl rfl rfl ?_
    refine vl_callR [ZD r3] rfl rfl (.some rfl) Try.call35 rfl (by repeat constructor) (fun w hw => nWrite (dq i r3) r3 (dq_is i r3) s _ w) ?_
    refine vl_on rfl rfl rfl rfl ?_
    refine vl_val rfl (.some rfl) (val_net rfl rfl (rfl)) ?_
    refine vl_val rfl (.some rfl) (val_pick rfl rfl) ?_
    refine vl_val rfl (.some rfl) (val_move rfl) ?_
    refine vl_on rfl rfl rfl rfl ?_
    refine vl_val rfl (.some rfl) (val_move rfl) ?_
    refine vl_on rfl rfl rfl rfl ?_
    refine vl_val rfl (.some rfl) (by first | exact val_fieldAddr Try.runUnderlying77 rfl Try.sizeOf9 rfl | exact val_fieldAddrR Try.runUnderlying77 rfl Try.sizeOf9 rfl) ?_
    refine vl_on rfl rfl rfl rfl ?_
    refine vl_val rfl (.some rfl) (val_load Try.isAgg9 rfl (by first | exact cell_cells (by repeat constructor) rfl | exact cell_rd (by first | exact rd_sl (by repeat constructor) | exact rd_old (by assumption) rfl) (by first | exact bcells_at (by omega) | exact ucells_at (by omega) | exact icells_at (by omega) | exact tcells_at (by omega) | exact bcells_get (by omega) | exact icells_get (by omega) | exact tcells_get (by omega) | exact ucells_get (by omega)) | exact cell_old (by assumption) (by simp [fps]))) ?_
    refine vl_on rfl rfl rfl rfl ?_
    refine vl_callR [ZD r3] rfl rfl (.some rfl) Try.call36 rfl (by repeat constructor) (fun w hw => nSync (dq i r3) r3 (dq_is i r3) s w) ?_
    refine vl_on rfl rfl rfl rfl ?_
    refine vl_val rfl (.some rfl) (val_net rfl rfl (rfl)) ?_
    refine vl_val rfl (.some rfl) (val_pick rfl rfl) ?_
    refine vl_val rfl (.some rfl) (val_move rfl) ?_
    refine vl_on rfl rfl rfl rfl ?_
    refine vl_val rfl (.some rfl) (val_move rfl) ?_
    refine vl_on rfl rfl rfl rfl ?_
    refine vl_val rfl (.some rfl) (by first | exact val_fieldAddr Try.runUnderlying77 rfl Try.sizeOf9 rfl | exact val_fieldAddrR Try.runUnderlying77 rfl Try.sizeOf9 rfl) ?_
    refine vl_on rfl rfl rfl rfl ?_
    refine vl_val rfl (.some rfl) (val_load Try.isAgg9 rfl (by first | exact cell_cells (by repeat constructor) rfl | exact cell_rd (by first | exact rd_sl (by repeat constructor) | exact rd_old (by assumption) rfl) (by first | exact bcells_at (by omega) | exact ucells_at (by omega) | exact icells_at (by omega) | exact tcells_at (by omega) | exact bcells_get (by omega) | exact icells_get (by omega) | exact tcells_get (by omega) | exact ucells_get (by omega)) | exact cell_old (by assumption) (by simp [fps]))) ?_
    refine vl_on rfl rfl rfl rfl ?_
    refine vl_val rfl (.some rfl) (by first | exact val_fieldAddr Try.runUnderlying77 rfl Try.sizeOf9 rfl | exact val_fieldAddrR Try.runUnderlying77 rfl Try.sizeOf9 rfl) ?_
    refine vl_on rfl rfl rfl rfl ?_
    refine vl_val rfl (.some rfl) (val_load Try.isAgg9 rfl (by first | exact cell_cells (by repeat constructor) rfl | exact cell_rd (by first | exact rd_sl (by repeat constructor) | exact rd_old (by assumption) rfl) (by first | exact bcells_at (by omega) | exact ucells_at (by omega) | exact icells_at (by omega) | exact tcells_at (by omega) | exact bcells_get (by omega) | exact icells_get (by omega) | exact tcells_get (by omega) | exact ucells_get (by omega)) | exact cell_old (by assumption) (by simp [fps]))) ?_
    refine vl_on rfl rfl rfl rfl ?_
    refine vl_callR [ZD r3] rfl rfl (.some rfl) Try.call41 rfl (by repeat constructor) (fun w hw => nRename (dq i r3) r3 (dq_is i r3) s s2 w) ?_
    refine vl_on rfl rfl rfl rfl ?_
    refine vl_val rfl (.some rfl) (val_net rfl rfl (rfl)) ?_
    refine vl_val rfl (.some rfl) (val_pick rfl rfl) ?_
    refine vl_val rfl (.some rfl) (val_move rfl) ?_
    refine vl_on rfl rfl rfl rfl ?_
    refine vl_val rfl (.some rfl) (val_move rfl) ?_
    refine vl_on rfl rfl rfl rfl ?_
    refine vl_val rfl (.some rfl) (by first | exact val_fieldAddr Try.runUnderlying77 rfl Try.sizeOf9 rfl | exact val_fieldAddrR Try.runUnderlying77 rfl Try.sizeOf9 rfl) ?_
    refine vl_on rfl rfl rfl rfl ?_
    refine vl_val rfl (.some rfl) (val_load Try.isAgg9 rfl (by first | exact cell_cells (by repeat constructor) rfl | exact cell_rd (by first | exact rd_sl (by repeat constructor) | exact rd_old (by assumption) rfl) (by first | exact bcells_at (by omega) | exact ucells_at (by omega) | exact icells_at (by omega) | exact tcells_at (by omega) | exact bcells_get (by omega) | exact icells_get (by omega) | exact tcells_get (by omega) | exact ucells_get (by omega)) | exact cell_old (by assumption) (by simp [fps]))) ?_
    refine vl_on rfl rfl rfl rfl ?_
    refine vl_callR [ZD r3] rfl rfl (.some rfl) Try.call47 rfl (by repeat constructor) (fun w hw => nRemove (dq i r3) r3 (dq_is i r3) s w) ?_
    refine vl_on rfl rfl rfl rfl ?_
    refine vl_val rfl (.some rfl) (val_net rfl rfl (rfl)) ?_
    refine vl_val rfl (.some rfl) (val_pick rfl rfl) ?_
    refine vl_val rfl (.some rfl) (val_move rfl) ?_
    refine vl_on rfl rfl rfl rfl ?_
    refine vl_val rfl (.some rfl) (val_move rfl) ?_
    refine vl_on rfl rfl rfl rfl ?_
    refine vl_val rfl (.some rfl) (by first | exact val_fieldAddr Try.runUnderlying77 rfl Try.sizeOf9 rfl | exact val_fieldAddrR Try.runUnderlying77 rfl Try.sizeOf9 rfl) ?_
    refine vl_on rfl rfl rfl rfl ?_
    refine vl_val rfl (.some rfl) (val_load Try.isAgg9 rfl (by first | exact cell_cells (by repeat constructor) rfl | exact cell_rd (by first | exact rd_sl (by repeat constructor) | exact rd_old (by assumption) rfl) (by first | exact bcells_at (by omega) | exact ucells_at (by omega) | exact icells_at (by omega) | exact tcells_at (by omega) | exact bcells_get (by omega) | exact icells_get (by omega) | exact tcells_get (by omega) | exact ucells_get (by omega)) | exact cell_old (by assumption) (by simp [fps]))) ?_
    refine vl_on rfl rfl rfl rfl ?_
    refine vl_val rfl (.some rfl) (by first | exact val_fieldAddr Try.runUnderlying77 rfl Try.sizeOf3 rfl | exact val_fieldAddrR Try.runUnderlying77 rfl Try.sizeOf3 rfl) ?_
    refine vl_on rfl rfl rfl rfl ?_
    refine vl_val rfl (.some rfl) (val_load Try.isAgg3 rfl (by first | exact cell_cells (by repeat constructor) rfl | exact cell_rd (by first | exact rd_sl (by repeat constructor) | exact rd_old (by assumption) rfl) (by first | exact bcells_at (by omega) | exact ucells_at (by omega) | exact icells_at (by omega) | exact tcells_at (by omega) | exact bcells_get (by omega) | exact icells_get (by omega) | exact tcells_get (by omega) | exact ucells_get (by omega)) | exact cell_old (by assumption) (by simp [fps]))) ?_
    refine vl_on rfl rfl rfl rfl ?_
    refine vl_val rfl (.some rfl) (by first | exact val_fieldAddr Try.runUnderlying77 rfl Try.sizeOf3 rfl | exact val_fieldAddrR Try.runUnderlying77 rfl Try.sizeOf3 rfl) ?_
    refine vl_on rfl rfl rfl rfl ?_
    refine vl_val rfl (.some rfl) (val_load Try.isAgg3 rfl (by first | exact cell_cells (by repeat constructor) rfl | exact cell_rd (by first | exact rd_sl (by repeat constructor) | exact rd_old (by assumption) rfl) (by first | exact bcells_at (by omega) | exact ucells_at (by omega) | exact icells_at (by omega) | exact tcells_at (by omega) | exact bcells_get (by omega) | exact icells_get (by omega) | exact tcells_get (by omega) | exact ucells_get (by omega)) | exact cell_old (by assumption) (by simp [fps]))) ?_
    refine vl_on rfl rfl rfl rfl ?_
    refine vl_callR [ZD r3] rfl rfl (.some rfl) Try.call48 rfl (by repeat constructor) (fun w hw => nSpoil (dq i r3) r3 (dq_is i r3) s _ _ w) ?_
    refine vl_on rfl rfl rfl rfl ?_
    refine vl_val rfl (.some rfl) (val_net rfl rfl (rfl)) ?_
    refine vl_val rfl (.some rfl) (val_pick rfl rfl) ?_
    refine vl_nil ?_
    refine vc_cond rfl (fun h => by cases h) (fun _ => ?_)
    refine vc_skip ?_
    refine vc_seq ?_
    refine vc_region ?_
    refine vl_val rfl (.some rfl) (val_move rfl) ?_
    refine vl_val rfl (.some rfl) (val_lenSl Try.runUnderlying22 rfl) ?_
    refine vl_val rfl (.some rfl) (val_gt rfl rfl) ?_
    refine vl_val rfl (.some rfl) (val_move rfl) ?_
    refine vl_split (t := 81) rfl (fun hg81 => ?_) (fun hg81 => ?_)
    · (try replace hg81 := of_decide_eq_true hg81)
      exfalso
      revert hg81; decide
    · (try replace hg81 := of_decide_eq_false hg81)
      refine vl_on rfl rfl rfl rfl ?_
      refine vl_val rfl (.some rfl) (val_move rfl) ?_
      refine vl_on rfl rfl rfl rfl ?_
      refine vl_val rfl (.some rfl) (val_net rfl rfl (rfl)) ?_
      refine vl_val rfl (.some rfl) (val_pick rfl rfl) ?_
      refine vl_val rfl (.some rfl) (val_move rfl) ?_
      refine vl_on rfl rfl rfl rfl ?_
      refine vl_val rfl (.some rfl) (val_move rfl) ?_
      refine vl_on rfl rfl rfl rfl ?_
      refine vl_val rfl (.some rfl) (val_net rfl rfl (rfl)) ?_
      refine vl_val rfl (.some rfl) (val_pick rfl rfl) ?_
      refine vl_val rfl (.some rfl) (val_move rfl) ?_
      refine vl_on rfl rfl rfl rfl ?_
      refine vl_val rfl (.some rfl) (val_move rfl) ?_
      refine vl_on rfl rfl rfl rfl ?_
      refine vl_val rfl (.some rfl) (val_net rfl rfl (rfl)) ?_
      refine vl_val rfl (.some rfl) (val_pick rfl rfl) ?_
      refine vl_val rfl (.some rfl) (val_move rfl) ?_
      refine vl_on rfl rfl rfl rfl ?_
      refine vl_val rfl (.some rfl) (val_move rfl) ?_
      refine vl_on rfl rfl rfl rfl ?_
      refine vl_val rfl (.some rfl) (by first | exact val_fieldAddr Try.runUnderlying77 rfl Try.sizeOf3 rfl | exact val_fieldAddrR Try.runUnderlying77 rfl Try.sizeOf3 rfl) ?_
      refine vl_on rfl rfl rfl rfl ?_
      refine vl_val rfl (.some rfl) (val_load Try.isAgg3 rfl (by first | exact cell_cells (by repeat constructor) rfl | exact cell_rd (by first | exact rd_sl (by repeat constructor) | exact rd_old (by assumption) rfl) (by first | exact bcells_at (by omega) | exact ucells_at (by omega) | exact icells_at (by omega) | exact tcells_at (by omega) | exact bcells_get (by omega) | exact icells_get (by omega) | exact tcells_get (by omega) | exact ucells_get (by omega)) | exact cell_old (by assumption) (by simp [fps]))) ?_
      refine vl_on rfl rfl rfl rfl ?_
      refine vl_val rfl (.some rfl) (by first | exact val_fieldAddr Try.runUnderlying77 rfl Try.sizeOf69 rfl | exact val_fieldAddrR Try.runUnderlying77 rfl Try.sizeOf69 rfl) ?_
      refine vl_on rfl rfl rfl rfl ?_
      refine vl_val rfl (.some rfl) (val_load Try.isAgg69 rfl (by first | exact cell_cells (by repeat constructor) rfl | exact cell_rd (by first | exact rd_sl (by repeat constructor) | exact rd_old (by assumption) rfl) (by first | exact bcells_at (by omega) | exact ucells_at (by omega) | exact icells_at (by omega) | exact tcells_at (by omega) | exact bcells_get (by omega) | exact icells_get (by omega) | exact tcells_get (by omega) | exact ucells_get (by omega)) | exact cell_old (by assumption) (by simp [fps]))) ?_
      refine vl_on rfl rfl rfl rfl ?_
      refine vl_callR [ZD r3] rfl rfl (.some rfl) Try.call37 rfl (by repeat constructor) (fun w hw => nCut (dq i r3) r3 (dq_is i r3) _ _ w) ?_
      refine vl_on rfl rfl rfl rfl ?_
      refine vl_val rfl (.some rfl) (val_net rfl rfl (rfl)) ?_
      refine vl_val rfl (.some rfl) (val_pick rfl rfl) ?_
      refine vl_val rfl (.some rfl) (val_move rfl) ?_
      refine vl_on rfl rfl rfl rfl ?_
      refine vl_val rfl (.some rfl) (val_move rfl) ?_
      refine vl_on rfl rfl rfl rfl ?_
      refine vl_callR [ZD r3] rfl rfl (.some rfl) Try.call38 rfl (by repeat constructor) (fun w hw => nOn (dq i r3) r3 (dq_is i r3)  w) ?_
      refine vl_val rfl (.some rfl) (val_pick rfl rfl) ?_
      refine vl_val rfl (.some rfl) (val_move rfl) ?_
      refine vl_on rfl rfl rfl rfl ?_
      refine vl_val rfl (.some rfl) (val_move rfl) ?_
      refine vl_on rfl rfl rfl rfl ?_
      refine vl_callR [ZD r3] rfl rfl (.some rfl) Try.call43 rfl (by repeat constructor) (fun w hw => nOps (dq i r3) r3 (dq_is i r3)  w) ?_
      refine vl_on rfl rfl rfl rfl ?_
      refine vl_val rfl (.some rfl) (val_net rfl rfl (rfl)) ?_
      refine vl_val rfl (.some rfl) (val_pick rfl rfl) ?_
      refine vl_val rfl (.some rfl) (val_move rfl) ?_
      refine vl_on rfl rfl rfl rfl ?_
      refine vl_val rfl (.some rfl) (val_move rfl) ?_
      refine vl_on rfl rfl rfl rfl ?_
      refine vl_callR [ZD r3] rfl rfl (.some rfl) Try.call42 rfl (by repeat constructor) (fun w hw => nList (dq i r3) r3 (dq_is i r3)  w) ?_
      refine vl_on rfl rfl rfl rfl ?_
      refine vl_val rfl (.some rfl) (val_lenSl Try.runUnderlying37 rfl) ?_
      refine vl_on rfl rfl rfl rfl ?_
      refine vl_val rfl (.some rfl) (val_gt rfl rfl) ?_
      refine vl_val rfl (.some rfl) (val_pick rfl rfl) ?_
      refine vl_nil ?_
      refine vc_cond rfl (fun hc2 => False.elim (by (try replace hc2 := of_decide_eq_true hc2); revert hc2; decide)) (fun hc2 => ?_)
      (try replace hc2 := of_decide_eq_false hc2)
      refine vc_skip ?_
      refine vc_region ?_
      refine vl_val rfl (.some rfl) (val_add rfl rfl (by first | exact w_i64 (by omega) (by omega) | rfl)) ?_
      refine vl_val rfl (.some rfl) (val_move rfl) ?_
      refine vl_nil ?_
      exact ⟨(2 - (i + 1)), _, _, _, by omega, (by repeat (first | exact trivial | refine ⟨rfl, ?_⟩ | refine ⟨le_item rfl (by first | rfl | (congr 1; omega) | (simp; done) | (simp; omega)), ?_⟩)), (by repeat constructor), ⟨i + 1, by omega, rfl, rfl, rfl⟩⟩
  · (try replace hc0 := of_decide_eq_false hc0)
    refine vc_exit ?_
    refine vc_seq ?_
    refine vc_region ?_
    refine vl_call (C := []) rfl rfl (.some rfl) Try.call32 rfl .nil (fun w hw => dLives w) (fun v H' h => ?_)
    obtain ⟨rfl, rfl⟩ := h
    show VL _ _ _ _ _ _
    refine vl_val rfl (.some rfl) (val_assign rfl) ?_
    refine vl_nil ?_
    refine vc_ret ?_
    refine ⟨_, [], _, res1 Try.results13 rfl, .nil, ?_⟩
    rfl

theorem law_VfsNone (k : Int) (s s2 : ByteArray) (n m : Int) (B : Option Addr) (bc : Nat) (bs : List UInt8) (K : Option Addr) (kc : Nat) (ks : List Int) (w : World)
    (g0 : -9223372036854775808 ≤ k ∧ k < 9223372036854775808) (g1 : s.size ≤ 140737488351232) (g2 : s2.size ≤ 140737488351232) (g3 : -9223372036854775808 ≤ n ∧ n < 9223372036854775808) (g4 : -9223372036854775808 ≤ m ∧ m < 9223372036854775808)
    (g5 : Reads w B (bcells bs)) (g6 : bs.length ≤ bc) (g7 : bs.length * 1 ≤ 140737488351232) (g8 : Reads w K (icells .i64 ks)) (g9 : ks.length ≤ kc) (g10 : ks.length * 8 ≤ 140737488351232) (g11 : ∀ x ∈ ks, -9223372036854775808 ≤ x ∧ x < 9223372036854775808) :
    FnV Try.prog 13 [.agg #[.int .i64 k, .string s, .string s2, .int .i64 n, .int .i64 m, .slice B bs.length bc, .slice K ks.length kc]] (.bool true) w := xNone k s s2 n m B bs.length bc K ks.length kc w


end Go.Proofs.Ytclnhfdgiaamhaa.K
