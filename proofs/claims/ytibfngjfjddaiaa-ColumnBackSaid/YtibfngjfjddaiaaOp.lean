/- Walks of the program's functions, printed by a program of this session; Lean checks them. -/
import Derived.Test.YtibfngjfjddaiaaOl
import Derived.Test.YtibfngjfjddaiaaOn
namespace Go.Proofs.Ytibfngjfjddaiaa.K
open Go Go.RowKit Go.Proofs
set_option linter.unusedVariables false
set_option linter.unusedSimpArgs false
set_option maxRecDepth 20000 in
theorem sT75 : SlT Try.prog 75 58 2 48 (.agg #[.slice none 0 0, .slice none 0 0]) := ⟨Try.underlying75, ⟨Try.t58, Try.type58, rfl, rfl, rfl⟩, rfl, Nat.lt_of_sub_eq_succ rfl⟩

theorem where_lenB (nl : List Bool) (il : List Int) (id : Int) : (whereL nl il id).length ≤ 1000 := by
  unfold whereL; split
  · rename_i h; exact Nat.le_trans (sel_len _ _ _) h.2.1
  · simp

set_option maxRecDepth 20000 in
set_option maxHeartbeats 1000000 in
theorem law_ColumnBack (An : Option Addr) (cn : Nat) (nl : List Bool) (Ai : Option Addr) (ci : Nat) (il : List Int) (cut : Nat) (w : World) (hrn : Reads w An (tcells nl)) (g1 : nl.length ≤ cn) (g2 : cn ≤ maxLen) (hri : Reads w Ai (icells .i64 il)) (g3 : il.length ≤ ci) (g4 : ci ≤ maxLen) (g5 : ∀ n ∈ il, -9223372036854775808 ≤ n ∧ n < 9223372036854775808) (g6 : cut < 18446744073709551616) : FnV Try.prog 10 [(VA An cn nl Ai ci il), .int .u64 cut] (.bool true) w := by
  have hmx : maxLen = 9223372036854775807 := rfl
  have hrg := rngI_len il.length
  refine fn_enter Try.func10 rfl Try.ntmps10 rfl ?_
  refine vc_seq ?_
  refine vc_region ?_
  refine vl_box rfl rfl (.some rfl) rfl (fun r2 => ?_)
  refine vl_val rfl (.some rfl) (val_assign rfl) ?_
  refine vl_nil ?_
  refine vc_seq ?_
  refine vc_seq ?_
  refine vc_region ?_
  refine vl_val rfl (.some rfl) (val_loadAgg Try.isAgg58 Try.sizeOf58 rfl (by first | exact cells_whole (by repeat (first | exact .head | apply In.tail | apply Take.tail | apply Upd.tail)) | exact cells_part (by repeat (first | exact .head | apply In.tail | apply Take.tail | apply Upd.tail)) rfl) rfl) ?_
  refine vl_callV rfl rfl (.some rfl) Try.call36 rfl (fun w hw => cGood _ _ _ _ nl il (by omega) (by omega) w (rdw (rd_old hrn rfl) hw) (rdw (rd_old hri rfl) hw)) ?_
  refine vl_val rfl (.some rfl) (val_not rfl) ?_
  refine vl_nil ?_
  refine vc_cond rfl (fun hc0 => ?_) (fun hc0 => ?_)
  · (try replace hc0 := of_decide_eq_true hc0)
    have hok : ¬ okV nl il := by simpa using hc0
    refine vc_seq ?_
    refine vc_region ?_
    refine vl_val rfl (.some rfl) (val_loadAgg Try.isAgg58 Try.sizeOf58 rfl (by first | exact cells_whole (by repeat (first | exact .head | apply In.tail | apply Take.tail | apply Upd.tail)) | exact cells_part (by repeat (first | exact .head | apply In.tail | apply Take.tail | apply Upd.tail)) rfl) rfl) ?_
    refine vl_call (C := []) rfl rfl (.some rfl) Try.call31 rfl .nil (fun w hw => cBytes An Ai cn ci nl il (by omega) (by omega) w (rdw (rd_old hrn rfl) hw) (rdw (rd_old hri rfl) hw)) (fun v H' h => ?_)
    obtain ⟨A5, c5, rfl, rfl⟩ := h
    rw [show bytesE nl il = 2 from if_neg hok]
    show VL _ _ _ _ _ (_ :: _)
    refine vl_val rfl (.some rfl) (val_move rfl) ?_
    refine vl_val rfl (.some rfl) (val_extract rfl rfl) ?_
    refine vl_val rfl (.some rfl) (val_extract rfl rfl) ?_
    refine vl_val rfl (.some rfl) (val_assign rfl) ?_
    refine vl_val rfl (.some rfl) (val_assign rfl) ?_
    refine vl_nil ?_
    refine vc_seq ?_
    refine vc_region ?_
    refine vl_val rfl (.some rfl) (val_move rfl) ?_
    refine vl_val rfl (.some rfl) (val_eqt rfl rfl (rfl)) ?_
    refine vl_val rfl (.some rfl) (val_move rfl) ?_
    refine vl_on rfl rfl rfl rfl ?_
    refine vl_callV rfl rfl (.some rfl) Try.call30 rfl (fun w hw => oLives w) ?_
    refine vl_val rfl (.some rfl) (val_pick rfl rfl) ?_
    refine vl_val rfl (.some rfl) (val_assign rfl) ?_
    refine vl_nil ?_
    refine vc_ret ?_
    refine ⟨_, [], _, res1 Try.results10 rfl, .nil, ?_⟩
    rfl
  · (try replace hc0 := of_decide_eq_false hc0)
    have hok : okV nl il := by simpa using hc0
    have hle := hok.1
    have hle2 := hok.2.1
    have hld := load_some (load_bytes hok)
    have hhl := headV_len hok
    have hbl := bestV_len hok
    have hbv : (bytesV nl il).length ≤ 1400 := by show (headV nl il ++ bestV il).length ≤ _; rw [List.length_append]; omega
    refine vc_skip ?_
    refine vc_seq ?_
    refine vc_region ?_
    refine vl_val rfl (.some rfl) (val_loadAgg Try.isAgg58 Try.sizeOf58 rfl (by first | exact cells_whole (by repeat (first | exact .head | apply In.tail | apply Take.tail | apply Upd.tail)) | exact cells_part (by repeat (first | exact .head | apply In.tail | apply Take.tail | apply Upd.tail)) rfl) rfl) ?_
    refine vl_call (C := []) rfl rfl (.some rfl) Try.call31 rfl .nil (fun w hw => cBytes An Ai cn ci nl il (by omega) (by omega) w (rdw (rd_old hrn rfl) hw) (rdw (rd_old hri rfl) hw)) (fun v H' h => ?_)
    obtain ⟨A7, c7, rfl, rfl⟩ := h
    rw [show bytesE nl il = 0 from if_pos hok, show bytesL nl il = bytesV nl il from if_pos hok]
    show VL _ _ _ _ _ (_ :: _)
    refine vl_val rfl (.some rfl) (val_move rfl) ?_
    refine vl_val rfl (.some rfl) (val_extract rfl rfl) ?_
    refine vl_val rfl (.some rfl) (val_extract rfl rfl) ?_
    refine vl_val rfl (.some rfl) (val_assign rfl) ?_
    refine vl_val rfl (.some rfl) (val_assign rfl) ?_
    refine vl_nil ?_
    refine vc_seq ?_
    refine vc_region ?_
    refine vl_val rfl (.some rfl) (val_move rfl) ?_
    refine vl_slCap (A := A7) (by repeat (first | exact .head | apply In.tail | apply Take.tail | apply Upd.tail)) (fun hcap => ?_)
    refine vl_call (C := []) rfl rfl (.some rfl) Try.call34 rfl .nil (fun w hw => cLoad A7 c7 (bytesV nl il) (by omega) hcap w (rdw (rd_sl (by repeat (first | exact .head | apply In.tail | apply Take.tail | apply Upd.tail))) hw)) (fun v H' h => ?_)
    obtain ⟨An9, Ai9, cn9, ci9, rfl, rfl⟩ := h
    rw [hld.1, hld.2.1, hld.2.2]
    show VL _ _ _ _ _ (_ :: _)
    refine vl_val rfl (.some rfl) (val_move rfl) ?_
    refine vl_val rfl (.some rfl) (val_extract rfl rfl) ?_
    refine vl_val rfl (.some rfl) (val_extract rfl rfl) ?_
    refine vl_alloc rfl rfl (.some rfl) Try.zeroValue58 (fun r9 => ?_)
    first | refine vl_store rfl rfl .none rfl rfl Try.sizeOf58 rfl (by repeat (first | exact .head | apply In.tail | apply Take.tail | apply Upd.tail)) (by first | decide | exact Nat.le_refl _ | exact Nat.le_of_ble_eq_true rfl | (simp; omega)) ?_ | refine vl_storeSl rfl rfl .none rfl rfl Try.sizeOf58 rfl (by simp [Value.cells]) (by repeat (first | exact .head | apply In.tail | apply Take.tail | apply Upd.tail)) (by first | decide | (simp [Value.cells]; omega)) ?_
    refine vl_val rfl (.some rfl) (val_assign rfl) ?_
    refine vl_nil ?_
    refine vc_seq ?_
    refine vc_seq ?_
    refine vc_draws [0, 1, 2, 3, 4, 5, 6, 7, 8, 11, 12] [] [0, 1, 2, 3, 4, 5, 6, 7, 8, 9, 10, 11, 12] rfl (by kernel_rfl) (fun _ _ _ h => h) ?_
    refine vd_val rfl rfl rfl (.some rfl) (val_move rfl) ?_
    refine vd_val rfl rfl rfl (.some rfl) (val_net rfl rfl (rfl)) ?_
    refine vd_val rfl rfl rfl (.some rfl) (val_move rfl) ?_
    refine vd_on rfl rfl rfl rfl rfl rfl (.some rfl) (val_move rfl) ?_
    refine vd_on rfl rfl rfl rfl rfl rfl (.some rfl) (val_net rfl rfl (rfl)) ?_
    refine vd_val rfl rfl rfl (.some rfl) (val_pick rfl rfl) ?_
    refine vd_val rfl rfl rfl (.some rfl) (val_move rfl) ?_
    refine vd_on rfl rfl rfl rfl rfl rfl (.some rfl) (val_loadAgg Try.isAgg58 Try.sizeOf58 rfl (by first | exact cells_whole (by repeat (first | exact .head | apply In.tail | apply Take.tail | apply Upd.tail)) | exact cells_part (by repeat (first | exact .head | apply In.tail | apply Take.tail | apply Upd.tail)) rfl) rfl) ?_
    refine vd_on rfl rfl rfl rfl rfl rfl (.some rfl) (val_loadAgg Try.isAgg58 Try.sizeOf58 rfl (by first | exact cells_whole (by repeat (first | exact .head | apply In.tail | apply Take.tail | apply Upd.tail)) | exact cells_part (by repeat (first | exact .head | apply In.tail | apply Take.tail | apply Upd.tail)) rfl) rfl) ?_
    refine vd_op rfl rfl ?_
    refine vl_on rfl rfl rfl rfl ?_
    refine vl_callV rfl rfl (.some rfl) Try.call33 rfl (fun w hw => lPlain _ _ _ _ _ _ w) ?_
    refine vl_nil ?_
    refine ⟨fun _ => ⟨_, (by repeat (first | exact .nil | (apply Sub.cons; · repeat (first | exact .head | apply Take.tail))))⟩, ?_⟩
    refine vd_op rfl rfl ?_
    refine vl_on rfl rfl rfl rfl ?_
    refine vl_callV rfl rfl (.some rfl) Try.call39 rfl (fun w hw => lSame _ _ _ _ _ _ _ _ nl nl il il (by omega) (by omega) w (rdw (rd_sl (by repeat (first | exact .head | apply In.tail | apply Take.tail | apply Upd.tail))) hw) (rdw (rd_sl (by repeat (first | exact .head | apply In.tail | apply Take.tail | apply Upd.tail))) hw) (rdw (rd_old hrn rfl) hw) (rdw (rd_old hri rfl) hw)) ?_
    rw [decide_eq_true ⟨rfl, rfl⟩]
    refine vl_nil ?_
    refine ⟨fun _ => ⟨_, (by repeat (first | exact .nil | (apply Sub.cons; · repeat (first | exact .head | apply Take.tail))))⟩, ?_⟩
    refine vd_on rfl rfl rfl rfl rfl rfl (.some rfl) (val_not rfl) ?_
    refine vd_val rfl rfl rfl (.some rfl) (val_pick rfl rfl) ?_
    refine vd_nil ?_
    refine vc_cond rfl (fun h => by cases h) (fun _ => ?_)
    refine vc_skip ?_
    refine vc_seq ?_
    refine vc_region ?_
    refine vl_val rfl (.some rfl) (val_move rfl) ?_
    refine vl_val rfl (.some rfl) (by first | exact val_fieldAddr Try.runUnderlying58 rfl Try.sizeOf56 rfl | exact val_fieldAddrR Try.runUnderlying58 rfl Try.sizeOf56 rfl) ?_
    refine vl_val rfl (.some rfl) (val_load Try.isAgg56 rfl (by first | exact cell_cells (by repeat (first | exact .head | apply In.tail | apply Take.tail | apply Upd.tail)) rfl | exact cell_rd (rd_sl (by repeat (first | exact .head | apply In.tail | apply Take.tail | apply Upd.tail))) (by first | exact bcells_at (by omega) | exact ucells_at (by omega) | exact icells_at (by omega) | exact tcells_at (by omega) | exact bcells_get (by omega) | exact icells_get (by omega) | exact tcells_get (by omega) | exact ucells_get (by omega)) | exact cell_rd (rd_old (by assumption) rfl) (by first | exact bcells_at (by omega) | exact ucells_at (by omega) | exact icells_at (by omega) | exact tcells_at (by omega) | exact bcells_get (by omega) | exact icells_get (by omega) | exact tcells_get (by omega) | exact ucells_get (by omega)) | exact cell_old (by assumption) (by simp [fps]))) ?_
    refine vl_val rfl (.some rfl) (val_lenSl Try.runUnderlying56 rfl) ?_
    refine vl_val rfl (.some rfl) (val_add rfl rfl (by first | exact w_i64 (by omega) (by omega) | rfl)) ?_
    refine vl_val rfl (.some rfl) (val_convInt Try.runUnderlying3 Try.runUnderlying37 rfl (by first | exact w_u64 (by omega) (by omega) | rfl)) ?_
    refine vl_val rfl (.some rfl) (val_rem rfl rfl (by omega) (show _ = ((cut % (il.length + 1) : Nat) : Int) by rw [rem_nn (by omega), show (il.length : Int) + 1 = ((il.length + 1 : Nat) : Int) by omega]; exact (Int.natCast_emod _ _).symm)) ?_
    have hm0 : cut % (il.length + 1) ≤ il.length := Nat.le_of_lt_succ (Nat.mod_lt _ (by omega))
    generalize cut % (il.length + 1) = n0 at hm0 ⊢
    refine vl_val rfl (.some rfl) (val_convInt Try.runUnderlying37 Try.runUnderlying3 rfl (by first | exact w_i64 (by omega) (by omega) | rfl)) ?_
    refine vl_val rfl (.some rfl) (val_assign rfl) ?_
    refine vl_nil ?_
    refine vc_seq ?_
    refine vc_region ?_
    refine vl_val rfl (.some rfl) (val_assign rfl) ?_
    refine vl_nilSl 3 1 ?_
    refine vl_nil ?_
    refine vc_seq ?_
    refine vc_seq ?_
    refine vc_region ?_
    refine vl_val rfl (.some rfl) (by first | exact val_fieldAddr Try.runUnderlying58 rfl Try.sizeOf56 rfl | exact val_fieldAddrR Try.runUnderlying58 rfl Try.sizeOf56 rfl) ?_
    refine vl_val rfl (.some rfl) (val_load Try.isAgg56 rfl (by first | exact cell_cells (by repeat (first | exact .head | apply In.tail | apply Take.tail | apply Upd.tail)) rfl | exact cell_rd (rd_sl (by repeat (first | exact .head | apply In.tail | apply Take.tail | apply Upd.tail))) (by first | exact bcells_at (by omega) | exact ucells_at (by omega) | exact icells_at (by omega) | exact tcells_at (by omega) | exact bcells_get (by omega) | exact icells_get (by omega) | exact tcells_get (by omega) | exact ucells_get (by omega)) | exact cell_rd (rd_old (by assumption) rfl) (by first | exact bcells_at (by omega) | exact ucells_at (by omega) | exact icells_at (by omega) | exact tcells_at (by omega) | exact bcells_get (by omega) | exact icells_get (by omega) | exact tcells_get (by omega) | exact ucells_get (by omega)) | exact cell_old (by assumption) (by simp [fps]))) ?_
    refine vl_val rfl (.some rfl) (val_lenSl Try.runUnderlying56 rfl) ?_
    refine vl_val rfl (.some rfl) (val_move rfl) ?_
    refine vl_nil ?_
    refine vc_block ?_
    refine vc_loopw (fun k E H => ∃ (i : Nat) (A12 : Option Addr) (c12 : Nat), i ≤ il.length ∧ k = il.length - i ∧ (rngI i).length = i ∧ (rngI i).length ≤ c12 ∧ E = [(2, .pointer (some ⟨r2, 0, none⟩)), (11, .int .i64 n0), (12, .slice A12 (rngI i).length c12), (69, .int .i64 il.length), (70, .int .i64 i)] ∧ H = [IW A12 (rngI i).length c12 (rngI i), cells r2 [.slice An nl.length cn, .slice Ai il.length ci] 58]) (il.length) ⟨_, _, _, ⟨0, none, 0, by omega, rfl, rfl, Nat.le_refl _, rfl, rfl⟩, (by repeat (first | exact trivial | refine ⟨rfl, ?_⟩ | refine ⟨le_item rfl (by first | rfl | (congr 1; omega) | (simp; done) | (simp; omega)), ?_⟩)), (by repeat (first | exact .nil | (apply Sub.cons; · repeat (first | exact .head | apply Take.tail))))⟩ ?_
    intro k E H hI
    obtain ⟨i, A12, c12, hil, rfl, hrg2, hcap12, rfl, rfl⟩ := hI
    refine vc_seq ?_
    refine vc_region ?_
    refine vl_val rfl (.some rfl) (val_lt rfl rfl) ?_
    refine vl_nil ?_
    refine vc_seq ?_
    refine vc_cond rfl (fun hc2 => ?_) (fun hc2 => ?_)
    · (try replace hc2 := of_decide_eq_true hc2)
      refine vc_skip ?_
      refine vc_seq ?_
      refine vc_block ?_
      refine vc_seq ?_
      refine vc_region ?_
      refine vl_val rfl (.some rfl) (val_move rfl) ?_
      refine vl_val rfl (.some rfl) (val_assign rfl) ?_
      refine vl_nil ?_
      refine vc_region ?_
      refine vl_val rfl (.some rfl) (val_move rfl) ?_
      refine vl_val rfl (.some rfl) (val_move rfl) ?_
      refine vl_lit sT56 rfl rfl (.some rfl) rfl rfl rfl (by decide) (by decide) rfl (flat_one rfl) (fun r75 => ?_)
      refine vl_append sT56 rfl rfl (.some rfl) rfl rfl (rd_sl (by repeat (first | exact .head | apply In.tail | apply Take.tail | apply Upd.tail))) (by first | rfl | simp) (by first | rfl | exact one_i _) (by omega) (by omega) (by repeat (first | exact .head | apply In.tail | apply Take.tail | apply Upd.tail)) (fun A76 k76 => ?_)
      rw [rngI_push, show (rngI i).length + 1 = (rngI (i + 1)).length by rw [rngI_len, rngI_len]]
      refine vl_slCap (A := A76) (by repeat (first | exact .head | apply In.tail | apply Take.tail | apply Upd.tail)) (fun hcp => ?_)
      refine vl_val rfl (.some rfl) (val_assign rfl) ?_
      refine vl_nil ?_
      refine vc_region ?_
      refine vl_val rfl (.some rfl) (val_add rfl rfl (by first | exact w_i64 (by omega) (by omega) | rfl)) ?_
      refine vl_val rfl (.some rfl) (val_move rfl) ?_
      refine vl_nil ?_
      exact ⟨il.length - (i + 1), _, _, _, by omega, (by repeat (first | exact trivial | refine ⟨rfl, ?_⟩ | refine ⟨le_item rfl (by first | rfl | (congr 1; omega) | (simp; done) | (simp; omega)), ?_⟩)), (by repeat (first | exact .nil | (apply Sub.cons; · repeat (first | exact .head | apply Take.tail)))), ⟨i + 1, A76, k76, by omega, rfl, rngI_len _, hcp, rfl, rfl⟩⟩
    · (try replace hc2 := of_decide_eq_false hc2)
      obtain rfl : i = il.length := by omega
      have hpt := pick_take hok n0 ((rngI il.length).take n0) rfl
      have hpd := pick_drop hok n0 ((rngI il.length).drop n0) rfl
      refine vc_exit ?_
      refine vc_cut (fun E H => ∃ E0 H0 F, Env.le E0 E ∧ Sub H0 H F ∧ (fun E H => ∃ (An14 Ai14 : Option Addr) (cn14 ci14 r14 : Nat), E = [(2, .pointer (some ⟨r2, 0, none⟩)), (8, .int .i64 0), (11, .int .i64 n0), (12, .slice A12 (rngI il.length).length c12), (14, .pointer (some ⟨r14, 0, none⟩))] ∧ H = [IW A12 (rngI il.length).length c12 (rngI il.length), TW An14 (nl.take n0).length cn14 (nl.take n0), IW Ai14 (il.take n0).length ci14 (il.take n0), cells r14 [.slice An14 (nl.take n0).length cn14, .slice Ai14 (il.take n0).length ci14] 58, cells r2 [.slice An nl.length cn, .slice Ai il.length ci] 58]) E0 H0) ?_ (fun E H h => ?_)
      ·
        refine vc_drawsT 11 [0, 1, 2, 3, 5, 6, 7, 10] ([cells r2 [.slice An nl.length cn, .slice Ai il.length ci] 58]) (by repeat (first | exact .nil | (apply Sub.cons; · repeat (first | exact .head | apply Take.tail)))) rfl (by kernel_rfl) rfl (fun _ _ _ h => h) ?_
        refine vt_val 0 rfl rfl (by kernel_rfl) rfl (.some rfl) (val_loadAgg Try.isAgg58 Try.sizeOf58 rfl (by first | exact cells_whole (by repeat (first | exact .head | apply In.tail | apply Take.tail | apply Upd.tail)) | exact cells_part (by repeat (first | exact .head | apply In.tail | apply Take.tail | apply Upd.tail)) rfl) rfl) ?_
        refine vt_val 1 rfl rfl (by kernel_rfl) rfl (.some rfl) (val_move rfl) ?_
        refine vt_val 2 rfl rfl (by kernel_rfl) rfl (.some rfl) (val_move rfl) ?_
        refine vt_val 3 rfl rfl (by kernel_rfl) rfl (.some rfl) (val_cutTo Try.runUnderlying56 Try.sizeOf3 rfl rfl (by omega) (by omega)) ?_
        refine vt_fork2 4 8 (by kernel_rfl) ?_ ?_
        · refine vt_op rfl ?_
          rw [show Int.toNat (n0 : Int) = ((rngI il.length).take n0).length by rw [List.length_take, Int.toNat_natCast]; omega]
          refine vl_call (C := []) rfl rfl (.some rfl) Try.call42 rfl .nil (fun w hw => cPick An Ai cn ci nl il (by omega) (by omega) A12 c12 ((rngI il.length).take n0) (by rw [List.length_take]; omega) w (rdw (rd_old hrn rfl) hw) (rdw (rd_old hri rfl) hw) (by rw [icells_take]; exact (rdw (rd_sl (by repeat (first | exact .head | apply In.tail | apply Take.tail | apply Upd.tail))) hw).take n0)) (fun v H' h => ?_)
          obtain ⟨An14, Ai14, cn14, ci14, rfl, rfl⟩ := h
          rw [hpt.1, hpt.2.1, hpt.2.2]
          show VL _ _ _ _ _ (_ :: _)
          refine vl_nil ?_
          refine ⟨⟨_, (by repeat (first | exact .nil | (apply Sub.cons; · repeat (first | exact .head | apply Take.tail))))⟩, ?_⟩
          refine vt_val 5 rfl rfl (by kernel_rfl) rfl (.some rfl) (val_move rfl) ?_
          refine vt_val 6 rfl rfl (by kernel_rfl) rfl (.some rfl) (val_extract rfl rfl) ?_
          refine vt_val 7 rfl rfl (by kernel_rfl) rfl (.some rfl) (val_extract rfl rfl) ?_
          refine vt_fork1 8 (by kernel_rfl) ?_
          · refine vt_op rfl ?_
            refine vl_alloc rfl rfl (.some rfl) Try.zeroValue58 (fun r14 => ?_)
            refine vl_nil ?_
            refine ⟨⟨_, (by repeat (first | exact .nil | (apply Sub.cons; · repeat (first | exact .head | apply Take.tail))))⟩, ?_⟩
            refine vt_fork1 9 (by kernel_rfl) ?_
            · refine vt_op rfl ?_
              first | refine vl_store rfl rfl .none rfl rfl Try.sizeOf58 rfl (by repeat (first | exact .head | apply In.tail | apply Take.tail | apply Upd.tail)) (by first | decide | exact Nat.le_refl _ | exact Nat.le_of_ble_eq_true rfl | (simp; omega)) ?_ | refine vl_storeSl rfl rfl .none rfl rfl Try.sizeOf58 rfl (by simp [Value.cells]) (by repeat (first | exact .head | apply In.tail | apply Take.tail | apply Upd.tail)) (by first | decide | (simp [Value.cells]; omega)) ?_
              refine vl_nil ?_
              refine ⟨⟨_, (by repeat (first | exact .nil | (apply Sub.cons; · repeat (first | exact .head | apply Take.tail))))⟩, ?_⟩
              refine vt_val 10 rfl rfl (by kernel_rfl) rfl (.some rfl) (val_assign rfl) ?_
              refine vt_nil (by kernel_rfl) ?_
              exact ⟨_, _, _, (by repeat (first | exact trivial | refine ⟨rfl, ?_⟩ | refine ⟨le_item rfl (by first | rfl | (congr 1; omega) | (simp; done) | (simp; omega)), ?_⟩)), (by repeat (first | exact .nil | (apply Sub.cons; · repeat (first | exact .head | apply Take.tail)))), ⟨An14, Ai14, cn14, ci14, r14, rfl, rfl⟩⟩
        · refine vt_op rfl ?_
          refine vl_alloc rfl rfl (.some rfl) Try.zeroValue58 (fun r14 => ?_)
          refine vl_nil ?_
          refine ⟨⟨_, (by repeat (first | exact .nil | (apply Sub.cons; · repeat (first | exact .head | apply Take.tail))))⟩, ?_⟩
          refine vt_fork1 4 (by kernel_rfl) ?_
          · refine vt_op rfl ?_
            rw [show Int.toNat (n0 : Int) = ((rngI il.length).take n0).length by rw [List.length_take, Int.toNat_natCast]; omega]
            refine vl_call (C := []) rfl rfl (.some rfl) Try.call42 rfl .nil (fun w hw => cPick An Ai cn ci nl il (by omega) (by omega) A12 c12 ((rngI il.length).take n0) (by rw [List.length_take]; omega) w (rdw (rd_old hrn rfl) hw) (rdw (rd_old hri rfl) hw) (by rw [icells_take]; exact (rdw (rd_sl (by repeat (first | exact .head | apply In.tail | apply Take.tail | apply Upd.tail))) hw).take n0)) (fun v H' h => ?_)
            obtain ⟨An14, Ai14, cn14, ci14, rfl, rfl⟩ := h
            rw [hpt.1, hpt.2.1, hpt.2.2]
            show VL _ _ _ _ _ (_ :: _)
            refine vl_nil ?_
            refine ⟨⟨_, (by repeat (first | exact .nil | (apply Sub.cons; · repeat (first | exact .head | apply Take.tail))))⟩, ?_⟩
            refine vt_val 5 rfl rfl (by kernel_rfl) rfl (.some rfl) (val_move rfl) ?_
            refine vt_val 6 rfl rfl (by kernel_rfl) rfl (.some rfl) (val_extract rfl rfl) ?_
            refine vt_val 7 rfl rfl (by kernel_rfl) rfl (.some rfl) (val_extract rfl rfl) ?_
            refine vt_fork1 9 (by kernel_rfl) ?_
            · refine vt_op rfl ?_
              first | refine vl_store rfl rfl .none rfl rfl Try.sizeOf58 rfl (by repeat (first | exact .head | apply In.tail | apply Take.tail | apply Upd.tail)) (by first | decide | exact Nat.le_refl _ | exact Nat.le_of_ble_eq_true rfl | (simp; omega)) ?_ | refine vl_storeSl rfl rfl .none rfl rfl Try.sizeOf58 rfl (by simp [Value.cells]) (by repeat (first | exact .head | apply In.tail | apply Take.tail | apply Upd.tail)) (by first | decide | (simp [Value.cells]; omega)) ?_
              refine vl_nil ?_
              refine ⟨⟨_, (by repeat (first | exact .nil | (apply Sub.cons; · repeat (first | exact .head | apply Take.tail))))⟩, ?_⟩
              refine vt_val 10 rfl rfl (by kernel_rfl) rfl (.some rfl) (val_assign rfl) ?_
              refine vt_nil (by kernel_rfl) ?_
              exact ⟨_, _, _, (by repeat (first | exact trivial | refine ⟨rfl, ?_⟩ | refine ⟨le_item rfl (by first | rfl | (congr 1; omega) | (simp; done) | (simp; omega)), ?_⟩)), (by repeat (first | exact .nil | (apply Sub.cons; · repeat (first | exact .head | apply Take.tail)))), ⟨An14, Ai14, cn14, ci14, r14, rfl, rfl⟩⟩
      · obtain ⟨E0, H0, F, hE0, hH0, hJ⟩ := h
        obtain ⟨An14, Ai14, cn14, ci14, r14, rfl, rfl⟩ := hJ
        refine vc_weak hE0 hH0 ?_
        refine vc_cut (fun E H => ∃ E0 H0 F, Env.le E0 E ∧ Sub H0 H F ∧ (fun E H => ∃ (An15 Ai15 : Option Addr) (cn15 ci15 r15 : Nat), E = [(2, .pointer (some ⟨r2, 0, none⟩)), (8, .int .i64 0), (10, .int .i64 0), (14, .pointer (some ⟨r14, 0, none⟩)), (15, .pointer (some ⟨r15, 0, none⟩))] ∧ H = [TW An14 (nl.take n0).length cn14 (nl.take n0), IW Ai14 (il.take n0).length ci14 (il.take n0), cells r14 [.slice An14 (nl.take n0).length cn14, .slice Ai14 (il.take n0).length ci14] 58, TW An15 (nl.drop n0).length cn15 (nl.drop n0), IW Ai15 (il.drop n0).length ci15 (il.drop n0), cells r15 [.slice An15 (nl.drop n0).length cn15, .slice Ai15 (il.drop n0).length ci15] 58, cells r2 [.slice An nl.length cn, .slice Ai il.length ci] 58]) E0 H0) ?_ (fun E H h => ?_)
        ·
          refine vc_drawsT 11 [0, 1, 2, 3, 5, 6, 7, 10] ([cells r2 [.slice An nl.length cn, .slice Ai il.length ci] 58]) (by repeat (first | exact .nil | (apply Sub.cons; · repeat (first | exact .head | apply Take.tail)))) rfl (by kernel_rfl) rfl (fun _ _ _ h => h) ?_
          refine vt_val 0 rfl rfl (by kernel_rfl) rfl (.some rfl) (val_loadAgg Try.isAgg58 Try.sizeOf58 rfl (by first | exact cells_whole (by repeat (first | exact .head | apply In.tail | apply Take.tail | apply Upd.tail)) | exact cells_part (by repeat (first | exact .head | apply In.tail | apply Take.tail | apply Upd.tail)) rfl) rfl) ?_
          refine vt_val 1 rfl rfl (by kernel_rfl) rfl (.some rfl) (val_move rfl) ?_
          refine vt_val 2 rfl rfl (by kernel_rfl) rfl (.some rfl) (val_move rfl) ?_
          refine vt_val 3 rfl rfl (by kernel_rfl) rfl (.some rfl) (val_cutFrom Try.runUnderlying56 Try.sizeOf3 rfl rfl (by omega) (by omega)) ?_
          refine vt_fork2 4 8 (by kernel_rfl) ?_ ?_
          · refine vt_op rfl ?_
            rw [show Int.toNat (n0 : Int) = n0 from Int.toNat_natCast _, show (rngI il.length).length - n0 = ((rngI il.length).drop n0).length by rw [List.length_drop]]
            refine vl_call (C := []) rfl rfl (.some rfl) Try.call42 rfl .nil (fun w hw => cPick An Ai cn ci nl il (by omega) (by omega) (cutA A12 c12 n0 1) (c12 - n0) ((rngI il.length).drop n0) (by rw [List.length_drop]; omega) w (rdw (rd_old hrn rfl) hw) (rdw (rd_old hri rfl) hw) (reads_cutI (rdw (rd_sl (by repeat (first | exact .head | apply In.tail | apply Take.tail | apply Upd.tail))) hw) hcap12)) (fun v H' h => ?_)
            obtain ⟨An15, Ai15, cn15, ci15, rfl, rfl⟩ := h
            rw [hpd.1, hpd.2.1, hpd.2.2]
            show VL _ _ _ _ _ (_ :: _)
            refine vl_nil ?_
            refine ⟨⟨_, (by repeat (first | exact .nil | (apply Sub.cons; · repeat (first | exact .head | apply Take.tail))))⟩, ?_⟩
            refine vt_val 5 rfl rfl (by kernel_rfl) rfl (.some rfl) (val_move rfl) ?_
            refine vt_val 6 rfl rfl (by kernel_rfl) rfl (.some rfl) (val_extract rfl rfl) ?_
            refine vt_val 7 rfl rfl (by kernel_rfl) rfl (.some rfl) (val_extract rfl rfl) ?_
            refine vt_fork1 8 (by kernel_rfl) ?_
            · refine vt_op rfl ?_
              refine vl_alloc rfl rfl (.some rfl) Try.zeroValue58 (fun r15 => ?_)
              refine vl_nil ?_
              refine ⟨⟨_, (by repeat (first | exact .nil | (apply Sub.cons; · repeat (first | exact .head | apply Take.tail))))⟩, ?_⟩
              refine vt_fork1 9 (by kernel_rfl) ?_
              · refine vt_op rfl ?_
                first | refine vl_store rfl rfl .none rfl rfl Try.sizeOf58 rfl (by repeat (first | exact .head | apply In.tail | apply Take.tail | apply Upd.tail)) (by first | decide | exact Nat.le_refl _ | exact Nat.le_of_ble_eq_true rfl | (simp; omega)) ?_ | refine vl_storeSl rfl rfl .none rfl rfl Try.sizeOf58 rfl (by simp [Value.cells]) (by repeat (first | exact .head | apply In.tail | apply Take.tail | apply Upd.tail)) (by first | decide | (simp [Value.cells]; omega)) ?_
                refine vl_nil ?_
                refine ⟨⟨_, (by repeat (first | exact .nil | (apply Sub.cons; · repeat (first | exact .head | apply Take.tail))))⟩, ?_⟩
                refine vt_val 10 rfl rfl (by kernel_rfl) rfl (.some rfl) (val_assign rfl) ?_
                refine vt_nil (by kernel_rfl) ?_
                exact ⟨_, _, _, (by repeat (first | exact trivial | refine ⟨rfl, ?_⟩ | refine ⟨le_item rfl (by first | rfl | (congr 1; omega) | (simp; done) | (simp; omega)), ?_⟩)), (by repeat (first | exact .nil | (apply Sub.cons; · repeat (first | exact .head | apply Take.tail)))), ⟨An15, Ai15, cn15, ci15, r15, rfl, rfl⟩⟩
          · refine vt_op rfl ?_
            refine vl_alloc rfl rfl (.some rfl) Try.zeroValue58 (fun r15 => ?_)
            refine vl_nil ?_
            refine ⟨⟨_, (by repeat (first | exact .nil | (apply Sub.cons; · repeat (first | exact .head | apply Take.tail))))⟩, ?_⟩
            refine vt_fork1 4 (by kernel_rfl) ?_
            · refine vt_op rfl ?_
              rw [show Int.toNat (n0 : Int) = n0 from Int.toNat_natCast _, show (rngI il.length).length - n0 = ((rngI il.length).drop n0).length by rw [List.length_drop]]
              refine vl_call (C := []) rfl rfl (.some rfl) Try.call42 rfl .nil (fun w hw => cPick An Ai cn ci nl il (by omega) (by omega) (cutA A12 c12 n0 1) (c12 - n0) ((rngI il.length).drop n0) (by rw [List.length_drop]; omega) w (rdw (rd_old hrn rfl) hw) (rdw (rd_old hri rfl) hw) (reads_cutI (rdw (rd_sl (by repeat (first | exact .head | apply In.tail | apply Take.tail | apply Upd.tail))) hw) hcap12)) (fun v H' h => ?_)
              obtain ⟨An15, Ai15, cn15, ci15, rfl, rfl⟩ := h
              rw [hpd.1, hpd.2.1, hpd.2.2]
              show VL _ _ _ _ _ (_ :: _)
              refine vl_nil ?_
              refine ⟨⟨_, (by repeat (first | exact .nil | (apply Sub.cons; · repeat (first | exact .head | apply Take.tail))))⟩, ?_⟩
              refine vt_val 5 rfl rfl (by kernel_rfl) rfl (.some rfl) (val_move rfl) ?_
              refine vt_val 6 rfl rfl (by kernel_rfl) rfl (.some rfl) (val_extract rfl rfl) ?_
              refine vt_val 7 rfl rfl (by kernel_rfl) rfl (.some rfl) (val_extract rfl rfl) ?_
              refine vt_fork1 9 (by kernel_rfl) ?_
              · refine vt_op rfl ?_
                first | refine vl_store rfl rfl .none rfl rfl Try.sizeOf58 rfl (by repeat (first | exact .head | apply In.tail | apply Take.tail | apply Upd.tail)) (by first | decide | exact Nat.le_refl _ | exact Nat.le_of_ble_eq_true rfl | (simp; omega)) ?_ | refine vl_storeSl rfl rfl .none rfl rfl Try.sizeOf58 rfl (by simp [Value.cells]) (by repeat (first | exact .head | apply In.tail | apply Take.tail | apply Upd.tail)) (by first | decide | (simp [Value.cells]; omega)) ?_
                refine vl_nil ?_
                refine ⟨⟨_, (by repeat (first | exact .nil | (apply Sub.cons; · repeat (first | exact .head | apply Take.tail))))⟩, ?_⟩
                refine vt_val 10 rfl rfl (by kernel_rfl) rfl (.some rfl) (val_assign rfl) ?_
                refine vt_nil (by kernel_rfl) ?_
                exact ⟨_, _, _, (by repeat (first | exact trivial | refine ⟨rfl, ?_⟩ | refine ⟨le_item rfl (by first | rfl | (congr 1; omega) | (simp; done) | (simp; omega)), ?_⟩)), (by repeat (first | exact .nil | (apply Sub.cons; · repeat (first | exact .head | apply Take.tail)))), ⟨An15, Ai15, cn15, ci15, r15, rfl, rfl⟩⟩
        · obtain ⟨E0, H0, F, hE0, hH0, hJ⟩ := h
          obtain ⟨An15, Ai15, cn15, ci15, r15, rfl, rfl⟩ := hJ
          refine vc_weak hE0 hH0 ?_
          refine vc_seq ?_
          refine vc_region ?_
          refine vl_val rfl (.some rfl) (val_loadAgg Try.isAgg58 Try.sizeOf58 rfl (by first | exact cells_whole (by repeat (first | exact .head | apply In.tail | apply Take.tail | apply Upd.tail)) | exact cells_part (by repeat (first | exact .head | apply In.tail | apply Take.tail | apply Upd.tail)) rfl) rfl) ?_
          refine vl_val rfl (.some rfl) (val_loadAgg Try.isAgg58 Try.sizeOf58 rfl (by first | exact cells_whole (by repeat (first | exact .head | apply In.tail | apply Take.tail | apply Upd.tail)) | exact cells_part (by repeat (first | exact .head | apply In.tail | apply Take.tail | apply Upd.tail)) rfl) rfl) ?_
          refine vl_lit sT75 rfl rfl (.some rfl) rfl rfl rfl (by decide) (by decide) rfl rfl (fun r97 => ?_)
          have hj2 := join_two hok n0 An14 Ai14 An15 Ai15 cn14 ci14 cn15 ci15 [((⟨An14, cn14, nl.take n0⟩, ⟨Ai14, ci14, il.take n0⟩, ()) : Vt), (⟨An15, cn15, nl.drop n0⟩, ⟨Ai15, ci15, il.drop n0⟩, ())] rfl
          refine vl_call (C := []) rfl rfl (.some rfl) Try.call40 rfl .nil (fun w hw => cJoin (some ⟨r97, 0, none⟩) 2 [((⟨An14, cn14, nl.take n0⟩, ⟨Ai14, ci14, il.take n0⟩, ()) : Vt), (⟨An15, cn15, nl.drop n0⟩, ⟨Ai15, ci15, il.drop n0⟩, ())] (show 2 ≤ 2932031007402 by decide) w (rdw (rd_sl (by repeat (first | exact .head | apply In.tail | apply Take.tail | apply Upd.tail))) hw) (fun v hv' => by
            rcases List.mem_cons.1 hv' with rfl | hv'
            · exact ⟨(rdw (rd_sl (by repeat (first | exact .head | apply In.tail | apply Take.tail | apply Upd.tail))) hw), by show (nl.take n0).length < _; rw [List.length_take]; omega, (rdw (rd_sl (by repeat (first | exact .head | apply In.tail | apply Take.tail | apply Upd.tail))) hw), by show (il.take n0).length < _; rw [List.length_take]; omega⟩
            · rcases List.mem_cons.1 hv' with rfl | hv'
              · exact ⟨(rdw (rd_sl (by repeat (first | exact .head | apply In.tail | apply Take.tail | apply Upd.tail))) hw), by show (nl.drop n0).length < _; rw [List.length_drop]; omega, (rdw (rd_sl (by repeat (first | exact .head | apply In.tail | apply Take.tail | apply Upd.tail))) hw), by show (il.drop n0).length < _; rw [List.length_drop]; omega⟩
              · cases hv')) (fun v H' h => ?_)
          obtain ⟨An16, Ai16, cn16, ci16, rfl, rfl⟩ := h
          rw [hj2.1, hj2.2.1, hj2.2.2]
          show VL _ _ _ _ _ (_ :: _)
          refine vl_val rfl (.some rfl) (val_move rfl) ?_
          refine vl_val rfl (.some rfl) (val_extract rfl rfl) ?_
          refine vl_val rfl (.some rfl) (val_extract rfl rfl) ?_
          refine vl_alloc rfl rfl (.some rfl) Try.zeroValue58 (fun r16 => ?_)
          first | refine vl_store rfl rfl .none rfl rfl Try.sizeOf58 rfl (by repeat (first | exact .head | apply In.tail | apply Take.tail | apply Upd.tail)) (by first | decide | exact Nat.le_refl _ | exact Nat.le_of_ble_eq_true rfl | (simp; omega)) ?_ | refine vl_storeSl rfl rfl .none rfl rfl Try.sizeOf58 rfl (by simp [Value.cells]) (by repeat (first | exact .head | apply In.tail | apply Take.tail | apply Upd.tail)) (by first | decide | (simp [Value.cells]; omega)) ?_
          refine vl_val rfl (.some rfl) (val_assign rfl) ?_
          refine vl_nil ?_
          refine vc_seq ?_
          refine vc_seq ?_
          refine vc_draws [0, 1, 2, 3, 4, 5, 6, 7, 8, 9, 10, 11, 12, 15, 16] [] [0, 1, 2, 3, 4, 5, 6, 7, 8, 9, 10, 11, 12, 13, 14, 15, 16] rfl (by kernel_rfl) (fun _ _ _ h => h) ?_
          refine vd_val rfl rfl rfl (.some rfl) (val_move rfl) ?_
          refine vd_val rfl rfl rfl (.some rfl) (val_net rfl rfl (rfl)) ?_
          refine vd_val rfl rfl rfl (.some rfl) (val_move rfl) ?_
          refine vd_on rfl rfl rfl rfl rfl rfl (.some rfl) (val_move rfl) ?_
          refine vd_on rfl rfl rfl rfl rfl rfl (.some rfl) (val_net rfl rfl (rfl)) ?_
          refine vd_val rfl rfl rfl (.some rfl) (val_pick rfl rfl) ?_
          refine vd_val rfl rfl rfl (.some rfl) (val_move rfl) ?_
          refine vd_on rfl rfl rfl rfl rfl rfl (.some rfl) (val_move rfl) ?_
          refine vd_on rfl rfl rfl rfl rfl rfl (.some rfl) (val_net rfl rfl (rfl)) ?_
          refine vd_val rfl rfl rfl (.some rfl) (val_pick rfl rfl) ?_
          refine vd_val rfl rfl rfl (.some rfl) (val_move rfl) ?_
          refine vd_on rfl rfl rfl rfl rfl rfl (.some rfl) (val_loadAgg Try.isAgg58 Try.sizeOf58 rfl (by first | exact cells_whole (by repeat (first | exact .head | apply In.tail | apply Take.tail | apply Upd.tail)) | exact cells_part (by repeat (first | exact .head | apply In.tail | apply Take.tail | apply Upd.tail)) rfl) rfl) ?_
          refine vd_on rfl rfl rfl rfl rfl rfl (.some rfl) (val_loadAgg Try.isAgg58 Try.sizeOf58 rfl (by first | exact cells_whole (by repeat (first | exact .head | apply In.tail | apply Take.tail | apply Upd.tail)) | exact cells_part (by repeat (first | exact .head | apply In.tail | apply Take.tail | apply Upd.tail)) rfl) rfl) ?_
          refine vd_op rfl rfl ?_
          refine vl_on rfl rfl rfl rfl ?_
          refine vl_callV rfl rfl (.some rfl) Try.call33 rfl (fun w hw => lPlain _ _ _ _ _ _ w) ?_
          refine vl_nil ?_
          refine ⟨fun _ => ⟨_, (by repeat (first | exact .nil | (apply Sub.cons; · repeat (first | exact .head | apply Take.tail))))⟩, ?_⟩
          refine vd_op rfl rfl ?_
          refine vl_on rfl rfl rfl rfl ?_
          refine vl_callV rfl rfl (.some rfl) Try.call39 rfl (fun w hw => lSame _ _ _ _ _ _ _ _ nl nl il il (by omega) (by omega) w (rdw (rd_sl (by repeat (first | exact .head | apply In.tail | apply Take.tail | apply Upd.tail))) hw) (rdw (rd_sl (by repeat (first | exact .head | apply In.tail | apply Take.tail | apply Upd.tail))) hw) (rdw (rd_old hrn rfl) hw) (rdw (rd_old hri rfl) hw)) ?_
          rw [decide_eq_true ⟨rfl, rfl⟩]
          refine vl_nil ?_
          refine ⟨fun _ => ⟨_, (by repeat (first | exact .nil | (apply Sub.cons; · repeat (first | exact .head | apply Take.tail))))⟩, ?_⟩
          refine vd_on rfl rfl rfl rfl rfl rfl (.some rfl) (val_not rfl) ?_
          refine vd_val rfl rfl rfl (.some rfl) (val_pick rfl rfl) ?_
          refine vd_nil ?_
          refine vc_cond rfl (fun h => by cases h) (fun _ => ?_)
          refine vc_skip ?_
          refine vc_seq ?_
          refine vc_seq ?_
          refine vc_region ?_
          refine vl_val rfl (.some rfl) (by first | exact val_fieldAddr Try.runUnderlying58 rfl Try.sizeOf56 rfl | exact val_fieldAddrR Try.runUnderlying58 rfl Try.sizeOf56 rfl) ?_
          refine vl_val rfl (.some rfl) (val_load Try.isAgg56 rfl (by first | exact cell_cells (by repeat (first | exact .head | apply In.tail | apply Take.tail | apply Upd.tail)) rfl | exact cell_rd (rd_sl (by repeat (first | exact .head | apply In.tail | apply Take.tail | apply Upd.tail))) (by first | exact bcells_at (by omega) | exact ucells_at (by omega) | exact icells_at (by omega) | exact tcells_at (by omega) | exact bcells_get (by omega) | exact icells_get (by omega) | exact tcells_get (by omega) | exact ucells_get (by omega)) | exact cell_rd (rd_old (by assumption) rfl) (by first | exact bcells_at (by omega) | exact ucells_at (by omega) | exact icells_at (by omega) | exact tcells_at (by omega) | exact bcells_get (by omega) | exact icells_get (by omega) | exact tcells_get (by omega) | exact ucells_get (by omega)) | exact cell_old (by assumption) (by simp [fps]))) ?_
          refine vl_val rfl (.some rfl) (val_lenSl Try.runUnderlying56 rfl) ?_
          refine vl_val rfl (.some rfl) (val_move rfl) ?_
          refine vl_nil ?_
          refine vc_block ?_
          refine vc_loopw (fun k E H => ∃ i : Nat, i ≤ il.length ∧ k = il.length - i ∧ E = [(2, .pointer (some ⟨r2, 0, none⟩)), (119, .slice Ai il.length ci), (120, .int .i64 il.length), (121, .int .i64 i)] ∧ H = [cells r2 [.slice An nl.length cn, .slice Ai il.length ci] 58]) (il.length) ⟨_, _, _, ⟨0, by omega, rfl, rfl, rfl⟩, (by repeat (first | exact trivial | refine ⟨rfl, ?_⟩ | refine ⟨le_item rfl (by first | rfl | (congr 1; omega) | (simp; done) | (simp; omega)), ?_⟩)), (by repeat (first | exact .nil | (apply Sub.cons; · repeat (first | exact .head | apply Take.tail))))⟩ ?_
          intro k E H hI
          obtain ⟨i, hil, rfl, rfl, rfl⟩ := hI
          refine vc_seq ?_
          refine vc_region ?_
          refine vl_val rfl (.some rfl) (val_lt rfl rfl) ?_
          refine vl_nil ?_
          refine vc_seq ?_
          refine vc_cond rfl (fun hc4 => ?_) (fun hc4 => ?_)
          · (try replace hc4 := of_decide_eq_true hc4)
            have hi8 : i < il.length := by omega
            have hwl := where_lenB nl il (il.getD i 0)
            have hmw := mem_where hok hi8
            refine vc_skip ?_
            refine vc_seq ?_
            refine vc_block ?_
            refine vc_seq ?_
            refine vc_region ?_
            refine vl_val rfl (.some rfl) (val_move rfl) ?_
            refine vl_val rfl (.some rfl) (val_indexAddr Try.runUnderlying56 Try.sizeOf3 rfl rfl (by first | exact rd_sl (by repeat (first | exact .head | apply In.tail | apply Take.tail | apply Upd.tail)) | exact rd_slr (by repeat (first | exact .head | apply In.tail | apply Take.tail | apply Upd.tail)) | exact rd_old (by assumption) rfl) (by omega) (by omega) (by first | omega | (simp only [bcells_length, icells_length, ucells_length, tcells_length]; omega) | (simp only [bcells_length, icells_length, ucells_length, tcells_length, fillG_length]; omega) | (simp; omega))) ?_
            refine vl_val rfl (.some rfl) (val_load Try.isAgg3 rfl (by first | exact cell_cells (by repeat (first | exact .head | apply In.tail | apply Take.tail | apply Upd.tail)) rfl | exact cell_rd (rd_sl (by repeat (first | exact .head | apply In.tail | apply Take.tail | apply Upd.tail))) (by first | exact bcells_at (by omega) | exact ucells_at (by omega) | exact icells_at (by omega) | exact tcells_at (by omega) | exact bcells_get (by omega) | exact icells_get (by omega) | exact tcells_get (by omega) | exact ucells_get (by omega)) | exact cell_rd (rd_old (by assumption) rfl) (by first | exact bcells_at (by omega) | exact ucells_at (by omega) | exact icells_at (by omega) | exact tcells_at (by omega) | exact bcells_get (by omega) | exact icells_get (by omega) | exact tcells_get (by omega) | exact ucells_get (by omega)) | exact cell_old (by assumption) (by simp [fps]))) ?_
            refine vl_val rfl (.some rfl) (val_assign rfl) ?_
            refine vl_val rfl (.some rfl) (val_assign rfl) ?_
            refine vl_nil ?_
            refine vc_seq ?_
            refine vc_region ?_
            refine vl_val rfl (.some rfl) (val_assign rfl) ?_
            refine vl_nil ?_
            refine vc_seq ?_
            refine vc_seq ?_
            refine vc_region ?_
            refine vl_val rfl (.some rfl) (val_loadAgg Try.isAgg58 Try.sizeOf58 rfl (by first | exact cells_whole (by repeat (first | exact .head | apply In.tail | apply Take.tail | apply Upd.tail)) | exact cells_part (by repeat (first | exact .head | apply In.tail | apply Take.tail | apply Upd.tail)) rfl) rfl) ?_
            refine vl_val rfl (.some rfl) (val_move rfl) ?_
            refine vl_call (C := []) rfl rfl (.some rfl) Try.call43 rfl .nil (fun w hw => cWhere (il.getD i 0) An Ai cn ci nl il (by omega) (by omega) w (rdw (rd_old hrn rfl) hw) (rdw (rd_old hri rfl) hw)) (fun v H' h => ?_)
            obtain ⟨A28, c28, rfl, rfl⟩ := h
            show VL _ _ _ _ _ (_ :: _)
            refine vl_val rfl (.some rfl) (val_lenSl Try.runUnderlying56 rfl) ?_
            refine vl_val rfl (.some rfl) (val_move rfl) ?_
            refine vl_nil ?_
            refine vc_block ?_
            refine vc_loopw (fun k E H => ∃ (j : Nat) (f : Bool), j ≤ (whereL nl il (il.getD i 0)).length ∧ k = (whereL nl il (il.getD i 0)).length - j ∧ f = decide ((i : Int) ∈ (whereL nl il (il.getD i 0)).take j) ∧ E = [(2, .pointer (some ⟨r2, 0, none⟩)), (18, .int .i64 i), (19, .int .i64 (il.getD i 0)), (20, .bool f), (119, .slice Ai il.length ci), (120, .int .i64 il.length), (121, .int .i64 i), (128, .slice A28 (whereL nl il (il.getD i 0)).length c28), (129, .int .i64 (whereL nl il (il.getD i 0)).length), (130, .int .i64 j)] ∧ H = [IW A28 (whereL nl il (il.getD i 0)).length c28 (whereL nl il (il.getD i 0)), cells r2 [.slice An nl.length cn, .slice Ai il.length ci] 58]) ((whereL nl il (il.getD i 0)).length) ⟨_, _, _, ⟨0, false, by omega, rfl, rfl, rfl, rfl⟩, (by repeat (first | exact trivial | refine ⟨rfl, ?_⟩ | refine ⟨le_item rfl (by first | rfl | (congr 1; omega) | (simp; done) | (simp; omega)), ?_⟩)), (by repeat (first | exact .nil | (apply Sub.cons; · repeat (first | exact .head | apply Take.tail))))⟩ ?_
            intro k E H hI
            obtain ⟨j, f, hj, rfl, hf, rfl, rfl⟩ := hI
            refine vc_seq ?_
            refine vc_region ?_
            refine vl_val rfl (.some rfl) (val_lt rfl rfl) ?_
            refine vl_nil ?_
            refine vc_seq ?_
            refine vc_cond rfl (fun hc5 => ?_) (fun hc5 => ?_)
            · (try replace hc5 := of_decide_eq_true hc5)
              have hj8 : j < (whereL nl il (il.getD i 0)).length := by omega
              have hfn := found_next hf hj8
              refine vc_skip ?_
              refine vc_seq ?_
              refine vc_block ?_
              refine vc_seq ?_
              refine vc_region ?_
              refine vl_val rfl (.some rfl) (val_indexAddr Try.runUnderlying56 Try.sizeOf3 rfl rfl (by first | exact rd_sl (by repeat (first | exact .head | apply In.tail | apply Take.tail | apply Upd.tail)) | exact rd_slr (by repeat (first | exact .head | apply In.tail | apply Take.tail | apply Upd.tail)) | exact rd_old (by assumption) rfl) (by omega) (by omega) (by first | omega | (simp only [bcells_length, icells_length, ucells_length, tcells_length]; omega) | (simp only [bcells_length, icells_length, ucells_length, tcells_length, fillG_length]; omega) | (simp; omega))) ?_
              refine vl_val rfl (.some rfl) (val_load Try.isAgg3 rfl (by first | exact cell_cells (by repeat (first | exact .head | apply In.tail | apply Take.tail | apply Upd.tail)) rfl | exact cell_rd (rd_sl (by repeat (first | exact .head | apply In.tail | apply Take.tail | apply Upd.tail))) (by first | exact bcells_at (by omega) | exact ucells_at (by omega) | exact icells_at (by omega) | exact tcells_at (by omega) | exact bcells_get (by omega) | exact icells_get (by omega) | exact tcells_get (by omega) | exact ucells_get (by omega)) | exact cell_rd (rd_old (by assumption) rfl) (by first | exact bcells_at (by omega) | exact ucells_at (by omega) | exact icells_at (by omega) | exact tcells_at (by omega) | exact bcells_get (by omega) | exact icells_get (by omega) | exact tcells_get (by omega) | exact ucells_get (by omega)) | exact cell_old (by assumption) (by simp [fps]))) ?_
              refine vl_val rfl (.some rfl) (val_assign rfl) ?_
              refine vl_nil ?_
              refine vc_region ?_
              refine vl_val rfl (.some rfl) (val_move rfl) ?_
              refine vl_val rfl (.some rfl) (val_move rfl) ?_
              refine vl_split (t := 135) rfl (fun hg135 => ?_) (fun hg135 => ?_)
              · (try replace hg135 := of_decide_eq_true hg135)
                refine vl_off rfl rfl rfl rfl (.some rfl) ?_
                refine vl_off rfl rfl rfl rfl (.some rfl) ?_
                refine vl_off rfl rfl rfl rfl (.some rfl) ?_
                refine vl_val rfl (.some rfl) (val_pick rfl rfl) ?_
                refine vl_val rfl (.some rfl) (val_assign rfl) ?_
                refine vl_nil ?_
                refine vc_region ?_
                refine vl_val rfl (.some rfl) (val_add rfl rfl (by first | exact w_i64 (by omega) (by omega) | rfl)) ?_
                refine vl_val rfl (.some rfl) (val_move rfl) ?_
                refine vl_nil ?_
                first
                  | exact ⟨(whereL nl il (il.getD i 0)).length - (j + 1), _, _, _, by omega, (by repeat (first | exact trivial | refine ⟨rfl, ?_⟩ | refine ⟨le_item rfl (by first | rfl | (congr 1; omega) | (simp; done) | (simp; omega)), ?_⟩)), (by repeat (first | exact .nil | (apply Sub.cons; · repeat (first | exact .head | apply Take.tail)))), ⟨j + 1, true, by omega, rfl, hfn.1 hg135, rfl, rfl⟩⟩
                  | exact ⟨(whereL nl il (il.getD i 0)).length - (j + 1), _, _, _, by omega, (by repeat (first | exact trivial | refine ⟨rfl, ?_⟩ | refine ⟨le_item rfl (by first | rfl | (congr 1; omega) | (simp; done) | (simp; omega)), ?_⟩)), (by repeat (first | exact .nil | (apply Sub.cons; · repeat (first | exact .head | apply Take.tail)))), ⟨j + 1, decide ((whereL nl il (il.getD i 0)).getD j 0 = (i : Int)), by omega, rfl, hfn.2 hg135, rfl, rfl⟩⟩
              · (try replace hg135 := of_decide_eq_false hg135)
                refine vl_on rfl rfl rfl rfl ?_
                refine vl_val rfl (.some rfl) (val_move rfl) ?_
                refine vl_on rfl rfl rfl rfl ?_
                refine vl_val rfl (.some rfl) (val_move rfl) ?_
                refine vl_on rfl rfl rfl rfl ?_
                refine vl_val rfl (.some rfl) (val_eq rfl rfl) ?_
                refine vl_val rfl (.some rfl) (val_pick rfl rfl) ?_
                refine vl_val rfl (.some rfl) (val_assign rfl) ?_
                refine vl_nil ?_
                refine vc_region ?_
                refine vl_val rfl (.some rfl) (val_add rfl rfl (by first | exact w_i64 (by omega) (by omega) | rfl)) ?_
                refine vl_val rfl (.some rfl) (val_move rfl) ?_
                refine vl_nil ?_
                first
                  | exact ⟨(whereL nl il (il.getD i 0)).length - (j + 1), _, _, _, by omega, (by repeat (first | exact trivial | refine ⟨rfl, ?_⟩ | refine ⟨le_item rfl (by first | rfl | (congr 1; omega) | (simp; done) | (simp; omega)), ?_⟩)), (by repeat (first | exact .nil | (apply Sub.cons; · repeat (first | exact .head | apply Take.tail)))), ⟨j + 1, true, by omega, rfl, hfn.1 hg135, rfl, rfl⟩⟩
                  | exact ⟨(whereL nl il (il.getD i 0)).length - (j + 1), _, _, _, by omega, (by repeat (first | exact trivial | refine ⟨rfl, ?_⟩ | refine ⟨le_item rfl (by first | rfl | (congr 1; omega) | (simp; done) | (simp; omega)), ?_⟩)), (by repeat (first | exact .nil | (apply Sub.cons; · repeat (first | exact .head | apply Take.tail)))), ⟨j + 1, decide ((whereL nl il (il.getD i 0)).getD j 0 = (i : Int)), by omega, rfl, hfn.2 hg135, rfl, rfl⟩⟩
            · (try replace hc5 := of_decide_eq_false hc5)
              obtain rfl : j = (whereL nl il (il.getD i 0)).length := by omega
              rw [List.take_length] at hf
              rw [hmw] at hf
              refine vc_exit ?_
              refine vc_seq ?_
              refine vc_seq ?_
              refine vc_region ?_
              refine vl_val rfl (.some rfl) (val_move rfl) ?_
              refine vl_val rfl (.some rfl) (by first | exact val_fieldAddr Try.runUnderlying58 rfl Try.sizeOf55 rfl | exact val_fieldAddrR Try.runUnderlying58 rfl Try.sizeOf55 rfl) ?_
              refine vl_val rfl (.some rfl) (val_load Try.isAgg55 rfl (by first | exact cell_cells (by repeat (first | exact .head | apply In.tail | apply Take.tail | apply Upd.tail)) rfl | exact cell_rd (rd_sl (by repeat (first | exact .head | apply In.tail | apply Take.tail | apply Upd.tail))) (by first | exact bcells_at (by omega) | exact ucells_at (by omega) | exact icells_at (by omega) | exact tcells_at (by omega) | exact bcells_get (by omega) | exact icells_get (by omega) | exact tcells_get (by omega) | exact ucells_get (by omega)) | exact cell_rd (rd_old (by assumption) rfl) (by first | exact bcells_at (by omega) | exact ucells_at (by omega) | exact icells_at (by omega) | exact tcells_at (by omega) | exact bcells_get (by omega) | exact icells_get (by omega) | exact tcells_get (by omega) | exact ucells_get (by omega)) | exact cell_old (by assumption) (by simp [fps]))) ?_
              refine vl_val rfl (.some rfl) (val_move rfl) ?_
              refine vl_val rfl (.some rfl) (val_indexAddr Try.runUnderlying55 Try.sizeOf4 rfl rfl (by first | exact rd_sl (by repeat (first | exact .head | apply In.tail | apply Take.tail | apply Upd.tail)) | exact rd_slr (by repeat (first | exact .head | apply In.tail | apply Take.tail | apply Upd.tail)) | exact rd_old (by assumption) rfl) (by omega) (by omega) (by first | omega | (simp only [bcells_length, icells_length, ucells_length, tcells_length]; omega) | (simp only [bcells_length, icells_length, ucells_length, tcells_length, fillG_length]; omega) | (simp; omega))) ?_
              refine vl_val rfl (.some rfl) (val_load Try.isAgg4 rfl (by first | exact cell_cells (by repeat (first | exact .head | apply In.tail | apply Take.tail | apply Upd.tail)) rfl | exact cell_rd (rd_sl (by repeat (first | exact .head | apply In.tail | apply Take.tail | apply Upd.tail))) (by first | exact bcells_at (by omega) | exact ucells_at (by omega) | exact icells_at (by omega) | exact tcells_at (by omega) | exact bcells_get (by omega) | exact icells_get (by omega) | exact tcells_get (by omega) | exact ucells_get (by omega)) | exact cell_rd (rd_old (by assumption) rfl) (by first | exact bcells_at (by omega) | exact ucells_at (by omega) | exact icells_at (by omega) | exact tcells_at (by omega) | exact bcells_get (by omega) | exact icells_get (by omega) | exact tcells_get (by omega) | exact ucells_get (by omega)) | exact cell_old (by assumption) (by simp [fps]))) ?_
              refine vl_val rfl (.some rfl) (val_beq Try.underlying4 rfl rfl) ?_
              refine vl_nil ?_
              refine vc_cond rfl (fun hc6 => False.elim (by (try replace hc6 := of_decide_eq_true hc6); rw [hf] at hc6; cases hq : nl.getD i false <;> rw [hq] at hc6 <;> cases hc6)) (fun hc6 => ?_)
              (try replace hc6 := of_decide_eq_false hc6)
              refine vc_skip ?_
              refine vc_seq ?_
              refine vc_region ?_
              refine vl_val rfl (.some rfl) (val_move rfl) ?_
              refine vl_val rfl (.some rfl) (val_gt rfl rfl) ?_
              refine vl_nil ?_
              refine vc_cond rfl (fun hc7 => ?_) (fun hc7 => ?_)
              · (try replace hc7 := of_decide_eq_true hc7)
                refine vc_exit ?_
                refine vc_seq ?_
                refine vc_region ?_
                refine vl_callV rfl rfl (.some rfl) Try.call30 rfl (fun w hw => oLives w) ?_
                refine vl_val rfl (.some rfl) (val_assign rfl) ?_
                refine vl_nil ?_
                refine vc_ret ?_
                refine ⟨_, [], _, res1 Try.results10 rfl, .nil, ?_⟩
                rfl
              · (try replace hc7 := of_decide_eq_false hc7)
                refine vc_skip ?_
                refine vc_region ?_
                refine vl_val rfl (.some rfl) (val_add rfl rfl (by first | exact w_i64 (by omega) (by omega) | rfl)) ?_
                refine vl_val rfl (.some rfl) (val_move rfl) ?_
                refine vl_nil ?_
                exact ⟨il.length - (i + 1), _, _, _, by omega, (by repeat (first | exact trivial | refine ⟨rfl, ?_⟩ | refine ⟨le_item rfl (by first | rfl | (congr 1; omega) | (simp; done) | (simp; omega)), ?_⟩)), (by repeat (first | exact .nil | (apply Sub.cons; · repeat (first | exact .head | apply Take.tail)))), ⟨i + 1, by omega, rfl, rfl, rfl⟩⟩
          · (try replace hc4 := of_decide_eq_false hc4)
            refine vc_exit ?_
            refine vc_seq ?_
            refine vc_region ?_
            refine vl_callV rfl rfl (.some rfl) Try.call30 rfl (fun w hw => oLives w) ?_
            refine vl_val rfl (.some rfl) (val_assign rfl) ?_
            refine vl_nil ?_
            refine vc_ret ?_
            refine ⟨_, [], _, res1 Try.results10 rfl, .nil, ?_⟩
            rfl

end Go.Proofs.Ytibfngjfjddaiaa.K
