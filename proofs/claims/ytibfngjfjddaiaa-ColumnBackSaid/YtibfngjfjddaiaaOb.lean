/- Walks of the program's functions, printed by a program of this session; Lean checks them. -/
import Derived.Test.YtibfngjfjddaiaaOa
namespace Go.Proofs.Ytibfngjfjddaiaa.K
open Go Go.RowKit Go.Proofs
set_option linter.unusedVariables false
set_option linter.unusedSimpArgs false


set_option maxRecDepth 20000 in
theorem cWords (A : Option Addr) (c : Nat) (il : List Int) (hl : il.length ≤ 1000000000) (hb : ∀ n ∈ il, 0 ≤ n ∧ n < 512) (w : World) (hr : Reads w A (icells .i64 il)) : Fn Try.prog 58 [.slice A il.length c] [] (ret fun v H' => ∃ A' c', v = .slice A' (wordsV il).length c' ∧ H' = [UW A' (wordsV il).length c' (wordsV il)]) w := by
  refine fn_enter Try.func58 rfl Try.ntmps58 rfl ?_
  refine vc_seq ?_
  refine vc_region ?_
  refine vl_val rfl (.some rfl) (val_assign rfl) ?_
  refine vl_nil ?_
  refine vc_seq ?_
  refine vc_region ?_
  refine vl_val rfl (.some rfl) (val_move rfl) ?_
  refine vl_val rfl (.some rfl) (val_lenSl Try.runUnderlying56 rfl) ?_
  refine vl_makeSlice sT95 rfl rfl (.some rfl) rfl rfl (by omega) (by omega) (by omega) (made_u _) (fun r8 => ?_)
  rw [Int.toNat_natCast, fillG_zero (f := fun i => (il.getD i 0).toNat)]
  refine vl_val rfl (.some rfl) (val_assign rfl) ?_
  refine vl_nil ?_
  refine vc_seq ?_
  refine vc_seq ?_
  refine vc_region ?_
  refine vl_val rfl (.some rfl) (val_move rfl) ?_
  refine vl_val rfl (.some rfl) (val_lenSl Try.runUnderlying56 rfl) ?_
  refine vl_val rfl (.some rfl) (val_move rfl) ?_
  refine vl_nil ?_
  refine vc_block ?_
  refine vc_loopw (fun k E H => ∃ i : Nat, i ≤ il.length ∧ k = il.length - i ∧ E = [(3, .slice (some ⟨r8, 0, none⟩) il.length il.length), (9, .slice A il.length c), (10, .int .i64 il.length), (11, .int .i64 i)] ∧ H = [UW (some ⟨r8, 0, none⟩) il.length il.length (fillG 0 il.length (fun i => (il.getD i 0).toNat) i)]) (il.length) ⟨_, _, _, ⟨0, by omega, rfl, rfl, rfl⟩, (by repeat (first | exact trivial | refine ⟨rfl, ?_⟩ | refine ⟨le_item rfl (by first | rfl | (congr 1; omega) | (simp; done) | (simp; omega)), ?_⟩)), (by repeat (first | exact .nil | (apply Sub.cons; · repeat (first | exact .head | apply Take.tail))))⟩ ?_
  intro k E H hI
  obtain ⟨i, hil, rfl, rfl, rfl⟩ := hI
  refine vc_seq ?_
  refine vc_region ?_
  refine vl_val rfl (.some rfl) (val_lt rfl rfl) ?_
  refine vl_nil ?_
  refine vc_seq ?_
  refine vc_cond rfl (fun hc0 => ?_) (fun hc0 => ?_)
  · (try replace hc0 := of_decide_eq_true hc0)
    have hbi := hb _ (getD_mem 0 (l := il) (i := i) (by omega))
    refine vc_skip ?_
    refine vc_seq ?_
    refine vc_block ?_
    refine vc_seq ?_
    refine vc_region ?_
    refine vl_val rfl (.some rfl) (val_move rfl) ?_
    refine vl_val rfl (.some rfl) (val_indexAddr Try.runUnderlying56 Try.sizeOf3 rfl rfl (by first | exact rd_sl (by repeat (first | exact .head | apply In.tail | apply Take.tail | apply Upd.tail)) | exact rd_slr (by repeat (first | exact .head | apply In.tail | apply Take.tail | apply Upd.tail)) | exact rd_old (by assumption) rfl) (by omega) (by omega) (by first | omega | (simp only [bcells_length, icells_length, ucells_length, tcells_length]; omega) | (simp only [bcells_length, icells_length, ucells_length, tcells_length, fillG_length]; omega) | (simp; omega))) ?_
    refine vl_val rfl (.some rfl) (val_load Try.isAgg3 rfl (by first | exact cell_cells (by repeat (first | exact .head | apply In.tail | apply Take.tail | apply Upd.tail)) rfl | exact cell_rd (rd_sl (by repeat (first | exact .head | apply In.tail | apply Take.tail | apply Upd.tail))) (by first | exact bcells_at (by omega) | exact ucells_at (by omega) | exact icells_at (by omega) | exact tcells_at (by omega) | exact bcells_get (by omega) | exact icells_get (by omega) | exact tcells_get (by omega) | exact ucells_get (by omega)) | exact cell_rd (rd_old (by assumption) rfl) (by first | exact bcells_at (by omega) | exact ucells_at (by omega) | exact icells_at (by omega) | exact tcells_at (by omega) | exact bcells_get (by omega) | exact icells_get (by omega) | exact tcells_get (by omega) | exact ucells_get (by omega)) | exact cell_old (by assumption) (by simp [fps]))) ?_
    refine vl_val rfl (.some rfl) (val_assign rfl) ?_
    refine vl_val rfl (.some rfl) (val_assign rfl) ?_
    refine vl_nil ?_
    refine vc_region ?_
    refine vl_val rfl (.some rfl) (val_move rfl) ?_
    refine vl_val rfl (.some rfl) (val_move rfl) ?_
    refine vl_val rfl (.some rfl) (val_move rfl) ?_
    refine vl_val rfl (.some rfl) (val_convInt Try.runUnderlying3 Try.runUnderlying96 rfl (show _ = (((il.getD i 0).toNat : Nat) : Int) by rw [w_u64 (by omega) (by omega)]; omega)) ?_
    refine vl_val rfl (.some rfl) (val_indexAddr Try.runUnderlying95 Try.sizeOf96 rfl rfl (by first | exact rd_sl (by repeat (first | exact .head | apply In.tail | apply Take.tail | apply Upd.tail)) | exact rd_slr (by repeat (first | exact .head | apply In.tail | apply Take.tail | apply Upd.tail)) | exact rd_old (by assumption) rfl) (by omega) (by omega) (by first | omega | (simp only [bcells_length, icells_length, ucells_length, tcells_length]; omega) | (simp only [bcells_length, icells_length, ucells_length, tcells_length, fillG_length]; omega) | (simp; omega))) ?_
    refine vl_storeSl rfl rfl .none rfl rfl Try.sizeOf96 rfl (by simp [Value.cells]) (by repeat (first | exact .head | apply In.tail | apply Take.tail | apply Upd.tail)) (by rw [ucells_length, fillG_length]; show Int.toNat (i : Int) * 1 + 1 ≤ _; omega) ?_
    rw [laid_u (j := i) (by omega) (by rw [fillG_length]; omega), fillG_set (f := fun i => (il.getD i 0).toNat) (by omega)]
    refine vl_nil ?_
    refine vc_region ?_
    refine vl_val rfl (.some rfl) (val_add rfl rfl (by first | exact w_i64 (by omega) (by omega) | rfl)) ?_
    refine vl_val rfl (.some rfl) (val_move rfl) ?_
    refine vl_nil ?_
    exact ⟨il.length - (i + 1), _, _, _, by omega, (by repeat (first | exact trivial | refine ⟨rfl, ?_⟩ | refine ⟨le_item rfl (by first | rfl | (congr 1; omega) | (simp; done) | (simp; omega)), ?_⟩)), (by repeat (first | exact .nil | (apply Sub.cons; · repeat (first | exact .head | apply Take.tail)))), ⟨i + 1, by omega, rfl, rfl, rfl⟩⟩
  · (try replace hc0 := of_decide_eq_false hc0)
    obtain rfl : i = il.length := by omega
    refine vc_exit ?_
    refine vc_seq ?_
    refine vc_region ?_
    refine vl_val rfl (.some rfl) (val_move rfl) ?_
    refine vl_val rfl (.some rfl) (val_assign rfl) ?_
    refine vl_nil ?_
    refine vc_ret ?_
    rw [fill_words]
    refine ⟨_, [UW (some ⟨r8, 0, none⟩) il.length il.length (wordsV il)], _, res1 Try.results58 rfl, (by repeat (first | exact .nil | (apply Sub.cons; · repeat (first | exact .head | apply Take.tail)))), ?_⟩
    have hlen : (wordsV il).length = il.length := by simp [wordsV]
    exact ⟨some ⟨r8, 0, none⟩, il.length, by rw [hlen], by rw [hlen]⟩
set_option maxRecDepth 20000 in
theorem cWay0 (x : Nat) (Ai : Option Addr) (ci : Nat) (nl : List Bool) (il : List Int) (hok : okV nl il) (w : World) (hx : w.cell? ⟨x, 1, none⟩ = some (.slice Ai il.length ci)) (hri : Reads w Ai (icells .i64 il)) : Fn Try.prog 56 [.pointer (some ⟨x, 0, none⟩)] [] (ret fun v H' => ∃ A' c', v = .slice A' (way0 il).length c' ∧ H' = [BY A' (way0 il).length c' (way0 il)]) w := by
  have hb := hok.mem
  have hil := hok.2.1
  have hwl : (wordsV il).length = il.length := by simp [wordsV]
  have hwd := wid_ok hok
  have hpk := packB_ok (w := wid il) (by omega) (wordsV_lt hok)
  have hp1 : wid il * il.length ≤ 9 * 1000 := Nat.mul_le_mul hwd hil
  have hpl : (packS (wid il) (wordsV il)).length ≤ 1200 := by rw [packS_len, hwl]; omega
  refine fn_enter Try.func56 rfl Try.ntmps56 rfl ?_
  refine vc_seq ?_
  refine vc_region ?_
  refine vl_val rfl (.some rfl) (val_assign rfl) ?_
  refine vl_nil ?_
  refine vc_seq ?_
  refine vc_region ?_
  refine vl_val rfl (.some rfl) (val_assign rfl) ?_
  refine vl_nil ?_
  refine vc_seq ?_
  refine vc_seq ?_
  refine vc_region ?_
  refine vl_val rfl (.some rfl) (by first | exact val_fieldAddr Try.runUnderlying58 rfl Try.sizeOf56 rfl | exact val_fieldAddrR Try.runUnderlying58 rfl Try.sizeOf56 rfl) ?_
  refine vl_val rfl (.some rfl) (val_load Try.isAgg56 rfl (by first | exact cell_cells (by repeat (first | exact .head | apply In.tail | apply Take.tail | apply Upd.tail)) rfl | exact cell_rd (rd_sl (by repeat (first | exact .head | apply In.tail | apply Take.tail | apply Upd.tail))) (by first | exact bcells_at (by omega) | exact ucells_at (by omega) | exact icells_at (by omega) | exact tcells_at (by omega) | exact bcells_get (by omega) | exact icells_get (by omega) | exact tcells_get (by omega) | exact ucells_get (by omega)) | exact cell_rd (rd_old (by assumption) rfl) (by first | exact bcells_at (by omega) | exact ucells_at (by omega) | exact icells_at (by omega) | exact tcells_at (by omega) | exact bcells_get (by omega) | exact icells_get (by omega) | exact tcells_get (by omega) | exact ucells_get (by omega)) | exact cell_old (by assumption) (by simp [fps]))) ?_
  refine vl_val rfl (.some rfl) (val_lenSl Try.runUnderlying56 rfl) ?_
  refine vl_val rfl (.some rfl) (val_move rfl) ?_
  refine vl_nil ?_
  refine vc_block ?_
  refine vc_loopw (fun k E H => ∃ i : Nat, i ≤ il.length ∧ k = il.length - i ∧ E = [(0, .pointer (some ⟨x, 0, none⟩)), (2, .int .i64 (wid (il.take i))), (8, .slice Ai il.length ci), (9, .int .i64 il.length), (10, .int .i64 i)] ∧ H = []) (il.length) ⟨_, _, _, ⟨0, by omega, rfl, rfl, rfl⟩, (by repeat (first | exact trivial | refine ⟨rfl, ?_⟩ | refine ⟨le_item rfl (by first | rfl | (congr 1; omega) | (simp; done) | (simp; omega)), ?_⟩)), (by repeat (first | exact .nil | (apply Sub.cons; · repeat (first | exact .head | apply Take.tail))))⟩ ?_
  intro k E H hI
  obtain ⟨i, hii, rfl, rfl, rfl⟩ := hI
  refine vc_seq ?_
  refine vc_region ?_
  refine vl_val rfl (.some rfl) (val_lt rfl rfl) ?_
  refine vl_nil ?_
  refine vc_seq ?_
  refine vc_cond rfl (fun hc0 => ?_) (fun hc0 => ?_)
  · (try replace hc0 := of_decide_eq_true hc0)
    have hbi := hb _ (getD_mem 0 (l := il) (i := i) (by omega))
    refine vc_skip ?_
    refine vc_seq ?_
    refine vc_block ?_
    refine vc_seq ?_
    refine vc_region ?_
    refine vl_val rfl (.some rfl) (val_indexAddr Try.runUnderlying56 Try.sizeOf3 rfl rfl (by first | exact rd_sl (by repeat (first | exact .head | apply In.tail | apply Take.tail | apply Upd.tail)) | exact rd_slr (by repeat (first | exact .head | apply In.tail | apply Take.tail | apply Upd.tail)) | exact rd_old (by assumption) rfl) (by omega) (by omega) (by first | omega | (simp only [bcells_length, icells_length, ucells_length, tcells_length]; omega) | (simp only [bcells_length, icells_length, ucells_length, tcells_length, fillG_length]; omega) | (simp; omega))) ?_
    refine vl_val rfl (.some rfl) (val_load Try.isAgg3 rfl (by first | exact cell_cells (by repeat (first | exact .head | apply In.tail | apply Take.tail | apply Upd.tail)) rfl | exact cell_rd (rd_sl (by repeat (first | exact .head | apply In.tail | apply Take.tail | apply Upd.tail))) (by first | exact bcells_at (by omega) | exact ucells_at (by omega) | exact icells_at (by omega) | exact tcells_at (by omega) | exact bcells_get (by omega) | exact icells_get (by omega) | exact tcells_get (by omega) | exact ucells_get (by omega)) | exact cell_rd (rd_old (by assumption) rfl) (by first | exact bcells_at (by omega) | exact ucells_at (by omega) | exact icells_at (by omega) | exact tcells_at (by omega) | exact bcells_get (by omega) | exact icells_get (by omega) | exact tcells_get (by omega) | exact ucells_get (by omega)) | exact cell_old (by assumption) (by simp [fps]))) ?_
    refine vl_val rfl (.some rfl) (val_assign rfl) ?_
    refine vl_nil ?_
    refine vc_region ?_
    refine vl_val rfl (.some rfl) (val_move rfl) ?_
    refine vl_val rfl (.some rfl) (val_move rfl) ?_
    refine vl_val rfl (.some rfl) (val_convInt Try.runUnderlying3 Try.runUnderlying37 rfl (show _ = (((il.getD i 0).toNat : Nat) : Int) by rw [w_u64 (by omega) (by omega)]; omega)) ?_
    refine vl_callV rfl rfl (.some rfl) Try.call57 rfl (fun w hw => mLen _ (by omega) w) ?_
    refine vl_val rfl (.some rfl) (val_max rfl rfl (show _ = ((wid (il.take (i + 1)) : Nat) : Int) by rw [wid_step (by omega)]; split <;> omega)) ?_
    refine vl_val rfl (.some rfl) (val_assign rfl) ?_
    refine vl_nil ?_
    refine vc_region ?_
    refine vl_val rfl (.some rfl) (val_add rfl rfl (by first | exact w_i64 (by omega) (by omega) | rfl)) ?_
    refine vl_val rfl (.some rfl) (val_move rfl) ?_
    refine vl_nil ?_
    exact ⟨il.length - (i + 1), _, _, _, by omega, (by repeat (first | exact trivial | refine ⟨rfl, ?_⟩ | refine ⟨le_item rfl (by first | rfl | (congr 1; omega) | (simp; done) | (simp; omega)), ?_⟩)), (by repeat (first | exact .nil | (apply Sub.cons; · repeat (first | exact .head | apply Take.tail)))), ⟨i + 1, by omega, rfl, rfl, rfl⟩⟩
  · (try replace hc0 := of_decide_eq_false hc0)
    obtain rfl : i = il.length := by omega
    rw [List.take_length]
    refine vc_exit ?_
    refine vc_seq ?_
    refine vc_region ?_
    refine vl_val rfl (.some rfl) (val_move rfl) ?_
    refine vl_val rfl (.some rfl) (by first | exact val_fieldAddr Try.runUnderlying58 rfl Try.sizeOf56 rfl | exact val_fieldAddrR Try.runUnderlying58 rfl Try.sizeOf56 rfl) ?_
    refine vl_val rfl (.some rfl) (val_load Try.isAgg56 rfl (by first | exact cell_cells (by repeat (first | exact .head | apply In.tail | apply Take.tail | apply Upd.tail)) rfl | exact cell_rd (rd_sl (by repeat (first | exact .head | apply In.tail | apply Take.tail | apply Upd.tail))) (by first | exact bcells_at (by omega) | exact ucells_at (by omega) | exact icells_at (by omega) | exact tcells_at (by omega) | exact bcells_get (by omega) | exact icells_get (by omega) | exact tcells_get (by omega) | exact ucells_get (by omega)) | exact cell_rd (rd_old (by assumption) rfl) (by first | exact bcells_at (by omega) | exact ucells_at (by omega) | exact icells_at (by omega) | exact tcells_at (by omega) | exact bcells_get (by omega) | exact icells_get (by omega) | exact tcells_get (by omega) | exact ucells_get (by omega)) | exact cell_old (by assumption) (by simp [fps]))) ?_
    refine vl_call (C := []) rfl rfl (.some rfl) Try.call58 rfl .nil (fun w hw => cWords Ai ci il (by omega) hb w (rdw (rd_old hri rfl) hw)) (fun v H' h => ?_)
    obtain ⟨A24, c24, rfl, rfl⟩ := h
    show VL _ _ _ _ _ (_ :: _)
    refine vl_call (C := []) rfl rfl (.some rfl) Try.call54 rfl .nil (fun w hw => cPack (wid il) A24 c24 (wordsV il) (by omega) (wordsV_u64 hok) w (rdw (rd_sl (by repeat (first | exact .head | apply In.tail | apply Take.tail | apply Upd.tail))) hw)) (fun v H' h => ?_)
    obtain ⟨A25, c25, rfl, rfl⟩ := h
    rw [hpk.1, hpk.2]
    show VL _ _ _ _ _ (_ :: _)
    refine vl_val rfl (.some rfl) (val_move rfl) ?_
    refine vl_val rfl (.some rfl) (val_extract rfl rfl) ?_
    refine vl_val rfl (.some rfl) (val_extract rfl rfl) ?_
    refine vl_val rfl (.some rfl) (val_assign rfl) ?_
    refine vl_val rfl (.some rfl) (val_assign rfl) ?_
    refine vl_nil ?_
    refine vc_seq ?_
    refine vc_region ?_
    refine vl_val rfl (.some rfl) (val_move rfl) ?_
    refine vl_val rfl (.some rfl) (val_convInt Try.runUnderlying3 Try.runUnderlying5 rfl (show _ = (((UInt8.ofNat (wid il)).toNat : Nat) : Int) by rw [u8_ofNat (by omega)]; exact w_u8 (by omega) (by omega))) ?_
    refine vl_lit sT59 rfl rfl (.some rfl) rfl rfl rfl (by decide) (by decide) rfl (flat_one rfl) (fun r30 => ?_)
    refine vl_val rfl (.some rfl) (val_move rfl) ?_
    refine vl_append sT59 rfl rfl (.some rfl) rfl rfl (rd_sl (by repeat (first | exact .head | apply In.tail | apply Take.tail | apply Upd.tail))) (by simp [bcells_length]) (one_b _) (by have := hpl; omega) (by have := hpl; omega) (by repeat (first | exact .head | apply In.tail | apply Take.tail | apply Upd.tail)) (fun A32 k32 => ?_)
    rw [show 2 + (packS (wid il) (wordsV il)).length = (way0 il).length by unfold way0; simp only [List.length_cons]; omega]
    refine vl_val rfl (.some rfl) (val_assign rfl) ?_
    refine vl_nil ?_
    refine vc_ret ?_
    refine ⟨_, [BY A32 (way0 il).length k32 (way0 il)], _, res1 Try.results56 rfl, (by repeat (first | exact .nil | (apply Sub.cons; · repeat (first | exact .head | apply Take.tail)))), ?_⟩
    exact ⟨A32, k32, rfl, rfl⟩
set_option maxRecDepth 20000 in
theorem cWay1 (x : Nat) (Ai : Option Addr) (ci : Nat) (nl : List Bool) (il : List Int) (hok : okV nl il) (w : World) (hx : w.cell? ⟨x, 1, none⟩ = some (.slice Ai il.length ci)) (hri : Reads w Ai (icells .i64 il)) : Fn Try.prog 59 [.pointer (some ⟨x, 0, none⟩)] [] (ret fun v H' => ∃ A' c', v = .slice A' (way1 il).length c' ∧ H' = [BY A' (way1 il).length c' (way1 il)]) w := by
  have hb := hok.mem
  have hil := hok.2.1
  have hwl : (wordsV il).length = il.length := by simp [wordsV]
  have hrl := runsS_len (wordsV il)
  refine fn_enter Try.func59 rfl Try.ntmps59 rfl ?_
  refine vc_seq ?_
  refine vc_region ?_
  refine vl_val rfl (.some rfl) (val_assign rfl) ?_
  refine vl_nil ?_
  refine vc_seq ?_
  refine vc_region ?_
  refine vl_lit sT59 rfl rfl (.some rfl) rfl rfl rfl (by decide) (by decide) rfl (flat_one rfl) (fun r2 => ?_)
  refine vl_val rfl (.some rfl) (by first | exact val_fieldAddr Try.runUnderlying58 rfl Try.sizeOf56 rfl | exact val_fieldAddrR Try.runUnderlying58 rfl Try.sizeOf56 rfl) ?_
  refine vl_val rfl (.some rfl) (val_load Try.isAgg56 rfl (by first | exact cell_cells (by repeat (first | exact .head | apply In.tail | apply Take.tail | apply Upd.tail)) rfl | exact cell_rd (rd_sl (by repeat (first | exact .head | apply In.tail | apply Take.tail | apply Upd.tail))) (by first | exact bcells_at (by omega) | exact ucells_at (by omega) | exact icells_at (by omega) | exact tcells_at (by omega) | exact bcells_get (by omega) | exact icells_get (by omega) | exact tcells_get (by omega) | exact ucells_get (by omega)) | exact cell_rd (rd_old (by assumption) rfl) (by first | exact bcells_at (by omega) | exact ucells_at (by omega) | exact icells_at (by omega) | exact tcells_at (by omega) | exact bcells_get (by omega) | exact icells_get (by omega) | exact tcells_get (by omega) | exact ucells_get (by omega)) | exact cell_old (by assumption) (by simp [fps]))) ?_
  refine vl_call (C := []) rfl rfl (.some rfl) Try.call58 rfl .nil (fun w hw => cWords Ai ci il (by omega) hb w (rdw (rd_old hri rfl) hw)) (fun v H' h => ?_)
  obtain ⟨A5, c5, rfl, rfl⟩ := h
  show VL _ _ _ _ _ (_ :: _)
  refine vl_call (C := []) rfl rfl (.some rfl) Try.call60 rfl .nil (fun w hw => cRuns A5 c5 (wordsV il) (by omega) (wordsV_u64 hok) w (rdw (rd_sl (by repeat (first | exact .head | apply In.tail | apply Take.tail | apply Upd.tail))) hw)) (fun v H' h => ?_)
  obtain ⟨A6, c6, rfl, rfl⟩ := h
  show VL _ _ _ _ _ (_ :: _)
  refine vl_append sT59 rfl rfl (.some rfl) rfl rfl (rd_sl (by repeat (first | exact .head | apply In.tail | apply Take.tail | apply Upd.tail))) (by simp [bcells_length]) (one_b _) (by have := hrl; omega) (by have := hrl; omega) (by repeat (first | exact .head | apply In.tail | apply Take.tail | apply Upd.tail)) (fun A7 k7 => ?_)
  rw [show 1 + (runsS (wordsV il)).length = (way1 il).length by unfold way1; simp only [List.length_cons]; omega]
  refine vl_val rfl (.some rfl) (val_assign rfl) ?_
  refine vl_nil ?_
  refine vc_ret ?_
  refine ⟨_, [BY A7 (way1 il).length k7 (way1 il)], _, res1 Try.results59 rfl, (by repeat (first | exact .nil | (apply Sub.cons; · repeat (first | exact .head | apply Take.tail)))), ?_⟩
  exact ⟨A7, k7, rfl, rfl⟩
set_option maxRecDepth 20000 in
theorem cWay2 (x : Nat) (Ai : Option Addr) (ci : Nat) (nl : List Bool) (il : List Int) (hok : okV nl il) (w : World) (hx : w.cell? ⟨x, 1, none⟩ = some (.slice Ai il.length ci)) (hri : Reads w Ai (icells .i64 il)) : Fn Try.prog 61 [.pointer (some ⟨x, 0, none⟩)] [] (ret fun v H' => ∃ A' c', v = .slice A' (way2 il).length c' ∧ H' = [BY A' (way2 il).length c' (way2 il)]) w := by
  have hb := hok.mem
  have hil := hok.2.1
  have hrl := deltS_len il
  refine fn_enter Try.func61 rfl Try.ntmps61 rfl ?_
  refine vc_seq ?_
  refine vc_region ?_
  refine vl_val rfl (.some rfl) (val_assign rfl) ?_
  refine vl_nil ?_
  refine vc_seq ?_
  refine vc_region ?_
  refine vl_lit sT59 rfl rfl (.some rfl) rfl rfl rfl (by decide) (by decide) rfl (flat_one rfl) (fun r2 => ?_)
  refine vl_val rfl (.some rfl) (by first | exact val_fieldAddr Try.runUnderlying58 rfl Try.sizeOf56 rfl | exact val_fieldAddrR Try.runUnderlying58 rfl Try.sizeOf56 rfl) ?_
  refine vl_val rfl (.some rfl) (val_load Try.isAgg56 rfl (by first | exact cell_cells (by repeat (first | exact .head | apply In.tail | apply Take.tail | apply Upd.tail)) rfl | exact cell_rd (rd_sl (by repeat (first | exact .head | apply In.tail | apply Take.tail | apply Upd.tail))) (by first | exact bcells_at (by omega) | exact ucells_at (by omega) | exact icells_at (by omega) | exact tcells_at (by omega) | exact bcells_get (by omega) | exact icells_get (by omega) | exact tcells_get (by omega) | exact ucells_get (by omega)) | exact cell_rd (rd_old (by assumption) rfl) (by first | exact bcells_at (by omega) | exact ucells_at (by omega) | exact icells_at (by omega) | exact tcells_at (by omega) | exact bcells_get (by omega) | exact icells_get (by omega) | exact tcells_get (by omega) | exact ucells_get (by omega)) | exact cell_old (by assumption) (by simp [fps]))) ?_
  refine vl_call (C := []) rfl rfl (.some rfl) Try.call62 rfl .nil (fun w hw => cDeltas Ai ci il (by omega) w (rdw (rd_old hri rfl) hw)) (fun v H' h => ?_)
  obtain ⟨A5, c5, rfl, rfl⟩ := h
  show VL _ _ _ _ _ (_ :: _)
  refine vl_append sT59 rfl rfl (.some rfl) rfl rfl (rd_sl (by repeat (first | exact .head | apply In.tail | apply Take.tail | apply Upd.tail))) (by simp [bcells_length]) (one_b _) (by have := hrl; omega) (by have := hrl; omega) (by repeat (first | exact .head | apply In.tail | apply Take.tail | apply Upd.tail)) (fun A6 k6 => ?_)
  rw [show 1 + (deltS il).length = (way2 il).length by unfold way2; simp only [List.length_cons]; omega]
  refine vl_val rfl (.some rfl) (val_assign rfl) ?_
  refine vl_nil ?_
  refine vc_ret ?_
  refine ⟨_, [BY A6 (way2 il).length k6 (way2 il)], _, res1 Try.results61 rfl, (by repeat (first | exact .nil | (apply Sub.cons; · repeat (first | exact .head | apply Take.tail)))), ?_⟩
  exact ⟨A6, k6, rfl, rfl⟩

/-- The second way and the third. -/
def fidW (j : Nat) : FuncId := if j = 0 then 59 else 61
theorem callW (j : Nat) (args : _) (w : World) : (callFunc (fidW j) args).run Try.prog w = .ok (.enter (fidW j) args) w := by
  unfold fidW
  split
  · exact Try.call59 args w
  · exact Try.call61 args w
theorem cWayJ (j : Nat) (x : Nat) (Ai : Option Addr) (ci : Nat) (nl : List Bool) (il : List Int) (hok : okV nl il) (w : World) (hx : w.cell? ⟨x, 1, none⟩ = some (.slice Ai il.length ci)) (hri : Reads w Ai (icells .i64 il)) : Fn Try.prog (fidW j) [.pointer (some ⟨x, 0, none⟩)] [] (ret fun v H' => ∃ A' c', v = .slice A' (wayJ il j).length c' ∧ H' = [BY A' (wayJ il j).length c' (wayJ il j)]) w := by
  unfold fidW wayJ
  split
  · exact cWay1 x Ai ci nl il hok w hx hri
  · exact cWay2 x Ai ci nl il hok w hx hri

end Go.Proofs.Ytibfngjfjddaiaa.K
