/- Walks of the program's functions, printed by a program of this session; Lean checks them. -/
import Derived.Test.YtibfngjfjddaiaaOe
namespace Go.Proofs.Ytibfngjfjddaiaa.K
open Go Go.RowKit Go.Proofs
set_option linter.unusedVariables false
set_option linter.unusedSimpArgs false


set_option maxRecDepth 20000 in
theorem rIds (A : Option Addr) (c : Nat) (b : List UInt8) (n : Nat) (hb : b.length ≤ 1000000000) (hbc : b.length ≤ c) (w : World) (hr : Reads w A (bcells b)) : Fn Try.prog 73 [.slice A b.length c, .int .i64 n] [] (ret fun v H' => ∃ A' c' l ok, v = .tuple #[.slice A' (l : List Int).length c', .bool ok] ∧ l.length ≤ 1000000000 ∧ (ok = true → readO n b = some l) ∧ (ok = false → ∀ l', readO n b = some l' → ∃ u ∈ l', u = 512) ∧ H' = [IW A' l.length c' l]) w := by
  have hx0 := (b.getD 0 0).toNat_lt
  have hx1 := (b.getD 1 0).toNat_lt
  refine fn_enter Try.func73 rfl Try.ntmps73 rfl ?_
  refine vc_seq ?_
  refine vc_region ?_
  refine vl_val rfl (.some rfl) (val_assign rfl) ?_
  refine vl_nilSl 3 1 ?_
  refine vl_val rfl (.some rfl) (val_assign rfl) ?_
  refine vl_nil ?_
  refine vc_seq ?_
  refine vc_seq ?_
  refine vc_region ?_
  refine vl_val rfl (.some rfl) (val_move rfl) ?_
  refine vl_val rfl (.some rfl) (val_lenSl Try.runUnderlying59 rfl) ?_
  refine vl_val rfl (.some rfl) (val_eq rfl rfl) ?_
  refine vl_nil ?_
  refine vc_cond rfl (fun hc0 => ?_) (fun hc0 => ?_)
  · (try replace hc0 := of_decide_eq_true hc0)
    refine vc_seq ?_
    refine vc_region ?_
    refine vl_val rfl (.some rfl) (val_assign rfl) ?_
    refine vl_val rfl (.some rfl) (val_assign rfl) ?_
    refine vl_nil ?_
    refine vc_ret ?_
    refine ⟨_, [IW none 0 0 []], _, res2 Try.results73 rfl rfl, (by repeat (first | exact .nil | (apply Sub.cons; · repeat (first | exact .head | apply Take.tail)))), ?_⟩
    exact ⟨none, 0, [], false, rfl, by decide, fun h => (by cases h), fun _ l' h => (by first | (rw [readO_nil (by omega)] at h; cases h) | (rw [readO_0n (by omega) (by omega)] at h; cases h) | (rw [readO_x (by omega) (by omega) (by omega) (by omega)] at h; cases h)), rfl⟩
  · (try replace hc0 := of_decide_eq_false hc0)
    refine vc_skip ?_
    refine vc_seq ?_
    refine vc_region ?_
    refine vl_val rfl (.some rfl) (val_assign rfl) ?_
    refine vl_nilSl 96 1 ?_
    refine vl_nil ?_
    refine vc_seq ?_
    refine vc_region ?_
    refine vl_val rfl (.some rfl) (val_assign rfl) ?_
    refine vl_nil ?_
    refine vc_seq ?_
    refine vc_seq ?_
    refine vc_region ?_
    refine vl_val rfl (.some rfl) (val_move rfl) ?_
    refine vl_val rfl (.some rfl) (val_indexAddr Try.runUnderlying59 Try.sizeOf5 rfl rfl (by first | exact rd_sl (by repeat (first | exact .head | apply In.tail | apply Take.tail | apply Upd.tail)) | exact rd_slr (by repeat (first | exact .head | apply In.tail | apply Take.tail | apply Upd.tail)) | exact rd_old (by assumption) rfl) (by omega) (by omega) (by first | omega | (simp only [bcells_length, icells_length, ucells_length, tcells_length]; omega) | (simp only [bcells_length, icells_length, ucells_length, tcells_length, fillG_length]; omega) | (simp; omega))) ?_
    refine vl_val rfl (.some rfl) (val_load Try.isAgg5 rfl (cell_rd (rd_old hr rfl) (bcells_of (p := 0) (by omega) (by omega)))) ?_
    refine vl_nil ?_
    refine vc_block ?_
    refine vc_seq ?_
    refine vc_region ?_
    refine vl_val rfl (.some rfl) (val_eq rfl rfl) ?_
    refine vl_val rfl (.some rfl) (val_assign rfl) ?_
    refine vl_nil ?_
    refine vc_cond rfl (fun hc1 => ?_) (fun hc1 => ?_)
    · (try replace hc1 := of_decide_eq_true hc1)
      refine vc_seq ?_
      refine vc_seq ?_
      refine vc_region ?_
      refine vl_val rfl (.some rfl) (val_move rfl) ?_
      refine vl_val rfl (.some rfl) (val_lenSl Try.runUnderlying59 rfl) ?_
      refine vl_val rfl (.some rfl) (val_lt rfl rfl) ?_
      refine vl_nil ?_
      refine vc_cond rfl (fun hc2 => ?_) (fun hc2 => ?_)
      · (try replace hc2 := of_decide_eq_true hc2)
        refine vc_seq ?_
        refine vc_region ?_
        refine vl_val rfl (.some rfl) (val_assign rfl) ?_
        refine vl_val rfl (.some rfl) (val_assign rfl) ?_
        refine vl_nil ?_
        refine vc_ret ?_
        refine ⟨_, [IW none 0 0 []], _, res2 Try.results73 rfl rfl, (by repeat (first | exact .nil | (apply Sub.cons; · repeat (first | exact .head | apply Take.tail)))), ?_⟩
        exact ⟨none, 0, [], false, rfl, by decide, fun h => (by cases h), fun _ l' h => (by first | (rw [readO_nil (by omega)] at h; cases h) | (rw [readO_0n (by omega) (by omega)] at h; cases h) | (rw [readO_x (by omega) (by omega) (by omega) (by omega)] at h; cases h)), rfl⟩
      · (try replace hc2 := of_decide_eq_false hc2)
        refine vc_skip ?_
        refine vc_draws [0, 1, 2, 3, 4, 5, 6, 8, 9, 10, 11, 12] [] [0, 1, 2, 3, 4, 5, 6, 7, 8, 9, 10, 11, 12] rfl (by kernel_rfl) (fun _ _ _ h => h) ?_
        refine vd_val rfl rfl rfl (.some rfl) (val_move rfl) ?_
        refine vd_val rfl rfl rfl (.some rfl) (val_indexAddr Try.runUnderlying59 Try.sizeOf5 rfl rfl (by first | exact rd_sl (by repeat (first | exact .head | apply In.tail | apply Take.tail | apply Upd.tail)) | exact rd_slr (by repeat (first | exact .head | apply In.tail | apply Take.tail | apply Upd.tail)) | exact rd_old (by assumption) rfl) (by omega) (by omega) (by first | omega | (simp only [bcells_length, icells_length, ucells_length, tcells_length]; omega) | (simp only [bcells_length, icells_length, ucells_length, tcells_length, fillG_length]; omega) | (simp; omega))) ?_
        refine vd_val rfl rfl rfl (.some rfl) (val_load Try.isAgg5 rfl (cell_rd (rd_old hr rfl) (bcells_of (p := 1) (by omega) (by omega)))) ?_
        refine vd_val rfl rfl rfl (.some rfl) (val_convInt Try.runUnderlying5 Try.runUnderlying3 rfl (by first | exact w_i64 (by omega) (by omega) | rfl)) ?_
        refine vd_val rfl rfl rfl (.some rfl) (val_move rfl) ?_
        refine vd_val rfl rfl rfl (.some rfl) (val_move rfl) ?_
        refine vd_val rfl rfl rfl (.some rfl) (val_cutFrom Try.runUnderlying59 Try.sizeOf5 rfl rfl (by omega) (by omega)) ?_
        refine vd_op rfl rfl ?_
        rw [show Int.toNat 2 = 2 from rfl, show b.length - 2 = (b.drop 2).length by rw [List.length_drop]]
        refine vl_call (C := []) rfl rfl (.some rfl) Try.call72 rfl .nil (fun w hw => rUnpack (b.getD 1 0).toNat n (cutA A c 2 1) (c - 2) (b.drop 2) (by rw [List.length_drop]; omega) w (rdw (rd_old (reads_cutB hr hbc) rfl) hw)) (fun v H' h => ?_)
        obtain ⟨A6, c6, rfl, rfl⟩ := h
        have hfin : (unpE (b.getD 1 0).toNat n (b.drop 2) = 0 → readO n b = some ((unpL (b.getD 1 0).toNat n (b.drop 2)).map capI)) ∧ (unpE (b.getD 1 0).toNat n (b.drop 2) ≠ 0 → readO n b = none) := by first | exact tell_map (unp_tell _ _ _) (readO_0 (by omega) (by omega)) | (exfalso; omega)
        have hL6 : (unpL (b.getD 1 0).toNat n (b.drop 2)).length ≤ 100000 := unpL_le _ _ _
        generalize unpL (b.getD 1 0).toNat n (b.drop 2) = L6 at hfin hL6 ⊢
        generalize unpE (b.getD 1 0).toNat n (b.drop 2) = e6 at hfin ⊢
        show VL _ _ _ _ _ (_ :: _)
        refine vl_nil ?_
        refine ⟨fun _ => ⟨_, (by repeat (first | exact .nil | (apply Sub.cons; · repeat (first | exact .head | apply Take.tail))))⟩, ?_⟩
        refine vd_val rfl rfl rfl (.some rfl) (val_move rfl) ?_
        refine vd_val rfl rfl rfl (.some rfl) (val_extract rfl rfl) ?_
        refine vd_val rfl rfl rfl (.some rfl) (val_extract rfl rfl) ?_
        refine vd_val rfl rfl rfl (.some rfl) (val_assign rfl) ?_
        refine vd_val rfl rfl rfl (.some rfl) (val_assign rfl) ?_
        refine vd_nil ?_
        refine vc_seq ?_
        refine vc_region ?_
        refine vl_val rfl (.some rfl) (val_assign rfl) ?_
        refine vl_nilSl 3 1 ?_
        refine vl_nil ?_
        refine vc_seq ?_
        refine vc_seq ?_
        refine vc_region ?_
        refine vl_val rfl (.some rfl) (val_move rfl) ?_
        refine vl_val rfl (.some rfl) (val_lenSl Try.runUnderlying95 rfl) ?_
        refine vl_val rfl (.some rfl) (val_move rfl) ?_
        refine vl_nil ?_
        refine vc_block ?_
        refine vc_loopw (fun k E H => ∃ (i : Nat) (A8 : Option Addr) (c8 : Nat), i ≤ L6.length ∧ k = L6.length - i ∧ E = [(7, .int .i64 e6), (9, .slice A8 ((L6.take i).map capI).length c8), (53, .slice A6 L6.length c6), (54, .int .i64 L6.length), (55, .int .i64 i)] ∧ H = [IW A8 ((L6.take i).map capI).length c8 ((L6.take i).map capI), UW A6 L6.length c6 L6]) (L6.length) ⟨_, _, _, ⟨0, none, 0, by omega, rfl, rfl, rfl⟩, (by repeat (first | exact trivial | refine ⟨rfl, ?_⟩ | refine ⟨le_item rfl (by first | rfl | (congr 1; omega) | (simp; done) | (simp; omega)), ?_⟩)), (by repeat (first | exact .nil | (apply Sub.cons; · repeat (first | exact .head | apply Take.tail))))⟩ ?_
        intro k E H hI
        obtain ⟨i, A8, c8, hil, rfl, rfl, rfl⟩ := hI
        refine vc_seq ?_
        refine vc_region ?_
        refine vl_val rfl (.some rfl) (val_lt rfl rfl) ?_
        refine vl_nil ?_
        refine vc_seq ?_
        refine vc_cond rfl (fun hc5 => ?_) (fun hc5 => ?_)
        · (try replace hc5 := of_decide_eq_true hc5)
          have hi6 : i < L6.length := by omega
          have hi7 : ((L6.take i).map capI).length = i := by simp; omega
          refine vc_skip ?_
          refine vc_seq ?_
          refine vc_block ?_
          refine vc_seq ?_
          refine vc_region ?_
          refine vl_val rfl (.some rfl) (val_indexAddr Try.runUnderlying95 Try.sizeOf96 rfl rfl (by first | exact rd_sl (by repeat (first | exact .head | apply In.tail | apply Take.tail | apply Upd.tail)) | exact rd_slr (by repeat (first | exact .head | apply In.tail | apply Take.tail | apply Upd.tail)) | exact rd_old (by assumption) rfl) (by omega) (by omega) (by first | omega | (simp only [bcells_length, icells_length, ucells_length, tcells_length]; omega) | (simp only [bcells_length, icells_length, ucells_length, tcells_length, fillG_length]; omega) | (simp; omega))) ?_
          refine vl_val rfl (.some rfl) (val_load Try.isAgg96 rfl (by first | exact cell_cells (by repeat (first | exact .head | apply In.tail | apply Take.tail | apply Upd.tail)) rfl | exact cell_rd (rd_sl (by repeat (first | exact .head | apply In.tail | apply Take.tail | apply Upd.tail))) (by first | exact bcells_at (by omega) | exact ucells_at (by omega) | exact icells_at (by omega) | exact tcells_at (by omega) | exact bcells_get (by omega) | exact icells_get (by omega) | exact tcells_get (by omega) | exact ucells_get (by omega)) | exact cell_rd (rd_old (by assumption) rfl) (by first | exact bcells_at (by omega) | exact ucells_at (by omega) | exact icells_at (by omega) | exact tcells_at (by omega) | exact bcells_get (by omega) | exact icells_get (by omega) | exact tcells_get (by omega) | exact ucells_get (by omega)) | exact cell_old (by assumption) (by simp [fps]))) ?_
          refine vl_val rfl (.some rfl) (val_assign rfl) ?_
          refine vl_nil ?_
          refine vc_seq ?_
          refine vc_seq ?_
          refine vc_region ?_
          refine vl_val rfl (.some rfl) (val_move rfl) ?_
          refine vl_val rfl (.some rfl) (val_ge rfl rfl) ?_
          refine vl_nil ?_
          refine vc_cond rfl (fun hc6 => ?_) (fun hc6 => ?_)
          · (try replace hc6 := of_decide_eq_true hc6)
            refine vc_seq ?_
            refine vc_region ?_
            refine vl_val rfl (.some rfl) (val_assign rfl) ?_
            refine vl_nilSl 3 1 ?_
            refine vl_val rfl (.some rfl) (val_assign rfl) ?_
            refine vl_nil ?_
            refine vc_ret ?_
            refine ⟨_, [IW none 0 0 []], _, res2 Try.results73 rfl rfl, (by repeat (first | exact .nil | (apply Sub.cons; · repeat (first | exact .head | apply Take.tail)))), ?_⟩
            exact ⟨none, 0, [], false, rfl, by decide, fun h => (by cases h), fun _ l' hl => (by
              by_cases he : e6 = 0
              · rw [hfin.1 he] at hl; cases hl; exact capI_512 hi6 (by omega)
              · rw [hfin.2 he] at hl; cases hl), rfl⟩
          · (try replace hc6 := of_decide_eq_false hc6)
            refine vc_skip ?_
            refine vc_region ?_
            refine vl_val rfl (.some rfl) (val_move rfl) ?_
            refine vl_val rfl (.some rfl) (val_move rfl) ?_
            refine vl_val rfl (.some rfl) (val_convInt Try.runUnderlying96 Try.runUnderlying3 rfl (show _ = capI (L6.getD i 0) by unfold capI; rw [w_i64 (by omega) (by omega)]; omega)) ?_
            refine vl_lit sT56 rfl rfl (.some rfl) rfl rfl rfl (by decide) (by decide) rfl (flat_one rfl) (fun r64 => ?_)
            refine vl_append sT56 rfl rfl (.some rfl) rfl rfl (rd_sl (by repeat (first | exact .head | apply In.tail | apply Take.tail | apply Upd.tail))) (by first | rfl | simp) (by first | rfl | exact one_i _) (by omega) (by omega) (by repeat (first | exact .head | apply In.tail | apply Take.tail | apply Upd.tail)) (fun A65 k65 => ?_)
            rw [pushc hi6 rfl, show ((L6.take i).map capI).length + 1 = ((L6.take (i + 1)).map capI).length by simp; omega]
            refine vl_val rfl (.some rfl) (val_assign rfl) ?_
            refine vl_nil ?_
            refine vc_region ?_
            refine vl_val rfl (.some rfl) (val_add rfl rfl (by first | exact w_i64 (by omega) (by omega) | rfl)) ?_
            refine vl_val rfl (.some rfl) (val_move rfl) ?_
            refine vl_nil ?_
            exact ⟨L6.length - (i + 1), _, _, _, by omega, (by repeat (first | exact trivial | refine ⟨rfl, ?_⟩ | refine ⟨le_item rfl (by first | rfl | (congr 1; omega) | (simp; done) | (simp; omega)), ?_⟩)), (by repeat (first | exact .nil | (apply Sub.cons; · repeat (first | exact .head | apply Take.tail)))), ⟨i + 1, A65, k65, by omega, rfl, rfl, rfl⟩⟩
        · (try replace hc5 := of_decide_eq_false hc5)
          obtain rfl : i = L6.length := by omega
          rw [List.take_length]
          refine vc_exit ?_
          refine vc_seq ?_
          refine vc_region ?_
          refine vl_val rfl (.some rfl) (val_move rfl) ?_
          refine vl_val rfl (.some rfl) (val_move rfl) ?_
          refine vl_val rfl (.some rfl) (val_eq rfl rfl) ?_
          refine vl_val rfl (.some rfl) (val_assign rfl) ?_
          refine vl_val rfl (.some rfl) (val_assign rfl) ?_
          refine vl_nil ?_
          refine vc_ret ?_
          refine ⟨_, [IW A8 (L6.map capI).length c8 (L6.map capI)], _, res2 Try.results73 rfl rfl, (by repeat (first | exact .nil | (apply Sub.cons; · repeat (first | exact .head | apply Take.tail)))), ?_⟩
          exact ⟨A8, c8, L6.map capI, decide (e6 = 0), rfl, by simp; omega, fun h => hfin.1 (of_decide_eq_true h), fun h l' hl => (by rw [hfin.2 (of_decide_eq_false h)] at hl; cases hl), rfl⟩
    · (try replace hc1 := of_decide_eq_false hc1)
      refine vc_seq ?_
      refine vc_region ?_
      refine vl_val rfl (.some rfl) (val_eq rfl rfl) ?_
      refine vl_val rfl (.some rfl) (val_assign rfl) ?_
      refine vl_nil ?_
      refine vc_cond rfl (fun hc3 => ?_) (fun hc3 => ?_)
      · (try replace hc3 := of_decide_eq_true hc3)
        refine vc_region ?_
        refine vl_val rfl (.some rfl) (val_move rfl) ?_
        refine vl_val rfl (.some rfl) (val_cutFrom Try.runUnderlying59 Try.sizeOf5 rfl rfl (by omega) (by omega)) ?_
        rw [show Int.toNat 1 = 1 from rfl, show b.length - 1 = (b.drop 1).length by rw [List.length_drop]]
        refine vl_call (C := []) rfl rfl (.some rfl) Try.call91 rfl .nil (fun w hw => rUnruns (cutA A c 1 1) (c - 1) (b.drop 1) (by rw [List.length_drop]; omega) (by rw [List.length_drop]; omega) w (rdw (rd_old (reads_cutB hr hbc) rfl) hw)) (fun v H' h => ?_)
        obtain ⟨A6, c6, rfl, rfl⟩ := h
        have hfin : (unrE (b.drop 1) = 0 → readO n b = some ((unrL (b.drop 1)).map capI)) ∧ (unrE (b.drop 1) ≠ 0 → readO n b = none) := by first | exact tell_map (unr_tell _) (readO_1 (by omega) (by omega)) | (exfalso; omega)
        have hL6 : (unrL (b.drop 1)).length ≤ 100000 := unrL_le _
        generalize unrL (b.drop 1) = L6 at hfin hL6 ⊢
        generalize unrE (b.drop 1) = e6 at hfin ⊢
        show VL _ _ _ _ _ (_ :: _)
        refine vl_val rfl (.some rfl) (val_move rfl) ?_
        refine vl_val rfl (.some rfl) (val_extract rfl rfl) ?_
        refine vl_val rfl (.some rfl) (val_extract rfl rfl) ?_
        refine vl_val rfl (.some rfl) (val_assign rfl) ?_
        refine vl_val rfl (.some rfl) (val_assign rfl) ?_
        refine vl_nil ?_
        refine vc_seq ?_
        refine vc_region ?_
        refine vl_val rfl (.some rfl) (val_assign rfl) ?_
        refine vl_nilSl 3 1 ?_
        refine vl_nil ?_
        refine vc_seq ?_
        refine vc_seq ?_
        refine vc_region ?_
        refine vl_val rfl (.some rfl) (val_move rfl) ?_
        refine vl_val rfl (.some rfl) (val_lenSl Try.runUnderlying95 rfl) ?_
        refine vl_val rfl (.some rfl) (val_move rfl) ?_
        refine vl_nil ?_
        refine vc_block ?_
        refine vc_loopw (fun k E H => ∃ (i : Nat) (A8 : Option Addr) (c8 : Nat), i ≤ L6.length ∧ k = L6.length - i ∧ E = [(7, .int .i64 e6), (9, .slice A8 ((L6.take i).map capI).length c8), (53, .slice A6 L6.length c6), (54, .int .i64 L6.length), (55, .int .i64 i)] ∧ H = [IW A8 ((L6.take i).map capI).length c8 ((L6.take i).map capI), UW A6 L6.length c6 L6]) (L6.length) ⟨_, _, _, ⟨0, none, 0, by omega, rfl, rfl, rfl⟩, (by repeat (first | exact trivial | refine ⟨rfl, ?_⟩ | refine ⟨le_item rfl (by first | rfl | (congr 1; omega) | (simp; done) | (simp; omega)), ?_⟩)), (by repeat (first | exact .nil | (apply Sub.cons; · repeat (first | exact .head | apply Take.tail))))⟩ ?_
        intro k E H hI
        obtain ⟨i, A8, c8, hil, rfl, rfl, rfl⟩ := hI
        refine vc_seq ?_
        refine vc_region ?_
        refine vl_val rfl (.some rfl) (val_lt rfl rfl) ?_
        refine vl_nil ?_
        refine vc_seq ?_
        refine vc_cond rfl (fun hc5 => ?_) (fun hc5 => ?_)
        · (try replace hc5 := of_decide_eq_true hc5)
          have hi6 : i < L6.length := by omega
          have hi7 : ((L6.take i).map capI).length = i := by simp; omega
          refine vc_skip ?_
          refine vc_seq ?_
          refine vc_block ?_
          refine vc_seq ?_
          refine vc_region ?_
          refine vl_val rfl (.some rfl) (val_indexAddr Try.runUnderlying95 Try.sizeOf96 rfl rfl (by first | exact rd_sl (by repeat (first | exact .head | apply In.tail | apply Take.tail | apply Upd.tail)) | exact rd_slr (by repeat (first | exact .head | apply In.tail | apply Take.tail | apply Upd.tail)) | exact rd_old (by assumption) rfl) (by omega) (by omega) (by first | omega | (simp only [bcells_length, icells_length, ucells_length, tcells_length]; omega) | (simp only [bcells_length, icells_length, ucells_length, tcells_length, fillG_length]; omega) | (simp; omega))) ?_
          refine vl_val rfl (.some rfl) (val_load Try.isAgg96 rfl (by first | exact cell_cells (by repeat (first | exact .head | apply In.tail | apply Take.tail | apply Upd.tail)) rfl | exact cell_rd (rd_sl (by repeat (first | exact .head | apply In.tail | apply Take.tail | apply Upd.tail))) (by first | exact bcells_at (by omega) | exact ucells_at (by omega) | exact icells_at (by omega) | exact tcells_at (by omega) | exact bcells_get (by omega) | exact icells_get (by omega) | exact tcells_get (by omega) | exact ucells_get (by omega)) | exact cell_rd (rd_old (by assumption) rfl) (by first | exact bcells_at (by omega) | exact ucells_at (by omega) | exact icells_at (by omega) | exact tcells_at (by omega) | exact bcells_get (by omega) | exact icells_get (by omega) | exact tcells_get (by omega) | exact ucells_get (by omega)) | exact cell_old (by assumption) (by simp [fps]))) ?_
          refine vl_val rfl (.some rfl) (val_assign rfl) ?_
          refine vl_nil ?_
          refine vc_seq ?_
          refine vc_seq ?_
          refine vc_region ?_
          refine vl_val rfl (.some rfl) (val_move rfl) ?_
          refine vl_val rfl (.some rfl) (val_ge rfl rfl) ?_
          refine vl_nil ?_
          refine vc_cond rfl (fun hc6 => ?_) (fun hc6 => ?_)
          · (try replace hc6 := of_decide_eq_true hc6)
            refine vc_seq ?_
            refine vc_region ?_
            refine vl_val rfl (.some rfl) (val_assign rfl) ?_
            refine vl_nilSl 3 1 ?_
            refine vl_val rfl (.some rfl) (val_assign rfl) ?_
            refine vl_nil ?_
            refine vc_ret ?_
            refine ⟨_, [IW none 0 0 []], _, res2 Try.results73 rfl rfl, (by repeat (first | exact .nil | (apply Sub.cons; · repeat (first | exact .head | apply Take.tail)))), ?_⟩
            exact ⟨none, 0, [], false, rfl, by decide, fun h => (by cases h), fun _ l' hl => (by
              by_cases he : e6 = 0
              · rw [hfin.1 he] at hl; cases hl; exact capI_512 hi6 (by omega)
              · rw [hfin.2 he] at hl; cases hl), rfl⟩
          · (try replace hc6 := of_decide_eq_false hc6)
            refine vc_skip ?_
            refine vc_region ?_
            refine vl_val rfl (.some rfl) (val_move rfl) ?_
            refine vl_val rfl (.some rfl) (val_move rfl) ?_
            refine vl_val rfl (.some rfl) (val_convInt Try.runUnderlying96 Try.runUnderlying3 rfl (show _ = capI (L6.getD i 0) by unfold capI; rw [w_i64 (by omega) (by omega)]; omega)) ?_
            refine vl_lit sT56 rfl rfl (.some rfl) rfl rfl rfl (by decide) (by decide) rfl (flat_one rfl) (fun r64 => ?_)
            refine vl_append sT56 rfl rfl (.some rfl) rfl rfl (rd_sl (by repeat (first | exact .head | apply In.tail | apply Take.tail | apply Upd.tail))) (by first | rfl | simp) (by first | rfl | exact one_i _) (by omega) (by omega) (by repeat (first | exact .head | apply In.tail | apply Take.tail | apply Upd.tail)) (fun A65 k65 => ?_)
            rw [pushc hi6 rfl, show ((L6.take i).map capI).length + 1 = ((L6.take (i + 1)).map capI).length by simp; omega]
            refine vl_val rfl (.some rfl) (val_assign rfl) ?_
            refine vl_nil ?_
            refine vc_region ?_
            refine vl_val rfl (.some rfl) (val_add rfl rfl (by first | exact w_i64 (by omega) (by omega) | rfl)) ?_
            refine vl_val rfl (.some rfl) (val_move rfl) ?_
            refine vl_nil ?_
            exact ⟨L6.length - (i + 1), _, _, _, by omega, (by repeat (first | exact trivial | refine ⟨rfl, ?_⟩ | refine ⟨le_item rfl (by first | rfl | (congr 1; omega) | (simp; done) | (simp; omega)), ?_⟩)), (by repeat (first | exact .nil | (apply Sub.cons; · repeat (first | exact .head | apply Take.tail)))), ⟨i + 1, A65, k65, by omega, rfl, rfl, rfl⟩⟩
        · (try replace hc5 := of_decide_eq_false hc5)
          obtain rfl : i = L6.length := by omega
          rw [List.take_length]
          refine vc_exit ?_
          refine vc_seq ?_
          refine vc_region ?_
          refine vl_val rfl (.some rfl) (val_move rfl) ?_
          refine vl_val rfl (.some rfl) (val_move rfl) ?_
          refine vl_val rfl (.some rfl) (val_eq rfl rfl) ?_
          refine vl_val rfl (.some rfl) (val_assign rfl) ?_
          refine vl_val rfl (.some rfl) (val_assign rfl) ?_
          refine vl_nil ?_
          refine vc_ret ?_
          refine ⟨_, [IW A8 (L6.map capI).length c8 (L6.map capI)], _, res2 Try.results73 rfl rfl, (by repeat (first | exact .nil | (apply Sub.cons; · repeat (first | exact .head | apply Take.tail)))), ?_⟩
          exact ⟨A8, c8, L6.map capI, decide (e6 = 0), rfl, by simp; omega, fun h => hfin.1 (of_decide_eq_true h), fun h l' hl => (by rw [hfin.2 (of_decide_eq_false h)] at hl; cases hl), rfl⟩
      · (try replace hc3 := of_decide_eq_false hc3)
        refine vc_seq ?_
        refine vc_region ?_
        refine vl_val rfl (.some rfl) (val_eq rfl rfl) ?_
        refine vl_val rfl (.some rfl) (val_assign rfl) ?_
        refine vl_nil ?_
        refine vc_cond rfl (fun hc4 => ?_) (fun hc4 => ?_)
        · (try replace hc4 := of_decide_eq_true hc4)
          refine vc_seq ?_
          refine vc_region ?_
          refine vl_val rfl (.some rfl) (val_assign rfl) ?_
          refine vl_nilSl 3 1 ?_
          refine vl_nil ?_
          refine vc_seq ?_
          refine vc_region ?_
          refine vl_val rfl (.some rfl) (val_move rfl) ?_
          refine vl_val rfl (.some rfl) (val_cutFrom Try.runUnderlying59 Try.sizeOf5 rfl rfl (by omega) (by omega)) ?_
          rw [show Int.toNat 1 = 1 from rfl, show b.length - 1 = (b.drop 1).length by rw [List.length_drop]]
          refine vl_call (C := []) rfl rfl (.some rfl) Try.call92 rfl .nil (fun w hw => rUndeltas (cutA A c 1 1) (c - 1) (b.drop 1) (by rw [List.length_drop]; omega) (by rw [List.length_drop]; omega) w (rdw (rd_old (reads_cutB hr hbc) rfl) hw)) (fun v H' h => ?_)
          obtain ⟨A6, c6, rfl, rfl⟩ := h
          have hfin : (undE (b.drop 1) = 0 → readO n b = some (undL (b.drop 1))) ∧ (undE (b.drop 1) ≠ 0 → readO n b = none) := by first | (rw [readO_2 (by omega) (by omega)]; exact und_tell _) | (exfalso; omega)
          have hL6 : (undL (b.drop 1)).length ≤ 1000000000 := Nat.le_trans (undL_len _) (by rw [List.length_drop]; omega)
          generalize undL (b.drop 1) = L6 at hfin hL6 ⊢
          generalize undE (b.drop 1) = e6 at hfin ⊢
          show VL _ _ _ _ _ (_ :: _)
          refine vl_val rfl (.some rfl) (val_move rfl) ?_
          refine vl_val rfl (.some rfl) (val_extract rfl rfl) ?_
          refine vl_val rfl (.some rfl) (val_extract rfl rfl) ?_
          refine vl_val rfl (.some rfl) (val_assign rfl) ?_
          refine vl_val rfl (.some rfl) (val_assign rfl) ?_
          refine vl_nil ?_
          refine vc_seq ?_
          refine vc_region ?_
          refine vl_val rfl (.some rfl) (val_move rfl) ?_
          refine vl_val rfl (.some rfl) (val_move rfl) ?_
          refine vl_val rfl (.some rfl) (val_eq rfl rfl) ?_
          refine vl_val rfl (.some rfl) (val_assign rfl) ?_
          refine vl_val rfl (.some rfl) (val_assign rfl) ?_
          refine vl_nil ?_
          refine vc_ret ?_
          refine ⟨_, [IW A6 L6.length c6 L6], _, res2 Try.results73 rfl rfl, (by repeat (first | exact .nil | (apply Sub.cons; · repeat (first | exact .head | apply Take.tail)))), ?_⟩
          exact ⟨A6, c6, L6, decide (e6 = 0), rfl, hL6, fun h => hfin.1 (of_decide_eq_true h), fun h l' hl => (by rw [hfin.2 (of_decide_eq_false h)] at hl; cases hl), rfl⟩
        · (try replace hc4 := of_decide_eq_false hc4)
          refine vc_seq ?_
          refine vc_region ?_
          refine vl_val rfl (.some rfl) (val_assign rfl) ?_
          refine vl_val rfl (.some rfl) (val_assign rfl) ?_
          refine vl_nil ?_
          refine vc_ret ?_
          refine ⟨_, [IW none 0 0 []], _, res2 Try.results73 rfl rfl, (by repeat (first | exact .nil | (apply Sub.cons; · repeat (first | exact .head | apply Take.tail)))), ?_⟩
          exact ⟨none, 0, [], false, rfl, by decide, fun h => (by cases h), fun _ l' h => (by first | (rw [readO_nil (by omega)] at h; cases h) | (rw [readO_0n (by omega) (by omega)] at h; cases h) | (rw [readO_x (by omega) (by omega) (by omega) (by omega)] at h; cases h)), rfl⟩
set_option maxRecDepth 20000 in
theorem sEqual (A B : Option Addr) (c d : Nat) (a b : List UInt8) (ha : a.length ≤ 1000000000000) (w : World) (hr : Reads w A (bcells a)) (hr2 : Reads w B (bcells b)) : FnV Try.prog 70 [.slice A a.length c, .slice B b.length d] (.bool (decide (a = b))) w := by
  refine fn_enter Try.func70 rfl Try.ntmps70 rfl ?_
  refine vc_seq ?_
  refine vc_region ?_
  refine vl_val rfl (.some rfl) (val_assign rfl) ?_
  refine vl_nil ?_
  refine vc_seq ?_
  refine vc_seq ?_
  refine vc_region ?_
  refine vl_val rfl (.some rfl) (val_move rfl) ?_
  refine vl_val rfl (.some rfl) (val_lenSl Try.runUnderlying59 rfl) ?_
  refine vl_val rfl (.some rfl) (val_move rfl) ?_
  refine vl_val rfl (.some rfl) (val_lenSl Try.runUnderlying59 rfl) ?_
  refine vl_val rfl (.some rfl) (val_ne rfl rfl) ?_
  refine vl_nil ?_
  refine vc_cond rfl (fun hc0 => ?_) (fun hc0 => ?_)
  · (try replace hc0 := of_decide_eq_true hc0)
    refine vc_seq ?_
    refine vc_region ?_
    refine vl_val rfl (.some rfl) (val_assign rfl) ?_
    refine vl_nil ?_
    refine vc_ret ?_
    refine ⟨_, [], _, res1 Try.results70 rfl, .nil, ?_⟩
    show _ = _; rw [decide_eq_false (fun h => hc0 (by rw [h]))]
  · (try replace hc0 := of_decide_eq_false hc0)
    have hlen : a.length = b.length := by omega
    refine vc_skip ?_
    refine vc_seq ?_
    refine vc_seq ?_
    refine vc_region ?_
    refine vl_val rfl (.some rfl) (val_move rfl) ?_
    refine vl_val rfl (.some rfl) (val_lenSl Try.runUnderlying59 rfl) ?_
    refine vl_val rfl (.some rfl) (val_move rfl) ?_
    refine vl_nil ?_
    refine vc_block ?_
    refine vc_loopw (fun k E H => ∃ i : Nat, i ≤ a.length ∧ k = a.length - i ∧ a.take i = b.take i ∧ E = [(0, .slice A a.length c), (1, .slice B b.length d), (12, .int .i64 a.length), (13, .int .i64 i)] ∧ H = []) (a.length) ⟨_, _, _, ⟨0, by omega, rfl, rfl, rfl, rfl⟩, (by repeat (first | exact trivial | refine ⟨rfl, ?_⟩ | refine ⟨le_item rfl (by first | rfl | (congr 1; omega) | (simp; done) | (simp; omega)), ?_⟩)), (by repeat (first | exact .nil | (apply Sub.cons; · repeat (first | exact .head | apply Take.tail))))⟩ ?_
    intro k E H hI
    obtain ⟨i, hi, rfl, ht, rfl, rfl⟩ := hI
    refine vc_seq ?_
    refine vc_region ?_
    refine vl_val rfl (.some rfl) (val_lt rfl rfl) ?_
    refine vl_nil ?_
    refine vc_seq ?_
    refine vc_cond rfl (fun hc1 => ?_) (fun hc1 => ?_)
    · (try replace hc1 := of_decide_eq_true hc1)
      refine vc_skip ?_
      refine vc_seq ?_
      refine vc_block ?_
      refine vc_seq ?_
      refine vc_region ?_
      refine vl_val rfl (.some rfl) (val_move rfl) ?_
      refine vl_val rfl (.some rfl) (val_assign rfl) ?_
      refine vl_nil ?_
      refine vc_seq ?_
      refine vc_draws [0, 1, 2, 3, 4, 5, 6, 7, 8] [] [0, 1, 2, 3, 4, 5, 6, 7, 8] rfl (by kernel_rfl) (fun _ _ _ h => h) ?_
      refine vd_val rfl rfl rfl (.some rfl) (val_move rfl) ?_
      refine vd_val rfl rfl rfl (.some rfl) (val_move rfl) ?_
      refine vd_val rfl rfl rfl (.some rfl) (val_indexAddr Try.runUnderlying59 Try.sizeOf5 rfl rfl (by first | exact rd_sl (by repeat (first | exact .head | apply In.tail | apply Take.tail | apply Upd.tail)) | exact rd_slr (by repeat (first | exact .head | apply In.tail | apply Take.tail | apply Upd.tail)) | exact rd_old (by assumption) rfl) (by omega) (by omega) (by first | omega | (simp only [bcells_length, icells_length, ucells_length, tcells_length]; omega) | (simp only [bcells_length, icells_length, ucells_length, tcells_length, fillG_length]; omega) | (simp; omega))) ?_
      refine vd_val rfl rfl rfl (.some rfl) (val_load Try.isAgg5 rfl (by first | exact cell_cells (by repeat (first | exact .head | apply In.tail | apply Take.tail | apply Upd.tail)) rfl | exact cell_rd (rd_sl (by repeat (first | exact .head | apply In.tail | apply Take.tail | apply Upd.tail))) (by first | exact bcells_at (by omega) | exact ucells_at (by omega) | exact icells_at (by omega) | exact tcells_at (by omega) | exact bcells_get (by omega) | exact icells_get (by omega) | exact tcells_get (by omega) | exact ucells_get (by omega)) | exact cell_rd (rd_old (by assumption) rfl) (by first | exact bcells_at (by omega) | exact ucells_at (by omega) | exact icells_at (by omega) | exact tcells_at (by omega) | exact bcells_get (by omega) | exact icells_get (by omega) | exact tcells_get (by omega) | exact ucells_get (by omega)) | exact cell_old (by assumption) (by simp [fps]))) ?_
      refine vd_val rfl rfl rfl (.some rfl) (val_move rfl) ?_
      refine vd_val rfl rfl rfl (.some rfl) (val_move rfl) ?_
      refine vd_val rfl rfl rfl (.some rfl) (val_indexAddr Try.runUnderlying59 Try.sizeOf5 rfl rfl (by first | exact rd_sl (by repeat (first | exact .head | apply In.tail | apply Take.tail | apply Upd.tail)) | exact rd_slr (by repeat (first | exact .head | apply In.tail | apply Take.tail | apply Upd.tail)) | exact rd_old (by assumption) rfl) (by omega) (by omega) (by first | omega | (simp only [bcells_length, icells_length, ucells_length, tcells_length]; omega) | (simp only [bcells_length, icells_length, ucells_length, tcells_length, fillG_length]; omega) | (simp; omega))) ?_
      refine vd_val rfl rfl rfl (.some rfl) (val_load Try.isAgg5 rfl (by first | exact cell_cells (by repeat (first | exact .head | apply In.tail | apply Take.tail | apply Upd.tail)) rfl | exact cell_rd (rd_sl (by repeat (first | exact .head | apply In.tail | apply Take.tail | apply Upd.tail))) (by first | exact bcells_at (by omega) | exact ucells_at (by omega) | exact icells_at (by omega) | exact tcells_at (by omega) | exact bcells_get (by omega) | exact icells_get (by omega) | exact tcells_get (by omega) | exact ucells_get (by omega)) | exact cell_rd (rd_old (by assumption) rfl) (by first | exact bcells_at (by omega) | exact ucells_at (by omega) | exact icells_at (by omega) | exact tcells_at (by omega) | exact bcells_get (by omega) | exact icells_get (by omega) | exact tcells_get (by omega) | exact ucells_get (by omega)) | exact cell_old (by assumption) (by simp [fps]))) ?_
      refine vd_val rfl rfl rfl (.some rfl) (val_ne rfl rfl) ?_
      refine vd_nil ?_
      refine vc_cond rfl (fun hc2 => ?_) (fun hc2 => ?_)
      · (try replace hc2 := of_decide_eq_true hc2)
        refine vc_seq ?_
        refine vc_region ?_
        refine vl_val rfl (.some rfl) (val_assign rfl) ?_
        refine vl_nil ?_
        refine vc_ret ?_
        refine ⟨_, [], _, res1 Try.results70 rfl, .nil, ?_⟩
        show _ = _; rw [decide_eq_false (ne_at 0 (i := i) (fun h => by rw [h] at hc2; omega))]
      · (try replace hc2 := of_decide_eq_false hc2)
        refine vc_skip ?_
        refine vc_region ?_
        refine vl_val rfl (.some rfl) (val_add rfl rfl (by first | exact w_i64 (by omega) (by omega) | rfl)) ?_
        refine vl_val rfl (.some rfl) (val_move rfl) ?_
        refine vl_nil ?_
        exact ⟨a.length - (i + 1), _, _, _, by omega, (by repeat (first | exact trivial | refine ⟨rfl, ?_⟩ | refine ⟨le_item rfl (by first | rfl | (congr 1; omega) | (simp; done) | (simp; omega)), ?_⟩)), (by repeat (first | exact .nil | (apply Sub.cons; · repeat (first | exact .head | apply Take.tail)))), ⟨i + 1, by omega, rfl, pre_eq 0 ht (by omega) hlen (UInt8.toNat_inj.1 (by omega)), rfl, rfl⟩⟩
    · (try replace hc1 := of_decide_eq_false hc1)
      refine vc_exit ?_
      refine vc_seq ?_
      refine vc_region ?_
      refine vl_val rfl (.some rfl) (val_assign rfl) ?_
      refine vl_nil ?_
      refine vc_ret ?_
      refine ⟨_, [], _, res1 Try.results70 rfl, .nil, ?_⟩
      show _ = _; rw [decide_eq_true (by rw [List.take_of_length_le (by omega), List.take_of_length_le (by omega)] at ht; exact ht)]
set_option maxRecDepth 20000 in
theorem lSame (An Ai Bn Bi : Option Addr) (cn ci dn di : Nat) (nl ml : List Bool) (il jl : List Int) (hn : nl.length ≤ 1000000000) (hi : il.length ≤ 1000000000) (w : World) (hrn : Reads w An (tcells nl)) (hri : Reads w Ai (icells .i64 il)) (hrm : Reads w Bn (tcells ml)) (hrj : Reads w Bi (icells .i64 jl)) : FnV Try.prog 39 [VA An cn nl Ai ci il, VA Bn dn ml Bi di jl] (.bool (decide (nl = ml ∧ il = jl))) w := by
  refine fn_enter Try.func39 rfl Try.ntmps39 rfl ?_
  refine vc_seq ?_
  refine vc_region ?_
  refine vl_box rfl rfl (.some rfl) rfl (fun r2 => ?_)
  refine vl_box rfl rfl (.some rfl) rfl (fun r3 => ?_)
  refine vl_val rfl (.some rfl) (val_assign rfl) ?_
  refine vl_nil ?_
  refine vc_seq ?_
  refine vc_seq ?_
  refine vc_region ?_
  refine vl_val rfl (.some rfl) (by first | exact val_fieldAddr Try.runUnderlying58 rfl Try.sizeOf55 rfl | exact val_fieldAddrR Try.runUnderlying58 rfl Try.sizeOf55 rfl) ?_
  refine vl_val rfl (.some rfl) (val_load Try.isAgg55 rfl (by first | exact cell_cells (by repeat (first | exact .head | apply In.tail | apply Take.tail | apply Upd.tail)) rfl | exact cell_rd (rd_sl (by repeat (first | exact .head | apply In.tail | apply Take.tail | apply Upd.tail))) (by first | exact bcells_at (by omega) | exact ucells_at (by omega) | exact icells_at (by omega) | exact tcells_at (by omega) | exact bcells_get (by omega) | exact icells_get (by omega) | exact tcells_get (by omega) | exact ucells_get (by omega)) | exact cell_rd (rd_old (by assumption) rfl) (by first | exact bcells_at (by omega) | exact ucells_at (by omega) | exact icells_at (by omega) | exact tcells_at (by omega) | exact bcells_get (by omega) | exact icells_get (by omega) | exact tcells_get (by omega) | exact ucells_get (by omega)) | exact cell_old (by assumption) (by simp [fps]))) ?_
  refine vl_val rfl (.some rfl) (val_lenSl Try.runUnderlying55 rfl) ?_
  refine vl_val rfl (.some rfl) (by first | exact val_fieldAddr Try.runUnderlying64 rfl Try.sizeOf55 rfl | exact val_fieldAddrR Try.runUnderlying64 rfl Try.sizeOf55 rfl) ?_
  refine vl_val rfl (.some rfl) (val_load Try.isAgg55 rfl (by first | exact cell_cells (by repeat (first | exact .head | apply In.tail | apply Take.tail | apply Upd.tail)) rfl | exact cell_rd (rd_sl (by repeat (first | exact .head | apply In.tail | apply Take.tail | apply Upd.tail))) (by first | exact bcells_at (by omega) | exact ucells_at (by omega) | exact icells_at (by omega) | exact tcells_at (by omega) | exact bcells_get (by omega) | exact icells_get (by omega) | exact tcells_get (by omega) | exact ucells_get (by omega)) | exact cell_rd (rd_old (by assumption) rfl) (by first | exact bcells_at (by omega) | exact ucells_at (by omega) | exact icells_at (by omega) | exact tcells_at (by omega) | exact bcells_get (by omega) | exact icells_get (by omega) | exact tcells_get (by omega) | exact ucells_get (by omega)) | exact cell_old (by assumption) (by simp [fps]))) ?_
  refine vl_val rfl (.some rfl) (val_lenSl Try.runUnderlying55 rfl) ?_
  refine vl_val rfl (.some rfl) (val_ne rfl rfl) ?_
  refine vl_val rfl (.some rfl) (val_move rfl) ?_
  refine vl_split (t := 13) rfl (fun hg13 => ?_) (fun hg13 => ?_)
  · (try replace hg13 := of_decide_eq_true hg13)
    refine vl_off rfl rfl rfl rfl (.some rfl) ?_
    refine vl_off rfl rfl rfl rfl (.some rfl) ?_
    refine vl_off rfl rfl rfl rfl (.some rfl) ?_
    refine vl_off rfl rfl rfl rfl (.some rfl) ?_
    refine vl_off rfl rfl rfl rfl (.some rfl) ?_
    refine vl_off rfl rfl rfl rfl (.some rfl) ?_
    refine vl_val rfl (.some rfl) (val_pick rfl rfl) ?_
    refine vl_nil ?_
    refine vc_cond rfl (fun _ => ?_) (fun h => by cases h)
    refine vc_seq ?_
    refine vc_region ?_
    refine vl_val rfl (.some rfl) (val_assign rfl) ?_
    refine vl_nil ?_
    refine vc_ret ?_
    refine ⟨_, [], _, res1 Try.results39 rfl, .nil, ?_⟩
    show _ = _; rw [decide_eq_false (fun h => by
      obtain ⟨rfl, rfl⟩ := h
      first | omega | (simp at hc0))]
  · (try replace hg13 := of_decide_eq_false hg13)
    refine vl_on rfl rfl rfl rfl ?_
    refine vl_val rfl (.some rfl) (by first | exact val_fieldAddr Try.runUnderlying58 rfl Try.sizeOf56 rfl | exact val_fieldAddrR Try.runUnderlying58 rfl Try.sizeOf56 rfl) ?_
    refine vl_on rfl rfl rfl rfl ?_
    refine vl_val rfl (.some rfl) (val_load Try.isAgg56 rfl (by first | exact cell_cells (by repeat (first | exact .head | apply In.tail | apply Take.tail | apply Upd.tail)) rfl | exact cell_rd (rd_sl (by repeat (first | exact .head | apply In.tail | apply Take.tail | apply Upd.tail))) (by first | exact bcells_at (by omega) | exact ucells_at (by omega) | exact icells_at (by omega) | exact tcells_at (by omega) | exact bcells_get (by omega) | exact icells_get (by omega) | exact tcells_get (by omega) | exact ucells_get (by omega)) | exact cell_rd (rd_old (by assumption) rfl) (by first | exact bcells_at (by omega) | exact ucells_at (by omega) | exact icells_at (by omega) | exact tcells_at (by omega) | exact bcells_get (by omega) | exact icells_get (by omega) | exact tcells_get (by omega) | exact ucells_get (by omega)) | exact cell_old (by assumption) (by simp [fps]))) ?_
    refine vl_on rfl rfl rfl rfl ?_
    refine vl_val rfl (.some rfl) (by first | exact val_fieldAddr Try.runUnderlying64 rfl Try.sizeOf56 rfl | exact val_fieldAddrR Try.runUnderlying64 rfl Try.sizeOf56 rfl) ?_
    refine vl_on rfl rfl rfl rfl ?_
    refine vl_val rfl (.some rfl) (val_load Try.isAgg56 rfl (by first | exact cell_cells (by repeat (first | exact .head | apply In.tail | apply Take.tail | apply Upd.tail)) rfl | exact cell_rd (rd_sl (by repeat (first | exact .head | apply In.tail | apply Take.tail | apply Upd.tail))) (by first | exact bcells_at (by omega) | exact ucells_at (by omega) | exact icells_at (by omega) | exact tcells_at (by omega) | exact bcells_get (by omega) | exact icells_get (by omega) | exact tcells_get (by omega) | exact ucells_get (by omega)) | exact cell_rd (rd_old (by assumption) rfl) (by first | exact bcells_at (by omega) | exact ucells_at (by omega) | exact icells_at (by omega) | exact tcells_at (by omega) | exact bcells_get (by omega) | exact icells_get (by omega) | exact tcells_get (by omega) | exact ucells_get (by omega)) | exact cell_old (by assumption) (by simp [fps]))) ?_
    refine vl_on rfl rfl rfl rfl ?_
    refine vl_callV rfl rfl (.some rfl) Try.call47 rfl (fun w hw => rInts _ _ _ _ il jl (by omega) w (rdw (rd_old hri rfl) hw) (rdw (rd_old hrj rfl) hw)) ?_
    refine vl_on rfl rfl rfl rfl ?_
    refine vl_val rfl (.some rfl) (val_not rfl) ?_
    refine vl_val rfl (.some rfl) (val_pick rfl rfl) ?_
    refine vl_nil ?_
    refine vc_cond rfl (fun hc0 => ?_) (fun hc0 => ?_)
    · (try replace hc0 := of_decide_eq_true hc0)
      refine vc_seq ?_
      refine vc_region ?_
      refine vl_val rfl (.some rfl) (val_assign rfl) ?_
      refine vl_nil ?_
      refine vc_ret ?_
      refine ⟨_, [], _, res1 Try.results39 rfl, .nil, ?_⟩
      show _ = _; rw [decide_eq_false (fun h => by
        obtain ⟨rfl, rfl⟩ := h
        first | omega | (simp at hc0))]
    · (try replace hc0 := of_decide_eq_false hc0)
      have hij : il = jl := by simpa using hc0
      have hlen : nl.length = ml.length := by omega
      refine vc_skip ?_
      refine vc_seq ?_
      refine vc_seq ?_
      refine vc_region ?_
      refine vl_val rfl (.some rfl) (by first | exact val_fieldAddr Try.runUnderlying58 rfl Try.sizeOf55 rfl | exact val_fieldAddrR Try.runUnderlying58 rfl Try.sizeOf55 rfl) ?_
      refine vl_val rfl (.some rfl) (val_load Try.isAgg55 rfl (by first | exact cell_cells (by repeat (first | exact .head | apply In.tail | apply Take.tail | apply Upd.tail)) rfl | exact cell_rd (rd_sl (by repeat (first | exact .head | apply In.tail | apply Take.tail | apply Upd.tail))) (by first | exact bcells_at (by omega) | exact ucells_at (by omega) | exact icells_at (by omega) | exact tcells_at (by omega) | exact bcells_get (by omega) | exact icells_get (by omega) | exact tcells_get (by omega) | exact ucells_get (by omega)) | exact cell_rd (rd_old (by assumption) rfl) (by first | exact bcells_at (by omega) | exact ucells_at (by omega) | exact icells_at (by omega) | exact tcells_at (by omega) | exact bcells_get (by omega) | exact icells_get (by omega) | exact tcells_get (by omega) | exact ucells_get (by omega)) | exact cell_old (by assumption) (by simp [fps]))) ?_
      refine vl_val rfl (.some rfl) (val_lenSl Try.runUnderlying55 rfl) ?_
      refine vl_val rfl (.some rfl) (val_move rfl) ?_
      refine vl_nil ?_
      refine vc_block ?_
      refine vc_loopw (fun k E H => ∃ i : Nat, i ≤ nl.length ∧ k = nl.length - i ∧ nl.take i = ml.take i ∧ E = [(2, .pointer (some ⟨r2, 0, none⟩)), (3, .pointer (some ⟨r3, 0, none⟩)), (23, .int .i64 nl.length), (24, .int .i64 i)] ∧ H = [cells r3 [.slice Bn ml.length dn, .slice Bi jl.length di] 64, cells r2 [.slice An nl.length cn, .slice Ai il.length ci] 58]) (nl.length) ⟨_, _, _, ⟨0, by omega, rfl, rfl, rfl, rfl⟩, (by repeat (first | exact trivial | refine ⟨rfl, ?_⟩ | refine ⟨le_item rfl (by first | rfl | (congr 1; omega) | (simp; done) | (simp; omega)), ?_⟩)), (by repeat (first | exact .nil | (apply Sub.cons; · repeat (first | exact .head | apply Take.tail))))⟩ ?_
      intro k E H hI
      obtain ⟨i, hin, rfl, ht, rfl, rfl⟩ := hI
      refine vc_seq ?_
      refine vc_region ?_
      refine vl_val rfl (.some rfl) (val_lt rfl rfl) ?_
      refine vl_nil ?_
      refine vc_seq ?_
      refine vc_cond rfl (fun hc1 => ?_) (fun hc1 => ?_)
      · (try replace hc1 := of_decide_eq_true hc1)
        refine vc_skip ?_
        refine vc_seq ?_
        refine vc_block ?_
        refine vc_seq ?_
        refine vc_region ?_
        refine vl_val rfl (.some rfl) (val_move rfl) ?_
        refine vl_val rfl (.some rfl) (val_assign rfl) ?_
        refine vl_nil ?_
        refine vc_seq ?_
        refine vc_draws [0, 1, 2, 3, 4, 5, 6, 7, 8, 9, 10] [] [0, 1, 2, 3, 4, 5, 6, 7, 8, 9, 10] rfl (by kernel_rfl) (fun _ _ _ h => h) ?_
        refine vd_val rfl rfl rfl (.some rfl) (by first | exact val_fieldAddr Try.runUnderlying58 rfl Try.sizeOf55 rfl | exact val_fieldAddrR Try.runUnderlying58 rfl Try.sizeOf55 rfl) ?_
        refine vd_val rfl rfl rfl (.some rfl) (val_load Try.isAgg55 rfl (by first | exact cell_cells (by repeat (first | exact .head | apply In.tail | apply Take.tail | apply Upd.tail)) rfl | exact cell_rd (rd_sl (by repeat (first | exact .head | apply In.tail | apply Take.tail | apply Upd.tail))) (by first | exact bcells_at (by omega) | exact ucells_at (by omega) | exact icells_at (by omega) | exact tcells_at (by omega) | exact bcells_get (by omega) | exact icells_get (by omega) | exact tcells_get (by omega) | exact ucells_get (by omega)) | exact cell_rd (rd_old (by assumption) rfl) (by first | exact bcells_at (by omega) | exact ucells_at (by omega) | exact icells_at (by omega) | exact tcells_at (by omega) | exact bcells_get (by omega) | exact icells_get (by omega) | exact tcells_get (by omega) | exact ucells_get (by omega)) | exact cell_old (by assumption) (by simp [fps]))) ?_
        refine vd_val rfl rfl rfl (.some rfl) (val_move rfl) ?_
        refine vd_val rfl rfl rfl (.some rfl) (val_indexAddr Try.runUnderlying55 Try.sizeOf4 rfl rfl (by first | exact rd_sl (by repeat (first | exact .head | apply In.tail | apply Take.tail | apply Upd.tail)) | exact rd_slr (by repeat (first | exact .head | apply In.tail | apply Take.tail | apply Upd.tail)) | exact rd_old (by assumption) rfl) (by omega) (by omega) (by first | omega | (simp only [bcells_length, icells_length, ucells_length, tcells_length]; omega) | (simp only [bcells_length, icells_length, ucells_length, tcells_length, fillG_length]; omega) | (simp; omega))) ?_
        refine vd_val rfl rfl rfl (.some rfl) (val_load Try.isAgg4 rfl (by first | exact cell_cells (by repeat (first | exact .head | apply In.tail | apply Take.tail | apply Upd.tail)) rfl | exact cell_rd (rd_sl (by repeat (first | exact .head | apply In.tail | apply Take.tail | apply Upd.tail))) (by first | exact bcells_at (by omega) | exact ucells_at (by omega) | exact icells_at (by omega) | exact tcells_at (by omega) | exact bcells_get (by omega) | exact icells_get (by omega) | exact tcells_get (by omega) | exact ucells_get (by omega)) | exact cell_rd (rd_old (by assumption) rfl) (by first | exact bcells_at (by omega) | exact ucells_at (by omega) | exact icells_at (by omega) | exact tcells_at (by omega) | exact bcells_get (by omega) | exact icells_get (by omega) | exact tcells_get (by omega) | exact ucells_get (by omega)) | exact cell_old (by assumption) (by simp [fps]))) ?_
        refine vd_val rfl rfl rfl (.some rfl) (by first | exact val_fieldAddr Try.runUnderlying64 rfl Try.sizeOf55 rfl | exact val_fieldAddrR Try.runUnderlying64 rfl Try.sizeOf55 rfl) ?_
        refine vd_val rfl rfl rfl (.some rfl) (val_load Try.isAgg55 rfl (by first | exact cell_cells (by repeat (first | exact .head | apply In.tail | apply Take.tail | apply Upd.tail)) rfl | exact cell_rd (rd_sl (by repeat (first | exact .head | apply In.tail | apply Take.tail | apply Upd.tail))) (by first | exact bcells_at (by omega) | exact ucells_at (by omega) | exact icells_at (by omega) | exact tcells_at (by omega) | exact bcells_get (by omega) | exact icells_get (by omega) | exact tcells_get (by omega) | exact ucells_get (by omega)) | exact cell_rd (rd_old (by assumption) rfl) (by first | exact bcells_at (by omega) | exact ucells_at (by omega) | exact icells_at (by omega) | exact tcells_at (by omega) | exact bcells_get (by omega) | exact icells_get (by omega) | exact tcells_get (by omega) | exact ucells_get (by omega)) | exact cell_old (by assumption) (by simp [fps]))) ?_
        refine vd_val rfl rfl rfl (.some rfl) (val_move rfl) ?_
        refine vd_val rfl rfl rfl (.some rfl) (val_indexAddr Try.runUnderlying55 Try.sizeOf4 rfl rfl (by first | exact rd_sl (by repeat (first | exact .head | apply In.tail | apply Take.tail | apply Upd.tail)) | exact rd_slr (by repeat (first | exact .head | apply In.tail | apply Take.tail | apply Upd.tail)) | exact rd_old (by assumption) rfl) (by omega) (by omega) (by first | omega | (simp only [bcells_length, icells_length, ucells_length, tcells_length]; omega) | (simp only [bcells_length, icells_length, ucells_length, tcells_length, fillG_length]; omega) | (simp; omega))) ?_
        refine vd_val rfl rfl rfl (.some rfl) (val_load Try.isAgg4 rfl (by first | exact cell_cells (by repeat (first | exact .head | apply In.tail | apply Take.tail | apply Upd.tail)) rfl | exact cell_rd (rd_sl (by repeat (first | exact .head | apply In.tail | apply Take.tail | apply Upd.tail))) (by first | exact bcells_at (by omega) | exact ucells_at (by omega) | exact icells_at (by omega) | exact tcells_at (by omega) | exact bcells_get (by omega) | exact icells_get (by omega) | exact tcells_get (by omega) | exact ucells_get (by omega)) | exact cell_rd (rd_old (by assumption) rfl) (by first | exact bcells_at (by omega) | exact ucells_at (by omega) | exact icells_at (by omega) | exact tcells_at (by omega) | exact bcells_get (by omega) | exact icells_get (by omega) | exact tcells_get (by omega) | exact ucells_get (by omega)) | exact cell_old (by assumption) (by simp [fps]))) ?_
        refine vd_val rfl rfl rfl (.some rfl) (val_bne Try.underlying4 rfl rfl) ?_
        refine vd_nil ?_
        refine vc_cond rfl (fun hc2 => ?_) (fun hc2 => ?_)
        · (try replace hc2 := of_decide_eq_true hc2)
          refine vc_seq ?_
          refine vc_region ?_
          refine vl_val rfl (.some rfl) (val_assign rfl) ?_
          refine vl_nil ?_
          refine vc_ret ?_
          refine ⟨_, [], _, res1 Try.results39 rfl, .nil, ?_⟩
          show _ = _; rw [decide_eq_false (fun h => by
            obtain ⟨rfl, rfl⟩ := h
            simp at hc2)]
        · (try replace hc2 := of_decide_eq_false hc2)
          replace hc2 : nl.getD i false = ml.getD i false := by simpa using hc2
          refine vc_skip ?_
          refine vc_region ?_
          refine vl_val rfl (.some rfl) (val_add rfl rfl (by first | exact w_i64 (by omega) (by omega) | rfl)) ?_
          refine vl_val rfl (.some rfl) (val_move rfl) ?_
          refine vl_nil ?_
          exact ⟨nl.length - (i + 1), _, _, _, by omega, (by repeat (first | exact trivial | refine ⟨rfl, ?_⟩ | refine ⟨le_item rfl (by first | rfl | (congr 1; omega) | (simp; done) | (simp; omega)), ?_⟩)), (by repeat (first | exact .nil | (apply Sub.cons; · repeat (first | exact .head | apply Take.tail)))), ⟨i + 1, by omega, rfl, pre_eq false ht (by omega) hlen hc2, rfl, rfl⟩⟩
      · (try replace hc1 := of_decide_eq_false hc1)
        obtain rfl : i = nl.length := by omega
        refine vc_exit ?_
        refine vc_seq ?_
        refine vc_region ?_
        refine vl_val rfl (.some rfl) (val_assign rfl) ?_
        refine vl_nil ?_
        refine vc_ret ?_
        refine ⟨_, [], _, res1 Try.results39 rfl, .nil, ?_⟩
        show _ = _; rw [decide_eq_true ⟨by rw [List.take_length, List.take_of_length_le (by omega)] at ht; exact ht, hij⟩]

end Go.Proofs.Ytibfngjfjddaiaa.K
