/- Walks of the program's functions, printed by a program of this session; Lean checks them. -/
import Derived.Test.YtibfngjfjddaiaaDclaw
import Derived.Test.YtibfngjfjddaiaaKt
namespace Go.Proofs.Ytibfngjfjddaiaa.K
open Go Go.RowKit Go.Proofs
set_option linter.unusedVariables false
set_option linter.unusedSimpArgs false

/-- The number is an int's. -/
def WV (p : Vk) : Prop := -9223372036854775808 ≤ p.n ∧ p.n < 9223372036854775808
abbrev RC (r : Nat) (kd : Int) (A : Option Addr) (n c : Nat) : Chunk := cells r [.int .i64 kd, .slice A n c] 94
theorem idx_first {vs : List Vk} {p : Vk} {i : Nat} (hi : i < vs.length) (hn : p ∉ vs.take i) (h : vs.getD i z3 = p) : p ∈ vs ∧ vs.idxOf p = i := by
  have e : vs[i] = p := by rw [← h]; simp [List.getD, List.getElem?_eq_getElem hi]
  have hm : p ∈ vs := e ▸ List.getElem_mem hi
  refine ⟨hm, ?_⟩
  have hs : vs = vs.take i ++ vs.drop i := (List.take_append_drop i vs).symm
  rw [hs, List.idxOf_append, if_neg hn, List.drop_eq_getElem_cons hi, e, List.idxOf_cons_self, List.length_take]
  omega
theorem takes_zero {kd : Int} {p : Vk} (hk : 1 ≤ kd) (h : p.k = 0) : takesB kd p = false := by
  unfold takesB; rw [decide_eq_false (by omega)]; rfl

set_option maxRecDepth 20000 in
theorem rNan (n : Int) (w : World) : FnV Try.prog 109 [.int .i64 n] (.bool (decide (isN (ub n)))) w := by
  have hu := ub_lt n
  have hI := @isN_bits n
  have hC := ub_cast n
  refine fn_enter Try.func109 rfl Try.ntmps109 rfl ?_
  refine vc_seq ?_
  refine vc_region ?_
  refine vl_val rfl (.some rfl) (val_assign rfl) ?_
  refine vl_nil ?_
  refine vc_seq ?_
  refine vc_region ?_
  refine vl_val rfl (.some rfl) (val_move rfl) ?_
  refine vl_val rfl (.some rfl) (val_convInt Try.runUnderlying3 Try.runUnderlying96 rfl (ub_cast n)) ?_
  refine vl_val rfl (.some rfl) (val_and rfl rfl (and_exp (by omega) (by omega))) ?_
  refine vl_val rfl (.some rfl) (val_eq rfl rfl) ?_
  refine vl_val rfl (.some rfl) (val_move rfl) ?_
  refine vl_split (t := 7) rfl (fun hg7 => ?_) (fun hg7 => ?_)
  · (try replace hg7 := of_decide_eq_true hg7)
    refine vl_on rfl rfl rfl rfl ?_
    refine vl_val rfl (.some rfl) (val_move rfl) ?_
    refine vl_on rfl rfl rfl rfl ?_
    refine vl_val rfl (.some rfl) (val_convInt Try.runUnderlying3 Try.runUnderlying96 rfl (ub_cast n)) ?_
    refine vl_on rfl rfl rfl rfl ?_
    refine vl_val rfl (.some rfl) (val_and rfl rfl (and_mask 52 4503599627370496 rfl (by decide) rfl rfl (by omega) (by simp [IntKind.bits]; omega))) ?_
    refine vl_on rfl rfl rfl rfl ?_
    refine vl_val rfl (.some rfl) (val_ne rfl rfl) ?_
    refine vl_val rfl (.some rfl) (val_pick rfl rfl) ?_
    refine vl_val rfl (.some rfl) (val_assign rfl) ?_
    refine vl_nil ?_
    refine vc_ret ?_
    refine ⟨_, [], _, res1 Try.results109 rfl, .nil, ?_⟩
    show _ = _
    first | exact congrArg Value.bool (decide_eq_decide.2 ⟨fun h => hI.1 ⟨hg7, h⟩, fun h => (hI.2 h).2⟩) | (congr 1; symm; exact decide_eq_false (fun h => hg7 (hI.2 h).1))
  · (try replace hg7 := of_decide_eq_false hg7)
    refine vl_off rfl rfl rfl rfl (.some rfl) ?_
    refine vl_off rfl rfl rfl rfl (.some rfl) ?_
    refine vl_off rfl rfl rfl rfl (.some rfl) ?_
    refine vl_off rfl rfl rfl rfl (.some rfl) ?_
    refine vl_val rfl (.some rfl) (val_pick rfl rfl) ?_
    refine vl_val rfl (.some rfl) (val_assign rfl) ?_
    refine vl_nil ?_
    refine vc_ret ?_
    refine ⟨_, [], _, res1 Try.results109 rfl, .nil, ?_⟩
    show _ = _
    first | exact congrArg Value.bool (decide_eq_decide.2 ⟨fun h => hI.1 ⟨hg7, h⟩, fun h => (hI.2 h).2⟩) | (congr 1; symm; exact decide_eq_false (fun h => hg7 (hI.2 h).1))
set_option maxRecDepth 20000 in
theorem rCanon (n : Int) (h1 : -9223372036854775808 ≤ n) (h2 : n < 9223372036854775808) (w : World) : FnV Try.prog 105 [.int .i64 n] (.int .i64 (canS n)) w := by
  refine fn_enter Try.func105 rfl Try.ntmps105 rfl ?_
  refine vc_seq ?_
  refine vc_region ?_
  refine vl_val rfl (.some rfl) (val_assign rfl) ?_
  refine vl_nil ?_
  refine vc_seq ?_
  refine vc_seq ?_
  refine vc_region ?_
  refine vl_val rfl (.some rfl) (val_move rfl) ?_
  refine vl_callV rfl rfl (.some rfl) Try.call109 rfl (fun w hw => rNan _ w) ?_
  refine vl_nil ?_
  refine vc_cond rfl (fun hc0 => ?_) (fun hc0 => ?_)
  · (try replace hc0 := of_decide_eq_true hc0)
    refine vc_seq ?_
    refine vc_region ?_
    refine vl_val rfl (.some rfl) (val_assign rfl) ?_
    refine vl_nil ?_
    refine vc_ret ?_
    refine ⟨_, [], _, res1 Try.results105 rfl, .nil, ?_⟩
    show _ = _; simp [canS, hc0]
  · (try replace hc0 := of_decide_eq_false hc0)
    refine vc_skip ?_
    refine vc_seq ?_
    refine vc_seq ?_
    refine vc_region ?_
    refine vl_val rfl (.some rfl) (val_move rfl) ?_
    refine vl_val rfl (.some rfl) (val_convInt Try.runUnderlying3 Try.runUnderlying96 rfl (ub_cast n)) ?_
    refine vl_val rfl (.some rfl) (val_eq rfl rfl) ?_
    refine vl_nil ?_
    refine vc_cond rfl (fun hc1 => ?_) (fun hc1 => ?_)
    · (try replace hc1 := of_decide_eq_true hc1)
      refine vc_seq ?_
      refine vc_region ?_
      refine vl_val rfl (.some rfl) (val_assign rfl) ?_
      refine vl_nil ?_
      refine vc_ret ?_
      refine ⟨_, [], _, res1 Try.results105 rfl, .nil, ?_⟩
      show _ = _; have h0 : rg (ub n) = 0 := by unfold rg; omega
      simp [canS, hc0, h0]
    · (try replace hc1 := of_decide_eq_false hc1)
      refine vc_skip ?_
      refine vc_seq ?_
      refine vc_region ?_
      refine vl_val rfl (.some rfl) (val_move rfl) ?_
      refine vl_val rfl (.some rfl) (val_assign rfl) ?_
      refine vl_nil ?_
      refine vc_ret ?_
      refine ⟨_, [], _, res1 Try.results105 rfl, .nil, ?_⟩
      show _ = _; have hs := ub_is n
      by_cases h0 : rg (ub n) = 0
      · have : n = 0 := by have := ub_lt n; unfold rg at h0; omega
        subst this; simp [canS, hc0]
      · simp [canS, hc0, h0]
set_option maxRecDepth 20000 in
theorem rGood (n : Int) (h1 : -9223372036854775808 ≤ n) (h2 : n < 9223372036854775808) (w : World) : FnV Try.prog 96 [.int .i64 n] (.bool (decide (canS n = n))) w := by
  refine fn_enter Try.func96 rfl Try.ntmps96 rfl ?_
  refine vc_seq ?_
  refine vc_region ?_
  refine vl_val rfl (.some rfl) (val_assign rfl) ?_
  refine vl_nil ?_
  refine vc_seq ?_
  refine vc_region ?_
  refine vl_val rfl (.some rfl) (val_move rfl) ?_
  refine vl_callV rfl rfl (.some rfl) Try.call105 rfl (fun w hw => rCanon _ (by omega) (by omega) w) ?_
  refine vl_val rfl (.some rfl) (val_move rfl) ?_
  refine vl_val rfl (.some rfl) (val_eq rfl rfl) ?_
  refine vl_val rfl (.some rfl) (val_assign rfl) ?_
  refine vl_nil ?_
  refine vc_ret ?_
  refine ⟨_, [], _, res1 Try.results96 rfl, .nil, ?_⟩
  rfl
set_option maxRecDepth 20000 in
theorem xGood (p : Vk) (hw1 : -9223372036854775808 ≤ p.n) (hw2 : p.n < 9223372036854775808) (w : World) : FnV Try.prog 80 [vk p] (.bool (goodV p)) w := by
  refine fn_enter Try.func80 rfl Try.ntmps80 rfl ?_
  refine vc_seq ?_
  refine vc_region ?_
  refine vl_box rfl rfl (.some rfl) rfl (fun r1 => ?_)
  refine vl_val rfl (.some rfl) (val_assign rfl) ?_
  refine vl_nil ?_
  refine vc_seq ?_
  refine vc_seq ?_
  refine vc_region ?_
  refine vl_val rfl (.some rfl) (by first | exact val_fieldAddr Try.runUnderlying27 rfl Try.sizeOf3 rfl | exact val_fieldAddrR Try.runUnderlying27 rfl Try.sizeOf3 rfl) ?_
  refine vl_val rfl (.some rfl) (val_load Try.isAgg3 rfl (by first | exact cell_cells (by repeat (first | exact .head | apply In.tail | apply Take.tail | apply Upd.tail)) rfl | exact cell_rd (rd_sl (by repeat (first | exact .head | apply In.tail | apply Take.tail | apply Upd.tail))) (by first | exact bcells_get (by omega) | exact icells_get (by omega) | exact tcells_get (by omega)))) ?_
  refine vl_nil ?_
  refine vc_block ?_
  refine vc_seq ?_
  refine vc_region ?_
  refine vl_val rfl (.some rfl) (val_eq rfl rfl) ?_
  refine vl_val rfl (.some rfl) (val_assign rfl) ?_
  refine vl_nil ?_
  refine vc_cond rfl (fun hc0 => ?_) (fun hc0 => ?_)
  · (try replace hc0 := of_decide_eq_true hc0)
    refine vc_seq ?_
    refine vc_region ?_
    refine vl_val rfl (.some rfl) (val_loadAgg Try.isAgg27 Try.sizeOf27 rfl (by first | exact cells_whole (by repeat (first | exact .head | apply In.tail | apply Take.tail | apply Upd.tail)) | exact cells_part (by repeat (first | exact .head | apply In.tail | apply Take.tail | apply Upd.tail)) rfl) rfl) ?_
    refine vl_val rfl (.some rfl) (val_buildSt (pl := #[(0, 1), (1, 1), (2, 1)]) (cs := #[.int .i64 0, .int .i64 0, .string ⟨#[]⟩]) Try.runUnderlying27 Try.zeroValue27 (fun w => by kernel_rfl) rfl rfl) ?_
    refine vl_val rfl (.some rfl) (val_opO rfl rfl (fun w => run_eqGuard_agg w _ _ _ _ _ _ (by kernel_rfl)) (bin_agg_eq (vk_equal p z3))) ?_
    refine vl_val rfl (.some rfl) (val_assign rfl) ?_
    refine vl_nil ?_
    refine vc_ret ?_
    refine ⟨_, [], _, res1 Try.results80 rfl, .nil, ?_⟩
    show _ = _; unfold goodV; rw [if_pos hc0]
  · (try replace hc0 := of_decide_eq_false hc0)
    refine vc_seq ?_
    refine vc_region ?_
    refine vl_val rfl (.some rfl) (val_eq rfl rfl) ?_
    refine vl_val rfl (.some rfl) (val_assign rfl) ?_
    refine vl_nil ?_
    refine vc_cond rfl (fun hc1 => ?_) (fun hc1 => ?_)
    · (try replace hc1 := of_decide_eq_true hc1)
      refine vc_seq ?_
      refine vc_region ?_
      refine vl_val rfl (.some rfl) (by first | exact val_fieldAddr Try.runUnderlying27 rfl Try.sizeOf9 rfl | exact val_fieldAddrR Try.runUnderlying27 rfl Try.sizeOf9 rfl) ?_
      refine vl_val rfl (.some rfl) (val_load Try.isAgg9 rfl (by first | exact cell_cells (by repeat (first | exact .head | apply In.tail | apply Take.tail | apply Upd.tail)) rfl | exact cell_rd (rd_sl (by repeat (first | exact .head | apply In.tail | apply Take.tail | apply Upd.tail))) (by first | exact bcells_get (by omega) | exact icells_get (by omega) | exact tcells_get (by omega)))) ?_
      refine vl_val rfl (.some rfl) (val_seq rfl rfl) ?_
      refine vl_val rfl (.some rfl) (val_assign rfl) ?_
      refine vl_nil ?_
      refine vc_ret ?_
      refine ⟨_, [], _, res1 Try.results80 rfl, .nil, ?_⟩
      show _ = _; unfold goodV; rw [if_neg hc0, if_pos hc1]
    · (try replace hc1 := of_decide_eq_false hc1)
      refine vc_seq ?_
      refine vc_region ?_
      refine vl_val rfl (.some rfl) (val_eq rfl rfl) ?_
      refine vl_val rfl (.some rfl) (val_assign rfl) ?_
      refine vl_nil ?_
      refine vc_cond rfl (fun hc2 => ?_) (fun hc2 => ?_)
      · (try replace hc2 := of_decide_eq_true hc2)
        refine vc_seq ?_
        refine vc_region ?_
        refine vl_val rfl (.some rfl) (by first | exact val_fieldAddr Try.runUnderlying27 rfl Try.sizeOf9 rfl | exact val_fieldAddrR Try.runUnderlying27 rfl Try.sizeOf9 rfl) ?_
        refine vl_val rfl (.some rfl) (val_load Try.isAgg9 rfl (by first | exact cell_cells (by repeat (first | exact .head | apply In.tail | apply Take.tail | apply Upd.tail)) rfl | exact cell_rd (rd_sl (by repeat (first | exact .head | apply In.tail | apply Take.tail | apply Upd.tail))) (by first | exact bcells_get (by omega) | exact icells_get (by omega) | exact tcells_get (by omega)))) ?_
        refine vl_val rfl (.some rfl) (val_seq rfl rfl) ?_
        refine vl_val rfl (.some rfl) (val_move rfl) ?_
        refine vl_split (t := 20) rfl (fun hg20 => ?_) (fun hg20 => ?_)
        · (try replace hg20 := of_decide_eq_true hg20)
          refine vl_on rfl rfl rfl rfl ?_
          refine vl_val rfl (.some rfl) (by first | exact val_fieldAddr Try.runUnderlying27 rfl Try.sizeOf3 rfl | exact val_fieldAddrR Try.runUnderlying27 rfl Try.sizeOf3 rfl) ?_
          refine vl_on rfl rfl rfl rfl ?_
          refine vl_val rfl (.some rfl) (val_load Try.isAgg3 rfl (by first | exact cell_cells (by repeat (first | exact .head | apply In.tail | apply Take.tail | apply Upd.tail)) rfl | exact cell_rd (rd_sl (by repeat (first | exact .head | apply In.tail | apply Take.tail | apply Upd.tail))) (by first | exact bcells_get (by omega) | exact icells_get (by omega) | exact tcells_get (by omega)))) ?_
          refine vl_on rfl rfl rfl rfl ?_
          refine vl_callV rfl rfl (.some rfl) Try.call96 rfl (fun w hw => rGood _ (by omega) (by omega) w) ?_
          refine vl_val rfl (.some rfl) (val_pick rfl rfl) ?_
          refine vl_val rfl (.some rfl) (val_assign rfl) ?_
          refine vl_nil ?_
          refine vc_ret ?_
          refine ⟨_, [], _, res1 Try.results80 rfl, .nil, ?_⟩
          show _ = _; unfold goodV; rw [if_neg hc0, if_neg hc1, if_pos hc2]; first | (rw [decide_eq_true hg20]; rfl) | (rw [decide_eq_false hg20]; rfl)
        · (try replace hg20 := of_decide_eq_false hg20)
          refine vl_off rfl rfl rfl rfl (.some rfl) ?_
          refine vl_off rfl rfl rfl rfl (.some rfl) ?_
          refine vl_off rfl rfl rfl rfl (.some rfl) ?_
          refine vl_val rfl (.some rfl) (val_pick rfl rfl) ?_
          refine vl_val rfl (.some rfl) (val_assign rfl) ?_
          refine vl_nil ?_
          refine vc_ret ?_
          refine ⟨_, [], _, res1 Try.results80 rfl, .nil, ?_⟩
          show _ = _; unfold goodV; rw [if_neg hc0, if_neg hc1, if_pos hc2]; first | (rw [decide_eq_true hg20]; rfl) | (rw [decide_eq_false hg20]; rfl)
      · (try replace hc2 := of_decide_eq_false hc2)
        refine vc_seq ?_
        refine vc_region ?_
        refine vl_val rfl (.some rfl) (val_eq rfl rfl) ?_
        refine vl_val rfl (.some rfl) (val_assign rfl) ?_
        refine vl_nil ?_
        refine vc_cond rfl (fun hc3 => ?_) (fun hc3 => ?_)
        · (try replace hc3 := of_decide_eq_true hc3)
          refine vc_seq ?_
          refine vc_region ?_
          refine vl_val rfl (.some rfl) (by first | exact val_fieldAddr Try.runUnderlying27 rfl Try.sizeOf3 rfl | exact val_fieldAddrR Try.runUnderlying27 rfl Try.sizeOf3 rfl) ?_
          refine vl_val rfl (.some rfl) (val_load Try.isAgg3 rfl (by first | exact cell_cells (by repeat (first | exact .head | apply In.tail | apply Take.tail | apply Upd.tail)) rfl | exact cell_rd (rd_sl (by repeat (first | exact .head | apply In.tail | apply Take.tail | apply Upd.tail))) (by first | exact bcells_get (by omega) | exact icells_get (by omega) | exact tcells_get (by omega)))) ?_
          refine vl_val rfl (.some rfl) (val_eq rfl rfl) ?_
          refine vl_val rfl (.some rfl) (val_move rfl) ?_
          refine vl_split (t := 30) rfl (fun hg30 => ?_) (fun hg30 => ?_)
          · (try replace hg30 := of_decide_eq_true hg30)
            refine vl_on rfl rfl rfl rfl ?_
            refine vl_val rfl (.some rfl) (by first | exact val_fieldAddr Try.runUnderlying27 rfl Try.sizeOf9 rfl | exact val_fieldAddrR Try.runUnderlying27 rfl Try.sizeOf9 rfl) ?_
            refine vl_on rfl rfl rfl rfl ?_
            refine vl_val rfl (.some rfl) (val_load Try.isAgg9 rfl (by first | exact cell_cells (by repeat (first | exact .head | apply In.tail | apply Take.tail | apply Upd.tail)) rfl | exact cell_rd (rd_sl (by repeat (first | exact .head | apply In.tail | apply Take.tail | apply Upd.tail))) (by first | exact bcells_get (by omega) | exact icells_get (by omega) | exact tcells_get (by omega)))) ?_
            refine vl_on rfl rfl rfl rfl ?_
            refine vl_val rfl (.some rfl) (val_lenStr Try.runUnderlying9 rfl) ?_
            refine vl_on rfl rfl rfl rfl ?_
            refine vl_val rfl (.some rfl) (val_le rfl rfl) ?_
            refine vl_val rfl (.some rfl) (val_pick rfl rfl) ?_
            refine vl_val rfl (.some rfl) (val_assign rfl) ?_
            refine vl_nil ?_
            refine vc_ret ?_
            refine ⟨_, [], _, res1 Try.results80 rfl, .nil, ?_⟩
            show _ = _; unfold goodV; rw [if_neg hc0, if_neg hc1, if_neg hc2, if_pos hc3]; simp_all <;> omega
          · (try replace hg30 := of_decide_eq_false hg30)
            refine vl_off rfl rfl rfl rfl (.some rfl) ?_
            refine vl_off rfl rfl rfl rfl (.some rfl) ?_
            refine vl_off rfl rfl rfl rfl (.some rfl) ?_
            refine vl_off rfl rfl rfl rfl (.some rfl) ?_
            refine vl_val rfl (.some rfl) (val_pick rfl rfl) ?_
            refine vl_val rfl (.some rfl) (val_assign rfl) ?_
            refine vl_nil ?_
            refine vc_ret ?_
            refine ⟨_, [], _, res1 Try.results80 rfl, .nil, ?_⟩
            show _ = _; unfold goodV; rw [if_neg hc0, if_neg hc1, if_neg hc2, if_pos hc3]; simp_all <;> omega
        · (try replace hc3 := of_decide_eq_false hc3)
          refine vc_seq ?_
          refine vc_region ?_
          refine vl_val rfl (.some rfl) (val_eq rfl rfl) ?_
          refine vl_val rfl (.some rfl) (val_assign rfl) ?_
          refine vl_nil ?_
          refine vc_cond rfl (fun hc4 => ?_) (fun hc4 => ?_)
          · (try replace hc4 := of_decide_eq_true hc4)
            refine vc_seq ?_
            refine vc_region ?_
            refine vl_val rfl (.some rfl) (by first | exact val_fieldAddr Try.runUnderlying27 rfl Try.sizeOf9 rfl | exact val_fieldAddrR Try.runUnderlying27 rfl Try.sizeOf9 rfl) ?_
            refine vl_val rfl (.some rfl) (val_load Try.isAgg9 rfl (by first | exact cell_cells (by repeat (first | exact .head | apply In.tail | apply Take.tail | apply Upd.tail)) rfl | exact cell_rd (rd_sl (by repeat (first | exact .head | apply In.tail | apply Take.tail | apply Upd.tail))) (by first | exact bcells_get (by omega) | exact icells_get (by omega) | exact tcells_get (by omega)))) ?_
            refine vl_val rfl (.some rfl) (val_seq rfl rfl) ?_
            refine vl_val rfl (.some rfl) (val_move rfl) ?_
            refine vl_split (t := 41) rfl (fun hg41 => ?_) (fun hg41 => ?_)
            · (try replace hg41 := of_decide_eq_true hg41)
              refine vl_on rfl rfl rfl rfl ?_
              refine vl_val rfl (.some rfl) (by first | exact val_fieldAddr Try.runUnderlying27 rfl Try.sizeOf3 rfl | exact val_fieldAddrR Try.runUnderlying27 rfl Try.sizeOf3 rfl) ?_
              refine vl_on rfl rfl rfl rfl ?_
              refine vl_val rfl (.some rfl) (val_load Try.isAgg3 rfl (by first | exact cell_cells (by repeat (first | exact .head | apply In.tail | apply Take.tail | apply Upd.tail)) rfl | exact cell_rd (rd_sl (by repeat (first | exact .head | apply In.tail | apply Take.tail | apply Upd.tail))) (by first | exact bcells_get (by omega) | exact icells_get (by omega) | exact tcells_get (by omega)))) ?_
              refine vl_on rfl rfl rfl rfl ?_
              refine vl_val rfl (.some rfl) (val_eq rfl rfl) ?_
              refine vl_on rfl rfl rfl rfl ?_
              refine vl_val rfl (.some rfl) (val_move rfl) ?_
              refine vl_split (t := 45) rfl (fun hg45 => ?_) (fun hg45 => ?_)
              · (try replace hg45 := of_decide_eq_true hg45)
                refine vl_off rfl rfl rfl rfl (.some rfl) ?_
                refine vl_off rfl rfl rfl rfl (.some rfl) ?_
                refine vl_off rfl rfl rfl rfl (.some rfl) ?_
                refine vl_on rfl rfl rfl rfl ?_
                refine vl_val rfl (.some rfl) (val_pick rfl rfl) ?_
                refine vl_val rfl (.some rfl) (val_pick rfl rfl) ?_
                refine vl_val rfl (.some rfl) (val_assign rfl) ?_
                refine vl_nil ?_
                refine vc_ret ?_
                refine ⟨_, [], _, res1 Try.results80 rfl, .nil, ?_⟩
                show _ = _; unfold goodV; rw [if_neg hc0, if_neg hc1, if_neg hc2, if_neg hc3, if_pos hc4]; simp_all
              · (try replace hg45 := of_decide_eq_false hg45)
                refine vl_on rfl rfl rfl rfl ?_
                refine vl_val rfl (.some rfl) (by first | exact val_fieldAddr Try.runUnderlying27 rfl Try.sizeOf3 rfl | exact val_fieldAddrR Try.runUnderlying27 rfl Try.sizeOf3 rfl) ?_
                refine vl_on rfl rfl rfl rfl ?_
                refine vl_val rfl (.some rfl) (val_load Try.isAgg3 rfl (by first | exact cell_cells (by repeat (first | exact .head | apply In.tail | apply Take.tail | apply Upd.tail)) rfl | exact cell_rd (rd_sl (by repeat (first | exact .head | apply In.tail | apply Take.tail | apply Upd.tail))) (by first | exact bcells_get (by omega) | exact icells_get (by omega) | exact tcells_get (by omega)))) ?_
                refine vl_on rfl rfl rfl rfl ?_
                refine vl_val rfl (.some rfl) (val_eq rfl rfl) ?_
                refine vl_on rfl rfl rfl rfl ?_
                refine vl_val rfl (.some rfl) (val_pick rfl rfl) ?_
                refine vl_val rfl (.some rfl) (val_pick rfl rfl) ?_
                refine vl_val rfl (.some rfl) (val_assign rfl) ?_
                refine vl_nil ?_
                refine vc_ret ?_
                refine ⟨_, [], _, res1 Try.results80 rfl, .nil, ?_⟩
                show _ = _; unfold goodV; rw [if_neg hc0, if_neg hc1, if_neg hc2, if_neg hc3, if_pos hc4]; simp_all
            · (try replace hg41 := of_decide_eq_false hg41)
              refine vl_off rfl rfl rfl rfl (.some rfl) ?_
              refine vl_off rfl rfl rfl rfl (.some rfl) ?_
              refine vl_off rfl rfl rfl rfl (.some rfl) ?_
              refine vl_off rfl rfl rfl rfl (.some rfl) ?_
              refine vl_offU rfl rfl rfl rfl (.some rfl) ?_
              refine vl_offU rfl rfl rfl rfl (.some rfl) ?_
              refine vl_offU rfl rfl rfl rfl (.some rfl) ?_
              refine vl_off rfl rfl rfl rfl (.some rfl) ?_
              refine vl_val rfl (.some rfl) (val_pick rfl rfl) ?_
              refine vl_val rfl (.some rfl) (val_assign rfl) ?_
              refine vl_nil ?_
              refine vc_ret ?_
              refine ⟨_, [], _, res1 Try.results80 rfl, .nil, ?_⟩
              show _ = _; unfold goodV; rw [if_neg hc0, if_neg hc1, if_neg hc2, if_neg hc3, if_pos hc4]; simp_all
          · (try replace hc4 := of_decide_eq_false hc4)
            refine vc_skip ?_
            refine vc_seq ?_
            refine vc_region ?_
            refine vl_val rfl (.some rfl) (val_assign rfl) ?_
            refine vl_nil ?_
            refine vc_ret ?_
            refine ⟨_, [], _, res1 Try.results80 rfl, .nil, ?_⟩
            show _ = _; unfold goodV; rw [if_neg hc0, if_neg hc1, if_neg hc2, if_neg hc3, if_neg hc4]
set_option maxRecDepth 20000 in
theorem xFits (p : Vk) (kd : Int) (hk1 : 1 ≤ kd) (hk2 : kd ≤ 4) (h0 : p.k ≠ 0) (hw1 : -9223372036854775808 ≤ p.n) (hw2 : p.n < 9223372036854775808) (w : World) : FnV Try.prog 53 [vk p, .int .i64 kd] (.bool (takesB kd p)) w := by
  refine fn_enter Try.func53 rfl Try.ntmps53 rfl ?_
  refine vc_seq ?_
  refine vc_region ?_
  refine vl_box rfl rfl (.some rfl) rfl (fun r2 => ?_)
  refine vl_val rfl (.some rfl) (val_assign rfl) ?_
  refine vl_nil ?_
  refine vc_seq ?_
  refine vc_region ?_
  refine vl_val rfl (.some rfl) (val_loadAgg Try.isAgg27 Try.sizeOf27 rfl (by first | exact cells_whole (by repeat (first | exact .head | apply In.tail | apply Take.tail | apply Upd.tail)) | exact cells_part (by repeat (first | exact .head | apply In.tail | apply Take.tail | apply Upd.tail)) rfl) rfl) ?_
  refine vl_callV rfl rfl (.some rfl) Try.call80 rfl (fun w hw => xGood p hw1 hw2 w) ?_
  refine vl_val rfl (.some rfl) (val_move rfl) ?_
  refine vl_split (t := 7) rfl (fun hg7 => ?_) (fun hg7 => ?_)
  · (try replace hg7 := of_decide_eq_true hg7)
    refine vl_on rfl rfl rfl rfl ?_
    refine vl_val rfl (.some rfl) (val_move rfl) ?_
    refine vl_on rfl rfl rfl rfl ?_
    refine vl_val rfl (.some rfl) (val_ge rfl rfl) ?_
    refine vl_val rfl (.some rfl) (val_pick rfl rfl) ?_
    refine vl_val rfl (.some rfl) (val_move rfl) ?_
    refine vl_split (t := 11) rfl (fun hg11 => ?_) (fun hg11 => ?_)
    · (try replace hg11 := of_decide_eq_true hg11)
      refine vl_on rfl rfl rfl rfl ?_
      refine vl_val rfl (.some rfl) (val_move rfl) ?_
      refine vl_on rfl rfl rfl rfl ?_
      refine vl_val rfl (.some rfl) (val_le rfl rfl) ?_
      refine vl_val rfl (.some rfl) (val_pick rfl rfl) ?_
      refine vl_val rfl (.some rfl) (val_move rfl) ?_
      refine vl_split (t := 15) rfl (fun hg15 => ?_) (fun hg15 => ?_)
      · (try replace hg15 := of_decide_eq_true hg15)
        refine vl_on rfl rfl rfl rfl ?_
        refine vl_val rfl (.some rfl) (by first | exact val_fieldAddr Try.runUnderlying27 rfl Try.sizeOf3 rfl | exact val_fieldAddrR Try.runUnderlying27 rfl Try.sizeOf3 rfl) ?_
        refine vl_on rfl rfl rfl rfl ?_
        refine vl_val rfl (.some rfl) (val_load Try.isAgg3 rfl (by first | exact cell_cells (by repeat (first | exact .head | apply In.tail | apply Take.tail | apply Upd.tail)) rfl | exact cell_rd (rd_sl (by repeat (first | exact .head | apply In.tail | apply Take.tail | apply Upd.tail))) (by first | exact bcells_get (by omega) | exact icells_get (by omega) | exact tcells_get (by omega)))) ?_
        refine vl_on rfl rfl rfl rfl ?_
        refine vl_val rfl (.some rfl) (val_eq rfl rfl) ?_
        refine vl_on rfl rfl rfl rfl ?_
        refine vl_val rfl (.some rfl) (val_move rfl) ?_
        refine vl_split (t := 19) rfl (fun hg19 => ?_) (fun hg19 => ?_)
        · (try replace hg19 := of_decide_eq_true hg19)
          refine vl_off rfl rfl rfl rfl (.some rfl) ?_
          refine vl_off rfl rfl rfl rfl (.some rfl) ?_
          refine vl_off rfl rfl rfl rfl (.some rfl) ?_
          refine vl_off rfl rfl rfl rfl (.some rfl) ?_
          refine vl_on rfl rfl rfl rfl ?_
          refine vl_val rfl (.some rfl) (val_pick rfl rfl) ?_
          refine vl_val rfl (.some rfl) (val_pick rfl rfl) ?_
          refine vl_val rfl (.some rfl) (val_assign rfl) ?_
          refine vl_nil ?_
          refine vc_ret ?_
          refine ⟨_, [], _, res1 Try.results53 rfl, .nil, ?_⟩
          show _ = _; unfold takesB; simp_all <;> omega
        · (try replace hg19 := of_decide_eq_false hg19)
          refine vl_on rfl rfl rfl rfl ?_
          refine vl_val rfl (.some rfl) (by first | exact val_fieldAddr Try.runUnderlying27 rfl Try.sizeOf3 rfl | exact val_fieldAddrR Try.runUnderlying27 rfl Try.sizeOf3 rfl) ?_
          refine vl_on rfl rfl rfl rfl ?_
          refine vl_val rfl (.some rfl) (val_load Try.isAgg3 rfl (by first | exact cell_cells (by repeat (first | exact .head | apply In.tail | apply Take.tail | apply Upd.tail)) rfl | exact cell_rd (rd_sl (by repeat (first | exact .head | apply In.tail | apply Take.tail | apply Upd.tail))) (by first | exact bcells_get (by omega) | exact icells_get (by omega) | exact tcells_get (by omega)))) ?_
          refine vl_on rfl rfl rfl rfl ?_
          refine vl_val rfl (.some rfl) (val_move rfl) ?_
          refine vl_on rfl rfl rfl rfl ?_
          refine vl_val rfl (.some rfl) (val_eq rfl rfl) ?_
          refine vl_on rfl rfl rfl rfl ?_
          refine vl_val rfl (.some rfl) (val_pick rfl rfl) ?_
          refine vl_val rfl (.some rfl) (val_pick rfl rfl) ?_
          refine vl_val rfl (.some rfl) (val_assign rfl) ?_
          refine vl_nil ?_
          refine vc_ret ?_
          refine ⟨_, [], _, res1 Try.results53 rfl, .nil, ?_⟩
          show _ = _; unfold takesB; simp_all <;> omega
      · (try replace hg15 := of_decide_eq_false hg15)
        refine vl_off rfl rfl rfl rfl (.some rfl) ?_
        refine vl_off rfl rfl rfl rfl (.some rfl) ?_
        refine vl_off rfl rfl rfl rfl (.some rfl) ?_
        refine vl_off rfl rfl rfl rfl (.some rfl) ?_
        refine vl_offU rfl rfl rfl rfl (.some rfl) ?_
        refine vl_offU rfl rfl rfl rfl (.some rfl) ?_
        refine vl_offU rfl rfl rfl rfl (.some rfl) ?_
        refine vl_offU rfl rfl rfl rfl (.some rfl) ?_
        refine vl_off rfl rfl rfl rfl (.some rfl) ?_
        refine vl_val rfl (.some rfl) (val_pick rfl rfl) ?_
        refine vl_val rfl (.some rfl) (val_assign rfl) ?_
        refine vl_nil ?_
        refine vc_ret ?_
        refine ⟨_, [], _, res1 Try.results53 rfl, .nil, ?_⟩
        show _ = _; unfold takesB; simp_all <;> omega
    · (try replace hg11 := of_decide_eq_false hg11)
      refine vl_off rfl rfl rfl rfl (.some rfl) ?_
      refine vl_off rfl rfl rfl rfl (.some rfl) ?_
      refine vl_val rfl (.some rfl) (val_pick rfl rfl) ?_
      refine vl_val rfl (.some rfl) (val_move rfl) ?_
      refine vl_off rfl rfl rfl rfl (.some rfl) ?_
      refine vl_off rfl rfl rfl rfl (.some rfl) ?_
      refine vl_off rfl rfl rfl rfl (.some rfl) ?_
      refine vl_off rfl rfl rfl rfl (.some rfl) ?_
      refine vl_offU rfl rfl rfl rfl (.some rfl) ?_
      refine vl_offU rfl rfl rfl rfl (.some rfl) ?_
      refine vl_offU rfl rfl rfl rfl (.some rfl) ?_
      refine vl_offU rfl rfl rfl rfl (.some rfl) ?_
      refine vl_off rfl rfl rfl rfl (.some rfl) ?_
      refine vl_val rfl (.some rfl) (val_pick rfl rfl) ?_
      refine vl_val rfl (.some rfl) (val_assign rfl) ?_
      refine vl_nil ?_
      refine vc_ret ?_
      refine ⟨_, [], _, res1 Try.results53 rfl, .nil, ?_⟩
      show _ = _; unfold takesB; simp_all <;> omega
  · (try replace hg7 := of_decide_eq_false hg7)
    refine vl_off rfl rfl rfl rfl (.some rfl) ?_
    refine vl_off rfl rfl rfl rfl (.some rfl) ?_
    refine vl_val rfl (.some rfl) (val_pick rfl rfl) ?_
    refine vl_val rfl (.some rfl) (val_move rfl) ?_
    refine vl_off rfl rfl rfl rfl (.some rfl) ?_
    refine vl_off rfl rfl rfl rfl (.some rfl) ?_
    refine vl_val rfl (.some rfl) (val_pick rfl rfl) ?_
    refine vl_val rfl (.some rfl) (val_move rfl) ?_
    refine vl_off rfl rfl rfl rfl (.some rfl) ?_
    refine vl_off rfl rfl rfl rfl (.some rfl) ?_
    refine vl_off rfl rfl rfl rfl (.some rfl) ?_
    refine vl_off rfl rfl rfl rfl (.some rfl) ?_
    refine vl_offU rfl rfl rfl rfl (.some rfl) ?_
    refine vl_offU rfl rfl rfl rfl (.some rfl) ?_
    refine vl_offU rfl rfl rfl rfl (.some rfl) ?_
    refine vl_offU rfl rfl rfl rfl (.some rfl) ?_
    refine vl_off rfl rfl rfl rfl (.some rfl) ?_
    refine vl_val rfl (.some rfl) (val_pick rfl rfl) ?_
    refine vl_val rfl (.some rfl) (val_assign rfl) ?_
    refine vl_nil ?_
    refine vc_ret ?_
    refine ⟨_, [], _, res1 Try.results53 rfl, .nil, ?_⟩
    show _ = _; unfold takesB; simp_all <;> omega
set_option maxRecDepth 20000 in
theorem xNew (kd : Int) (h1 : 1 ≤ kd) (h2 : kd ≤ 4) (w : World) : Fn Try.prog 23 [.int .i64 kd] [] (ret fun u H' => ∃ r, u = .pointer (some ⟨r, 0, none⟩) ∧ H' = [RC r kd none 0 0, DS none 0 []]) w := by
  refine fn_enter Try.func23 rfl Try.ntmps23 rfl ?_
  refine vc_seq ?_
  refine vc_region ?_
  refine vl_val rfl (.some rfl) (val_assign rfl) ?_
  refine vl_nil ?_
  refine vc_seq ?_
  refine vc_seq ?_
  refine vc_region ?_
  refine vl_val rfl (.some rfl) (val_move rfl) ?_
  refine vl_val rfl (.some rfl) (val_lt rfl rfl) ?_
  refine vl_val rfl (.some rfl) (val_move rfl) ?_
  refine vl_split (t := 5) rfl (fun hg5 => ?_) (fun hg5 => ?_)
  · (try replace hg5 := of_decide_eq_true hg5)
    exfalso
    omega
  · (try replace hg5 := of_decide_eq_false hg5)
    refine vl_on rfl rfl rfl rfl ?_
    refine vl_val rfl (.some rfl) (val_move rfl) ?_
    refine vl_on rfl rfl rfl rfl ?_
    refine vl_val rfl (.some rfl) (val_gt rfl rfl) ?_
    refine vl_val rfl (.some rfl) (val_pick rfl rfl) ?_
    refine vl_nil ?_
    refine vc_cond rfl (fun hc0 => False.elim (by (try replace hc0 := of_decide_eq_true hc0); omega)) (fun hc0 => ?_)
    (try replace hc0 := of_decide_eq_false hc0)
    refine vc_skip ?_
    refine vc_seq ?_
    refine vc_region ?_
    refine vl_val rfl (.some rfl) (val_move rfl) ?_
    refine vl_val rfl (.some rfl) (val_buildSt (pl := #[(0, 1), (1, 1)]) (cs := #[.int .i64 kd, .slice none 0 0]) Try.runUnderlying94 Try.zeroValue94 (fun w => by kernel_rfl) rfl rfl) ?_
    refine vl_box rfl rfl (.some rfl) rfl (fun r11 => ?_)
    refine vl_val rfl (.some rfl) (val_assign rfl) ?_
    refine vl_nilSl 27 3 ?_
    refine vl_nil ?_
    refine vc_ret ?_
    refine ⟨_, [RC r11 kd none 0 0, DS none 0 []], _, res1 Try.results23 rfl, (by repeat (first | exact .nil | (apply Sub.cons; · repeat (first | exact .head | apply Take.tail)))), ?_⟩
    exact ⟨r11, rfl, rfl⟩
set_option maxRecDepth 20000 in
theorem xNewBad (kd : Int) (h : ¬ (1 ≤ kd ∧ kd ≤ 4)) (w : World) : FnV Try.prog 23 [.int .i64 kd] (.pointer none) w := by
  refine fn_enter Try.func23 rfl Try.ntmps23 rfl ?_
  refine vc_seq ?_
  refine vc_region ?_
  refine vl_val rfl (.some rfl) (val_assign rfl) ?_
  refine vl_nil ?_
  refine vc_seq ?_
  refine vc_seq ?_
  refine vc_region ?_
  refine vl_val rfl (.some rfl) (val_move rfl) ?_
  refine vl_val rfl (.some rfl) (val_lt rfl rfl) ?_
  refine vl_val rfl (.some rfl) (val_move rfl) ?_
  refine vl_split (t := 5) rfl (fun hg5 => ?_) (fun hg5 => ?_)
  · (try replace hg5 := of_decide_eq_true hg5)
    refine vl_off rfl rfl rfl rfl (.some rfl) ?_
    refine vl_off rfl rfl rfl rfl (.some rfl) ?_
    refine vl_val rfl (.some rfl) (val_pick rfl rfl) ?_
    refine vl_nil ?_
    refine vc_cond rfl (fun _ => ?_) (fun h => by cases h)
    refine vc_seq ?_
    refine vc_region ?_
    refine vl_val rfl (.some rfl) (val_assign rfl) ?_
    refine vl_nil ?_
    refine vc_ret ?_
    refine ⟨_, [], _, res1 Try.results23 rfl, .nil, ?_⟩
    rfl
  · (try replace hg5 := of_decide_eq_false hg5)
    refine vl_on rfl rfl rfl rfl ?_
    refine vl_val rfl (.some rfl) (val_move rfl) ?_
    refine vl_on rfl rfl rfl rfl ?_
    refine vl_val rfl (.some rfl) (val_gt rfl rfl) ?_
    refine vl_val rfl (.some rfl) (val_pick rfl rfl) ?_
    refine vl_nil ?_
    refine vc_cond rfl (fun hc0 => ?_) (fun hc0 => False.elim (by (try replace hc0 := of_decide_eq_false hc0); omega))
    (try replace hc0 := of_decide_eq_true hc0)
    refine vc_seq ?_
    refine vc_region ?_
    refine vl_val rfl (.some rfl) (val_assign rfl) ?_
    refine vl_nil ?_
    refine vc_ret ?_
    refine ⟨_, [], _, res1 Try.results23 rfl, .nil, ?_⟩
    rfl
set_option maxRecDepth 20000 in
set_option maxHeartbeats 400000 in
theorem xFind (r : Nat) (kd : Int) (A : Option Addr) (c : Nat) (vs : List Vk) (hl : vs.length ≤ 512) (p : Vk) (w : World) : FnR Try.prog 25 [.pointer (some ⟨r, 0, none⟩), vk p] [RC r kd A vs.length c, DS A c vs] (.tuple #[.int .i64 ((if p ∈ vs then vs.idxOf p else 0 : Nat) : Int), .bool (decide (p ∈ vs))]) w := by
  refine fn_enter Try.func25 rfl Try.ntmps25 rfl ?_
  refine vc_seq ?_
  refine vc_region ?_
  refine vl_box rfl rfl (.some rfl) rfl (fun r3 => ?_)
  refine vl_val rfl (.some rfl) (val_assign rfl) ?_
  refine vl_val rfl (.some rfl) (val_assign rfl) ?_
  refine vl_nil ?_
  refine vc_seq ?_
  refine vc_seq ?_
  refine vc_region ?_
  refine vl_val rfl (.some rfl) (val_move rfl) ?_
  refine vl_val rfl (.some rfl) (val_nil rfl rfl) ?_
  refine vl_val rfl (.some rfl) (by first | exact val_fieldAddr Try.runUnderlying94 rfl Try.sizeOf22 rfl | exact val_fieldAddrR Try.runUnderlying94 rfl Try.sizeOf22 rfl) ?_
  refine vl_val rfl (.some rfl) (val_load Try.isAgg22 rfl (by first | exact cell_cells (by repeat (first | exact .head | apply In.tail | apply Take.tail | apply Upd.tail)) rfl | exact cell_rd (rd_sl (by repeat (first | exact .head | apply In.tail | apply Take.tail | apply Upd.tail))) (by first | exact bcells_get (by omega) | exact icells_get (by omega) | exact tcells_get (by omega)))) ?_
  refine vl_val rfl (.some rfl) (val_lenSl Try.runUnderlying22 rfl) ?_
  refine vl_val rfl (.some rfl) (val_move rfl) ?_
  refine vl_nil ?_
  refine vc_block ?_
  refine vc_loopw (fun k E H => ∃ i : Nat, i ≤ vs.length ∧ k = vs.length - i ∧ p ∉ vs.take i ∧ E = [(3, .pointer (some ⟨r3, 0, none⟩)), (11, .slice A vs.length c), (12, .int .i64 vs.length), (13, .int .i64 i)] ∧ H = [cells r3 [.int .i64 p.k, .int .i64 p.n, .string p.s] 27, RC r kd A vs.length c, DS A c vs]) (vs.length) ⟨_, _, _, ⟨0, by omega, rfl, by simp, rfl, rfl⟩, (by repeat (first | exact trivial | refine ⟨rfl, ?_⟩ | refine ⟨le_item rfl (by first | rfl | (congr 1; omega) | (simp; done) | (simp; omega)), ?_⟩)), (by repeat (first | exact .nil | (apply Sub.cons; · repeat (first | exact .head | apply Take.tail))))⟩ ?_
  intro k E H hI
  obtain ⟨i, hi, rfl, hno, rfl, rfl⟩ := hI
  refine vc_seq ?_
  refine vc_region ?_
  refine vl_val rfl (.some rfl) (val_lt rfl rfl) ?_
  refine vl_nil ?_
  refine vc_seq ?_
  refine vc_cond rfl (fun hc0 => ?_) (fun hc0 => ?_)
  · (try replace hc0 := of_decide_eq_true hc0)
    have hf := flat_at vs i (by omega)
    obtain ⟨q, hq⟩ : ∃ q, vs.getD i z3 = q := ⟨_, rfl⟩
    rw [hq] at hf
    refine vc_skip ?_
    refine vc_seq ?_
    refine vc_block ?_
    refine vc_seq ?_
    refine vc_region ?_
    refine vl_val rfl (.some rfl) (val_move rfl) ?_
    refine vl_val rfl (.some rfl) (val_indexAddr Try.runUnderlying22 Try.sizeOf27 rfl rfl (rd_sl (by repeat (first | exact .head | apply In.tail | apply Take.tail | apply Upd.tail))) (by omega) (by omega) (by rw [vflat_len]; omega)) ?_
    refine vl_val rfl (.some rfl) (val_loadAgg Try.isAgg27 Try.sizeOf27 rfl (rd_part (us := [.int .i64 q.k, .int .i64 q.n, .string q.s]) (rd_sl (by repeat (first | exact .head | apply In.tail | apply Take.tail | apply Upd.tail))) hf) rfl) ?_
    refine vl_alloc rfl rfl (.some rfl) Try.zeroValue27 (fun r7 => ?_)
    refine vl_val rfl (.some rfl) (val_assign rfl) ?_
    first | refine vl_store rfl rfl .none rfl rfl Try.sizeOf27 rfl (by repeat (first | exact .head | apply In.tail | apply Take.tail | apply Upd.tail)) (by first | decide | exact Nat.le_refl _ | (simp; omega)) ?_ | refine vl_storeSl rfl rfl .none rfl rfl Try.sizeOf27 rfl (by simp [Value.cells]) (by repeat (first | exact .head | apply In.tail | apply Take.tail | apply Upd.tail)) (by first | decide | (simp [Value.cells]; omega)) ?_
    refine vl_nil ?_
    refine vc_seq ?_
    refine vc_region ?_
    refine vl_val rfl (.some rfl) (val_loadAgg Try.isAgg27 Try.sizeOf27 rfl (by first | exact cells_whole (by repeat (first | exact .head | apply In.tail | apply Take.tail | apply Upd.tail)) | exact cells_part (by repeat (first | exact .head | apply In.tail | apply Take.tail | apply Upd.tail)) rfl) rfl) ?_
    refine vl_val rfl (.some rfl) (val_loadAgg Try.isAgg27 Try.sizeOf27 rfl (by first | exact cells_whole (by repeat (first | exact .head | apply In.tail | apply Take.tail | apply Upd.tail)) | exact cells_part (by repeat (first | exact .head | apply In.tail | apply Take.tail | apply Upd.tail)) rfl) rfl) ?_
    refine vl_val rfl (.some rfl) (val_opO rfl rfl (fun w => run_eqGuard_agg w _ _ _ _ _ _ (by kernel_rfl)) (bin_agg_eq (vk_equal q p))) ?_
    refine vl_nil ?_
    refine vc_cond rfl (fun hc1 => ?_) (fun hc1 => ?_)
    · (try replace hc1 := of_decide_eq_true hc1)
      subst hc1
      obtain ⟨hm, hx⟩ := idx_first (by omega) hno hq
      refine vc_seq ?_
      refine vc_region ?_
      refine vl_val rfl (.some rfl) (val_move rfl) ?_
      refine vl_val rfl (.some rfl) (val_assign rfl) ?_
      refine vl_val rfl (.some rfl) (val_assign rfl) ?_
      refine vl_nil ?_
      refine vc_ret ?_
      refine ⟨_, [RC r kd A vs.length c, DS A c vs], _, res2 Try.results25 rfl rfl, (by repeat (first | exact .nil | (apply Sub.cons; · repeat (first | exact .head | apply Take.tail)))), ?_⟩
      refine ⟨?_, rfl⟩
      rw [if_pos hm, decide_eq_true hm, hx]
    · (try replace hc1 := of_decide_eq_false hc1)
      have hno2 : p ∉ vs.take (i + 1) := by
        intro h
        rw [List.take_add_one] at h
        rcases List.mem_append.1 h with h | h
        · exact hno h
        · rw [List.getElem?_eq_getElem (show i < vs.length by omega)] at h
          simp at h
          exact hc1 (by rw [← hq, h]; simp [List.getD, List.getElem?_eq_getElem (show i < vs.length by omega)])
      refine vc_skip ?_
      refine vc_region ?_
      refine vl_val rfl (.some rfl) (val_add rfl rfl (by first | exact w_i64 (by omega) (by omega) | rfl)) ?_
      refine vl_val rfl (.some rfl) (val_move rfl) ?_
      refine vl_nil ?_
      exact ⟨vs.length - (i + 1), _, _, _, by omega, (by repeat (first | exact trivial | refine ⟨rfl, ?_⟩ | refine ⟨le_item rfl (by first | rfl | (congr 1; omega) | (simp; done) | (simp; omega)), ?_⟩)), (by repeat (first | exact .nil | (apply Sub.cons; · repeat (first | exact .head | apply Take.tail)))), ⟨i + 1, by omega, rfl, hno2, rfl, rfl⟩⟩
  · (try replace hc0 := of_decide_eq_false hc0)
    obtain rfl : i = vs.length := by omega
    rw [List.take_length] at hno
    refine vc_exit ?_
    refine vc_seq ?_
    refine vc_region ?_
    refine vl_val rfl (.some rfl) (val_assign rfl) ?_
    refine vl_val rfl (.some rfl) (val_assign rfl) ?_
    refine vl_nil ?_
    refine vc_ret ?_
    refine ⟨_, [RC r kd A vs.length c, DS A c vs], _, res2 Try.results25 rfl rfl, (by repeat (first | exact .nil | (apply Sub.cons; · repeat (first | exact .head | apply Take.tail)))), ?_⟩
    refine ⟨?_, rfl⟩
    rw [if_neg hno, decide_eq_false hno]; rfl
set_option maxRecDepth 20000 in
theorem xValue (r : Nat) (kd : Int) (A : Option Addr) (c : Nat) (vs : List Vk) (i : Int) (w : World) : FnR Try.prog 27 [.pointer (some ⟨r, 0, none⟩), .int .i64 i] [RC r kd A vs.length c, DS A c vs] (.tuple #[vk (if 0 ≤ i ∧ i < vs.length then vs.getD i.toNat z3 else z3), .bool (decide (0 ≤ i ∧ i < vs.length))]) w := by
  refine fn_enter Try.func27 rfl Try.ntmps27 rfl ?_
  refine vc_seq ?_
  refine vc_region ?_
  refine vl_alloc rfl rfl (.some rfl) Try.zeroValue27 (fun r4 => ?_)
  refine vl_val rfl (.some rfl) (val_assign rfl) ?_
  refine vl_nil ?_
  refine vc_seq ?_
  refine vc_seq ?_
  refine vc_region ?_
  refine vl_val rfl (.some rfl) (val_move rfl) ?_
  refine vl_val rfl (.some rfl) (val_lt rfl rfl) ?_
  refine vl_val rfl (.some rfl) (val_move rfl) ?_
  refine vl_split (t := 8) rfl (fun hg8 => ?_) (fun hg8 => ?_)
  · (try replace hg8 := of_decide_eq_true hg8)
    refine vl_off rfl rfl rfl rfl (.some rfl) ?_
    refine vl_off rfl rfl rfl rfl (.some rfl) ?_
    refine vl_off rfl rfl rfl rfl (.some rfl) ?_
    refine vl_off rfl rfl rfl rfl (.some rfl) ?_
    refine vl_off rfl rfl rfl rfl (.some rfl) ?_
    refine vl_off rfl rfl rfl rfl (.some rfl) ?_
    refine vl_off rfl rfl rfl rfl (.some rfl) ?_
    refine vl_val rfl (.some rfl) (val_pick rfl rfl) ?_
    refine vl_nil ?_
    refine vc_cond rfl (fun _ => ?_) (fun h => by cases h)
    refine vc_seq ?_
    refine vc_region ?_
    refine vl_val rfl (.some rfl) (val_buildSt (pl := #[(0, 1), (1, 1), (2, 1)]) (cs := #[.int .i64 0, .int .i64 0, .string ⟨#[]⟩]) Try.runUnderlying27 Try.zeroValue27 (fun w => by kernel_rfl) rfl rfl) ?_
    first | refine vl_store rfl rfl .none rfl rfl Try.sizeOf27 rfl (by repeat (first | exact .head | apply In.tail | apply Take.tail | apply Upd.tail)) (by first | decide | exact Nat.le_refl _ | (simp; omega)) ?_ | refine vl_storeSl rfl rfl .none rfl rfl Try.sizeOf27 rfl (by simp [Value.cells]) (by repeat (first | exact .head | apply In.tail | apply Take.tail | apply Upd.tail)) (by first | decide | (simp [Value.cells]; omega)) ?_
    refine vl_val rfl (.some rfl) (val_assign rfl) ?_
    refine vl_nil ?_
    refine vc_ret ?_
    refine ⟨_, [RC r kd A vs.length c, DS A c vs], _, resC2 Try.results27 rfl (whole_agg Try.isAgg27 Try.sizeOf27 (cells_whole (by repeat (first | exact .head | apply In.tail | apply Take.tail | apply Upd.tail))) rfl) rfl, (by repeat (first | exact .nil | (apply Sub.cons; · repeat (first | exact .head | apply Take.tail)))), ?_⟩
    refine ⟨?_, rfl⟩
    rw [if_neg (by omega), decide_eq_false (by omega)]; rfl
  · (try replace hg8 := of_decide_eq_false hg8)
    refine vl_on rfl rfl rfl rfl ?_
    refine vl_val rfl (.some rfl) (val_move rfl) ?_
    refine vl_on rfl rfl rfl rfl ?_
    refine vl_val rfl (.some rfl) (val_move rfl) ?_
    refine vl_on rfl rfl rfl rfl ?_
    refine vl_val rfl (.some rfl) (val_nil rfl rfl) ?_
    refine vl_on rfl rfl rfl rfl ?_
    refine vl_val rfl (.some rfl) (by first | exact val_fieldAddr Try.runUnderlying94 rfl Try.sizeOf22 rfl | exact val_fieldAddrR Try.runUnderlying94 rfl Try.sizeOf22 rfl) ?_
    refine vl_on rfl rfl rfl rfl ?_
    refine vl_val rfl (.some rfl) (val_load Try.isAgg22 rfl (by first | exact cell_cells (by repeat (first | exact .head | apply In.tail | apply Take.tail | apply Upd.tail)) rfl | exact cell_rd (rd_sl (by repeat (first | exact .head | apply In.tail | apply Take.tail | apply Upd.tail))) (by first | exact bcells_get (by omega) | exact icells_get (by omega) | exact tcells_get (by omega)))) ?_
    refine vl_on rfl rfl rfl rfl ?_
    refine vl_val rfl (.some rfl) (val_lenSl Try.runUnderlying22 rfl) ?_
    refine vl_on rfl rfl rfl rfl ?_
    refine vl_val rfl (.some rfl) (val_ge rfl rfl) ?_
    refine vl_val rfl (.some rfl) (val_pick rfl rfl) ?_
    refine vl_nil ?_
    refine vc_cond rfl (fun hc0 => ?_) (fun hc0 => ?_)
    · (try replace hc0 := of_decide_eq_true hc0)
      refine vc_seq ?_
      refine vc_region ?_
      refine vl_val rfl (.some rfl) (val_buildSt (pl := #[(0, 1), (1, 1), (2, 1)]) (cs := #[.int .i64 0, .int .i64 0, .string ⟨#[]⟩]) Try.runUnderlying27 Try.zeroValue27 (fun w => by kernel_rfl) rfl rfl) ?_
      first | refine vl_store rfl rfl .none rfl rfl Try.sizeOf27 rfl (by repeat (first | exact .head | apply In.tail | apply Take.tail | apply Upd.tail)) (by first | decide | exact Nat.le_refl _ | (simp; omega)) ?_ | refine vl_storeSl rfl rfl .none rfl rfl Try.sizeOf27 rfl (by simp [Value.cells]) (by repeat (first | exact .head | apply In.tail | apply Take.tail | apply Upd.tail)) (by first | decide | (simp [Value.cells]; omega)) ?_
      refine vl_val rfl (.some rfl) (val_assign rfl) ?_
      refine vl_nil ?_
      refine vc_ret ?_
      refine ⟨_, [RC r kd A vs.length c, DS A c vs], _, resC2 Try.results27 rfl (whole_agg Try.isAgg27 Try.sizeOf27 (cells_whole (by repeat (first | exact .head | apply In.tail | apply Take.tail | apply Upd.tail))) rfl) rfl, (by repeat (first | exact .nil | (apply Sub.cons; · repeat (first | exact .head | apply Take.tail)))), ?_⟩
      refine ⟨?_, rfl⟩
      rw [if_neg (by omega), decide_eq_false (by omega)]; rfl
    · (try replace hc0 := of_decide_eq_false hc0)
      refine vc_skip ?_
      refine vc_seq ?_
      refine vc_region ?_
      refine vl_val rfl (.some rfl) (val_move rfl) ?_
      refine vl_val rfl (.some rfl) (val_nil rfl rfl) ?_
      refine vl_val rfl (.some rfl) (by first | exact val_fieldAddr Try.runUnderlying94 rfl Try.sizeOf22 rfl | exact val_fieldAddrR Try.runUnderlying94 rfl Try.sizeOf22 rfl) ?_
      refine vl_val rfl (.some rfl) (val_load Try.isAgg22 rfl (by first | exact cell_cells (by repeat (first | exact .head | apply In.tail | apply Take.tail | apply Upd.tail)) rfl | exact cell_rd (rd_sl (by repeat (first | exact .head | apply In.tail | apply Take.tail | apply Upd.tail))) (by first | exact bcells_get (by omega) | exact icells_get (by omega) | exact tcells_get (by omega)))) ?_
      refine vl_val rfl (.some rfl) (val_move rfl) ?_
      refine vl_val rfl (.some rfl) (val_indexAddr Try.runUnderlying22 Try.sizeOf27 rfl rfl (rd_sl (by repeat (first | exact .head | apply In.tail | apply Take.tail | apply Upd.tail))) (by omega) (by omega) (by rw [vflat_len]; omega)) ?_
      refine vl_val rfl (.some rfl) (val_loadAgg Try.isAgg27 Try.sizeOf27 rfl (rd_part (us := [.int .i64 (vs.getD i.toNat z3).k, .int .i64 (vs.getD i.toNat z3).n, .string (vs.getD i.toNat z3).s]) (rd_sl (by repeat (first | exact .head | apply In.tail | apply Take.tail | apply Upd.tail))) (flat_at vs i.toNat (by omega))) rfl) ?_
      first | refine vl_store rfl rfl .none rfl rfl Try.sizeOf27 rfl (by repeat (first | exact .head | apply In.tail | apply Take.tail | apply Upd.tail)) (by first | decide | exact Nat.le_refl _ | (simp; omega)) ?_ | refine vl_storeSl rfl rfl .none rfl rfl Try.sizeOf27 rfl (by simp [Value.cells]) (by repeat (first | exact .head | apply In.tail | apply Take.tail | apply Upd.tail)) (by first | decide | (simp [Value.cells]; omega)) ?_
      refine vl_val rfl (.some rfl) (val_assign rfl) ?_
      refine vl_nil ?_
      refine vc_ret ?_
      refine ⟨_, [RC r kd A vs.length c, DS A c vs], _, resC2 Try.results27 rfl (whole_agg Try.isAgg27 Try.sizeOf27 (cells_whole (by repeat (first | exact .head | apply In.tail | apply Take.tail | apply Upd.tail))) rfl) rfl, (by repeat (first | exact .nil | (apply Sub.cons; · repeat (first | exact .head | apply Take.tail)))), ?_⟩
      refine ⟨?_, rfl⟩
      rw [if_pos (by omega), decide_eq_true (by omega)]; rfl
set_option maxRecDepth 20000 in
set_option maxHeartbeats 400000 in
theorem xAdd (r : Nat) (kd : Int) (A : Option Addr) (c : Nat) (vs : List Vk) (hl : vs.length ≤ 512) (p : Vk) (hk1 : 1 ≤ kd) (hk2 : kd ≤ 4) (hw1 : -9223372036854775808 ≤ p.n) (hw2 : p.n < 9223372036854775808) (w : World) : Fn Try.prog 26 [.pointer (some ⟨r, 0, none⟩), vk p] [RC r kd A vs.length c, DS A c vs] (ret fun u H' => ∃ A' c', u = .tuple #[.int .i64 (dadd kd vs p).1.1, .int .i64 (dadd kd vs p).1.2] ∧ H' = [RC r kd A' (dadd kd vs p).2.length c', DS A' c' (dadd kd vs p).2]) w := by
  refine fn_enter Try.func26 rfl Try.ntmps26 rfl ?_
  refine vc_seq ?_
  refine vc_region ?_
  refine vl_box rfl rfl (.some rfl) rfl (fun r3 => ?_)
  refine vl_val rfl (.some rfl) (val_assign rfl) ?_
  refine vl_val rfl (.some rfl) (val_assign rfl) ?_
  refine vl_nil ?_
  refine vc_seq ?_
  refine vc_seq ?_
  refine vc_draws [0, 1, 2, 3, 4, 5, 6, 7, 8, 10, 11] [] [0, 1, 2, 3, 4, 5, 6, 7, 8, 9, 10, 11] rfl (by kernel_rfl) (fun _ _ _ h => h) ?_
  refine vd_val rfl rfl rfl (.some rfl) (by first | exact val_fieldAddr Try.runUnderlying27 rfl Try.sizeOf3 rfl | exact val_fieldAddrR Try.runUnderlying27 rfl Try.sizeOf3 rfl) ?_
  refine vd_val rfl rfl rfl (.some rfl) (val_load Try.isAgg3 rfl (by first | exact cell_cells (by repeat (first | exact .head | apply In.tail | apply Take.tail | apply Upd.tail)) rfl | exact cell_rd (rd_sl (by repeat (first | exact .head | apply In.tail | apply Take.tail | apply Upd.tail))) (by first | exact bcells_get (by omega) | exact icells_get (by omega) | exact tcells_get (by omega)))) ?_
  refine vd_val rfl rfl rfl (.some rfl) (val_eq rfl rfl) ?_
  refine vd_val rfl rfl rfl (.some rfl) (val_move rfl) ?_
  refine vd_split (t := 11) rfl (fun hg11 => ?_) (fun hg11 => ?_)
  · (try replace hg11 := of_decide_eq_true hg11)
    refine vd_off rfl rfl rfl rfl rfl rfl (.some rfl) ?_
    refine vd_off rfl rfl rfl rfl rfl rfl (.some rfl) ?_
    refine vd_off rfl rfl rfl rfl rfl rfl (.some rfl) ?_
    refine vd_off rfl rfl rfl rfl rfl rfl (.some rfl) ?_
    refine vd_off rfl rfl rfl rfl rfl rfl (.some rfl) ?_
    refine vd_op rfl rfl ?_
    refine vl_off rfl rfl rfl rfl (.some rfl) ?_
    refine vl_nil ?_
    refine ⟨fun _ => ⟨_, (by repeat (first | exact .nil | (apply Sub.cons; · repeat (first | exact .head | apply Take.tail))))⟩, ?_⟩
    refine vd_off rfl rfl rfl rfl rfl rfl (.some rfl) ?_
    refine vd_val rfl rfl rfl (.some rfl) (val_pick rfl rfl) ?_
    refine vd_nil ?_
    refine vc_cond rfl (fun _ => ?_) (fun h => by cases h)
    refine vc_seq ?_
    refine vc_region ?_
    refine vl_val rfl (.some rfl) (val_assign rfl) ?_
    refine vl_val rfl (.some rfl) (val_assign rfl) ?_
    refine vl_nil ?_
    refine vc_ret ?_
    refine ⟨_, [RC r kd A vs.length c, DS A c vs], _, res2 Try.results26 rfl rfl, (by repeat (first | exact .nil | (apply Sub.cons; · repeat (first | exact .head | apply Take.tail)))), ?_⟩
    have hd : dadd kd vs p = ((0, 12), vs) := by unfold dadd; rw [if_pos (by first | exact takes_zero hk1 hg11 | simpa using hc0)]
    show ∃ A' c', _ ∧ _
    rw [hd]
    exact ⟨A, c, rfl, rfl⟩
  · (try replace hg11 := of_decide_eq_false hg11)
    refine vd_on rfl rfl rfl rfl rfl rfl (.some rfl) (val_loadAgg Try.isAgg27 Try.sizeOf27 rfl (by first | exact cells_whole (by repeat (first | exact .head | apply In.tail | apply Take.tail | apply Upd.tail)) | exact cells_part (by repeat (first | exact .head | apply In.tail | apply Take.tail | apply Upd.tail)) rfl) rfl) ?_
    refine vd_on rfl rfl rfl rfl rfl rfl (.some rfl) (val_move rfl) ?_
    refine vd_on rfl rfl rfl rfl rfl rfl (.some rfl) (val_nil rfl rfl) ?_
    refine vd_on rfl rfl rfl rfl rfl rfl (.some rfl) (by first | exact val_fieldAddr Try.runUnderlying94 rfl Try.sizeOf3 rfl | exact val_fieldAddrR Try.runUnderlying94 rfl Try.sizeOf3 rfl) ?_
    refine vd_on rfl rfl rfl rfl rfl rfl (.some rfl) (val_load Try.isAgg3 rfl (by first | exact cell_cells (by repeat (first | exact .head | apply In.tail | apply Take.tail | apply Upd.tail)) rfl | exact cell_rd (rd_sl (by repeat (first | exact .head | apply In.tail | apply Take.tail | apply Upd.tail))) (by first | exact bcells_get (by omega) | exact icells_get (by omega) | exact tcells_get (by omega)))) ?_
    refine vd_op rfl rfl ?_
    refine vl_on rfl rfl rfl rfl ?_
    refine vl_callV rfl rfl (.some rfl) Try.call53 rfl (fun w hw => xFits p kd hk1 hk2 hg11 hw1 hw2 w) ?_
    refine vl_nil ?_
    refine ⟨fun _ => ⟨_, (by repeat (first | exact .nil | (apply Sub.cons; · repeat (first | exact .head | apply Take.tail))))⟩, ?_⟩
    refine vd_on rfl rfl rfl rfl rfl rfl (.some rfl) (val_not rfl) ?_
    refine vd_val rfl rfl rfl (.some rfl) (val_pick rfl rfl) ?_
    refine vd_nil ?_
    refine vc_cond rfl (fun hc0 => ?_) (fun hc0 => ?_)
    · (try replace hc0 := of_decide_eq_true hc0)
      refine vc_seq ?_
      refine vc_region ?_
      refine vl_val rfl (.some rfl) (val_assign rfl) ?_
      refine vl_val rfl (.some rfl) (val_assign rfl) ?_
      refine vl_nil ?_
      refine vc_ret ?_
      refine ⟨_, [RC r kd A vs.length c, DS A c vs], _, res2 Try.results26 rfl rfl, (by repeat (first | exact .nil | (apply Sub.cons; · repeat (first | exact .head | apply Take.tail)))), ?_⟩
      have hd : dadd kd vs p = ((0, 12), vs) := by unfold dadd; rw [if_pos (by first | exact takes_zero hk1 hg11 | simpa using hc0)]
      show ∃ A' c', _ ∧ _
      rw [hd]
      exact ⟨A, c, rfl, rfl⟩
    · (try replace hc0 := of_decide_eq_false hc0)
      refine vc_skip ?_
      refine vc_seq ?_
      refine vc_seq ?_
      refine vc_region ?_
      refine vl_val rfl (.some rfl) (val_move rfl) ?_
      refine vl_val rfl (.some rfl) (val_loadAgg Try.isAgg27 Try.sizeOf27 rfl (by first | exact cells_whole (by repeat (first | exact .head | apply In.tail | apply Take.tail | apply Upd.tail)) | exact cells_part (by repeat (first | exact .head | apply In.tail | apply Take.tail | apply Upd.tail)) rfl) rfl) ?_
      refine vl_callR [RC r kd A vs.length c, DS A c vs] rfl rfl (.some rfl) Try.call25 rfl (by repeat (first | exact .nil | (apply Sub.cons; · repeat (first | exact .head | apply Take.tail)))) (fun w hw => xFind r kd A c vs hl p w) ?_
      refine vl_val rfl (.some rfl) (val_move rfl) ?_
      refine vl_val rfl (.some rfl) (val_extract rfl rfl) ?_
      refine vl_val rfl (.some rfl) (val_extract rfl rfl) ?_
      refine vl_val rfl (.some rfl) (val_assign rfl) ?_
      refine vl_val rfl (.some rfl) (val_assign rfl) ?_
      refine vl_nil ?_
      refine vc_seq ?_
      refine vc_region ?_
      refine vl_val rfl (.some rfl) (val_move rfl) ?_
      refine vl_nil ?_
      refine vc_cond rfl (fun hc1 => ?_) (fun hc1 => ?_)
      · (try replace hc1 := of_decide_eq_true hc1)
        refine vc_seq ?_
        refine vc_region ?_
        refine vl_val rfl (.some rfl) (val_move rfl) ?_
        refine vl_val rfl (.some rfl) (val_assign rfl) ?_
        refine vl_val rfl (.some rfl) (val_assign rfl) ?_
        refine vl_nil ?_
        refine vc_ret ?_
        refine ⟨_, [RC r kd A vs.length c, DS A c vs], _, res2 Try.results26 rfl rfl, (by repeat (first | exact .nil | (apply Sub.cons; · repeat (first | exact .head | apply Take.tail)))), ?_⟩
        have hd : dadd kd vs p = ((((vs.idxOf p : Nat) : Int), 0), vs) := by unfold dadd; rw [if_neg (by simpa using hc0), if_pos hc1]
        show ∃ A' c', _ ∧ _
        rw [hd]
        refine ⟨A, c, ?_, rfl⟩
        show Value.tuple #[.int .i64 ((if p ∈ vs then vs.idxOf p else 0 : Nat) : Int), .int .i64 0] = _
        rw [if_pos hc1]
      · (try replace hc1 := of_decide_eq_false hc1)
        refine vc_skip ?_
        refine vc_seq ?_
        refine vc_seq ?_
        refine vc_region ?_
        refine vl_val rfl (.some rfl) (val_move rfl) ?_
        refine vl_val rfl (.some rfl) (val_nil rfl rfl) ?_
        refine vl_val rfl (.some rfl) (by first | exact val_fieldAddr Try.runUnderlying94 rfl Try.sizeOf22 rfl | exact val_fieldAddrR Try.runUnderlying94 rfl Try.sizeOf22 rfl) ?_
        refine vl_val rfl (.some rfl) (val_load Try.isAgg22 rfl (by first | exact cell_cells (by repeat (first | exact .head | apply In.tail | apply Take.tail | apply Upd.tail)) rfl | exact cell_rd (rd_sl (by repeat (first | exact .head | apply In.tail | apply Take.tail | apply Upd.tail))) (by first | exact bcells_get (by omega) | exact icells_get (by omega) | exact tcells_get (by omega)))) ?_
        refine vl_val rfl (.some rfl) (val_lenSl Try.runUnderlying22 rfl) ?_
        refine vl_val rfl (.some rfl) (val_ge rfl rfl) ?_
        refine vl_nil ?_
        refine vc_cond rfl (fun hc2 => ?_) (fun hc2 => ?_)
        · (try replace hc2 := of_decide_eq_true hc2)
          refine vc_seq ?_
          refine vc_region ?_
          refine vl_val rfl (.some rfl) (val_assign rfl) ?_
          refine vl_val rfl (.some rfl) (val_assign rfl) ?_
          refine vl_nil ?_
          refine vc_ret ?_
          refine ⟨_, [RC r kd A vs.length c, DS A c vs], _, res2 Try.results26 rfl rfl, (by repeat (first | exact .nil | (apply Sub.cons; · repeat (first | exact .head | apply Take.tail)))), ?_⟩
          have hd : dadd kd vs p = ((0, 7), vs) := by unfold dadd; rw [if_neg (by simpa using hc0), if_neg hc1, if_pos (by omega)]
          show ∃ A' c', _ ∧ _
          rw [hd]
          exact ⟨A, c, rfl, rfl⟩
        · (try replace hc2 := of_decide_eq_false hc2)
          refine vc_skip ?_
          refine vc_seq ?_
          refine vc_drawsS [0, 1, 2, 3, 4, 5, 9] [10] [0, 1, 2, 3, 4, 5, 6, 7, 8, 9, 10] [RC r kd A vs.length c, cells r3 [.int .i64 p.k, .int .i64 p.n, .string p.s] 27] (by repeat (first | exact .nil | (apply Sub.cons; · repeat (first | exact .head | apply Take.tail)))) rfl (by kernel_rfl) (fun _ _ _ h => h) ?_
          refine vd_val rfl rfl rfl (.some rfl) (val_move rfl) ?_
          refine vd_val rfl rfl rfl (.some rfl) (val_move rfl) ?_
          refine vd_val rfl rfl rfl (.some rfl) (val_nil rfl rfl) ?_
          refine vd_val rfl rfl rfl (.some rfl) (by first | exact val_fieldAddr Try.runUnderlying94 rfl Try.sizeOf22 rfl | exact val_fieldAddrR Try.runUnderlying94 rfl Try.sizeOf22 rfl) ?_
          refine vd_val rfl rfl rfl (.some rfl) (val_load Try.isAgg22 rfl (by first | exact cell_cells (by repeat (first | exact .head | apply In.tail | apply Take.tail | apply Upd.tail)) rfl | exact cell_rd (rd_sl (by repeat (first | exact .head | apply In.tail | apply Take.tail | apply Upd.tail))) (by first | exact bcells_get (by omega) | exact icells_get (by omega) | exact tcells_get (by omega)))) ?_
          refine vd_val rfl rfl rfl (.some rfl) (val_loadAgg Try.isAgg27 Try.sizeOf27 rfl (by first | exact cells_whole (by repeat (first | exact .head | apply In.tail | apply Take.tail | apply Upd.tail)) | exact cells_part (by repeat (first | exact .head | apply In.tail | apply Take.tail | apply Upd.tail)) rfl) rfl) ?_
          refine vd_op rfl rfl ?_
          refine vl_lit sT22 rfl rfl (.some rfl) rfl rfl rfl (by decide) (by decide) rfl rfl (fun r40 => ?_)
          refine vl_nil ?_
          refine ⟨fun _ => ⟨_, (by repeat (first | exact .nil | (apply Sub.cons; · repeat (first | exact .head | apply Take.tail))))⟩, ?_⟩
          refine vd_op rfl rfl ?_
          refine vl_append sT22 rfl rfl (.some rfl) rfl rfl (by first | exact rd_sl (by repeat (first | exact .head | apply In.tail | apply Take.tail | apply Upd.tail)) | exact rd_slr (by repeat (first | exact .head | apply In.tail | apply Take.tail | apply Upd.tail)) | exact rd_old (by assumption) rfl) (by first | rfl | (simp; done) | (simp; omega)) rfl (by omega) (by omega) (by repeat (first | exact .head | apply In.tail | apply Take.tail | apply Upd.tail)) (fun A41 k41 => ?_)
          refine vl_nil ?_
          refine ⟨fun _ => ⟨_, (by repeat (first | exact .nil | (apply Sub.cons; · repeat (first | exact .head | apply Take.tail))))⟩, ?_⟩
          refine vd_op rfl rfl ?_
          refine vl_val rfl (.some rfl) (val_nil rfl rfl) ?_
          refine vl_nil ?_
          refine ⟨fun _ => ⟨_, (by repeat (first | exact .nil | (apply Sub.cons; · repeat (first | exact .head | apply Take.tail))))⟩, ?_⟩
          refine vd_val rfl rfl rfl (.some rfl) (by first | exact val_fieldAddr Try.runUnderlying94 rfl Try.sizeOf22 rfl | exact val_fieldAddrR Try.runUnderlying94 rfl Try.sizeOf22 rfl) ?_
          refine vd_op rfl rfl ?_
          first | refine vl_store rfl rfl .none rfl rfl Try.sizeOf22 rfl (by repeat (first | exact .head | apply In.tail | apply Take.tail | apply Upd.tail)) (by first | decide | exact Nat.le_refl _ | (simp; omega)) ?_ | refine vl_storeSl rfl rfl .none rfl rfl Try.sizeOf22 rfl (by simp [Value.cells]) (by repeat (first | exact .head | apply In.tail | apply Take.tail | apply Upd.tail)) (by first | decide | (simp [Value.cells]; omega)) ?_
          refine vl_nil ?_
          refine ⟨fun h => (by cases h), ?_⟩
          refine vd_nil ?_
          refine vc_seq ?_
          refine vc_region ?_
          refine vl_val rfl (.some rfl) (val_move rfl) ?_
          refine vl_val rfl (.some rfl) (val_nil rfl rfl) ?_
          refine vl_val rfl (.some rfl) (by first | exact val_fieldAddr Try.runUnderlying94 rfl Try.sizeOf22 rfl | exact val_fieldAddrR Try.runUnderlying94 rfl Try.sizeOf22 rfl) ?_
          refine vl_val rfl (.some rfl) (val_load Try.isAgg22 rfl (by first | exact cell_cells (by repeat (first | exact .head | apply In.tail | apply Take.tail | apply Upd.tail)) rfl | exact cell_rd (rd_sl (by repeat (first | exact .head | apply In.tail | apply Take.tail | apply Upd.tail))) (by first | exact bcells_get (by omega) | exact icells_get (by omega) | exact tcells_get (by omega)))) ?_
          refine vl_val rfl (.some rfl) (val_lenSl Try.runUnderlying22 rfl) ?_
          refine vl_val rfl (.some rfl) (val_sub rfl rfl (by first | exact w_i64 (by omega) (by omega) | rfl)) ?_
          refine vl_val rfl (.some rfl) (val_assign rfl) ?_
          refine vl_val rfl (.some rfl) (val_assign rfl) ?_
          refine vl_nil ?_
          refine vc_ret ?_
          refine ⟨_, [cells r [.int .i64 kd, .slice A41 (vs.length + 1) k41] 94, sl A41 (vs.length + 1) k41 27 3 (flat vs ++ [.int .i64 p.k, .int .i64 p.n, .string p.s])], _, res2 Try.results26 rfl rfl, (by repeat (first | exact .nil | (apply Sub.cons; · repeat (first | exact .head | apply Take.tail)))), ?_⟩
          have hd : dadd kd vs p = ((((vs.length : Nat) : Int), 0), vs ++ [p]) := by unfold dadd; rw [if_neg (by simpa using hc0), if_neg hc1, if_neg (by omega)]
          show ∃ A' c', _ ∧ _
          rw [hd]
          refine ⟨A41, k41, ?_, ?_⟩
          · have e : (((vs.length + 1 : Nat) : Int) - 1) = (vs.length : Int) := by omega
            show Value.tuple #[.int .i64 (((vs.length + 1 : Nat) : Int) - 1), .int .i64 0] = _
            rw [e]
          · rw [flat_push, show (vs.length + 1) = (vs ++ [p]).length by simp]
set_option maxRecDepth 20000 in
theorem xCopy (r : Nat) (kd : Int) (A : Option Addr) (c : Nat) (vs : List Vk) (hl : vs.length ≤ 512) (w : World) : Fn Try.prog 24 [.pointer (some ⟨r, 0, none⟩)] [RC r kd A vs.length c, DS A c vs] (ret fun u H' => ∃ r' A' c', u = .pointer (some ⟨r', 0, none⟩) ∧ H' = [RC r kd A vs.length c, DS A c vs, RC r' kd A' vs.length c', DS A' c' vs]) w := by
  refine fn_enter Try.func24 rfl Try.ntmps24 rfl ?_
  refine vc_seq ?_
  refine vc_region ?_
  refine vl_val rfl (.some rfl) (val_assign rfl) ?_
  refine vl_nil ?_
  refine vc_seq ?_
  refine vc_drawsS [0, 1, 2, 3, 5, 6, 7, 8, 10, 12] [] [0, 1, 2, 3, 5, 6, 7, 8, 4, 9, 10, 11, 12] [RC r kd A vs.length c, DS A c vs] (by repeat (first | exact .nil | (apply Sub.cons; · repeat (first | exact .head | apply Take.tail)))) rfl (by kernel_rfl) (fun _ _ _ h => h) ?_
  refine vd_val rfl rfl rfl (.some rfl) (val_move rfl) ?_
  refine vd_val rfl rfl rfl (.some rfl) (val_nil rfl rfl) ?_
  refine vd_val rfl rfl rfl (.some rfl) (by first | exact val_fieldAddr Try.runUnderlying94 rfl Try.sizeOf3 rfl | exact val_fieldAddrR Try.runUnderlying94 rfl Try.sizeOf3 rfl) ?_
  refine vd_val rfl rfl rfl (.some rfl) (val_load Try.isAgg3 rfl (by first | exact cell_cells (by repeat (first | exact .head | apply In.tail | apply Take.tail | apply Upd.tail)) rfl | exact cell_rd (rd_sl (by repeat (first | exact .head | apply In.tail | apply Take.tail | apply Upd.tail))) (by first | exact bcells_get (by omega) | exact icells_get (by omega) | exact tcells_get (by omega)))) ?_
  refine vd_val rfl rfl rfl (.some rfl) (val_move rfl) ?_
  refine vd_val rfl rfl rfl (.some rfl) (val_nil rfl rfl) ?_
  refine vd_val rfl rfl rfl (.some rfl) (by first | exact val_fieldAddr Try.runUnderlying94 rfl Try.sizeOf22 rfl | exact val_fieldAddrR Try.runUnderlying94 rfl Try.sizeOf22 rfl) ?_
  refine vd_val rfl rfl rfl (.some rfl) (val_load Try.isAgg22 rfl (by first | exact cell_cells (by repeat (first | exact .head | apply In.tail | apply Take.tail | apply Upd.tail)) rfl | exact cell_rd (rd_sl (by repeat (first | exact .head | apply In.tail | apply Take.tail | apply Upd.tail))) (by first | exact bcells_get (by omega) | exact icells_get (by omega) | exact tcells_get (by omega)))) ?_
  refine vd_op rfl rfl ?_
  refine vl_lit0 sT22 Try.sizeOf27 rfl rfl (.some rfl) (fun r7 => ?_)
  refine vl_nil ?_
  refine ⟨fun _ => ⟨_, (by repeat (first | exact .nil | (apply Sub.cons; · repeat (first | exact .head | apply Take.tail))))⟩, ?_⟩
  refine vd_op rfl rfl ?_
  refine vl_append sT22 rfl rfl (.some rfl) rfl rfl (rd_sl (vs := flat vs) (A := A) (n := vs.length) (c := c) (e := 27) (sz := 3) (by repeat (first | exact .head | apply In.tail | apply Take.tail | apply Upd.tail))) (by rw [vflat_len]) (by simp [flat]; exact fun _ _ => ⟨rfl, rfl, rfl⟩) (by omega) (by omega) (.head) (fun A12 k12 => ?_)
  show VL _ _ _ _ ((12, .slice A12 (0 + vs.length) k12) :: _) (sl A12 (0 + vs.length) k12 27 3 ([] ++ flat vs) :: _)
  rw [Nat.zero_add, List.nil_append]
  refine vl_nil ?_
  refine ⟨fun _ => ⟨_, (by repeat (first | exact .nil | (apply Sub.cons; · repeat (first | exact .head | apply Take.tail))))⟩, ?_⟩
  refine vd_val rfl rfl rfl (.some rfl) (val_buildSt (pl := #[(0, 1), (1, 1)]) (cs := #[.int .i64 kd, .slice A12 vs.length k12]) Try.runUnderlying94 Try.zeroValue94 (fun w => by kernel_rfl) rfl rfl) ?_
  refine vd_op rfl rfl ?_
  refine vl_box rfl rfl (.some rfl) rfl (fun r14 => ?_)
  refine vl_nil ?_
  refine ⟨fun _ => ⟨_, (by repeat (first | exact .nil | (apply Sub.cons; · repeat (first | exact .head | apply Take.tail))))⟩, ?_⟩
  refine vd_val rfl rfl rfl (.some rfl) (val_assign rfl) ?_
  refine vd_nil ?_
  refine vc_ret ?_
  refine ⟨_, [RC r kd A vs.length c, DS A c vs, RC r14 kd A12 vs.length k12, DS A12 k12 vs], _, res1 Try.results24 rfl, (by repeat (first | exact .nil | (apply Sub.cons; · repeat (first | exact .head | apply Take.tail)))), ?_⟩
  exact ⟨r14, A12, k12, rfl, rfl⟩

end Go.Proofs.Ytibfngjfjddaiaa.K
