/- Walks of the program's functions, printed by a program of this session; Lean checks them. -/
import Derived.Test.YtibfngjfjddaiaaCe
import Derived.Test.YtibfngjfjddaiaaCref
namespace Go.Proofs.Ytibfngjfjddaiaa.K
open Go Go.RowKit Go.Proofs
set_option linter.unusedVariables false
set_option linter.unusedSimpArgs false

abbrev TW (A : Option Addr) (n c : Nat) (l : List Bool) : Chunk := sl A n c 4 1 (tcells l)
abbrev VA (An : Option Addr) (cn : Nat) (nl : List Bool) (Ai : Option Addr) (ci : Nat) (il : List Int) : Value := .agg #[.slice An nl.length cn, .slice Ai il.length ci]

set_option maxRecDepth 20000 in
theorem cGood (An Ai : Option Addr) (cn ci : Nat) (nl : List Bool) (il : List Int) (hn : nl.length < 9223372036854775808) (hi : il.length < 9223372036854775808) (w : World) (hrn : Reads w An (tcells nl)) (hri : Reads w Ai (icells .i64 il)) : FnV Try.prog 36 [(VA An cn nl Ai ci il)] (.bool (decide (okV nl il))) w := by
  refine fn_enter Try.func36 rfl Try.ntmps36 rfl ?_
  refine vc_seq ?_
  refine vc_region ?_
  refine vl_box rfl rfl (.some rfl) rfl (fun r1 => ?_)
  refine vl_val rfl (.some rfl) (val_assign rfl) ?_
  refine vl_nil ?_
  refine vc_seq ?_
  refine vc_seq ?_
  refine vc_region ?_
  refine vl_val rfl (.some rfl) (by first | exact val_fieldAddr Try.runUnderlying58 rfl Try.sizeOf55 rfl | exact val_fieldAddrR Try.runUnderlying58 rfl Try.sizeOf55 rfl) ?_
  refine vl_val rfl (.some rfl) (val_load Try.isAgg55 rfl (by first | exact cell_cells (by repeat (first | exact .head | apply In.tail | apply Take.tail | apply Upd.tail)) rfl | exact cell_rd (rd_sl (by repeat (first | exact .head | apply In.tail | apply Take.tail | apply Upd.tail))) (by first | exact bcells_at (by omega) | exact ucells_at (by omega) | exact icells_at (by omega) | exact tcells_at (by omega) | exact bcells_get (by omega) | exact icells_get (by omega) | exact tcells_get (by omega) | exact ucells_get (by omega)) | exact cell_rd (rd_old (by assumption) rfl) (by first | exact bcells_at (by omega) | exact ucells_at (by omega) | exact icells_at (by omega) | exact tcells_at (by omega) | exact bcells_get (by omega) | exact icells_get (by omega) | exact tcells_get (by omega) | exact ucells_get (by omega)) | exact cell_old (by assumption) (by simp [fps]))) ?_
  refine vl_val rfl (.some rfl) (val_lenSl Try.runUnderlying55 rfl) ?_
  refine vl_val rfl (.some rfl) (by first | exact val_fieldAddr Try.runUnderlying58 rfl Try.sizeOf56 rfl | exact val_fieldAddrR Try.runUnderlying58 rfl Try.sizeOf56 rfl) ?_
  refine vl_val rfl (.some rfl) (val_load Try.isAgg56 rfl (by first | exact cell_cells (by repeat (first | exact .head | apply In.tail | apply Take.tail | apply Upd.tail)) rfl | exact cell_rd (rd_sl (by repeat (first | exact .head | apply In.tail | apply Take.tail | apply Upd.tail))) (by first | exact bcells_at (by omega) | exact ucells_at (by omega) | exact icells_at (by omega) | exact tcells_at (by omega) | exact bcells_get (by omega) | exact icells_get (by omega) | exact tcells_get (by omega) | exact ucells_get (by omega)) | exact cell_rd (rd_old (by assumption) rfl) (by first | exact bcells_at (by omega) | exact ucells_at (by omega) | exact icells_at (by omega) | exact tcells_at (by omega) | exact bcells_get (by omega) | exact icells_get (by omega) | exact tcells_get (by omega) | exact ucells_get (by omega)) | exact cell_old (by assumption) (by simp [fps]))) ?_
  refine vl_val rfl (.some rfl) (val_lenSl Try.runUnderlying56 rfl) ?_
  refine vl_val rfl (.some rfl) (val_ne rfl rfl) ?_
  refine vl_val rfl (.some rfl) (val_move rfl) ?_
  refine vl_split (t := 12) rfl (fun hg12 => ?_) (fun hg12 => ?_)
  · (try replace hg12 := of_decide_eq_true hg12)
    refine vl_off rfl rfl rfl rfl (.some rfl) ?_
    refine vl_off rfl rfl rfl rfl (.some rfl) ?_
    refine vl_off rfl rfl rfl rfl (.some rfl) ?_
    refine vl_off rfl rfl rfl rfl (.some rfl) ?_
    refine vl_val rfl (.some rfl) (val_pick rfl rfl) ?_
    refine vl_nil ?_
    refine vc_cond rfl (fun _ => ?_) (fun h => by cases h)
    refine vc_seq ?_
    refine vc_region ?_
    refine vl_val rfl (.some rfl) (val_assign rfl) ?_
    refine vl_nil ?_
    refine vc_ret ?_
    refine ⟨_, [], _, res1 Try.results36 rfl, .nil, ?_⟩
    show _ = _; rw [decide_eq_false (fun h => by have h1 := h.1; have h2 := h.2.1; omega)]
  · (try replace hg12 := of_decide_eq_false hg12)
    refine vl_on rfl rfl rfl rfl ?_
    refine vl_val rfl (.some rfl) (by first | exact val_fieldAddr Try.runUnderlying58 rfl Try.sizeOf56 rfl | exact val_fieldAddrR Try.runUnderlying58 rfl Try.sizeOf56 rfl) ?_
    refine vl_on rfl rfl rfl rfl ?_
    refine vl_val rfl (.some rfl) (val_load Try.isAgg56 rfl (by first | exact cell_cells (by repeat (first | exact .head | apply In.tail | apply Take.tail | apply Upd.tail)) rfl | exact cell_rd (rd_sl (by repeat (first | exact .head | apply In.tail | apply Take.tail | apply Upd.tail))) (by first | exact bcells_at (by omega) | exact ucells_at (by omega) | exact icells_at (by omega) | exact tcells_at (by omega) | exact bcells_get (by omega) | exact icells_get (by omega) | exact tcells_get (by omega) | exact ucells_get (by omega)) | exact cell_rd (rd_old (by assumption) rfl) (by first | exact bcells_at (by omega) | exact ucells_at (by omega) | exact icells_at (by omega) | exact tcells_at (by omega) | exact bcells_get (by omega) | exact icells_get (by omega) | exact tcells_get (by omega) | exact ucells_get (by omega)) | exact cell_old (by assumption) (by simp [fps]))) ?_
    refine vl_on rfl rfl rfl rfl ?_
    refine vl_val rfl (.some rfl) (val_lenSl Try.runUnderlying56 rfl) ?_
    refine vl_on rfl rfl rfl rfl ?_
    refine vl_val rfl (.some rfl) (val_gt rfl rfl) ?_
    refine vl_val rfl (.some rfl) (val_pick rfl rfl) ?_
    refine vl_nil ?_
    refine vc_cond rfl (fun hc0 => ?_) (fun hc0 => ?_)
    · (try replace hc0 := of_decide_eq_true hc0)
      refine vc_seq ?_
      refine vc_region ?_
      refine vl_val rfl (.some rfl) (val_assign rfl) ?_
      refine vl_nil ?_
      refine vc_ret ?_
      refine ⟨_, [], _, res1 Try.results36 rfl, .nil, ?_⟩
      show _ = _; rw [decide_eq_false (fun h => by have h1 := h.1; have h2 := h.2.1; omega)]
    · (try replace hc0 := of_decide_eq_false hc0)
      refine vc_skip ?_
      refine vc_seq ?_
      refine vc_seq ?_
      refine vc_region ?_
      refine vl_val rfl (.some rfl) (by first | exact val_fieldAddr Try.runUnderlying58 rfl Try.sizeOf56 rfl | exact val_fieldAddrR Try.runUnderlying58 rfl Try.sizeOf56 rfl) ?_
      refine vl_val rfl (.some rfl) (val_load Try.isAgg56 rfl (by first | exact cell_cells (by repeat (first | exact .head | apply In.tail | apply Take.tail | apply Upd.tail)) rfl | exact cell_rd (rd_sl (by repeat (first | exact .head | apply In.tail | apply Take.tail | apply Upd.tail))) (by first | exact bcells_at (by omega) | exact ucells_at (by omega) | exact icells_at (by omega) | exact tcells_at (by omega) | exact bcells_get (by omega) | exact icells_get (by omega) | exact tcells_get (by omega) | exact ucells_get (by omega)) | exact cell_rd (rd_old (by assumption) rfl) (by first | exact bcells_at (by omega) | exact ucells_at (by omega) | exact icells_at (by omega) | exact tcells_at (by omega) | exact bcells_get (by omega) | exact icells_get (by omega) | exact tcells_get (by omega) | exact ucells_get (by omega)) | exact cell_old (by assumption) (by simp [fps]))) ?_
      refine vl_val rfl (.some rfl) (val_lenSl Try.runUnderlying56 rfl) ?_
      refine vl_val rfl (.some rfl) (val_move rfl) ?_
      refine vl_nil ?_
      refine vc_block ?_
      refine vc_loopw (fun k E H => ∃ i : Nat, i ≤ il.length ∧ k = il.length - i ∧ (∀ j, j < i → 0 ≤ il.getD j 0 ∧ il.getD j 0 < 512 ∧ (nl.getD j false = true → il.getD j 0 = 0)) ∧ E = [(1, .pointer (some ⟨r1, 0, none⟩)), (19, .slice Ai il.length ci), (20, .int .i64 il.length), (21, .int .i64 i)] ∧ H = [cells r1 [.slice An nl.length cn, .slice Ai il.length ci] 58]) (il.length) ⟨_, _, _, ⟨0, by omega, rfl, fun j hj => absurd hj (by omega), rfl, rfl⟩, (by repeat (first | exact trivial | refine ⟨rfl, ?_⟩ | refine ⟨le_item rfl (by first | rfl | (congr 1; omega) | (simp; done) | (simp; omega)), ?_⟩)), (by repeat (first | exact .nil | (apply Sub.cons; · repeat (first | exact .head | apply Take.tail))))⟩ ?_
      intro k E H hI
      obtain ⟨i, hil, rfl, hall, rfl, rfl⟩ := hI
      refine vc_seq ?_
      refine vc_region ?_
      refine vl_val rfl (.some rfl) (val_lt rfl rfl) ?_
      refine vl_nil ?_
      refine vc_seq ?_
      refine vc_cond rfl (fun hc1 => ?_) (fun hc1 => ?_)
      · (try replace hc1 := of_decide_eq_true hc1)
        refine vc_skip ?_
        refine vc_seq ?_
        refine vc_block ?_
        refine vc_seq ?_
        refine vc_region ?_
        refine vl_val rfl (.some rfl) (val_move rfl) ?_
        refine vl_val rfl (.some rfl) (val_indexAddr Try.runUnderlying56 Try.sizeOf3 rfl rfl (by first | exact rd_sl (by repeat (first | exact .head | apply In.tail | apply Take.tail | apply Upd.tail)) | exact rd_slr (by repeat (first | exact .head | apply In.tail | apply Take.tail | apply Upd.tail)) | exact rd_old (by assumption) rfl) (by omega) (by omega) (by first | omega | (simp only [bcells_length, icells_length, ucells_length, tcells_length]; omega) | (simp only [bcells_length, icells_length, ucells_length, tcells_length, fillG_length]; omega) | (simp; omega))) ?_
        refine vl_val rfl (.some rfl) (val_load Try.isAgg3 rfl (by first | exact cell_cells (by repeat (first | exact .head | apply In.tail | apply Take.tail | apply Upd.tail)) rfl | exact cell_rd (rd_sl (by repeat (first | exact .head | apply In.tail | apply Take.tail | apply Upd.tail))) (by first | exact bcells_at (by omega) | exact ucells_at (by omega) | exact icells_at (by omega) | exact tcells_at (by omega) | exact bcells_get (by omega) | exact icells_get (by omega) | exact tcells_get (by omega) | exact ucells_get (by omega)) | exact cell_rd (rd_old (by assumption) rfl) (by first | exact bcells_at (by omega) | exact ucells_at (by omega) | exact icells_at (by omega) | exact tcells_at (by omega) | exact bcells_get (by omega) | exact icells_get (by omega) | exact tcells_get (by omega) | exact ucells_get (by omega)) | exact cell_old (by assumption) (by simp [fps]))) ?_
        refine vl_val rfl (.some rfl) (val_assign rfl) ?_
        refine vl_val rfl (.some rfl) (val_assign rfl) ?_
        refine vl_nil ?_
        refine vc_seq ?_
        refine vc_region ?_
        refine vl_val rfl (.some rfl) (val_move rfl) ?_
        refine vl_val rfl (.some rfl) (val_lt rfl rfl) ?_
        refine vl_val rfl (.some rfl) (val_move rfl) ?_
        refine vl_split (t := 28) rfl (fun hg28 => ?_) (fun hg28 => ?_)
        · (try replace hg28 := of_decide_eq_true hg28)
          refine vl_off rfl rfl rfl rfl (.some rfl) ?_
          refine vl_off rfl rfl rfl rfl (.some rfl) ?_
          refine vl_val rfl (.some rfl) (val_pick rfl rfl) ?_
          refine vl_val rfl (.some rfl) (val_move rfl) ?_
          refine vl_off rfl rfl rfl rfl (.some rfl) ?_
          refine vl_off rfl rfl rfl rfl (.some rfl) ?_
          refine vl_off rfl rfl rfl rfl (.some rfl) ?_
          refine vl_off rfl rfl rfl rfl (.some rfl) ?_
          refine vl_off rfl rfl rfl rfl (.some rfl) ?_
          refine vl_off rfl rfl rfl rfl (.some rfl) ?_
          refine vl_offU rfl rfl rfl rfl (.some rfl) ?_
          refine vl_offU rfl rfl rfl rfl (.some rfl) ?_
          refine vl_off rfl rfl rfl rfl (.some rfl) ?_
          refine vl_val rfl (.some rfl) (val_pick rfl rfl) ?_
          refine vl_nil ?_
          refine vc_cond rfl (fun _ => ?_) (fun h => by cases h)
          refine vc_seq ?_
          refine vc_region ?_
          refine vl_val rfl (.some rfl) (val_assign rfl) ?_
          refine vl_nil ?_
          refine vc_ret ?_
          refine ⟨_, [], _, res1 Try.results36 rfl, .nil, ?_⟩
          show _ = _; rw [decide_eq_false (fun h => by
            obtain ⟨h4, h5, h6⟩ := h.2.2 i (by omega)
            first | omega | (have := h6 (by assumption); omega))]
        · (try replace hg28 := of_decide_eq_false hg28)
          refine vl_on rfl rfl rfl rfl ?_
          refine vl_val rfl (.some rfl) (val_move rfl) ?_
          refine vl_on rfl rfl rfl rfl ?_
          refine vl_val rfl (.some rfl) (val_ge rfl rfl) ?_
          refine vl_val rfl (.some rfl) (val_pick rfl rfl) ?_
          refine vl_val rfl (.some rfl) (val_move rfl) ?_
          refine vl_split (t := 32) rfl (fun hg32 => ?_) (fun hg32 => ?_)
          · (try replace hg32 := of_decide_eq_true hg32)
            refine vl_off rfl rfl rfl rfl (.some rfl) ?_
            refine vl_off rfl rfl rfl rfl (.some rfl) ?_
            refine vl_off rfl rfl rfl rfl (.some rfl) ?_
            refine vl_off rfl rfl rfl rfl (.some rfl) ?_
            refine vl_off rfl rfl rfl rfl (.some rfl) ?_
            refine vl_off rfl rfl rfl rfl (.some rfl) ?_
            refine vl_offU rfl rfl rfl rfl (.some rfl) ?_
            refine vl_offU rfl rfl rfl rfl (.some rfl) ?_
            refine vl_off rfl rfl rfl rfl (.some rfl) ?_
            refine vl_val rfl (.some rfl) (val_pick rfl rfl) ?_
            refine vl_nil ?_
            refine vc_cond rfl (fun _ => ?_) (fun h => by cases h)
            refine vc_seq ?_
            refine vc_region ?_
            refine vl_val rfl (.some rfl) (val_assign rfl) ?_
            refine vl_nil ?_
            refine vc_ret ?_
            refine ⟨_, [], _, res1 Try.results36 rfl, .nil, ?_⟩
            show _ = _; rw [decide_eq_false (fun h => by
              obtain ⟨h4, h5, h6⟩ := h.2.2 i (by omega)
              first | omega | (have := h6 (by assumption); omega))]
          · (try replace hg32 := of_decide_eq_false hg32)
            refine vl_on rfl rfl rfl rfl ?_
            refine vl_val rfl (.some rfl) (by first | exact val_fieldAddr Try.runUnderlying58 rfl Try.sizeOf55 rfl | exact val_fieldAddrR Try.runUnderlying58 rfl Try.sizeOf55 rfl) ?_
            refine vl_on rfl rfl rfl rfl ?_
            refine vl_val rfl (.some rfl) (val_load Try.isAgg55 rfl (by first | exact cell_cells (by repeat (first | exact .head | apply In.tail | apply Take.tail | apply Upd.tail)) rfl | exact cell_rd (rd_sl (by repeat (first | exact .head | apply In.tail | apply Take.tail | apply Upd.tail))) (by first | exact bcells_at (by omega) | exact ucells_at (by omega) | exact icells_at (by omega) | exact tcells_at (by omega) | exact bcells_get (by omega) | exact icells_get (by omega) | exact tcells_get (by omega) | exact ucells_get (by omega)) | exact cell_rd (rd_old (by assumption) rfl) (by first | exact bcells_at (by omega) | exact ucells_at (by omega) | exact icells_at (by omega) | exact tcells_at (by omega) | exact bcells_get (by omega) | exact icells_get (by omega) | exact tcells_get (by omega) | exact ucells_get (by omega)) | exact cell_old (by assumption) (by simp [fps]))) ?_
            refine vl_on rfl rfl rfl rfl ?_
            refine vl_val rfl (.some rfl) (val_move rfl) ?_
            refine vl_on rfl rfl rfl rfl ?_
            refine vl_val rfl (.some rfl) (val_indexAddr Try.runUnderlying55 Try.sizeOf4 rfl rfl (by first | exact rd_sl (by repeat (first | exact .head | apply In.tail | apply Take.tail | apply Upd.tail)) | exact rd_slr (by repeat (first | exact .head | apply In.tail | apply Take.tail | apply Upd.tail)) | exact rd_old (by assumption) rfl) (by omega) (by omega) (by first | omega | (simp only [bcells_length, icells_length, ucells_length, tcells_length]; omega) | (simp only [bcells_length, icells_length, ucells_length, tcells_length, fillG_length]; omega) | (simp; omega))) ?_
            refine vl_on rfl rfl rfl rfl ?_
            refine vl_val rfl (.some rfl) (val_load Try.isAgg4 rfl (by first | exact cell_cells (by repeat (first | exact .head | apply In.tail | apply Take.tail | apply Upd.tail)) rfl | exact cell_rd (rd_sl (by repeat (first | exact .head | apply In.tail | apply Take.tail | apply Upd.tail))) (by first | exact bcells_at (by omega) | exact ucells_at (by omega) | exact icells_at (by omega) | exact tcells_at (by omega) | exact bcells_get (by omega) | exact icells_get (by omega) | exact tcells_get (by omega) | exact ucells_get (by omega)) | exact cell_rd (rd_old (by assumption) rfl) (by first | exact bcells_at (by omega) | exact ucells_at (by omega) | exact icells_at (by omega) | exact tcells_at (by omega) | exact bcells_get (by omega) | exact icells_get (by omega) | exact tcells_get (by omega) | exact ucells_get (by omega)) | exact cell_old (by assumption) (by simp [fps]))) ?_
            refine vl_on rfl rfl rfl rfl ?_
            refine vl_val rfl (.some rfl) (val_move rfl) ?_
            refine vl_split (t := 38) rfl (fun hg38 => ?_) (fun hg38 => ?_)
            · (try replace hg38 := of_decide_eq_true hg38)
              refine vl_on rfl rfl rfl rfl ?_
              refine vl_val rfl (.some rfl) (val_move rfl) ?_
              refine vl_on rfl rfl rfl rfl ?_
              refine vl_val rfl (.some rfl) (val_gt rfl rfl) ?_
              refine vl_on rfl rfl rfl rfl ?_
              refine vl_val rfl (.some rfl) (val_pick rfl rfl) ?_
              refine vl_val rfl (.some rfl) (val_pick rfl rfl) ?_
              refine vl_nil ?_
              refine vc_cond rfl (fun hc2 => ?_) (fun hc2 => ?_)
              · (try replace hc2 := of_decide_eq_true hc2)
                refine vc_seq ?_
                refine vc_region ?_
                refine vl_val rfl (.some rfl) (val_assign rfl) ?_
                refine vl_nil ?_
                refine vc_ret ?_
                refine ⟨_, [], _, res1 Try.results36 rfl, .nil, ?_⟩
                show _ = _; rw [decide_eq_false (fun h => by
                  obtain ⟨h4, h5, h6⟩ := h.2.2 i (by omega)
                  first | omega | (have := h6 (by assumption); omega))]
              · (try replace hc2 := of_decide_eq_false hc2)
                refine vc_skip ?_
                refine vc_region ?_
                refine vl_val rfl (.some rfl) (val_add rfl rfl (by first | exact w_i64 (by omega) (by omega) | rfl)) ?_
                refine vl_val rfl (.some rfl) (val_move rfl) ?_
                refine vl_nil ?_
                exact ⟨il.length - (i + 1), _, _, _, by omega, (by repeat (first | exact trivial | refine ⟨rfl, ?_⟩ | refine ⟨le_item rfl (by first | rfl | (congr 1; omega) | (simp; done) | (simp; omega)), ?_⟩)), (by repeat (first | exact .nil | (apply Sub.cons; · repeat (first | exact .head | apply Take.tail)))), ⟨i + 1, by omega, rfl, fun j hj => by
                  rcases Nat.lt_or_ge j i with h | h
                  · exact hall j h
                  · obtain rfl : j = i := by omega
                    refine ⟨by omega, by omega, fun hb => ?_⟩
                    first | omega | (rw [hb] at hg38; cases hg38), rfl, rfl⟩⟩
            · (try replace hg38 := of_decide_eq_false hg38)
              refine vl_off rfl rfl rfl rfl (.some rfl) ?_
              refine vl_off rfl rfl rfl rfl (.some rfl) ?_
              refine vl_on rfl rfl rfl rfl ?_
              refine vl_val rfl (.some rfl) (val_pick rfl rfl) ?_
              refine vl_val rfl (.some rfl) (val_pick rfl rfl) ?_
              refine vl_nil ?_
              refine vc_cond rfl (fun h => by cases h) (fun _ => ?_)
              refine vc_skip ?_
              refine vc_region ?_
              refine vl_val rfl (.some rfl) (val_add rfl rfl (by first | exact w_i64 (by omega) (by omega) | rfl)) ?_
              refine vl_val rfl (.some rfl) (val_move rfl) ?_
              refine vl_nil ?_
              exact ⟨il.length - (i + 1), _, _, _, by omega, (by repeat (first | exact trivial | refine ⟨rfl, ?_⟩ | refine ⟨le_item rfl (by first | rfl | (congr 1; omega) | (simp; done) | (simp; omega)), ?_⟩)), (by repeat (first | exact .nil | (apply Sub.cons; · repeat (first | exact .head | apply Take.tail)))), ⟨i + 1, by omega, rfl, fun j hj => by
                rcases Nat.lt_or_ge j i with h | h
                · exact hall j h
                · obtain rfl : j = i := by omega
                  refine ⟨by omega, by omega, fun hb => ?_⟩
                  first | omega | (rw [hb] at hg38; cases hg38), rfl, rfl⟩⟩
      · (try replace hc1 := of_decide_eq_false hc1)
        refine vc_exit ?_
        refine vc_seq ?_
        refine vc_region ?_
        refine vl_val rfl (.some rfl) (val_assign rfl) ?_
        refine vl_nil ?_
        refine vc_ret ?_
        refine ⟨_, [], _, res1 Try.results36 rfl, .nil, ?_⟩
        show _ = _; rw [decide_eq_true ⟨by omega, by omega, fun j hj => hall j (by omega)⟩]
set_option maxRecDepth 20000 in
theorem rGood (An Ai : Option Addr) (cn ci : Nat) (nl : List Bool) (il : List Int) (hn : nl.length < 9223372036854775808) (hi : il.length < 9223372036854775808) (w : World) (hrn : Reads w An (tcells nl)) (hri : Reads w Ai (icells .i64 il)) : FnV Try.prog 37 [(VA An cn nl Ai ci il)] (.bool (decide (okV nl il))) w := by
  refine fn_enter Try.func37 rfl Try.ntmps37 rfl ?_
  refine vc_seq ?_
  refine vc_region ?_
  refine vl_box rfl rfl (.some rfl) rfl (fun r1 => ?_)
  refine vl_val rfl (.some rfl) (val_assign rfl) ?_
  refine vl_nil ?_
  refine vc_seq ?_
  refine vc_seq ?_
  refine vc_region ?_
  refine vl_val rfl (.some rfl) (by first | exact val_fieldAddr Try.runUnderlying64 rfl Try.sizeOf55 rfl | exact val_fieldAddrR Try.runUnderlying64 rfl Try.sizeOf55 rfl) ?_
  refine vl_val rfl (.some rfl) (val_load Try.isAgg55 rfl (by first | exact cell_cells (by repeat (first | exact .head | apply In.tail | apply Take.tail | apply Upd.tail)) rfl | exact cell_rd (rd_sl (by repeat (first | exact .head | apply In.tail | apply Take.tail | apply Upd.tail))) (by first | exact bcells_at (by omega) | exact ucells_at (by omega) | exact icells_at (by omega) | exact tcells_at (by omega) | exact bcells_get (by omega) | exact icells_get (by omega) | exact tcells_get (by omega) | exact ucells_get (by omega)) | exact cell_rd (rd_old (by assumption) rfl) (by first | exact bcells_at (by omega) | exact ucells_at (by omega) | exact icells_at (by omega) | exact tcells_at (by omega) | exact bcells_get (by omega) | exact icells_get (by omega) | exact tcells_get (by omega) | exact ucells_get (by omega)) | exact cell_old (by assumption) (by simp [fps]))) ?_
  refine vl_val rfl (.some rfl) (val_lenSl Try.runUnderlying55 rfl) ?_
  refine vl_val rfl (.some rfl) (by first | exact val_fieldAddr Try.runUnderlying64 rfl Try.sizeOf56 rfl | exact val_fieldAddrR Try.runUnderlying64 rfl Try.sizeOf56 rfl) ?_
  refine vl_val rfl (.some rfl) (val_load Try.isAgg56 rfl (by first | exact cell_cells (by repeat (first | exact .head | apply In.tail | apply Take.tail | apply Upd.tail)) rfl | exact cell_rd (rd_sl (by repeat (first | exact .head | apply In.tail | apply Take.tail | apply Upd.tail))) (by first | exact bcells_at (by omega) | exact ucells_at (by omega) | exact icells_at (by omega) | exact tcells_at (by omega) | exact bcells_get (by omega) | exact icells_get (by omega) | exact tcells_get (by omega) | exact ucells_get (by omega)) | exact cell_rd (rd_old (by assumption) rfl) (by first | exact bcells_at (by omega) | exact ucells_at (by omega) | exact icells_at (by omega) | exact tcells_at (by omega) | exact bcells_get (by omega) | exact icells_get (by omega) | exact tcells_get (by omega) | exact ucells_get (by omega)) | exact cell_old (by assumption) (by simp [fps]))) ?_
  refine vl_val rfl (.some rfl) (val_lenSl Try.runUnderlying56 rfl) ?_
  refine vl_val rfl (.some rfl) (val_ne rfl rfl) ?_
  refine vl_val rfl (.some rfl) (val_move rfl) ?_
  refine vl_split (t := 12) rfl (fun hg12 => ?_) (fun hg12 => ?_)
  · (try replace hg12 := of_decide_eq_true hg12)
    refine vl_off rfl rfl rfl rfl (.some rfl) ?_
    refine vl_off rfl rfl rfl rfl (.some rfl) ?_
    refine vl_off rfl rfl rfl rfl (.some rfl) ?_
    refine vl_off rfl rfl rfl rfl (.some rfl) ?_
    refine vl_val rfl (.some rfl) (val_pick rfl rfl) ?_
    refine vl_nil ?_
    refine vc_cond rfl (fun _ => ?_) (fun h => by cases h)
    refine vc_seq ?_
    refine vc_region ?_
    refine vl_val rfl (.some rfl) (val_assign rfl) ?_
    refine vl_nil ?_
    refine vc_ret ?_
    refine ⟨_, [], _, res1 Try.results37 rfl, .nil, ?_⟩
    show _ = _; rw [decide_eq_false (fun h => by have h1 := h.1; have h2 := h.2.1; omega)]
  · (try replace hg12 := of_decide_eq_false hg12)
    refine vl_on rfl rfl rfl rfl ?_
    refine vl_val rfl (.some rfl) (by first | exact val_fieldAddr Try.runUnderlying64 rfl Try.sizeOf56 rfl | exact val_fieldAddrR Try.runUnderlying64 rfl Try.sizeOf56 rfl) ?_
    refine vl_on rfl rfl rfl rfl ?_
    refine vl_val rfl (.some rfl) (val_load Try.isAgg56 rfl (by first | exact cell_cells (by repeat (first | exact .head | apply In.tail | apply Take.tail | apply Upd.tail)) rfl | exact cell_rd (rd_sl (by repeat (first | exact .head | apply In.tail | apply Take.tail | apply Upd.tail))) (by first | exact bcells_at (by omega) | exact ucells_at (by omega) | exact icells_at (by omega) | exact tcells_at (by omega) | exact bcells_get (by omega) | exact icells_get (by omega) | exact tcells_get (by omega) | exact ucells_get (by omega)) | exact cell_rd (rd_old (by assumption) rfl) (by first | exact bcells_at (by omega) | exact ucells_at (by omega) | exact icells_at (by omega) | exact tcells_at (by omega) | exact bcells_get (by omega) | exact icells_get (by omega) | exact tcells_get (by omega) | exact ucells_get (by omega)) | exact cell_old (by assumption) (by simp [fps]))) ?_
    refine vl_on rfl rfl rfl rfl ?_
    refine vl_val rfl (.some rfl) (val_lenSl Try.runUnderlying56 rfl) ?_
    refine vl_on rfl rfl rfl rfl ?_
    refine vl_val rfl (.some rfl) (val_gt rfl rfl) ?_
    refine vl_val rfl (.some rfl) (val_pick rfl rfl) ?_
    refine vl_nil ?_
    refine vc_cond rfl (fun hc0 => ?_) (fun hc0 => ?_)
    · (try replace hc0 := of_decide_eq_true hc0)
      refine vc_seq ?_
      refine vc_region ?_
      refine vl_val rfl (.some rfl) (val_assign rfl) ?_
      refine vl_nil ?_
      refine vc_ret ?_
      refine ⟨_, [], _, res1 Try.results37 rfl, .nil, ?_⟩
      show _ = _; rw [decide_eq_false (fun h => by have h1 := h.1; have h2 := h.2.1; omega)]
    · (try replace hc0 := of_decide_eq_false hc0)
      refine vc_skip ?_
      refine vc_seq ?_
      refine vc_seq ?_
      refine vc_region ?_
      refine vl_val rfl (.some rfl) (by first | exact val_fieldAddr Try.runUnderlying64 rfl Try.sizeOf56 rfl | exact val_fieldAddrR Try.runUnderlying64 rfl Try.sizeOf56 rfl) ?_
      refine vl_val rfl (.some rfl) (val_load Try.isAgg56 rfl (by first | exact cell_cells (by repeat (first | exact .head | apply In.tail | apply Take.tail | apply Upd.tail)) rfl | exact cell_rd (rd_sl (by repeat (first | exact .head | apply In.tail | apply Take.tail | apply Upd.tail))) (by first | exact bcells_at (by omega) | exact ucells_at (by omega) | exact icells_at (by omega) | exact tcells_at (by omega) | exact bcells_get (by omega) | exact icells_get (by omega) | exact tcells_get (by omega) | exact ucells_get (by omega)) | exact cell_rd (rd_old (by assumption) rfl) (by first | exact bcells_at (by omega) | exact ucells_at (by omega) | exact icells_at (by omega) | exact tcells_at (by omega) | exact bcells_get (by omega) | exact icells_get (by omega) | exact tcells_get (by omega) | exact ucells_get (by omega)) | exact cell_old (by assumption) (by simp [fps]))) ?_
      refine vl_val rfl (.some rfl) (val_lenSl Try.runUnderlying56 rfl) ?_
      refine vl_val rfl (.some rfl) (val_move rfl) ?_
      refine vl_nil ?_
      refine vc_block ?_
      refine vc_loopw (fun k E H => ∃ i : Nat, i ≤ il.length ∧ k = il.length - i ∧ (∀ j, j < i → 0 ≤ il.getD j 0 ∧ il.getD j 0 < 512 ∧ (nl.getD j false = true → il.getD j 0 = 0)) ∧ E = [(1, .pointer (some ⟨r1, 0, none⟩)), (19, .slice Ai il.length ci), (20, .int .i64 il.length), (21, .int .i64 i)] ∧ H = [cells r1 [.slice An nl.length cn, .slice Ai il.length ci] 64]) (il.length) ⟨_, _, _, ⟨0, by omega, rfl, fun j hj => absurd hj (by omega), rfl, rfl⟩, (by repeat (first | exact trivial | refine ⟨rfl, ?_⟩ | refine ⟨le_item rfl (by first | rfl | (congr 1; omega) | (simp; done) | (simp; omega)), ?_⟩)), (by repeat (first | exact .nil | (apply Sub.cons; · repeat (first | exact .head | apply Take.tail))))⟩ ?_
      intro k E H hI
      obtain ⟨i, hil, rfl, hall, rfl, rfl⟩ := hI
      refine vc_seq ?_
      refine vc_region ?_
      refine vl_val rfl (.some rfl) (val_lt rfl rfl) ?_
      refine vl_nil ?_
      refine vc_seq ?_
      refine vc_cond rfl (fun hc1 => ?_) (fun hc1 => ?_)
      · (try replace hc1 := of_decide_eq_true hc1)
        refine vc_skip ?_
        refine vc_seq ?_
        refine vc_block ?_
        refine vc_seq ?_
        refine vc_region ?_
        refine vl_val rfl (.some rfl) (val_move rfl) ?_
        refine vl_val rfl (.some rfl) (val_indexAddr Try.runUnderlying56 Try.sizeOf3 rfl rfl (by first | exact rd_sl (by repeat (first | exact .head | apply In.tail | apply Take.tail | apply Upd.tail)) | exact rd_slr (by repeat (first | exact .head | apply In.tail | apply Take.tail | apply Upd.tail)) | exact rd_old (by assumption) rfl) (by omega) (by omega) (by first | omega | (simp only [bcells_length, icells_length, ucells_length, tcells_length]; omega) | (simp only [bcells_length, icells_length, ucells_length, tcells_length, fillG_length]; omega) | (simp; omega))) ?_
        refine vl_val rfl (.some rfl) (val_load Try.isAgg3 rfl (by first | exact cell_cells (by repeat (first | exact .head | apply In.tail | apply Take.tail | apply Upd.tail)) rfl | exact cell_rd (rd_sl (by repeat (first | exact .head | apply In.tail | apply Take.tail | apply Upd.tail))) (by first | exact bcells_at (by omega) | exact ucells_at (by omega) | exact icells_at (by omega) | exact tcells_at (by omega) | exact bcells_get (by omega) | exact icells_get (by omega) | exact tcells_get (by omega) | exact ucells_get (by omega)) | exact cell_rd (rd_old (by assumption) rfl) (by first | exact bcells_at (by omega) | exact ucells_at (by omega) | exact icells_at (by omega) | exact tcells_at (by omega) | exact bcells_get (by omega) | exact icells_get (by omega) | exact tcells_get (by omega) | exact ucells_get (by omega)) | exact cell_old (by assumption) (by simp [fps]))) ?_
        refine vl_val rfl (.some rfl) (val_assign rfl) ?_
        refine vl_val rfl (.some rfl) (val_assign rfl) ?_
        refine vl_nil ?_
        refine vc_seq ?_
        refine vc_region ?_
        refine vl_val rfl (.some rfl) (val_move rfl) ?_
        refine vl_val rfl (.some rfl) (val_lt rfl rfl) ?_
        refine vl_val rfl (.some rfl) (val_move rfl) ?_
        refine vl_split (t := 28) rfl (fun hg28 => ?_) (fun hg28 => ?_)
        · (try replace hg28 := of_decide_eq_true hg28)
          refine vl_off rfl rfl rfl rfl (.some rfl) ?_
          refine vl_off rfl rfl rfl rfl (.some rfl) ?_
          refine vl_val rfl (.some rfl) (val_pick rfl rfl) ?_
          refine vl_val rfl (.some rfl) (val_move rfl) ?_
          refine vl_off rfl rfl rfl rfl (.some rfl) ?_
          refine vl_off rfl rfl rfl rfl (.some rfl) ?_
          refine vl_off rfl rfl rfl rfl (.some rfl) ?_
          refine vl_off rfl rfl rfl rfl (.some rfl) ?_
          refine vl_off rfl rfl rfl rfl (.some rfl) ?_
          refine vl_off rfl rfl rfl rfl (.some rfl) ?_
          refine vl_offU rfl rfl rfl rfl (.some rfl) ?_
          refine vl_offU rfl rfl rfl rfl (.some rfl) ?_
          refine vl_off rfl rfl rfl rfl (.some rfl) ?_
          refine vl_val rfl (.some rfl) (val_pick rfl rfl) ?_
          refine vl_nil ?_
          refine vc_cond rfl (fun _ => ?_) (fun h => by cases h)
          refine vc_seq ?_
          refine vc_region ?_
          refine vl_val rfl (.some rfl) (val_assign rfl) ?_
          refine vl_nil ?_
          refine vc_ret ?_
          refine ⟨_, [], _, res1 Try.results37 rfl, .nil, ?_⟩
          show _ = _; rw [decide_eq_false (fun h => by
            obtain ⟨h4, h5, h6⟩ := h.2.2 i (by omega)
            first | omega | (have := h6 (by assumption); omega))]
        · (try replace hg28 := of_decide_eq_false hg28)
          refine vl_on rfl rfl rfl rfl ?_
          refine vl_val rfl (.some rfl) (val_move rfl) ?_
          refine vl_on rfl rfl rfl rfl ?_
          refine vl_val rfl (.some rfl) (val_ge rfl rfl) ?_
          refine vl_val rfl (.some rfl) (val_pick rfl rfl) ?_
          refine vl_val rfl (.some rfl) (val_move rfl) ?_
          refine vl_split (t := 32) rfl (fun hg32 => ?_) (fun hg32 => ?_)
          · (try replace hg32 := of_decide_eq_true hg32)
            refine vl_off rfl rfl rfl rfl (.some rfl) ?_
            refine vl_off rfl rfl rfl rfl (.some rfl) ?_
            refine vl_off rfl rfl rfl rfl (.some rfl) ?_
            refine vl_off rfl rfl rfl rfl (.some rfl) ?_
            refine vl_off rfl rfl rfl rfl (.some rfl) ?_
            refine vl_off rfl rfl rfl rfl (.some rfl) ?_
            refine vl_offU rfl rfl rfl rfl (.some rfl) ?_
            refine vl_offU rfl rfl rfl rfl (.some rfl) ?_
            refine vl_off rfl rfl rfl rfl (.some rfl) ?_
            refine vl_val rfl (.some rfl) (val_pick rfl rfl) ?_
            refine vl_nil ?_
            refine vc_cond rfl (fun _ => ?_) (fun h => by cases h)
            refine vc_seq ?_
            refine vc_region ?_
            refine vl_val rfl (.some rfl) (val_assign rfl) ?_
            refine vl_nil ?_
            refine vc_ret ?_
            refine ⟨_, [], _, res1 Try.results37 rfl, .nil, ?_⟩
            show _ = _; rw [decide_eq_false (fun h => by
              obtain ⟨h4, h5, h6⟩ := h.2.2 i (by omega)
              first | omega | (have := h6 (by assumption); omega))]
          · (try replace hg32 := of_decide_eq_false hg32)
            refine vl_on rfl rfl rfl rfl ?_
            refine vl_val rfl (.some rfl) (by first | exact val_fieldAddr Try.runUnderlying64 rfl Try.sizeOf55 rfl | exact val_fieldAddrR Try.runUnderlying64 rfl Try.sizeOf55 rfl) ?_
            refine vl_on rfl rfl rfl rfl ?_
            refine vl_val rfl (.some rfl) (val_load Try.isAgg55 rfl (by first | exact cell_cells (by repeat (first | exact .head | apply In.tail | apply Take.tail | apply Upd.tail)) rfl | exact cell_rd (rd_sl (by repeat (first | exact .head | apply In.tail | apply Take.tail | apply Upd.tail))) (by first | exact bcells_at (by omega) | exact ucells_at (by omega) | exact icells_at (by omega) | exact tcells_at (by omega) | exact bcells_get (by omega) | exact icells_get (by omega) | exact tcells_get (by omega) | exact ucells_get (by omega)) | exact cell_rd (rd_old (by assumption) rfl) (by first | exact bcells_at (by omega) | exact ucells_at (by omega) | exact icells_at (by omega) | exact tcells_at (by omega) | exact bcells_get (by omega) | exact icells_get (by omega) | exact tcells_get (by omega) | exact ucells_get (by omega)) | exact cell_old (by assumption) (by simp [fps]))) ?_
            refine vl_on rfl rfl rfl rfl ?_
            refine vl_val rfl (.some rfl) (val_move rfl) ?_
            refine vl_on rfl rfl rfl rfl ?_
            refine vl_val rfl (.some rfl) (val_indexAddr Try.runUnderlying55 Try.sizeOf4 rfl rfl (by first | exact rd_sl (by repeat (first | exact .head | apply In.tail | apply Take.tail | apply Upd.tail)) | exact rd_slr (by repeat (first | exact .head | apply In.tail | apply Take.tail | apply Upd.tail)) | exact rd_old (by assumption) rfl) (by omega) (by omega) (by first | omega | (simp only [bcells_length, icells_length, ucells_length, tcells_length]; omega) | (simp only [bcells_length, icells_length, ucells_length, tcells_length, fillG_length]; omega) | (simp; omega))) ?_
            refine vl_on rfl rfl rfl rfl ?_
            refine vl_val rfl (.some rfl) (val_load Try.isAgg4 rfl (by first | exact cell_cells (by repeat (first | exact .head | apply In.tail | apply Take.tail | apply Upd.tail)) rfl | exact cell_rd (rd_sl (by repeat (first | exact .head | apply In.tail | apply Take.tail | apply Upd.tail))) (by first | exact bcells_at (by omega) | exact ucells_at (by omega) | exact icells_at (by omega) | exact tcells_at (by omega) | exact bcells_get (by omega) | exact icells_get (by omega) | exact tcells_get (by omega) | exact ucells_get (by omega)) | exact cell_rd (rd_old (by assumption) rfl) (by first | exact bcells_at (by omega) | exact ucells_at (by omega) | exact icells_at (by omega) | exact tcells_at (by omega) | exact bcells_get (by omega) | exact icells_get (by omega) | exact tcells_get (by omega) | exact ucells_get (by omega)) | exact cell_old (by assumption) (by simp [fps]))) ?_
            refine vl_on rfl rfl rfl rfl ?_
            refine vl_val rfl (.some rfl) (val_move rfl) ?_
            refine vl_split (t := 38) rfl (fun hg38 => ?_) (fun hg38 => ?_)
            · (try replace hg38 := of_decide_eq_true hg38)
              refine vl_on rfl rfl rfl rfl ?_
              refine vl_val rfl (.some rfl) (val_move rfl) ?_
              refine vl_on rfl rfl rfl rfl ?_
              refine vl_val rfl (.some rfl) (val_ne rfl rfl) ?_
              refine vl_on rfl rfl rfl rfl ?_
              refine vl_val rfl (.some rfl) (val_pick rfl rfl) ?_
              refine vl_val rfl (.some rfl) (val_pick rfl rfl) ?_
              refine vl_nil ?_
              refine vc_cond rfl (fun hc2 => ?_) (fun hc2 => ?_)
              · (try replace hc2 := of_decide_eq_true hc2)
                refine vc_seq ?_
                refine vc_region ?_
                refine vl_val rfl (.some rfl) (val_assign rfl) ?_
                refine vl_nil ?_
                refine vc_ret ?_
                refine ⟨_, [], _, res1 Try.results37 rfl, .nil, ?_⟩
                show _ = _; rw [decide_eq_false (fun h => by
                  obtain ⟨h4, h5, h6⟩ := h.2.2 i (by omega)
                  first | omega | (have := h6 (by assumption); omega))]
              · (try replace hc2 := of_decide_eq_false hc2)
                refine vc_skip ?_
                refine vc_region ?_
                refine vl_val rfl (.some rfl) (val_add rfl rfl (by first | exact w_i64 (by omega) (by omega) | rfl)) ?_
                refine vl_val rfl (.some rfl) (val_move rfl) ?_
                refine vl_nil ?_
                exact ⟨il.length - (i + 1), _, _, _, by omega, (by repeat (first | exact trivial | refine ⟨rfl, ?_⟩ | refine ⟨le_item rfl (by first | rfl | (congr 1; omega) | (simp; done) | (simp; omega)), ?_⟩)), (by repeat (first | exact .nil | (apply Sub.cons; · repeat (first | exact .head | apply Take.tail)))), ⟨i + 1, by omega, rfl, fun j hj => by
                  rcases Nat.lt_or_ge j i with h | h
                  · exact hall j h
                  · obtain rfl : j = i := by omega
                    refine ⟨by omega, by omega, fun hb => ?_⟩
                    first | omega | (rw [hb] at hg38; cases hg38), rfl, rfl⟩⟩
            · (try replace hg38 := of_decide_eq_false hg38)
              refine vl_off rfl rfl rfl rfl (.some rfl) ?_
              refine vl_off rfl rfl rfl rfl (.some rfl) ?_
              refine vl_on rfl rfl rfl rfl ?_
              refine vl_val rfl (.some rfl) (val_pick rfl rfl) ?_
              refine vl_val rfl (.some rfl) (val_pick rfl rfl) ?_
              refine vl_nil ?_
              refine vc_cond rfl (fun h => by cases h) (fun _ => ?_)
              refine vc_skip ?_
              refine vc_region ?_
              refine vl_val rfl (.some rfl) (val_add rfl rfl (by first | exact w_i64 (by omega) (by omega) | rfl)) ?_
              refine vl_val rfl (.some rfl) (val_move rfl) ?_
              refine vl_nil ?_
              exact ⟨il.length - (i + 1), _, _, _, by omega, (by repeat (first | exact trivial | refine ⟨rfl, ?_⟩ | refine ⟨le_item rfl (by first | rfl | (congr 1; omega) | (simp; done) | (simp; omega)), ?_⟩)), (by repeat (first | exact .nil | (apply Sub.cons; · repeat (first | exact .head | apply Take.tail)))), ⟨i + 1, by omega, rfl, fun j hj => by
                rcases Nat.lt_or_ge j i with h | h
                · exact hall j h
                · obtain rfl : j = i := by omega
                  refine ⟨by omega, by omega, fun hb => ?_⟩
                  first | omega | (rw [hb] at hg38; cases hg38), rfl, rfl⟩⟩
      · (try replace hc1 := of_decide_eq_false hc1)
        refine vc_exit ?_
        refine vc_seq ?_
        refine vc_region ?_
        refine vl_val rfl (.some rfl) (val_assign rfl) ?_
        refine vl_nil ?_
        refine vc_ret ?_
        refine ⟨_, [], _, res1 Try.results37 rfl, .nil, ?_⟩
        show _ = _; rw [decide_eq_true ⟨by omega, by omega, fun j hj => hall j (by omega)⟩]
set_option maxRecDepth 20000 in
theorem lPlain (An Ai : Option Addr) (cn ci n m : Nat) (w : World) : FnV Try.prog 33 [.agg #[.slice An n cn, .slice Ai m ci]] (.agg #[.slice An n cn, .slice Ai m ci]) w := by
  refine fn_enter Try.func33 rfl Try.ntmps33 rfl ?_
  refine vc_seq ?_
  refine vc_region ?_
  refine vl_box rfl rfl (.some rfl) rfl (fun r1 => ?_)
  refine vl_alloc rfl rfl (.some rfl) Try.zeroValue64 (fun r2 => ?_)
  refine vl_nil ?_
  refine vc_seq ?_
  refine vc_region ?_
  refine vl_val rfl (.some rfl) (by first | exact val_fieldAddr Try.runUnderlying58 rfl Try.sizeOf55 rfl | exact val_fieldAddrR Try.runUnderlying58 rfl Try.sizeOf55 rfl) ?_
  refine vl_val rfl (.some rfl) (val_load Try.isAgg55 rfl (by first | exact cell_cells (by repeat (first | exact .head | apply In.tail | apply Take.tail | apply Upd.tail)) rfl | exact cell_rd (rd_sl (by repeat (first | exact .head | apply In.tail | apply Take.tail | apply Upd.tail))) (by first | exact bcells_at (by omega) | exact ucells_at (by omega) | exact icells_at (by omega) | exact tcells_at (by omega) | exact bcells_get (by omega) | exact icells_get (by omega) | exact tcells_get (by omega) | exact ucells_get (by omega)) | exact cell_rd (rd_old (by assumption) rfl) (by first | exact bcells_at (by omega) | exact ucells_at (by omega) | exact icells_at (by omega) | exact tcells_at (by omega) | exact bcells_get (by omega) | exact icells_get (by omega) | exact tcells_get (by omega) | exact ucells_get (by omega)) | exact cell_old (by assumption) (by simp [fps]))) ?_
  refine vl_val rfl (.some rfl) (by first | exact val_fieldAddr Try.runUnderlying58 rfl Try.sizeOf56 rfl | exact val_fieldAddrR Try.runUnderlying58 rfl Try.sizeOf56 rfl) ?_
  refine vl_val rfl (.some rfl) (val_load Try.isAgg56 rfl (by first | exact cell_cells (by repeat (first | exact .head | apply In.tail | apply Take.tail | apply Upd.tail)) rfl | exact cell_rd (rd_sl (by repeat (first | exact .head | apply In.tail | apply Take.tail | apply Upd.tail))) (by first | exact bcells_at (by omega) | exact ucells_at (by omega) | exact icells_at (by omega) | exact tcells_at (by omega) | exact bcells_get (by omega) | exact icells_get (by omega) | exact tcells_get (by omega) | exact ucells_get (by omega)) | exact cell_rd (rd_old (by assumption) rfl) (by first | exact bcells_at (by omega) | exact ucells_at (by omega) | exact icells_at (by omega) | exact tcells_at (by omega) | exact bcells_get (by omega) | exact icells_get (by omega) | exact tcells_get (by omega) | exact ucells_get (by omega)) | exact cell_old (by assumption) (by simp [fps]))) ?_
  refine vl_val rfl (.some rfl) (val_buildSt (pl := #[(0, 1), (1, 1)]) (cs := #[.slice An n cn, .slice Ai m ci]) Try.runUnderlying64 Try.zeroValue64 (fun w => by kernel_rfl) rfl rfl) ?_
  first | refine vl_store rfl rfl .none rfl rfl Try.sizeOf64 rfl (by repeat (first | exact .head | apply In.tail | apply Take.tail | apply Upd.tail)) (by first | decide | exact Nat.le_refl _ | exact Nat.le_of_ble_eq_true rfl | (simp; omega)) ?_ | refine vl_storeSl rfl rfl .none rfl rfl Try.sizeOf64 rfl (by simp [Value.cells]) (by repeat (first | exact .head | apply In.tail | apply Take.tail | apply Upd.tail)) (by first | decide | (simp [Value.cells]; omega)) ?_
  refine vl_nil ?_
  refine vc_ret ?_
  refine ⟨_, [], _, resC Try.results33 rfl (whole_agg Try.isAgg64 Try.sizeOf64 (cells_whole (by repeat (first | exact .head | apply In.tail | apply Take.tail | apply Upd.tail))) rfl), .nil, ?_⟩
  rfl
/-- The lengths of the numbers below 256. -/
abbrev len8 : ByteArray := ⟨((List.range 256).map fun u => UInt8.ofNat (bl u)).toArray⟩
theorem len8_at {u : Nat} (h : u < 256) : bt len8 u = bl u := by
  unfold bt
  rw [List.getD_eq_getElem?_getD]
  simp [h]
  have := bl_small (u := u) (by omega)
  omega
theorem bl_shift {u : Nat} (h : 256 ≤ u) : bl u = bl (u / 256) + 8 := by
  have h1 : bl u ≤ bl (u / 256) + 8 := bl_le.2 (by
    have := bl_le.1 (Nat.le_refl (bl (u / 256)))
    rw [Nat.pow_add]
    generalize 2 ^ bl (u / 256) = q at this ⊢
    omega)
  have h8 : 8 ≤ bl u := by
    rcases Nat.lt_or_ge (bl u) 8 with h' | h'
    · have := bl_le.1 (show bl u ≤ 8 by omega)
      omega
    · exact h'
  have h2 : bl (u / 256) ≤ bl u - 8 := bl_le.2 (by
    have := bl_le.1 (Nat.le_refl (bl u))
    rw [show bl u = (bl u - 8) + 8 by omega, Nat.pow_add] at this
    generalize 2 ^ (bl u - 8) = q at this ⊢
    omega)
  omega
theorem bt_len {s : ByteArray} {k : Nat} (hs : s = len8) (h : k < 256) : bt s k = bl k := by rw [hs]; exact len8_at h
set_option maxRecDepth 20000 in
theorem mLen64 (u : Nat) (hu : u < 65536) (w : World) : FnV Try.prog 83 [.int .u64 u] (.int .i64 (bl u)) w := by
  refine fn_enter Try.func83 rfl Try.ntmps83 rfl ?_
  refine vc_seq ?_
  refine vc_region ?_
  refine vl_val rfl (.some rfl) (val_assign rfl) ?_
  refine vl_nil ?_
  refine vc_seq ?_
  refine vc_seq ?_
  refine vc_region ?_
  refine vl_val rfl (.some rfl) (val_move rfl) ?_
  refine vl_val rfl (.some rfl) (val_ge rfl rfl) ?_
  refine vl_nil ?_
  refine vc_cond rfl (fun hc0 => False.elim (by (try replace hc0 := of_decide_eq_true hc0); omega)) (fun hc0 => ?_)
  (try replace hc0 := of_decide_eq_false hc0)
  refine vc_skip ?_
  refine vc_seq ?_
  refine vc_seq ?_
  refine vc_region ?_
  refine vl_val rfl (.some rfl) (val_move rfl) ?_
  refine vl_val rfl (.some rfl) (val_ge rfl rfl) ?_
  refine vl_nil ?_
  refine vc_cond rfl (fun hc1 => False.elim (by (try replace hc1 := of_decide_eq_true hc1); omega)) (fun hc1 => ?_)
  (try replace hc1 := of_decide_eq_false hc1)
  refine vc_skip ?_
  refine vc_seq ?_
  refine vc_seq ?_
  refine vc_region ?_
  refine vl_val rfl (.some rfl) (val_move rfl) ?_
  refine vl_val rfl (.some rfl) (val_ge rfl rfl) ?_
  refine vl_nil ?_
  refine vc_cond rfl (fun hc2 => ?_) (fun hc2 => ?_)
  · (try replace hc2 := of_decide_eq_true hc2)
    obtain ⟨k, hk, hkl, hks⟩ : ∃ k : Nat, (u : Int) / 256 = k ∧ k < 256 ∧ bl u = bl k + 8 := ⟨u / 256, by omega, by omega, bl_shift (by omega)⟩
    have hkb := bl_small (u := k) (by omega)
    refine vc_seq ?_
    refine vc_region ?_
    refine vl_val rfl (.some rfl) (val_move rfl) ?_
    refine vl_val rfl (.some rfl) (val_shr rfl rfl (by decide) (show _ = (k : Int) by rw [← hk]; exact shr_lit 256 rfl (by decide))) ?_
    refine vl_val rfl (.some rfl) (val_assign rfl) ?_
    refine vl_nil ?_
    refine vc_region ?_
    refine vl_val rfl (.some rfl) (val_move rfl) ?_
    refine vl_val rfl (.some rfl) (val_add rfl rfl (by first | exact w_i64 (by omega) (by omega) | rfl)) ?_
    refine vl_val rfl (.some rfl) (val_assign rfl) ?_
    refine vl_nil ?_
    refine vc_seq ?_
    refine vc_region ?_
    refine vl_val rfl (.some rfl) (val_move rfl) ?_
    refine vl_val rfl (.some rfl) (val_move rfl) ?_
    refine vl_val rfl (.some rfl) (val_convInt Try.runUnderlying96 Try.runUnderlying5 rfl (w_u8 (by omega) (by omega))) ?_
    refine vl_val rfl (.some rfl) (val_indexStr Try.runUnderlying9 rfl rfl (by omega) (Int.lt_of_lt_of_le (b := 256) (by omega) (by decide +kernel))) ?_
    refine vl_val rfl (.some rfl) (val_convInt Try.runUnderlying5 Try.runUnderlying3 rfl (show _ = ((bl k : Nat) : Int) by rw [Int.toNat_natCast, bt_len (by decide +kernel) hkl, w_i64 (by omega) (by omega)])) ?_
    refine vl_val rfl (.some rfl) (val_add rfl rfl (by first | exact w_i64 (by omega) (by omega) | rfl)) ?_
    refine vl_val rfl (.some rfl) (val_assign rfl) ?_
    refine vl_nil ?_
    refine vc_ret ?_
    refine ⟨_, [], _, res1 Try.results83 rfl, .nil, ?_⟩
    show Value.int .i64 _ = Value.int .i64 _
    congr 1
    omega
  · (try replace hc2 := of_decide_eq_false hc2)
    obtain ⟨k, hk, hkl, hks⟩ : ∃ k : Nat, (u : Int) = k ∧ k < 256 ∧ bl u = bl k := ⟨u, rfl, by omega, rfl⟩
    have hkb := bl_small (u := k) (by omega)
    rw [hk]
    refine vc_skip ?_
    refine vc_seq ?_
    refine vc_region ?_
    refine vl_val rfl (.some rfl) (val_move rfl) ?_
    refine vl_val rfl (.some rfl) (val_move rfl) ?_
    refine vl_val rfl (.some rfl) (val_convInt Try.runUnderlying96 Try.runUnderlying5 rfl (w_u8 (by omega) (by omega))) ?_
    refine vl_val rfl (.some rfl) (val_indexStr Try.runUnderlying9 rfl rfl (by omega) (Int.lt_of_lt_of_le (b := 256) (by omega) (by decide +kernel))) ?_
    refine vl_val rfl (.some rfl) (val_convInt Try.runUnderlying5 Try.runUnderlying3 rfl (show _ = ((bl k : Nat) : Int) by rw [Int.toNat_natCast, bt_len (by decide +kernel) hkl, w_i64 (by omega) (by omega)])) ?_
    refine vl_val rfl (.some rfl) (val_add rfl rfl (by first | exact w_i64 (by omega) (by omega) | rfl)) ?_
    refine vl_val rfl (.some rfl) (val_assign rfl) ?_
    refine vl_nil ?_
    refine vc_ret ?_
    refine ⟨_, [], _, res1 Try.results83 rfl, .nil, ?_⟩
    show Value.int .i64 _ = Value.int .i64 _
    congr 1
    omega
set_option maxRecDepth 20000 in
theorem mLen (u : Nat) (hu : u < 65536) (w : World) : FnV Try.prog 57 [.int .u64 u] (.int .i64 (bl u)) w := by
  refine fn_enter Try.func57 rfl Try.ntmps57 rfl ?_
  refine vc_seq ?_
  refine vc_region ?_
  refine vl_val rfl (.some rfl) (val_assign rfl) ?_
  refine vl_nil ?_
  refine vc_seq ?_
  refine vc_cond rfl (fun h => by cases h) (fun _ => ?_)
  refine vc_skip ?_
  refine vc_seq ?_
  refine vc_region ?_
  refine vl_val rfl (.some rfl) (val_move rfl) ?_
  refine vl_callV rfl rfl (.some rfl) Try.call83 rfl (fun w hw => mLen64 _ (by omega) w) ?_
  refine vl_val rfl (.some rfl) (val_assign rfl) ?_
  refine vl_nil ?_
  refine vc_ret ?_
  refine ⟨_, [], _, res1 Try.results57 rfl, .nil, ?_⟩
  rfl

end Go.Proofs.Ytibfngjfjddaiaa.K
