/- Walks of the program's functions, printed by a program of this session; Lean checks them. -/
import Derived.Test.YtclknendeeljaaaYkh
namespace Go.Proofs.Ytclknendeeljaaa.K
open Go Go.RowKit Go.Proofs
set_option linter.unusedVariables false
set_option linter.unusedSimpArgs false


theorem keptV_none {t : Nat} {S : List (Nat × Nat)} {V : List (List Nat)} {f : Nat → Nat} (h : KeptV t S V (fun _ => False)) : KeptV t S V (fun x => ∃ j, j < 0 ∧ x = f j) := h.congr fun x => ⟨fun h => h.elim, fun ⟨j, h, _⟩ => by omega⟩

set_option maxRecDepth 20000 in
theorem mBad (T Kk Mm : Int) (A : Option Addr) (c : Nat) (S : List (Nat × Nat)) (hS : S.length < 9223372036854775808) (hb : ∀ s ∈ S, s.1 < 18446744073709551616 ∧ s.2 < 18446744073709551616) (w : World) (hr : Reads w A (seedC S)) (hg : ¬ goodK T S Kk Mm) (B : Option Addr) (d : Nat) (l : List Nat) (hll : l.length ≤ 9223372036854775807) (hul : ∀ x ∈ l, x < 18446744073709551616) (Bm : Option Addr) (dm : Nat) (m : List Nat) (hml : m.length ≤ 9223372036854775807) (hum : ∀ x ∈ m, x < 18446744073709551616) : FnV Try.prog 7 [.agg #[.int .i64 T, .slice A S.length c, .int .i64 Kk, .int .i64 Mm], .slice B l.length d, .slice Bm m.length dm] (.bool true) w := by
  refine fn_enter Try.func7 rfl Try.ntmps7 rfl ?_
  refine vc_seq ?_
  refine vc_region ?_
  refine vl_box rfl rfl (.some rfl) rfl (fun r3 => ?_)
  refine vl_val rfl (.some rfl) (val_assign rfl) ?_
  refine vl_nil ?_
  refine vc_seq ?_
  refine vc_drawsS [0, 2, 4, 5] [] [0, 2, 1, 3, 4, 5] [cells r3 [.int .i64 T, .slice A S.length c, .int .i64 Kk, .int .i64 Mm] 24] (by repeat (first | exact .nil | (apply Sub.cons; · repeat (first | exact .head | apply Take.tail)))) rfl (by kernel_rfl) (fun _ _ _ h => h) ?_
  refine vd_val rfl rfl rfl (.some rfl) (val_loadAgg Try.isAgg24 Try.sizeOf24 rfl (by first | exact cells_whole (by repeat (first | exact .head | apply In.tail | apply Take.tail | apply Upd.tail)) | exact cells_part (by repeat (first | exact .head | apply In.tail | apply Take.tail | apply Upd.tail)) rfl) rfl) ?_
  refine vd_val rfl rfl rfl (.some rfl) (val_loadAgg Try.isAgg24 Try.sizeOf24 rfl (by first | exact cells_whole (by repeat (first | exact .head | apply In.tail | apply Take.tail | apply Upd.tail)) | exact cells_part (by repeat (first | exact .head | apply In.tail | apply Take.tail | apply Upd.tail)) rfl) rfl) ?_
  refine vd_op rfl rfl ?_
  refine vl_callV rfl rfl (.some rfl) Try.call12 rfl (fun w hw => kNewBad T Kk Mm A c S hS hb w (rdw (rd_old hr rfl) hw) hg) ?_
  refine vl_nil ?_
  refine ⟨fun _ => ⟨_, (by repeat (first | exact .nil | (apply Sub.cons; · repeat (first | exact .head | apply Take.tail))))⟩, ?_⟩
  refine vd_op rfl rfl ?_
  refine vl_callV rfl rfl (.some rfl) Try.call12 rfl (fun w hw => kNewBad T Kk Mm A c S hS hb w (rdw (rd_old hr rfl) hw) hg) ?_
  refine vl_nil ?_
  refine ⟨fun _ => ⟨_, (by repeat (first | exact .nil | (apply Sub.cons; · repeat (first | exact .head | apply Take.tail))))⟩, ?_⟩
  refine vd_val rfl rfl rfl (.some rfl) (val_assign rfl) ?_
  refine vd_val rfl rfl rfl (.some rfl) (val_assign rfl) ?_
  refine vd_nil ?_
  refine vc_seq ?_
  refine vc_seq ?_
  refine vc_region ?_
  refine vl_val rfl (.some rfl) (val_move rfl) ?_
  refine vl_val rfl (.some rfl) (val_opO rfl rfl guard_ptr (bin_nil_eq Try.runUnderlying26)) ?_
  refine vl_val rfl (.some rfl) (val_move rfl) ?_
  refine vl_off rfl rfl rfl rfl (.some rfl) ?_
  refine vl_off rfl rfl rfl rfl (.some rfl) ?_
  refine vl_val rfl (.some rfl) (val_pick rfl rfl) ?_
  refine vl_val rfl (.some rfl) (val_move rfl) ?_
  refine vl_off rfl rfl rfl rfl (.some rfl) ?_
  refine vl_off rfl rfl rfl rfl (.some rfl) ?_
  refine vl_off rfl rfl rfl rfl (.some rfl) ?_
  refine vl_off rfl rfl rfl rfl (.some rfl) ?_
  refine vl_off rfl rfl rfl rfl (.some rfl) ?_
  refine vl_off rfl rfl rfl rfl (.some rfl) ?_
  refine vl_val rfl (.some rfl) (val_pick rfl rfl) ?_
  refine vl_nil ?_
  refine vc_cond rfl (fun _ => ?_) (fun h => by cases h)
  refine vc_seq ?_
  refine vc_region ?_
  refine vl_callV rfl rfl (.some rfl) Try.call14 rfl (fun w hw => kLives w) ?_
  refine vl_val rfl (.some rfl) (val_assign rfl) ?_
  refine vl_nil ?_
  refine vc_ret ?_
  refine ⟨_, [], _, res1 Try.results7 rfl, .nil, ?_⟩
  rfl
set_option maxRecDepth 20000 in
set_option maxHeartbeats 2000000 in
theorem mGood (t : Nat) (Kk Mm : Int) (A : Option Addr) (c : Nat) (S : List (Nat × Nat)) (hS : S.length < 9223372036854775808) (hb : ∀ s ∈ S, s.1 < 18446744073709551616 ∧ s.2 < 18446744073709551616) (w : World) (hr : Reads w A (seedC S)) (hg : goodK t S Kk Mm) (B : Option Addr) (d : Nat) (l : List Nat) (hll : l.length ≤ 9223372036854775807) (hul : ∀ x ∈ l, x < 18446744073709551616) (Bm : Option Addr) (dm : Nat) (m : List Nat) (hml : m.length ≤ 9223372036854775807) (hum : ∀ x ∈ m, x < 18446744073709551616) (hrl : Reads w B (ucells l)) (hrm : Reads w Bm (ucells m)) : FnV Try.prog 7 [.agg #[.int .i64 (t : Nat), .slice A S.length c, .int .i64 Kk, .int .i64 Mm], .slice B l.length d, .slice Bm m.length dm] (.bool true) w := by
  have hk0 := keptV_new hg hb
  refine fn_enter Try.func7 rfl Try.ntmps7 rfl ?_
  refine vc_seq ?_
  refine vc_region ?_
  refine vl_box rfl rfl (.some rfl) rfl (fun r3 => ?_)
  refine vl_val rfl (.some rfl) (val_assign rfl) ?_
  refine vl_nil ?_
  refine vc_seq ?_
  refine vc_drawsS [0, 2, 4, 5] [] [0, 2, 1, 3, 4, 5] [cells r3 [.int .i64 (t : Nat), .slice A S.length c, .int .i64 Kk, .int .i64 Mm] 24] (by repeat (first | exact .nil | (apply Sub.cons; · repeat (first | exact .head | apply Take.tail)))) rfl (by kernel_rfl) (fun _ _ _ h => h) ?_
  refine vd_val rfl rfl rfl (.some rfl) (val_loadAgg Try.isAgg24 Try.sizeOf24 rfl (by first | exact cells_whole (by repeat (first | exact .head | apply In.tail | apply Take.tail | apply Upd.tail)) | exact cells_part (by repeat (first | exact .head | apply In.tail | apply Take.tail | apply Upd.tail)) rfl) rfl) ?_
  refine vd_val rfl rfl rfl (.some rfl) (val_loadAgg Try.isAgg24 Try.sizeOf24 rfl (by first | exact cells_whole (by repeat (first | exact .head | apply In.tail | apply Take.tail | apply Upd.tail)) | exact cells_part (by repeat (first | exact .head | apply In.tail | apply Take.tail | apply Upd.tail)) rfl) rfl) ?_
  refine vd_op rfl rfl ?_
  refine vl_call (C := []) rfl rfl (.some rfl) Try.call12 rfl .nil (fun w hw => qNew t Kk Mm A c S hb w (rdw (rd_old hr rfl) hw) hg) (fun v H' h => ?_)
  obtain ⟨b1, As1, cs1, Ac1, cc1, L1, rfl, hL1, rfl⟩ := h
  show VL _ _ _ _ _ (_ :: _ :: _ :: _ :: _)
  refine vl_nil ?_
  refine ⟨fun _ => ⟨_, (by repeat (first | exact .nil | (apply Sub.cons; · repeat (first | exact .head | apply Take.tail))))⟩, ?_⟩
  refine vd_op rfl rfl ?_
  refine vl_call (C := []) rfl rfl (.some rfl) Try.call12 rfl .nil (fun w hw => qNew t Kk Mm A c S hb w (rdw (rd_old hr rfl) hw) hg) (fun v H' h => ?_)
  obtain ⟨b2, As2, cs2, Ac2, cc2, L2, rfl, hL2, rfl⟩ := h
  show VL _ _ _ _ _ (_ :: _ :: _ :: _ :: _)
  refine vl_nil ?_
  refine ⟨fun _ => ⟨_, (by repeat (first | exact .nil | (apply Sub.cons; · repeat (first | exact .head | apply Take.tail))))⟩, ?_⟩
  refine vd_val rfl rfl rfl (.some rfl) (val_assign rfl) ?_
  refine vd_val rfl rfl rfl (.some rfl) (val_assign rfl) ?_
  refine vd_nil ?_
  refine vc_seq ?_
  refine vc_seq ?_
  refine vc_region ?_
  refine vl_val rfl (.some rfl) (val_move rfl) ?_
  refine vl_val rfl (.some rfl) (val_opO rfl rfl guard_ptr (bin_ptr_eq Try.runUnderlying26)) ?_
  refine vl_val rfl (.some rfl) (val_move rfl) ?_
  refine vl_on rfl rfl rfl rfl ?_
  refine vl_val rfl (.some rfl) (val_move rfl) ?_
  refine vl_on rfl rfl rfl rfl ?_
  refine vl_val rfl (.some rfl) (val_opO rfl rfl guard_ptr (bin_ptr_eq Try.runUnderlying26)) ?_
  refine vl_val rfl (.some rfl) (val_pick rfl rfl) ?_
  refine vl_val rfl (.some rfl) (val_move rfl) ?_
  refine vl_on rfl rfl rfl rfl ?_
  refine vl_val rfl (.some rfl) (val_move rfl) ?_
  refine vl_on rfl rfl rfl rfl ?_
  refine vl_val rfl (.some rfl) (val_lenSl Try.runUnderlying25 rfl) ?_
  refine vl_on rfl rfl rfl rfl ?_
  refine vl_val rfl (.some rfl) (val_move rfl) ?_
  refine vl_on rfl rfl rfl rfl ?_
  refine vl_val rfl (.some rfl) (val_lenSl Try.runUnderlying25 rfl) ?_
  refine vl_on rfl rfl rfl rfl ?_
  refine vl_val rfl (.some rfl) (val_add rfl rfl rfl) ?_
  refine vl_on rfl rfl rfl rfl ?_
  refine vl_val rfl (.some rfl) (val_gt rfl rfl) ?_
  refine vl_val rfl (.some rfl) (val_pick rfl rfl) ?_
  refine vl_nil ?_
  refine vc_cond rfl (fun hc0 => ?_) (fun hc0 => ?_)
  · (try replace hc0 := of_decide_eq_true hc0)
    refine vc_seq ?_
    refine vc_region ?_
    refine vl_callV rfl rfl (.some rfl) Try.call14 rfl (fun w hw => kLives w) ?_
    refine vl_val rfl (.some rfl) (val_assign rfl) ?_
    refine vl_nil ?_
    refine vc_ret ?_
    refine ⟨_, [], _, res1 Try.results7 rfl, .nil, ?_⟩
    rfl
  · (try replace hc0 := of_decide_eq_false hc0)
    refine vc_skip ?_
    refine vc_seq ?_
    refine vc_seq ?_
    refine vc_region ?_
    refine vl_val rfl (.some rfl) (val_move rfl) ?_
    refine vl_val rfl (.some rfl) (val_lenSl Try.runUnderlying25 rfl) ?_
    refine vl_val rfl (.some rfl) (val_move rfl) ?_
    refine vl_nil ?_
    refine vc_block ?_
    refine vc_loopw (fun q E H => ∃ (i : Nat) (V1 : List (List Nat)) (K1 : List (Sl Nat)), i ≤ l.length ∧ q = l.length - i ∧ vals K1 = V1 ∧ KeptV t S V1 (fun x => ∃ j, j < i ∧ x = l.getD j 0) ∧ E = [(1, .slice B l.length d), (2, .slice Bm m.length dm), (7, .pointer (some ⟨b1, 0, none⟩)), (8, .pointer (some ⟨b2, 0, none⟩)), (35, .slice B l.length d), (36, .int .i64 l.length), (37, .int .i64 i)] ∧ H = [SDc As1 S.length cs1 S, SDc As2 S.length cs2 S] ++ KQ b1 t As1 cs1 S Ac1 cc1 K1 ++ KQ b2 t As2 cs2 S Ac2 cc2 L2) (l.length) ⟨_, _, _, ⟨0, _, L1, by omega, rfl, hL1, keptV_none hk0, rfl, rfl⟩, (by repeat (first | exact trivial | refine ⟨rfl, ?_⟩ | refine ⟨le_item rfl (by first | rfl | (congr 1; omega) | (simp; done) | (simp; omega)), ?_⟩)), (by repeat (first | exact .nil | (apply Sub.cons; · repeat (first | exact .head | apply Take.tail))))⟩ ?_
    intro q E H hI
    obtain ⟨i, V1, K1, hi, rfl, hK1, hk1, rfl, rfl⟩ := hI
    refine vc_seq ?_
    refine vc_region ?_
    refine vl_val rfl (.some rfl) (val_lt rfl rfl) ?_
    refine vl_nil ?_
    refine vc_seq ?_
    refine vc_cond rfl (fun hc1 => ?_) (fun hc1 => ?_)
    · (try replace hc1 := of_decide_eq_true hc1)
      refine vc_skip ?_
      refine vc_seq ?_
      refine vc_block ?_
      refine vc_seq ?_
      refine vc_region ?_
      refine vl_val rfl (.some rfl) (val_indexAddr Try.runUnderlying25 Try.sizeOf30 rfl rfl (rd_old hrl rfl) (by omega) (by omega) (by rw [ucells_length]; omega)) ?_
      refine vl_val rfl (.some rfl) (val_load Try.isAgg30 rfl (by first | exact cell_cells (by repeat (first | exact .head | apply In.tail | apply Take.tail | apply Upd.tail)) rfl | exact cell_rd (rd_sl (by repeat (first | exact .head | apply In.tail | apply Take.tail | apply Upd.tail))) (by first | exact bcells_at (by omega) | exact ucells_at (by omega) | exact icells_at (by omega) | exact tcells_at (by omega) | exact bcells_get (by omega) | exact icells_get (by omega) | exact tcells_get (by omega) | exact ucells_get (by omega)) | exact cell_rd (rd_old (by assumption) rfl) (by first | exact bcells_at (by omega) | exact ucells_at (by omega) | exact icells_at (by omega) | exact tcells_at (by omega) | exact bcells_get (by omega) | exact icells_get (by omega) | exact tcells_get (by omega) | exact ucells_get (by omega)) | exact cell_old (by assumption) (by simp [fps]))) ?_
      refine vl_val rfl (.some rfl) (val_assign rfl) ?_
      refine vl_nil ?_
      refine vc_region ?_
      refine vl_val rfl (.some rfl) (val_move rfl) ?_
      refine vl_val rfl (.some rfl) (val_move rfl) ?_
      refine vl_call (C := KQ b1 t As1 cs1 S Ac1 cc1 K1) rfl rfl (.some rfl) Try.call15 rfl (by repeat (first | exact .nil | (apply Sub.cons; · repeat (first | exact .head | apply Take.tail)))) (fun w hw => qInsert hK1 hk1.ok (l.getD i 0) (hul _ (getD_mem 0 (by omega))) w (readsM_sl (A := As1) (n := S.length) (c := cs1) (sz := 2) (e := 81) (vs := seedC S) (C := KQ b1 t As1 cs1 S Ac1 cc1 K1) (by repeat (first | exact .nil | (apply Sub.cons; · repeat (first | exact .head | apply Take.tail)))) (by repeat (first | exact .head | apply In.tail | apply Take.tail | apply Upd.tail)) hw)) (fun v H' h => ?_)
      obtain ⟨K1', hK1', rfl⟩ := h
      show VL _ _ _ _ _ (_ :: _ :: _ :: _)
      refine vl_nil ?_
      refine vc_region ?_
      refine vl_val rfl (.some rfl) (val_add rfl rfl (by first | exact w_i64 (by omega) (by omega) | rfl)) ?_
      refine vl_val rfl (.some rfl) (val_move rfl) ?_
      refine vl_nil ?_
      exact ⟨(l.length - (i + 1)), _, _, _, by omega, (by repeat (first | exact trivial | refine ⟨rfl, ?_⟩ | refine ⟨le_item rfl (by first | rfl | (congr 1; omega) | (simp; done) | (simp; omega)), ?_⟩)), (by repeat (first | exact .nil | (apply Sub.cons; · repeat (first | exact .head | apply Take.tail)))), ⟨i + 1, _, K1', by omega, rfl, hK1', (hk1.ins _).congr (pk_step i), rfl, rfl⟩⟩
    · (try replace hc1 := of_decide_eq_false hc1)
      refine vc_exit ?_
      refine vc_seq ?_
      refine vc_seq ?_
      refine vc_region ?_
      refine vl_val rfl (.some rfl) (val_move rfl) ?_
      refine vl_val rfl (.some rfl) (val_lenSl Try.runUnderlying25 rfl) ?_
      refine vl_val rfl (.some rfl) (val_move rfl) ?_
      refine vl_nil ?_
      refine vc_block ?_
      obtain rfl : i = l.length := by omega
      refine vc_loopw (fun q E H => ∃ (i : Nat) (V2 : List (List Nat)) (K2 : List (Sl Nat)), i ≤ m.length ∧ q = m.length - i ∧ vals K2 = V2 ∧ KeptV t S V2 (fun x => ∃ j, j < i ∧ x = m.getD j 0) ∧ E = [(1, .slice B l.length d), (2, .slice Bm m.length dm), (7, .pointer (some ⟨b1, 0, none⟩)), (8, .pointer (some ⟨b2, 0, none⟩)), (45, .slice Bm m.length dm), (46, .int .i64 m.length), (47, .int .i64 i)] ∧ H = [SDc As1 S.length cs1 S, SDc As2 S.length cs2 S] ++ KQ b1 t As1 cs1 S Ac1 cc1 K1 ++ KQ b2 t As2 cs2 S Ac2 cc2 K2) (m.length) ⟨_, _, _, ⟨0, _, L2, by omega, rfl, hL2, keptV_none hk0, rfl, rfl⟩, (by repeat (first | exact trivial | refine ⟨rfl, ?_⟩ | refine ⟨le_item rfl (by first | rfl | (congr 1; omega) | (simp; done) | (simp; omega)), ?_⟩)), (by repeat (first | exact .nil | (apply Sub.cons; · repeat (first | exact .head | apply Take.tail))))⟩ ?_
      intro q E H hI
      obtain ⟨i, V2, K2, hi, rfl, hK2, hk2, rfl, rfl⟩ := hI
      refine vc_seq ?_
      refine vc_region ?_
      refine vl_val rfl (.some rfl) (val_lt rfl rfl) ?_
      refine vl_nil ?_
      refine vc_seq ?_
      refine vc_cond rfl (fun hc2 => ?_) (fun hc2 => ?_)
      · (try replace hc2 := of_decide_eq_true hc2)
        refine vc_skip ?_
        refine vc_seq ?_
        refine vc_block ?_
        refine vc_seq ?_
        refine vc_region ?_
        refine vl_val rfl (.some rfl) (val_indexAddr Try.runUnderlying25 Try.sizeOf30 rfl rfl (rd_old hrm rfl) (by omega) (by omega) (by rw [ucells_length]; omega)) ?_
        refine vl_val rfl (.some rfl) (val_load Try.isAgg30 rfl (by first | exact cell_cells (by repeat (first | exact .head | apply In.tail | apply Take.tail | apply Upd.tail)) rfl | exact cell_rd (rd_sl (by repeat (first | exact .head | apply In.tail | apply Take.tail | apply Upd.tail))) (by first | exact bcells_at (by omega) | exact ucells_at (by omega) | exact icells_at (by omega) | exact tcells_at (by omega) | exact bcells_get (by omega) | exact icells_get (by omega) | exact tcells_get (by omega) | exact ucells_get (by omega)) | exact cell_rd (rd_old (by assumption) rfl) (by first | exact bcells_at (by omega) | exact ucells_at (by omega) | exact icells_at (by omega) | exact tcells_at (by omega) | exact bcells_get (by omega) | exact icells_get (by omega) | exact tcells_get (by omega) | exact ucells_get (by omega)) | exact cell_old (by assumption) (by simp [fps]))) ?_
        refine vl_val rfl (.some rfl) (val_assign rfl) ?_
        refine vl_nil ?_
        refine vc_region ?_
        refine vl_val rfl (.some rfl) (val_move rfl) ?_
        refine vl_val rfl (.some rfl) (val_move rfl) ?_
        refine vl_call (C := KQ b2 t As2 cs2 S Ac2 cc2 K2) rfl rfl (.some rfl) Try.call15 rfl (by repeat (first | exact .nil | (apply Sub.cons; · repeat (first | exact .head | apply Take.tail)))) (fun w hw => qInsert hK2 hk2.ok (m.getD i 0) (hum _ (getD_mem 0 (by omega))) w (readsM_sl (A := As2) (n := S.length) (c := cs2) (sz := 2) (e := 81) (vs := seedC S) (C := KQ b2 t As2 cs2 S Ac2 cc2 K2) (by repeat (first | exact .nil | (apply Sub.cons; · repeat (first | exact .head | apply Take.tail)))) (by repeat (first | exact .head | apply In.tail | apply Take.tail | apply Upd.tail)) hw)) (fun v H' h => ?_)
        obtain ⟨K2', hK2', rfl⟩ := h
        show VL _ _ _ _ _ (_ :: _ :: _ :: _)
        refine vl_nil ?_
        refine vc_region ?_
        refine vl_val rfl (.some rfl) (val_add rfl rfl (by first | exact w_i64 (by omega) (by omega) | rfl)) ?_
        refine vl_val rfl (.some rfl) (val_move rfl) ?_
        refine vl_nil ?_
        exact ⟨(m.length - (i + 1)), _, _, _, by omega, (by repeat (first | exact trivial | refine ⟨rfl, ?_⟩ | refine ⟨le_item rfl (by first | rfl | (congr 1; omega) | (simp; done) | (simp; omega)), ?_⟩)), (by repeat (first | exact .nil | (apply Sub.cons; · repeat (first | exact .head | apply Take.tail)))), ⟨i + 1, _, K2', by omega, rfl, hK2', (hk2.ins _).congr (pk_step i), rfl, rfl⟩⟩
      · (try replace hc2 := of_decide_eq_false hc2)
        refine vc_exit ?_
        refine vc_seq ?_
        refine vc_region ?_
        refine vl_val rfl (.some rfl) (val_move rfl) ?_
        obtain rfl : i = m.length := by omega
        refine vl_call (C := KQ b1 t As1 cs1 S Ac1 cc1 K1) rfl rfl (.some rfl) Try.call28 rfl (by repeat (first | exact .nil | (apply Sub.cons; · repeat (first | exact .head | apply Take.tail)))) (fun w hw => qCopy hK1 hk1.ok w) (fun v H' h => ?_)
        obtain ⟨b3, Ac3, cc3, L3, rfl, hL3, rfl⟩ := h
        show VL _ _ _ _ _ (_ :: _ :: _ :: _ :: _ :: _ :: _)
        refine vl_val rfl (.some rfl) (val_move rfl) ?_
        refine vl_call (C := KQ b2 t As2 cs2 S Ac2 cc2 K2) rfl rfl (.some rfl) Try.call28 rfl (by repeat (first | exact .nil | (apply Sub.cons; · repeat (first | exact .head | apply Take.tail)))) (fun w hw => qCopy hK2 hk2.ok w) (fun v H' h => ?_)
        obtain ⟨b4, Ac4, cc4, L4, rfl, hL4, rfl⟩ := h
        show VL _ _ _ _ _ (_ :: _ :: _ :: _ :: _ :: _ :: _)
        refine vl_val rfl (.some rfl) (val_assign rfl) ?_
        refine vl_val rfl (.some rfl) (val_assign rfl) ?_
        refine vl_nil ?_
        refine vc_seq ?_
        refine vc_seq ?_
        refine vc_region ?_
        refine vl_val rfl (.some rfl) (val_move rfl) ?_
        refine vl_val rfl (.some rfl) (val_move rfl) ?_
        refine vl_call (C := KQ b3 t As1 cs1 S Ac3 cc3 L3 ++ KQ b2 t As2 cs2 S Ac2 cc2 K2) rfl rfl (.some rfl) Try.call20 rfl (by repeat (first | exact .nil | (apply Sub.cons; · repeat (first | exact .head | apply Take.tail)))) (fun w hw => qMerge hL3 hk1.ok hK2 hk2.ok w (readsM_sl (A := As1) (n := S.length) (c := cs1) (sz := 2) (e := 81) (vs := seedC S) (C := KQ b3 t As1 cs1 S Ac3 cc3 L3 ++ KQ b2 t As2 cs2 S Ac2 cc2 K2) (by repeat (first | exact .nil | (apply Sub.cons; · repeat (first | exact .head | apply Take.tail)))) (by repeat (first | exact .head | apply In.tail | apply Take.tail | apply Upd.tail)) hw) (readsM_sl (A := As2) (n := S.length) (c := cs2) (sz := 2) (e := 81) (vs := seedC S) (C := KQ b3 t As1 cs1 S Ac3 cc3 L3 ++ KQ b2 t As2 cs2 S Ac2 cc2 K2) (by repeat (first | exact .nil | (apply Sub.cons; · repeat (first | exact .head | apply Take.tail)))) (by repeat (first | exact .head | apply In.tail | apply Take.tail | apply Upd.tail)) hw)) (fun v H' h => ?_)
        obtain ⟨rfl, K3, hK3, rfl⟩ := h
        show VL _ _ _ _ _ (_ :: _ :: _ :: _ :: _ :: _ :: _)
        refine vl_val rfl (.some rfl) (val_net rfl rfl (rfl)) ?_
        refine vl_val rfl (.some rfl) (val_move rfl) ?_
        refine vl_on rfl rfl rfl rfl ?_
        refine vl_val rfl (.some rfl) (val_move rfl) ?_
        refine vl_on rfl rfl rfl rfl ?_
        refine vl_val rfl (.some rfl) (val_move rfl) ?_
        refine vl_on rfl rfl rfl rfl ?_
        refine vl_call (C := KQ b4 t As2 cs2 S Ac4 cc4 L4 ++ KQ b1 t As1 cs1 S Ac1 cc1 K1) rfl rfl (.some rfl) Try.call20 rfl (by repeat (first | exact .nil | (apply Sub.cons; · repeat (first | exact .head | apply Take.tail)))) (fun w hw => qMerge hL4 hk2.ok hK1 hk1.ok w (readsM_sl (A := As2) (n := S.length) (c := cs2) (sz := 2) (e := 81) (vs := seedC S) (C := KQ b4 t As2 cs2 S Ac4 cc4 L4 ++ KQ b1 t As1 cs1 S Ac1 cc1 K1) (by repeat (first | exact .nil | (apply Sub.cons; · repeat (first | exact .head | apply Take.tail)))) (by repeat (first | exact .head | apply In.tail | apply Take.tail | apply Upd.tail)) hw) (readsM_sl (A := As1) (n := S.length) (c := cs1) (sz := 2) (e := 81) (vs := seedC S) (C := KQ b4 t As2 cs2 S Ac4 cc4 L4 ++ KQ b1 t As1 cs1 S Ac1 cc1 K1) (by repeat (first | exact .nil | (apply Sub.cons; · repeat (first | exact .head | apply Take.tail)))) (by repeat (first | exact .head | apply In.tail | apply Take.tail | apply Upd.tail)) hw)) (fun v H' h => ?_)
        obtain ⟨rfl, K4, hK4, rfl⟩ := h
        show VL _ _ _ _ _ (_ :: _ :: _ :: _ :: _ :: _ :: _)
        have hk3 := hk1.mrg hk2
        have hk4 := hk2.mrg hk1
        have huq := hk3.uniq hk4 (fun x => or_comm)
        refine vl_on rfl rfl rfl rfl ?_
        refine vl_val rfl (.some rfl) (val_net rfl rfl (rfl)) ?_
        refine vl_val rfl (.some rfl) (val_pick rfl rfl) ?_
        refine vl_val rfl (.some rfl) (val_move rfl) ?_
        refine vl_on rfl rfl rfl rfl ?_
        refine vl_val rfl (.some rfl) (val_move rfl) ?_
        refine vl_on rfl rfl rfl rfl ?_
        refine vl_call (C := KQ b3 t As1 cs1 S Ac3 cc3 K3) rfl rfl (.some rfl) Try.call22 rfl (by repeat (first | exact .nil | (apply Sub.cons; · repeat (first | exact .head | apply Take.tail)))) (fun w hw => qBytes hK3 hk3.ok w) (fun v H' h => ?_)
        obtain ⟨A71, c71, rfl, rfl⟩ := h
        show VL _ _ _ _ _ (_ :: _ :: _ :: _ :: _)
        refine vl_on rfl rfl rfl rfl ?_
        refine vl_val rfl (.some rfl) (val_move rfl) ?_
        refine vl_on rfl rfl rfl rfl ?_
        refine vl_call (C := KQ b4 t As2 cs2 S Ac4 cc4 K4) rfl rfl (.some rfl) Try.call22 rfl (by repeat (first | exact .nil | (apply Sub.cons; · repeat (first | exact .head | apply Take.tail)))) (fun w hw => qBytes hK4 hk4.ok w) (fun v H' h => ?_)
        obtain ⟨A73, c73, rfl, rfl⟩ := h
        show VL _ _ _ _ _ (_ :: _ :: _ :: _ :: _)
        refine vl_on rfl rfl rfl rfl ?_
        refine vl_callV rfl rfl (.some rfl) Try.call21 rfl (fun w hw => rSame A71 A73 c71 c73 (bytesK (mrgV t V1 V2)) (bytesK (mrgV t V2 V1)) w (rdw (rd_sl (A := A71) (vs := bcells ((bytesK (mrgV t V1 V2)))) (by repeat (first | exact .head | apply In.tail | apply Take.tail | apply Upd.tail))) hw) (rdw (rd_sl (A := A73) (vs := bcells ((bytesK (mrgV t V2 V1)))) (by repeat (first | exact .head | apply In.tail | apply Take.tail | apply Upd.tail))) hw)) ?_
        rw [decide_eq_true (show (bytesK (mrgV t V1 V2)) = (bytesK (mrgV t V2 V1)) from by rw [huq])]
        refine vl_on rfl rfl rfl rfl ?_
        refine vl_val rfl (.some rfl) (val_not rfl) ?_
        refine vl_val rfl (.some rfl) (val_pick rfl rfl) ?_
        refine vl_nil ?_
        refine vc_cond rfl (fun h => by cases h) (fun _ => ?_)
        refine vc_skip ?_
        refine vc_seq ?_
        refine vc_region ?_
        refine vl_val rfl (.some rfl) (val_move rfl) ?_
        refine vl_call (C := KQ b3 t As1 cs1 S Ac3 cc3 K3) rfl rfl (.some rfl) Try.call28 rfl (by repeat (first | exact .nil | (apply Sub.cons; · repeat (first | exact .head | apply Take.tail)))) (fun w hw => qCopy hK3 hk3.ok w) (fun v H' h => ?_)
        obtain ⟨b5, Ac5, cc5, L5, rfl, hL5, rfl⟩ := h
        show VL _ _ _ _ _ (_ :: _ :: _ :: _ :: _ :: _ :: _)
        refine vl_val rfl (.some rfl) (val_assign rfl) ?_
        refine vl_nil ?_
        refine vc_seq ?_
        refine vc_region ?_
        refine vl_val rfl (.some rfl) (val_move rfl) ?_
        refine vl_val rfl (.some rfl) (val_move rfl) ?_
        refine vl_call (C := KQ b5 t As1 cs1 S Ac5 cc5 L5 ++ KQ b1 t As1 cs1 S Ac1 cc1 K1) rfl rfl (.some rfl) Try.call20 rfl (by repeat (first | exact .nil | (apply Sub.cons; · repeat (first | exact .head | apply Take.tail)))) (fun w hw => qMerge hL5 hk3.ok hK1 hk1.ok w (readsM_sl (A := As1) (n := S.length) (c := cs1) (sz := 2) (e := 81) (vs := seedC S) (C := KQ b5 t As1 cs1 S Ac5 cc5 L5 ++ KQ b1 t As1 cs1 S Ac1 cc1 K1) (by repeat (first | exact .nil | (apply Sub.cons; · repeat (first | exact .head | apply Take.tail)))) (by repeat (first | exact .head | apply In.tail | apply Take.tail | apply Upd.tail)) hw) (readsM_sl (A := As1) (n := S.length) (c := cs1) (sz := 2) (e := 81) (vs := seedC S) (C := KQ b5 t As1 cs1 S Ac5 cc5 L5 ++ KQ b1 t As1 cs1 S Ac1 cc1 K1) (by repeat (first | exact .nil | (apply Sub.cons; · repeat (first | exact .head | apply Take.tail)))) (by repeat (first | exact .head | apply In.tail | apply Take.tail | apply Upd.tail)) hw)) (fun v H' h => ?_)
        obtain ⟨rfl, K5, hK5, rfl⟩ := h
        show VL _ _ _ _ _ (_ :: _ :: _ :: _ :: _ :: _ :: _)
        have hk5 := hk3.mrg hk1
        have huq5 := hk5.uniq hk3 (fun x => ⟨fun h => by rcases h with h | h; exact h; exact .inl h, fun h => .inl h⟩)
        refine vl_val rfl (.some rfl) (val_eqt rfl rfl (rfl)) ?_
        refine vl_val rfl (.some rfl) (val_move rfl) ?_
        refine vl_on rfl rfl rfl rfl ?_
        refine vl_val rfl (.some rfl) (val_move rfl) ?_
        refine vl_on rfl rfl rfl rfl ?_
        refine vl_val rfl (.some rfl) (val_move rfl) ?_
        refine vl_on rfl rfl rfl rfl ?_
        refine vl_call (C := KQ b5 t As1 cs1 S Ac5 cc5 K5) rfl rfl (.some rfl) Try.call20 rfl (by repeat (first | exact .nil | (apply Sub.cons; · repeat (first | exact .head | apply Take.tail)))) (fun w hw => qMergeSelf hK5 hk5.ok w (readsM_sl (A := As1) (n := S.length) (c := cs1) (sz := 2) (e := 81) (vs := seedC S) (C := KQ b5 t As1 cs1 S Ac5 cc5 K5) (by repeat (first | exact .nil | (apply Sub.cons; · repeat (first | exact .head | apply Take.tail)))) (by repeat (first | exact .head | apply In.tail | apply Take.tail | apply Upd.tail)) hw)) (fun v H' h => ?_)
        obtain ⟨rfl, rfl⟩ := h
        show VL _ _ _ _ _ (_ :: _ :: _ :: _)
        refine vl_on rfl rfl rfl rfl ?_
        refine vl_val rfl (.some rfl) (val_eqt rfl rfl (rfl)) ?_
        refine vl_val rfl (.some rfl) (val_pick rfl rfl) ?_
        refine vl_val rfl (.some rfl) (val_move rfl) ?_
        refine vl_on rfl rfl rfl rfl ?_
        refine vl_val rfl (.some rfl) (val_move rfl) ?_
        refine vl_on rfl rfl rfl rfl ?_
        refine vl_call (C := KQ b5 t As1 cs1 S Ac5 cc5 K5) rfl rfl (.some rfl) Try.call22 rfl (by repeat (first | exact .nil | (apply Sub.cons; · repeat (first | exact .head | apply Take.tail)))) (fun w hw => qBytes hK5 hk5.ok w) (fun v H' h => ?_)
        obtain ⟨A91, c91, rfl, rfl⟩ := h
        show VL _ _ _ _ _ (_ :: _ :: _ :: _ :: _)
        refine vl_on rfl rfl rfl rfl ?_
        refine vl_val rfl (.some rfl) (val_move rfl) ?_
        refine vl_on rfl rfl rfl rfl ?_
        refine vl_call (C := KQ b3 t As1 cs1 S Ac3 cc3 K3) rfl rfl (.some rfl) Try.call22 rfl (by repeat (first | exact .nil | (apply Sub.cons; · repeat (first | exact .head | apply Take.tail)))) (fun w hw => qBytes hK3 hk3.ok w) (fun v H' h => ?_)
        obtain ⟨A93, c93, rfl, rfl⟩ := h
        show VL _ _ _ _ _ (_ :: _ :: _ :: _ :: _)
        refine vl_on rfl rfl rfl rfl ?_
        refine vl_callV rfl rfl (.some rfl) Try.call21 rfl (fun w hw => rSame A91 A93 c91 c93 (bytesK (mrgV t (mrgV t V1 V2) V1)) (bytesK (mrgV t V1 V2)) w (rdw (rd_sl (A := A91) (vs := bcells ((bytesK (mrgV t (mrgV t V1 V2) V1)))) (by repeat (first | exact .head | apply In.tail | apply Take.tail | apply Upd.tail))) hw) (rdw (rd_sl (A := A93) (vs := bcells ((bytesK (mrgV t V1 V2)))) (by repeat (first | exact .head | apply In.tail | apply Take.tail | apply Upd.tail))) hw)) ?_
        rw [decide_eq_true (show (bytesK (mrgV t (mrgV t V1 V2) V1)) = (bytesK (mrgV t V1 V2)) from by rw [huq5])]
        refine vl_val rfl (.some rfl) (val_pick rfl rfl) ?_
        refine vl_val rfl (.some rfl) (val_move rfl) ?_
        refine vl_on rfl rfl rfl rfl ?_
        refine vl_callV rfl rfl (.some rfl) Try.call14 rfl (fun w hw => kLives w) ?_
        refine vl_val rfl (.some rfl) (val_pick rfl rfl) ?_
        refine vl_val rfl (.some rfl) (val_assign rfl) ?_
        refine vl_nil ?_
        refine vc_ret ?_
        refine ⟨_, [], _, res1 Try.results7 rfl, .nil, ?_⟩
        rfl

theorem law_KmvMerges (T : Int) (A : Option Addr) (c : Nat) (q : List Sq) (Kk Mm : Int) (B : Option Addr) (d : Nat) (l : List Nat) (Bm : Option Addr) (dm : Nat) (m : List Nat) (w : World) (g0 : -9223372036854775808 ≤ T ∧ T < 9223372036854775808) (hr : Reads w A (q.flatMap sqC)) (g1 : q.length ≤ c) (g2 : c ≤ maxLen) (g3 : ∀ v ∈ q, v.1 < 18446744073709551616 ∧ v.2.1 < 18446744073709551616 ∧ True) (g4 : -9223372036854775808 ≤ Kk ∧ Kk < 9223372036854775808) (g5 : -9223372036854775808 ≤ Mm ∧ Mm < 9223372036854775808) (hr1 : Reads w B (ucells l)) (gl1 : l.length ≤ d) (gd1 : d ≤ maxLen) (gu1 : ∀ x ∈ l, x < 18446744073709551616) (hr2 : Reads w Bm (ucells m)) (gl2 : m.length ≤ dm) (gd2 : dm ≤ maxLen) (gu2 : ∀ x ∈ m, x < 18446744073709551616) : FnV Try.prog 7 [.agg #[.int .i64 T, .slice A q.length c, .int .i64 Kk, .int .i64 Mm], .slice B l.length d, .slice Bm m.length dm] (.bool true) w := by
  have hll : l.length ≤ 9223372036854775807 := by unfold maxLen at gd1; omega
  have hml : m.length ≤ 9223372036854775807 := by unfold maxLen at gd2; omega
  have hb : ∀ s ∈ q.map toSd, s.1 < 18446744073709551616 ∧ s.2 < 18446744073709551616 := fun s hs => by
    obtain ⟨v, hv, rfl⟩ := List.mem_map.1 hs
    exact ⟨(g3 v hv).1, (g3 v hv).2.1⟩
  have hl : q.length = (q.map toSd).length := (List.length_map _).symm
  rw [← seed_sq] at hr
  rw [hl]
  have hS : (q.map toSd).length < 9223372036854775808 := by unfold maxLen at g2; omega
  by_cases hg : goodK T (q.map toSd) Kk Mm
  · obtain ⟨t, rfl⟩ : ∃ t : Nat, T = t := ⟨T.toNat, by have := hg.1; omega⟩
    exact mGood t Kk Mm A c _ hS hb w hr hg B d l hll gu1 Bm dm m hml gu2 hr1 hr2
  · exact mBad T Kk Mm A c _ hS hb w hr hg B d l hll gu1 Bm dm m hml gu2

end Go.Proofs.Ytclknendeeljaaa.K
