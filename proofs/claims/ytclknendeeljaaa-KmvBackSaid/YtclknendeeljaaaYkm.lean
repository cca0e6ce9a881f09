/- Walks of the program's functions, printed by a program of this session; Lean checks them. -/
import Derived.Test.YtclknendeeljaaaYkl
namespace Go.Proofs.Ytclknendeeljaaa.K
open Go Go.RowKit Go.Proofs
set_option linter.unusedVariables false
set_option linter.unusedSimpArgs false


theorem push06 (V : List (List Nat)) : bcells (bytesK V) ++ [Value.int .u8 0] = bcells (bytesK V ++ [0]) := by simp [bcells]

set_option maxRecDepth 20000 in
theorem kbBad (T Kk Mm : Int) (A : Option Addr) (c : Nat) (S : List (Nat × Nat)) (hS : S.length < 9223372036854775808) (hb : ∀ s ∈ S, s.1 < 18446744073709551616 ∧ s.2 < 18446744073709551616) (w : World) (hr : Reads w A (seedC S)) (hg : ¬ goodK T S Kk Mm) (B : Option Addr) (d : Nat) (l : List Nat) (hll : l.length ≤ 9223372036854775807) (hul : ∀ x ∈ l, x < 18446744073709551616) (Bm : Option Addr) (dm : Nat) (m : List Nat) (hml : m.length ≤ 9223372036854775807) (hum : ∀ x ∈ m, x < 18446744073709551616) : FnV Try.prog 8 [.agg #[.int .i64 T, .slice A S.length c, .int .i64 Kk, .int .i64 Mm], .slice B l.length d, .slice Bm m.length dm] (.bool true) w := by
  refine fn_enter Try.func8 rfl Try.ntmps8 rfl ?_
  refine vc_seq ?_
  refine vc_region ?_
  refine vl_box rfl rfl (.some rfl) rfl (fun r3 => ?_)
  refine vl_val rfl (.some rfl) (val_assign rfl) ?_
  refine vl_nil ?_
  refine vc_seq ?_
  refine vc_region ?_
  refine vl_val rfl (.some rfl) (val_loadAgg Try.isAgg24 Try.sizeOf24 rfl (by first | exact cells_whole (by repeat (first | exact .head | apply In.tail | apply Take.tail | apply Upd.tail)) | exact cells_part (by repeat (first | exact .head | apply In.tail | apply Take.tail | apply Upd.tail)) rfl) rfl) ?_
  refine vl_callV rfl rfl (.some rfl) Try.call12 rfl (fun w hw => kNewBad T Kk Mm A c S hS hb w (rdw (rd_old hr rfl) hw) hg) ?_
  refine vl_val rfl (.some rfl) (val_assign rfl) ?_
  refine vl_nil ?_
  refine vc_seq ?_
  refine vc_seq ?_
  refine vc_region ?_
  refine vl_val rfl (.some rfl) (val_move rfl) ?_
  refine vl_val rfl (.some rfl) (val_opO rfl rfl guard_ptr (bin_nil_eq Try.runUnderlying26)) ?_
  refine vl_val rfl (.some rfl) (val_move rfl) ?_
  refine vl_off rfl rfl rfl rfl (.some rfl) ?_
  refine vl_off rfl rfl rfl rfl (.some rfl) ?_
  refine vl_off rfl rfl rfl rfl (.some rfl) ?_
  refine vl_off rfl rfl rfl rfl (.some rfl) ?_
  refine vl_off rfl rfl rfl rfl (.some rfl) ?_
  refine vl_off rfl rfl rfl rfl (.some rfl) ?_
  refine vl_val rfl (.some rfl) (val_pick rfl rfl) ?_
  refine vl_nil ?_
  refine vc_cond rfl (fun _ => ?_) (fun h => by cases h)
  refine vc_seq ?_
  refine vc_region ?_
  refine vl_callV rfl rfl (.some rfl) Try.call14 rfl (fun w hw => kLives w) ?_
  refine vl_val rfl (.some rfl) (val_assign rfl) ?_
  refine vl_nil ?_
  refine vc_ret ?_
  refine ⟨_, [], _, res1 Try.results8 rfl, .nil, ?_⟩
  rfl
set_option maxRecDepth 20000 in
set_option maxHeartbeats 2000000 in
theorem kbGood (t : Nat) (Kk Mm : Int) (A : Option Addr) (c : Nat) (S : List (Nat × Nat)) (hS : S.length < 9223372036854775808) (hb : ∀ s ∈ S, s.1 < 18446744073709551616 ∧ s.2 < 18446744073709551616) (w : World) (hr : Reads w A (seedC S)) (hg : goodK t S Kk Mm) (B : Option Addr) (d : Nat) (l : List Nat) (hll : l.length ≤ 9223372036854775807) (hul : ∀ x ∈ l, x < 18446744073709551616) (Bm : Option Addr) (dm : Nat) (m : List Nat) (hml : m.length ≤ 9223372036854775807) (hum : ∀ x ∈ m, x < 18446744073709551616) (hrl : Reads w B (ucells l)) (hrm : Reads w Bm (ucells m)) : FnV Try.prog 8 [.agg #[.int .i64 (t : Nat), .slice A S.length c, .int .i64 Kk, .int .i64 Mm], .slice B l.length d, .slice Bm m.length dm] (.bool true) w := by
  have hk0 := keptV_new hg hb
  refine fn_enter Try.func8 rfl Try.ntmps8 rfl ?_
  refine vc_seq ?_
  refine vc_region ?_
  refine vl_box rfl rfl (.some rfl) rfl (fun r3 => ?_)
  refine vl_val rfl (.some rfl) (val_assign rfl) ?_
  refine vl_nil ?_
  refine vc_seq ?_
  refine vc_region ?_
  refine vl_val rfl (.some rfl) (val_loadAgg Try.isAgg24 Try.sizeOf24 rfl (by first | exact cells_whole (by repeat (first | exact .head | apply In.tail | apply Take.tail | apply Upd.tail)) | exact cells_part (by repeat (first | exact .head | apply In.tail | apply Take.tail | apply Upd.tail)) rfl) rfl) ?_
  refine vl_call (C := []) rfl rfl (.some rfl) Try.call12 rfl .nil (fun w hw => qNew t Kk Mm A c S hb w (rdw (rd_old hr rfl) hw) hg) (fun v H' h => ?_)
  obtain ⟨b1, As1, cs1, Ac1, cc1, L1, rfl, hL1, rfl⟩ := h
  show VL _ _ _ _ _ (_ :: _ :: _ :: _ :: _)
  refine vl_val rfl (.some rfl) (val_assign rfl) ?_
  refine vl_nil ?_
  refine vc_seq ?_
  refine vc_seq ?_
  refine vc_region ?_
  refine vl_val rfl (.some rfl) (val_move rfl) ?_
  refine vl_val rfl (.some rfl) (val_opO rfl rfl guard_ptr (bin_ptr_eq Try.runUnderlying26)) ?_
  refine vl_val rfl (.some rfl) (val_move rfl) ?_
  refine vl_on rfl rfl rfl rfl ?_
  refine vl_val rfl (.some rfl) (val_move rfl) ?_
  refine vl_on rfl rfl rfl rfl ?_
  refine vl_val rfl (.some rfl) (val_lenSl Try.runUnderlying25 rfl) ?_
  refine vl_on rfl rfl rfl rfl ?_
  refine vl_val rfl (.some rfl) (val_move rfl) ?_
  refine vl_on rfl rfl rfl rfl ?_
  refine vl_val rfl (.some rfl) (val_lenSl Try.runUnderlying25 rfl) ?_
  refine vl_on rfl rfl rfl rfl ?_
  refine vl_val rfl (.some rfl) (val_add rfl rfl rfl) ?_
  refine vl_on rfl rfl rfl rfl ?_
  refine vl_val rfl (.some rfl) (val_gt rfl rfl) ?_
  refine vl_val rfl (.some rfl) (val_pick rfl rfl) ?_
  refine vl_nil ?_
  refine vc_cond rfl (fun hc0 => ?_) (fun hc0 => ?_)
  · (try replace hc0 := of_decide_eq_true hc0)
    refine vc_seq ?_
    refine vc_region ?_
    refine vl_callV rfl rfl (.some rfl) Try.call14 rfl (fun w hw => kLives w) ?_
    refine vl_val rfl (.some rfl) (val_assign rfl) ?_
    refine vl_nil ?_
    refine vc_ret ?_
    refine ⟨_, [], _, res1 Try.results8 rfl, .nil, ?_⟩
    rfl
  · (try replace hc0 := of_decide_eq_false hc0)
    refine vc_skip ?_
    refine vc_seq ?_
    refine vc_seq ?_
    refine vc_region ?_
    refine vl_val rfl (.some rfl) (val_move rfl) ?_
    refine vl_val rfl (.some rfl) (val_lenSl Try.runUnderlying25 rfl) ?_
    refine vl_val rfl (.some rfl) (val_move rfl) ?_
    refine vl_nil ?_
    refine vc_block ?_
    refine vc_loopw (fun q E H => ∃ (i : Nat) (V1 : List (List Nat)) (K1 : List (Sl Nat)), i ≤ l.length ∧ q = l.length - i ∧ vals K1 = V1 ∧ KeptV t S V1 (fun x => ∃ j, j < i ∧ x = l.getD j 0) ∧ E = [(2, .slice Bm m.length dm), (3, .pointer (some ⟨r3, 0, none⟩)), (7, .pointer (some ⟨b1, 0, none⟩)), (29, .slice B l.length d), (30, .int .i64 l.length), (31, .int .i64 i)] ∧ H = [cells r3 [.int .i64 (t : Nat), .slice A S.length c, .int .i64 Kk, .int .i64 Mm] 24, SDc As1 S.length cs1 S] ++ KQ b1 t As1 cs1 S Ac1 cc1 K1) (l.length) ⟨_, _, _, ⟨0, _, L1, by omega, rfl, hL1, keptV_none hk0, rfl, rfl⟩, (by repeat (first | exact trivial | refine ⟨rfl, ?_⟩ | refine ⟨le_item rfl (by first | rfl | (congr 1; omega) | (simp; done) | (simp; omega)), ?_⟩)), (by repeat (first | exact .nil | (apply Sub.cons; · repeat (first | exact .head | apply Take.tail))))⟩ ?_
    intro q E H hI
    obtain ⟨i, V1, K1, hi, rfl, hK1, hk1, rfl, rfl⟩ := hI
    refine vc_seq ?_
    refine vc_region ?_
    refine vl_val rfl (.some rfl) (val_lt rfl rfl) ?_
    refine vl_nil ?_
    refine vc_seq ?_
    refine vc_cond rfl (fun hc1 => ?_) (fun hc1 => ?_)
    · (try replace hc1 := of_decide_eq_true hc1)
      refine vc_skip ?_
      refine vc_seq ?_
      refine vc_block ?_
      refine vc_seq ?_
      refine vc_region ?_
      refine vl_val rfl (.some rfl) (val_indexAddr Try.runUnderlying25 Try.sizeOf30 rfl rfl (rd_old hrl rfl) (by omega) (by omega) (by rw [ucells_length]; omega)) ?_
      refine vl_val rfl (.some rfl) (val_load Try.isAgg30 rfl (by first | exact cell_cells (by repeat (first | exact .head | apply In.tail | apply Take.tail | apply Upd.tail)) rfl | exact cell_rd (rd_sl (by repeat (first | exact .head | apply In.tail | apply Take.tail | apply Upd.tail))) (by first | exact bcells_at (by omega) | exact ucells_at (by omega) | exact icells_at (by omega) | exact tcells_at (by omega) | exact bcells_get (by omega) | exact icells_get (by omega) | exact tcells_get (by omega) | exact ucells_get (by omega)) | exact cell_rd (rd_old (by assumption) rfl) (by first | exact bcells_at (by omega) | exact ucells_at (by omega) | exact icells_at (by omega) | exact tcells_at (by omega) | exact bcells_get (by omega) | exact icells_get (by omega) | exact tcells_get (by omega) | exact ucells_get (by omega)) | exact cell_old (by assumption) (by simp [fps]))) ?_
      refine vl_val rfl (.some rfl) (val_assign rfl) ?_
      refine vl_nil ?_
      refine vc_region ?_
      refine vl_val rfl (.some rfl) (val_move rfl) ?_
      refine vl_val rfl (.some rfl) (val_move rfl) ?_
      refine vl_call (C := KQ b1 t As1 cs1 S Ac1 cc1 K1) rfl rfl (.some rfl) Try.call15 rfl (by repeat (first | exact .nil | (apply Sub.cons; · repeat (first | exact .head | apply Take.tail)))) (fun w hw => qInsert hK1 hk1.ok (l.getD i 0) (hul _ (getD_mem 0 (by omega))) w (readsM_sl (A := As1) (n := S.length) (c := cs1) (sz := 2) (e := 81) (vs := seedC S) (C := KQ b1 t As1 cs1 S Ac1 cc1 K1) (by repeat (first | exact .nil | (apply Sub.cons; · repeat (first | exact .head | apply Take.tail)))) (by repeat (first | exact .head | apply In.tail | apply Take.tail | apply Upd.tail)) hw)) (fun v H' h => ?_)
      obtain ⟨K1', hK1', rfl⟩ := h
      show VL _ _ _ _ _ (_ :: _ :: _ :: _)
      refine vl_nil ?_
      refine vc_region ?_
      refine vl_val rfl (.some rfl) (val_add rfl rfl (by first | exact w_i64 (by omega) (by omega) | rfl)) ?_
      refine vl_val rfl (.some rfl) (val_move rfl) ?_
      refine vl_nil ?_
      exact ⟨(l.length - (i + 1)), _, _, _, by omega, (by repeat (first | exact trivial | refine ⟨rfl, ?_⟩ | refine ⟨le_item rfl (by first | rfl | (congr 1; omega) | (simp; done) | (simp; omega)), ?_⟩)), (by repeat (first | exact .nil | (apply Sub.cons; · repeat (first | exact .head | apply Take.tail)))), ⟨i + 1, _, K1', by omega, rfl, hK1', (hk1.ins _).congr (pk_step i), rfl, rfl⟩⟩
    · (try replace hc1 := of_decide_eq_false hc1)
      refine vc_exit ?_
      refine vc_seq ?_
      refine vc_drawsS [0, 1, 4, 5, 6, 7, 8] [] [0, 1, 2, 3, 4, 5, 6, 7, 8] [cells r3 [.int .i64 (t : Nat), .slice A S.length c, .int .i64 Kk, .int .i64 Mm] 24] (by repeat (first | exact .nil | (apply Sub.cons; · repeat (first | exact .head | apply Take.tail)))) rfl (by kernel_rfl) (fun _ _ _ h => h) ?_
      refine vd_val rfl rfl rfl (.some rfl) (val_loadAgg Try.isAgg24 Try.sizeOf24 rfl (by first | exact cells_whole (by repeat (first | exact .head | apply In.tail | apply Take.tail | apply Upd.tail)) | exact cells_part (by repeat (first | exact .head | apply In.tail | apply Take.tail | apply Upd.tail)) rfl) rfl) ?_
      refine vd_val rfl rfl rfl (.some rfl) (val_move rfl) ?_
      refine vd_op rfl rfl ?_
      obtain rfl : i = l.length := by omega
      refine vl_call (C := KQ b1 t As1 cs1 S Ac1 cc1 K1) rfl rfl (.some rfl) Try.call22 rfl (by repeat (first | exact .nil | (apply Sub.cons; · repeat (first | exact .head | apply Take.tail)))) (fun w hw => qBytes hK1 hk1.ok w) (fun v H' h => ?_)
      obtain ⟨A42, c42, rfl, rfl⟩ := h
      show VL _ _ _ _ _ (_ :: _ :: _ :: _ :: _)
      refine vl_nil ?_
      refine ⟨fun _ => ⟨_, (by repeat (first | exact .nil | (apply Sub.cons; · repeat (first | exact .head | apply Take.tail))))⟩, ?_⟩
      refine vd_op rfl rfl ?_
      refine vl_slCap (A := A42) (n := (bytesK V1).length) (c := c42) (sz := 1) (e := 5) (vs := bcells (bytesK V1)) (by repeat (first | exact .head | apply In.tail | apply Take.tail | apply Upd.tail)) (fun hcap => ?_)
      refine vl_call (C := []) rfl rfl (.some rfl) Try.call30 rfl .nil (fun w hw => by
        have h := kLoad t Kk Mm A c S hS hb w (rdw (rd_old hr rfl) hw) hg V1 hk1.ok [] (by decide) A42 c42 (by rw [List.append_nil]; exact hcap) (by rw [List.append_nil]; exact rdw (rd_sl (vs := bcells (bytesK V1)) (by repeat (first | exact .head | apply In.tail | apply Take.tail | apply Upd.tail))) hw)
        rw [List.append_nil] at h
        exact h) (fun v H' h => ?_)
      obtain ⟨b2, As2, cs2, Ac2, cc2, L2, rfl, hL2, rfl⟩ := (h.resolve_left fun e => e.1 rfl).2
      show VL _ _ _ _ _ (_ :: _ :: _ :: _ :: _)
      refine vl_nil ?_
      refine ⟨fun _ => ⟨_, (by repeat (first | exact .nil | (apply Sub.cons; · repeat (first | exact .head | apply Take.tail))))⟩, ?_⟩
      refine vd_val rfl rfl rfl (.some rfl) (val_move rfl) ?_
      refine vd_val rfl rfl rfl (.some rfl) (val_extract rfl rfl) ?_
      refine vd_val rfl rfl rfl (.some rfl) (val_extract rfl rfl) ?_
      refine vd_val rfl rfl rfl (.some rfl) (val_assign rfl) ?_
      refine vd_val rfl rfl rfl (.some rfl) (val_assign rfl) ?_
      refine vd_nil ?_
      refine vc_seq ?_
      refine vc_seq ?_
      refine vc_region ?_
      refine vl_val rfl (.some rfl) (val_move rfl) ?_
      refine vl_val rfl (.some rfl) (val_net rfl rfl (rfl)) ?_
      refine vl_val rfl (.some rfl) (val_move rfl) ?_
      refine vl_on rfl rfl rfl rfl ?_
      refine vl_val rfl (.some rfl) (val_move rfl) ?_
      refine vl_on rfl rfl rfl rfl ?_
      refine vl_val rfl (.some rfl) (val_opO rfl rfl guard_ptr (bin_ptr_eq Try.runUnderlying26)) ?_
      refine vl_val rfl (.some rfl) (val_pick rfl rfl) ?_
      refine vl_nil ?_
      refine vc_cond rfl (fun h => by cases h) (fun _ => ?_)
      refine vc_skip ?_
      refine vc_seq ?_
      refine vc_seq ?_
      refine vc_region ?_
      refine vl_val rfl (.some rfl) (val_move rfl) ?_
      refine vl_val rfl (.some rfl) (val_lenSl Try.runUnderlying25 rfl) ?_
      refine vl_val rfl (.some rfl) (val_move rfl) ?_
      refine vl_nil ?_
      refine vc_block ?_
      refine vc_loopw (fun q E H => ∃ (i : Nat) (V3 : List (List Nat)) (P : Nat → Prop) (K3 K4 : List (Sl Nat)), i ≤ m.length ∧ q = m.length - i ∧ vals K3 = V3 ∧ vals K4 = V3 ∧ KeptV t S V3 P ∧ E = [(3, .pointer (some ⟨r3, 0, none⟩)), (7, .pointer (some ⟨b1, 0, none⟩)), (10, .pointer (some ⟨b2, 0, none⟩)), (52, .slice Bm m.length dm), (53, .int .i64 m.length), (54, .int .i64 i)] ∧ H = [cells r3 [.int .i64 (t : Nat), .slice A S.length c, .int .i64 Kk, .int .i64 Mm] 24, SDc As1 S.length cs1 S, SDc As2 S.length cs2 S] ++ KQ b1 t As1 cs1 S Ac1 cc1 K3 ++ KQ b2 t As2 cs2 S Ac2 cc2 K4) (m.length) ⟨_, _, _, ⟨0, _, _, K1, L2, by omega, rfl, hK1, hL2, hk1, rfl, rfl⟩, (by repeat (first | exact trivial | refine ⟨rfl, ?_⟩ | refine ⟨le_item rfl (by first | rfl | (congr 1; omega) | (simp; done) | (simp; omega)), ?_⟩)), (by repeat (first | exact .nil | (apply Sub.cons; · repeat (first | exact .head | apply Take.tail))))⟩ ?_
      intro q E H hI
      obtain ⟨i, V3, P, K3, K4, hi, rfl, hK3, hK4, hk3, rfl, rfl⟩ := hI
      refine vc_seq ?_
      refine vc_region ?_
      refine vl_val rfl (.some rfl) (val_lt rfl rfl) ?_
      refine vl_nil ?_
      refine vc_seq ?_
      refine vc_cond rfl (fun hc3 => ?_) (fun hc3 => ?_)
      · (try replace hc3 := of_decide_eq_true hc3)
        refine vc_skip ?_
        refine vc_seq ?_
        refine vc_block ?_
        refine vc_seq ?_
        refine vc_region ?_
        refine vl_val rfl (.some rfl) (val_indexAddr Try.runUnderlying25 Try.sizeOf30 rfl rfl (rd_old hrm rfl) (by omega) (by omega) (by rw [ucells_length]; omega)) ?_
        refine vl_val rfl (.some rfl) (val_load Try.isAgg30 rfl (by first | exact cell_cells (by repeat (first | exact .head | apply In.tail | apply Take.tail | apply Upd.tail)) rfl | exact cell_rd (rd_sl (by repeat (first | exact .head | apply In.tail | apply Take.tail | apply Upd.tail))) (by first | exact bcells_at (by omega) | exact ucells_at (by omega) | exact icells_at (by omega) | exact tcells_at (by omega) | exact bcells_get (by omega) | exact icells_get (by omega) | exact tcells_get (by omega) | exact ucells_get (by omega)) | exact cell_rd (rd_old (by assumption) rfl) (by first | exact bcells_at (by omega) | exact ucells_at (by omega) | exact icells_at (by omega) | exact tcells_at (by omega) | exact bcells_get (by omega) | exact icells_get (by omega) | exact tcells_get (by omega) | exact ucells_get (by omega)) | exact cell_old (by assumption) (by simp [fps]))) ?_
        refine vl_val rfl (.some rfl) (val_assign rfl) ?_
        refine vl_nil ?_
        refine vc_seq ?_
        refine vc_region ?_
        refine vl_val rfl (.some rfl) (val_move rfl) ?_
        refine vl_val rfl (.some rfl) (val_move rfl) ?_
        refine vl_call (C := KQ b1 t As1 cs1 S Ac1 cc1 K3) rfl rfl (.some rfl) Try.call15 rfl (by repeat (first | exact .nil | (apply Sub.cons; · repeat (first | exact .head | apply Take.tail)))) (fun w hw => qInsert hK3 hk3.ok (m.getD i 0) (hum _ (getD_mem 0 (by omega))) w (readsM_sl (A := As1) (n := S.length) (c := cs1) (sz := 2) (e := 81) (vs := seedC S) (C := KQ b1 t As1 cs1 S Ac1 cc1 K3) (by repeat (first | exact .nil | (apply Sub.cons; · repeat (first | exact .head | apply Take.tail)))) (by repeat (first | exact .head | apply In.tail | apply Take.tail | apply Upd.tail)) hw)) (fun v H' h => ?_)
        obtain ⟨K3', hK3', rfl⟩ := h
        show VL _ _ _ _ _ (_ :: _ :: _ :: _)
        refine vl_nil ?_
        refine vc_region ?_
        refine vl_val rfl (.some rfl) (val_move rfl) ?_
        refine vl_val rfl (.some rfl) (val_move rfl) ?_
        refine vl_call (C := KQ b2 t As2 cs2 S Ac2 cc2 K4) rfl rfl (.some rfl) Try.call15 rfl (by repeat (first | exact .nil | (apply Sub.cons; · repeat (first | exact .head | apply Take.tail)))) (fun w hw => qInsert hK4 hk3.ok (m.getD i 0) (hum _ (getD_mem 0 (by omega))) w (readsM_sl (A := As2) (n := S.length) (c := cs2) (sz := 2) (e := 81) (vs := seedC S) (C := KQ b2 t As2 cs2 S Ac2 cc2 K4) (by repeat (first | exact .nil | (apply Sub.cons; · repeat (first | exact .head | apply Take.tail)))) (by repeat (first | exact .head | apply In.tail | apply Take.tail | apply Upd.tail)) hw)) (fun v H' h => ?_)
        obtain ⟨K4', hK4', rfl⟩ := h
        show VL _ _ _ _ _ (_ :: _ :: _ :: _)
        refine vl_nil ?_
        refine vc_region ?_
        refine vl_val rfl (.some rfl) (val_add rfl rfl (by first | exact w_i64 (by omega) (by omega) | rfl)) ?_
        refine vl_val rfl (.some rfl) (val_move rfl) ?_
        refine vl_nil ?_
        exact ⟨(m.length - (i + 1)), _, _, _, by omega, (by repeat (first | exact trivial | refine ⟨rfl, ?_⟩ | refine ⟨le_item rfl (by first | rfl | (congr 1; omega) | (simp; done) | (simp; omega)), ?_⟩)), (by repeat (first | exact .nil | (apply Sub.cons; · repeat (first | exact .head | apply Take.tail)))), ⟨i + 1, _, _, K3', K4', by omega, rfl, hK3', hK4', hk3.ins _, rfl, rfl⟩⟩
      · (try replace hc3 := of_decide_eq_false hc3)
        refine vc_exit ?_
        refine vc_cut (fun E H => ∃ E0 H0 F, Env.le E0 E ∧ Sub H0 H F ∧ (fun E H => E = [(7, .pointer (some ⟨b1, 0, none⟩)), (10, .pointer (some ⟨b2, 0, none⟩)), (15, .int .i64 8)] ∧ H = [SDc As1 S.length cs1 S, SDc As2 S.length cs2 S] ++ KQ b1 t As1 cs1 S Ac1 cc1 K3 ++ KQ b2 t As2 cs2 S Ac2 cc2 K4) E0 H0) ?_ (fun E H h => ?_)
        ·
          refine vc_drawsT 11 [0, 1, 6, 7, 8, 9, 10] ([cells r3 [.int .i64 (t : Nat), .slice A S.length c, .int .i64 Kk, .int .i64 Mm] 24]) (by repeat (first | exact .nil | (apply Sub.cons; · repeat (first | exact .head | apply Take.tail)))) rfl (by kernel_rfl) rfl (fun _ _ _ h => h) ?_
          refine vt_val 0 rfl rfl (by kernel_rfl) rfl (.some rfl) (val_loadAgg Try.isAgg24 Try.sizeOf24 rfl (by first | exact cells_whole (by repeat (first | exact .head | apply In.tail | apply Take.tail | apply Upd.tail)) | exact cells_part (by repeat (first | exact .head | apply In.tail | apply Take.tail | apply Upd.tail)) rfl) rfl) ?_
          refine vt_val 1 rfl rfl (by kernel_rfl) rfl (.some rfl) (val_move rfl) ?_
          refine vt_fork2 2 3 (by kernel_rfl) ?_ ?_
          · refine vt_op rfl ?_
            refine vl_call (C := KQ b1 t As1 cs1 S Ac1 cc1 K3) rfl rfl (.some rfl) Try.call22 rfl (by repeat (first | exact .nil | (apply Sub.cons; · repeat (first | exact .head | apply Take.tail)))) (fun w hw => qBytes hK3 hk3.ok w) (fun v H' h => ?_)
            obtain ⟨A68, c68, rfl, rfl⟩ := h
            show VL _ _ _ _ _ (_ :: _ :: _ :: _ :: _)
            refine vl_nil ?_
            refine ⟨⟨_, (by repeat (first | exact .nil | (apply Sub.cons; · repeat (first | exact .head | apply Take.tail))))⟩, ?_⟩
            refine vt_fork1 3 (by kernel_rfl) ?_
            · refine vt_op rfl ?_
              refine vl_lit sT43 rfl rfl (.some rfl) rfl rfl rfl (by decide) (by decide) rfl (show _ = [Value.int .u8 0] from rfl) (fun r69 => ?_)
              refine vl_nil ?_
              refine ⟨⟨_, (by repeat (first | exact .nil | (apply Sub.cons; · repeat (first | exact .head | apply Take.tail))))⟩, ?_⟩
              refine vt_fork1 4 (by kernel_rfl) ?_
              · refine vt_op rfl ?_
                have hbl3 := bytesK_len (t := 64) V3 (fun l hl => by obtain ⟨j, hj, e⟩ := mem_getD (d := []) hl; have := (hk3.ok.good j hj).2; have := hk3.ok.t64; rw [e] at *; omega)
                have hn73 := hk3.ok.n7
                refine vl_append (A := A68) (n := (bytesK V3).length) (c := c68) (vs := bcells (bytesK V3)) sT43 rfl rfl (.some rfl) rfl rfl (rd_sl (A := some ⟨r69, 0, none⟩) (vs := [Value.int .u8 0]) (by repeat (first | exact .head | apply In.tail | apply Take.tail | apply Upd.tail))) rfl rfl (by omega) (by omega) (by repeat (first | exact .head | apply In.tail | apply Take.tail | apply Upd.tail)) (fun A70 c70 => ?_)
                rw [push06, show (bytesK V3).length + 1 = (bytesK V3 ++ [0]).length by simp]
                refine vl_nil ?_
                refine ⟨⟨_, (by repeat (first | exact .nil | (apply Sub.cons; · repeat (first | exact .head | apply Take.tail))))⟩, ?_⟩
                refine vt_fork1 5 (by kernel_rfl) ?_
                · refine vt_op rfl ?_
                  refine vl_slCap (A := A70) (n := (bytesK V3 ++ [0]).length) (c := c70) (sz := 1) (e := 5) (vs := bcells (bytesK V3 ++ [0])) (by repeat (first | exact .head | apply In.tail | apply Take.tail | apply Upd.tail)) (fun hcap => ?_)
                  refine vl_call (C := []) rfl rfl (.some rfl) Try.call30 rfl .nil (fun w hw => by
                    have h := kLoad t Kk Mm A c S hS hb w (rdw (rd_old hr rfl) hw) hg V3 hk3.ok [0] (by decide) A70 c70 (by rw [show bytesK V3 ++ [0] = bytesK V3 ++ [0] from rfl]; exact hcap) (by rw [show bytesK V3 ++ [0] = bytesK V3 ++ [0] from rfl]; exact rdw (rd_sl (vs := bcells (bytesK V3 ++ [0])) (by repeat (first | exact .head | apply In.tail | apply Take.tail | apply Upd.tail))) hw)
                    rw [show bytesK V3 ++ [0] = bytesK V3 ++ [0] from rfl] at h
                    exact h) (fun v H' h => ?_)
                  obtain ⟨_, rfl, rfl⟩ := h.resolve_right fun e => by cases e.1
                  show VL _ _ _ _ _ (_ :: _)
                  refine vl_nil ?_
                  refine ⟨⟨_, (by repeat (first | exact .nil | (apply Sub.cons; · repeat (first | exact .head | apply Take.tail))))⟩, ?_⟩
                  refine vt_val 6 rfl rfl (by kernel_rfl) rfl (.some rfl) (val_move rfl) ?_
                  refine vt_val 7 rfl rfl (by kernel_rfl) rfl (.some rfl) (val_extract rfl rfl) ?_
                  refine vt_val 8 rfl rfl (by kernel_rfl) rfl (.some rfl) (val_extract rfl rfl) ?_
                  refine vt_val 9 rfl rfl (by kernel_rfl) rfl (.some rfl) (val_assign rfl) ?_
                  refine vt_val 10 rfl rfl (by kernel_rfl) rfl (.some rfl) (val_assign rfl) ?_
                  refine vt_nil (by kernel_rfl) ?_
                  exact ⟨_, _, _, (by repeat (first | exact trivial | refine ⟨rfl, ?_⟩ | refine ⟨le_item rfl (by first | rfl | (congr 1; omega) | (simp; done) | (simp; omega)), ?_⟩)), (by repeat (first | exact .nil | (apply Sub.cons; · repeat (first | exact .head | apply Take.tail)))), ⟨rfl, rfl⟩⟩
          · refine vt_op rfl ?_
            refine vl_lit sT43 rfl rfl (.some rfl) rfl rfl rfl (by decide) (by decide) rfl (show _ = [Value.int .u8 0] from rfl) (fun r69 => ?_)
            refine vl_nil ?_
            refine ⟨⟨_, (by repeat (first | exact .nil | (apply Sub.cons; · repeat (first | exact .head | apply Take.tail))))⟩, ?_⟩
            refine vt_fork1 2 (by kernel_rfl) ?_
            · refine vt_op rfl ?_
              refine vl_call (C := KQ b1 t As1 cs1 S Ac1 cc1 K3) rfl rfl (.some rfl) Try.call22 rfl (by repeat (first | exact .nil | (apply Sub.cons; · repeat (first | exact .head | apply Take.tail)))) (fun w hw => qBytes hK3 hk3.ok w) (fun v H' h => ?_)
              obtain ⟨A68, c68, rfl, rfl⟩ := h
              show VL _ _ _ _ _ (_ :: _ :: _ :: _ :: _)
              refine vl_nil ?_
              refine ⟨⟨_, (by repeat (first | exact .nil | (apply Sub.cons; · repeat (first | exact .head | apply Take.tail))))⟩, ?_⟩
              refine vt_fork1 4 (by kernel_rfl) ?_
              · refine vt_op rfl ?_
                have hbl3 := bytesK_len (t := 64) V3 (fun l hl => by obtain ⟨j, hj, e⟩ := mem_getD (d := []) hl; have := (hk3.ok.good j hj).2; have := hk3.ok.t64; rw [e] at *; omega)
                have hn73 := hk3.ok.n7
                refine vl_append (A := A68) (n := (bytesK V3).length) (c := c68) (vs := bcells (bytesK V3)) sT43 rfl rfl (.some rfl) rfl rfl (rd_sl (A := some ⟨r69, 0, none⟩) (vs := [Value.int .u8 0]) (by repeat (first | exact .head | apply In.tail | apply Take.tail | apply Upd.tail))) rfl rfl (by omega) (by omega) (by repeat (first | exact .head | apply In.tail | apply Take.tail | apply Upd.tail)) (fun A70 c70 => ?_)
                rw [push06, show (bytesK V3).length + 1 = (bytesK V3 ++ [0]).length by simp]
                refine vl_nil ?_
                refine ⟨⟨_, (by repeat (first | exact .nil | (apply Sub.cons; · repeat (first | exact .head | apply Take.tail))))⟩, ?_⟩
                refine vt_fork1 5 (by kernel_rfl) ?_
                · refine vt_op rfl ?_
                  refine vl_slCap (A := A70) (n := (bytesK V3 ++ [0]).length) (c := c70) (sz := 1) (e := 5) (vs := bcells (bytesK V3 ++ [0])) (by repeat (first | exact .head | apply In.tail | apply Take.tail | apply Upd.tail)) (fun hcap => ?_)
                  refine vl_call (C := []) rfl rfl (.some rfl) Try.call30 rfl .nil (fun w hw => by
                    have h := kLoad t Kk Mm A c S hS hb w (rdw (rd_old hr rfl) hw) hg V3 hk3.ok [0] (by decide) A70 c70 (by rw [show bytesK V3 ++ [0] = bytesK V3 ++ [0] from rfl]; exact hcap) (by rw [show bytesK V3 ++ [0] = bytesK V3 ++ [0] from rfl]; exact rdw (rd_sl (vs := bcells (bytesK V3 ++ [0])) (by repeat (first | exact .head | apply In.tail | apply Take.tail | apply Upd.tail))) hw)
                    rw [show bytesK V3 ++ [0] = bytesK V3 ++ [0] from rfl] at h
                    exact h) (fun v H' h => ?_)
                  obtain ⟨_, rfl, rfl⟩ := h.resolve_right fun e => by cases e.1
                  show VL _ _ _ _ _ (_ :: _)
                  refine vl_nil ?_
                  refine ⟨⟨_, (by repeat (first | exact .nil | (apply Sub.cons; · repeat (first | exact .head | apply Take.tail))))⟩, ?_⟩
                  refine vt_val 6 rfl rfl (by kernel_rfl) rfl (.some rfl) (val_move rfl) ?_
                  refine vt_val 7 rfl rfl (by kernel_rfl) rfl (.some rfl) (val_extract rfl rfl) ?_
                  refine vt_val 8 rfl rfl (by kernel_rfl) rfl (.some rfl) (val_extract rfl rfl) ?_
                  refine vt_val 9 rfl rfl (by kernel_rfl) rfl (.some rfl) (val_assign rfl) ?_
                  refine vt_val 10 rfl rfl (by kernel_rfl) rfl (.some rfl) (val_assign rfl) ?_
                  refine vt_nil (by kernel_rfl) ?_
                  exact ⟨_, _, _, (by repeat (first | exact trivial | refine ⟨rfl, ?_⟩ | refine ⟨le_item rfl (by first | rfl | (congr 1; omega) | (simp; done) | (simp; omega)), ?_⟩)), (by repeat (first | exact .nil | (apply Sub.cons; · repeat (first | exact .head | apply Take.tail)))), ⟨rfl, rfl⟩⟩
        · obtain ⟨E0, H0, F, hE0, hH0, hJ⟩ := h
          obtain ⟨rfl, rfl⟩ := hJ
          refine vc_weak hE0 hH0 ?_
          refine vc_seq ?_
          refine vc_region ?_
          refine vl_val rfl (.some rfl) (val_move rfl) ?_
          refine vl_call (C := KQ b1 t As1 cs1 S Ac1 cc1 K3) rfl rfl (.some rfl) Try.call22 rfl (by repeat (first | exact .nil | (apply Sub.cons; · repeat (first | exact .head | apply Take.tail)))) (fun w hw => qBytes hK3 hk3.ok w) (fun v H' h => ?_)
          obtain ⟨A75, c75, rfl, rfl⟩ := h
          show VL _ _ _ _ _ (_ :: _ :: _ :: _ :: _)
          refine vl_val rfl (.some rfl) (val_move rfl) ?_
          refine vl_call (C := KQ b2 t As2 cs2 S Ac2 cc2 K4) rfl rfl (.some rfl) Try.call22 rfl (by repeat (first | exact .nil | (apply Sub.cons; · repeat (first | exact .head | apply Take.tail)))) (fun w hw => qBytes hK4 hk3.ok w) (fun v H' h => ?_)
          obtain ⟨A77, c77, rfl, rfl⟩ := h
          show VL _ _ _ _ _ (_ :: _ :: _ :: _ :: _)
          refine vl_callV rfl rfl (.some rfl) Try.call21 rfl (fun w hw => rSame A75 A77 c75 c77 (bytesK V3) (bytesK V3) w (rdw (rd_sl (A := A75) (vs := bcells ((bytesK V3))) (by repeat (first | exact .head | apply In.tail | apply Take.tail | apply Upd.tail))) hw) (rdw (rd_sl (A := A77) (vs := bcells ((bytesK V3))) (by repeat (first | exact .head | apply In.tail | apply Take.tail | apply Upd.tail))) hw)) ?_
          rw [decide_eq_true (show (bytesK V3) = (bytesK V3) from rfl)]
          refine vl_val rfl (.some rfl) (val_move rfl) ?_
          refine vl_on rfl rfl rfl rfl ?_
          refine vl_val rfl (.some rfl) (val_move rfl) ?_
          refine vl_on rfl rfl rfl rfl ?_
          refine vl_call (C := KQ b1 t As1 cs1 S Ac1 cc1 K3) rfl rfl (.some rfl) Try.call19 rfl (by repeat (first | exact .nil | (apply Sub.cons; · repeat (first | exact .head | apply Take.tail)))) (fun w hw => qEstimate hK3 hk3.ok w) (fun v H' h => ?_)
          obtain ⟨rfl, rfl⟩ := h
          skip
          show VL _ _ _ _ _ (_ :: _ :: _ :: _)
          refine vl_on rfl rfl rfl rfl ?_
          refine vl_val rfl (.some rfl) (val_move rfl) ?_
          refine vl_on rfl rfl rfl rfl ?_
          refine vl_call (C := KQ b2 t As2 cs2 S Ac2 cc2 K4) rfl rfl (.some rfl) Try.call19 rfl (by repeat (first | exact .nil | (apply Sub.cons; · repeat (first | exact .head | apply Take.tail)))) (fun w hw => qEstimate hK4 hk3.ok w) (fun v H' h => ?_)
          obtain ⟨rfl, rfl⟩ := h
          skip
          show VL _ _ _ _ _ (_ :: _ :: _ :: _)
          refine vl_on rfl rfl rfl rfl ?_
          refine vl_val rfl (.some rfl) (val_eqt rfl rfl (rfl)) ?_
          refine vl_val rfl (.some rfl) (val_pick rfl rfl) ?_
          refine vl_val rfl (.some rfl) (val_move rfl) ?_
          refine vl_on rfl rfl rfl rfl ?_
          refine vl_val rfl (.some rfl) (val_move rfl) ?_
          refine vl_on rfl rfl rfl rfl ?_
          refine vl_val rfl (.some rfl) (val_eqt rfl rfl (rfl)) ?_
          refine vl_val rfl (.some rfl) (val_pick rfl rfl) ?_
          refine vl_val rfl (.some rfl) (val_move rfl) ?_
          refine vl_on rfl rfl rfl rfl ?_
          refine vl_callV rfl rfl (.some rfl) Try.call14 rfl (fun w hw => kLives w) ?_
          refine vl_val rfl (.some rfl) (val_pick rfl rfl) ?_
          refine vl_val rfl (.some rfl) (val_assign rfl) ?_
          refine vl_nil ?_
          refine vc_ret ?_
          refine ⟨_, [], _, res1 Try.results8 rfl, .nil, ?_⟩
          rfl

theorem law_KmvBack (T : Int) (A : Option Addr) (c : Nat) (q : List Sq) (Kk Mm : Int) (B : Option Addr) (d : Nat) (l : List Nat) (Bm : Option Addr) (dm : Nat) (m : List Nat) (w : World) (g0 : -9223372036854775808 ≤ T ∧ T < 9223372036854775808) (hr : Reads w A (q.flatMap sqC)) (g1 : q.length ≤ c) (g2 : c ≤ maxLen) (g3 : ∀ v ∈ q, v.1 < 18446744073709551616 ∧ v.2.1 < 18446744073709551616 ∧ True) (g4 : -9223372036854775808 ≤ Kk ∧ Kk < 9223372036854775808) (g5 : -9223372036854775808 ≤ Mm ∧ Mm < 9223372036854775808) (hr1 : Reads w B (ucells l)) (gl1 : l.length ≤ d) (gd1 : d ≤ maxLen) (gu1 : ∀ x ∈ l, x < 18446744073709551616) (hr2 : Reads w Bm (ucells m)) (gl2 : m.length ≤ dm) (gd2 : dm ≤ maxLen) (gu2 : ∀ x ∈ m, x < 18446744073709551616) : FnV Try.prog 8 [.agg #[.int .i64 T, .slice A q.length c, .int .i64 Kk, .int .i64 Mm], .slice B l.length d, .slice Bm m.length dm] (.bool true) w := by
  have hll : l.length ≤ 9223372036854775807 := by unfold maxLen at gd1; omega
  have hml : m.length ≤ 9223372036854775807 := by unfold maxLen at gd2; omega
  have hb : ∀ s ∈ q.map toSd, s.1 < 18446744073709551616 ∧ s.2 < 18446744073709551616 := fun s hs => by
    obtain ⟨v, hv, rfl⟩ := List.mem_map.1 hs
    exact ⟨(g3 v hv).1, (g3 v hv).2.1⟩
  have hl : q.length = (q.map toSd).length := (List.length_map _).symm
  rw [← seed_sq] at hr
  rw [hl]
  have hS : (q.map toSd).length < 9223372036854775808 := by unfold maxLen at g2; omega
  by_cases hg : goodK T (q.map toSd) Kk Mm
  · obtain ⟨t, rfl⟩ : ∃ t : Nat, T = t := ⟨T.toNat, by have := hg.1; omega⟩
    exact kbGood t Kk Mm A c _ hS hb w hr hg B d l hll gu1 Bm dm m hml gu2 hr1 hr2
  · exact kbBad T Kk Mm A c _ hS hb w hr hg B d l hll gu1 Bm dm m hml gu2

end Go.Proofs.Ytclknendeeljaaa.K
