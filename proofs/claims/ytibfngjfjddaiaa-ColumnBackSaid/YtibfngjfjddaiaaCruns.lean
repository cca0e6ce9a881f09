/- Walks of the program's functions, printed by a program of this session; Lean checks them. -/
import Derived.Test.YtibfngjfjddaiaaCc
import Derived.Test.YtibfngjfjddaiaaCunp
namespace Go.Proofs.Ytibfngjfjddaiaa.K
open Go Go.RowKit Go.Proofs
set_option linter.unusedVariables false
set_option linter.unusedSimpArgs false


set_option maxRecDepth 20000 in
theorem cRuns (A : Option Addr) (c : Nat) (l : List Nat) (hl : l.length ≤ 1000000000) (hu : ∀ u ∈ l, u < 18446744073709551616) (w : World) (hr : Reads w A (ucells l)) : Fn Try.prog 60 [.slice A l.length c] [] (ret fun v H' => ∃ A' c', v = .slice A' (runsS l).length c' ∧ H' = [BY A' (runsS l).length c' (runsS l)]) w := by
  refine fn_enter Try.func60 rfl Try.ntmps60 rfl ?_
  refine vc_seq ?_
  refine vc_region ?_
  refine vl_val rfl (.some rfl) (val_assign rfl) ?_
  refine vl_nil ?_
  refine vc_seq ?_
  refine vc_region ?_
  refine vl_val rfl (.some rfl) (val_assign rfl) ?_
  refine vl_nilSl 5 1 ?_
  refine vl_nil ?_
  refine vc_seq ?_
  refine vc_region ?_
  refine vl_val rfl (.some rfl) (val_assign rfl) ?_
  refine vl_nil ?_
  refine vc_seq ?_
  refine vc_seq ?_
  refine vc_region ?_
  refine vl_val rfl (.some rfl) (val_move rfl) ?_
  refine vl_val rfl (.some rfl) (val_lenSl Try.runUnderlying95 rfl) ?_
  refine vl_val rfl (.some rfl) (val_move rfl) ?_
  refine vl_nil ?_
  refine vc_block ?_
  refine vc_loopw (fun k E H => ∃ (i n : Nat) (ou : List UInt8) (A2 : Option Addr) (c2 : Nat), i ≤ l.length ∧ k = l.length - i ∧ n ≤ i ∧ ou.length ≤ 20 * i ∧ ou ++ runsG n (l.drop i) = runsS l ∧ E = [(0, .slice A l.length c), (3, .slice A2 ou.length c2), (4, .int .u64 n), (7, .slice A l.length c), (8, .int .i64 l.length), (9, .int .i64 i)] ∧ H = [BY A2 ou.length c2 ou]) (l.length) ⟨_, _, _, ⟨0, 0, [], none, 0, by omega, rfl, by omega, by simp, rfl, rfl, rfl⟩, (by repeat (first | exact trivial | refine ⟨rfl, ?_⟩ | refine ⟨le_item rfl (by first | rfl | (congr 1; omega) | (simp; done) | (simp; omega)), ?_⟩)), (by repeat (first | exact .nil | (apply Sub.cons; · repeat (first | exact .head | apply Take.tail))))⟩ ?_
  intro k E H hI
  obtain ⟨i, n, ou, A2, c2, hi, rfl, hn, ho, hg, rfl, rfl⟩ := hI
  refine vc_seq ?_
  refine vc_region ?_
  refine vl_val rfl (.some rfl) (val_lt rfl rfl) ?_
  refine vl_nil ?_
  refine vc_seq ?_
  refine vc_cond rfl (fun hc0 => ?_) (fun hc0 => ?_)
  · (try replace hc0 := of_decide_eq_true hc0)
    have hub : l.getD i 0 < 18446744073709551616 := hu _ (by rw [List.getD_eq_getElem?_getD, List.getElem?_eq_getElem (by omega)]; exact List.getElem_mem _)
    refine vc_skip ?_
    refine vc_seq ?_
    refine vc_block ?_
    refine vc_seq ?_
    refine vc_region ?_
    refine vl_val rfl (.some rfl) (val_move rfl) ?_
    refine vl_val rfl (.some rfl) (val_indexAddr Try.runUnderlying95 Try.sizeOf96 rfl rfl (by first | exact rd_sl (by repeat (first | exact .head | apply In.tail | apply Take.tail | apply Upd.tail)) | exact rd_slr (by repeat (first | exact .head | apply In.tail | apply Take.tail | apply Upd.tail)) | exact rd_old (by assumption) rfl) (by omega) (by omega) (by first | omega | (simp only [bcells_length, icells_length, ucells_length, tcells_length]; omega) | (simp only [bcells_length, icells_length, ucells_length, tcells_length, fillG_length]; omega) | (simp; omega))) ?_
    refine vl_val rfl (.some rfl) (val_load Try.isAgg96 rfl (by first | exact cell_cells (by repeat (first | exact .head | apply In.tail | apply Take.tail | apply Upd.tail)) rfl | exact cell_rd (rd_sl (by repeat (first | exact .head | apply In.tail | apply Take.tail | apply Upd.tail))) (by first | exact bcells_at (by omega) | exact ucells_at (by omega) | exact icells_at (by omega) | exact tcells_at (by omega) | exact bcells_get (by omega) | exact icells_get (by omega) | exact tcells_get (by omega) | exact ucells_get (by omega)) | exact cell_rd (rd_old (by assumption) rfl) (by first | exact bcells_at (by omega) | exact ucells_at (by omega) | exact icells_at (by omega) | exact tcells_at (by omega) | exact bcells_get (by omega) | exact icells_get (by omega) | exact tcells_get (by omega) | exact ucells_get (by omega)) | exact cell_old (by assumption) (by simp [fps]))) ?_
    refine vl_val rfl (.some rfl) (val_assign rfl) ?_
    refine vl_val rfl (.some rfl) (val_assign rfl) ?_
    refine vl_nil ?_
    refine vc_seq ?_
    refine vc_region ?_
    refine vl_val rfl (.some rfl) (val_move rfl) ?_
    refine vl_val rfl (.some rfl) (val_add rfl rfl (by first | exact w_u64 (by omega) (by omega) | rfl)) ?_
    refine vl_val rfl (.some rfl) (val_assign rfl) ?_
    refine vl_nil ?_
    refine vc_seq ?_
    refine vc_region ?_
    refine vl_val rfl (.some rfl) (val_move rfl) ?_
    refine vl_val rfl (.some rfl) (val_add rfl rfl (by first | exact w_i64 (by omega) (by omega) | rfl)) ?_
    refine vl_val rfl (.some rfl) (val_move rfl) ?_
    refine vl_val rfl (.some rfl) (val_lenSl Try.runUnderlying95 rfl) ?_
    refine vl_val rfl (.some rfl) (val_eq rfl rfl) ?_
    refine vl_val rfl (.some rfl) (val_move rfl) ?_
    refine vl_split (t := 21) rfl (fun hg21 => ?_) (fun hg21 => ?_)
    · (try replace hg21 := of_decide_eq_true hg21)
      refine vl_off rfl rfl rfl rfl (.some rfl) ?_
      refine vl_off rfl rfl rfl rfl (.some rfl) ?_
      refine vl_off rfl rfl rfl rfl (.some rfl) ?_
      refine vl_off rfl rfl rfl rfl (.some rfl) ?_
      refine vl_off rfl rfl rfl rfl (.some rfl) ?_
      refine vl_off rfl rfl rfl rfl (.some rfl) ?_
      refine vl_off rfl rfl rfl rfl (.some rfl) ?_
      refine vl_val rfl (.some rfl) (val_pick rfl rfl) ?_
      refine vl_nil ?_
      refine vc_cond rfl (fun _ => ?_) (fun h => by cases h)
      refine vc_seq ?_
      refine vc_region ?_
      have hcut := runs_cut (n := n) (l := l) (i := i) (by omega) (by omega)
      refine vl_val rfl (.some rfl) (val_move rfl) ?_
      refine vl_val rfl (.some rfl) (val_move rfl) ?_
      refine vl_call (C := [BY A2 (ou).length c2 (ou)]) rfl rfl (.some rfl) Try.call81 rfl (by repeat (first | exact .nil | (apply Sub.cons; · repeat (first | exact .head | apply Take.tail)))) (fun w hw => cput A2 c2 (ou) (l.getD i 0) (by omega) (by omega) w) (fun v H' h => ?_)
      obtain ⟨A3, c3, rfl, rfl⟩ := h
      show VL _ _ _ _ _ (_ :: _)
      refine vl_val rfl (.some rfl) (val_move rfl) ?_
      refine vl_call (C := [BY A3 (ou ++ putN (l.getD i 0)).length c3 (ou ++ putN (l.getD i 0))]) rfl rfl (.some rfl) Try.call81 rfl (by repeat (first | exact .nil | (apply Sub.cons; · repeat (first | exact .head | apply Take.tail)))) (fun w hw => cput A3 c3 (ou ++ putN (l.getD i 0)) (n + 1) (by omega) (by have := putN_len (l.getD i 0); simp only [List.length_append]; omega) w) (fun v H' h => ?_)
      obtain ⟨A4, c4, rfl, rfl⟩ := h
      show VL _ _ _ _ _ (_ :: _)
      refine vl_val rfl (.some rfl) (val_assign rfl) ?_
      refine vl_nil ?_
      refine vc_region ?_
      refine vl_val rfl (.some rfl) (val_assign rfl) ?_
      refine vl_nil ?_
      refine vc_region ?_
      refine vl_val rfl (.some rfl) (val_add rfl rfl (by first | exact w_i64 (by omega) (by omega) | rfl)) ?_
      refine vl_val rfl (.some rfl) (val_move rfl) ?_
      refine vl_nil ?_
      have hp1 := putN_len (l.getD i 0)
      have hp2 := putN_len (n + 1)
      first
        | exact ⟨l.length - (i + 1), _, _, _, by omega, (by repeat (first | exact trivial | refine ⟨rfl, ?_⟩ | refine ⟨le_item rfl (by first | rfl | (congr 1; omega) | (simp; done) | (simp; omega)), ?_⟩)), (by repeat (first | exact .nil | (apply Sub.cons; · repeat (first | exact .head | apply Take.tail)))), ⟨i + 1, 0, ou ++ putN (l.getD i 0) ++ putN (n + 1), A4, c4, by omega, rfl, by omega, by simp only [List.length_append]; omega, by rw [← hg, hcut]; simp, rfl, rfl⟩⟩
        | exact ⟨l.length - (i + 1), _, _, _, by omega, (by repeat (first | exact trivial | refine ⟨rfl, ?_⟩ | refine ⟨le_item rfl (by first | rfl | (congr 1; omega) | (simp; done) | (simp; omega)), ?_⟩)), (by repeat (first | exact .nil | (apply Sub.cons; · repeat (first | exact .head | apply Take.tail)))), ⟨i + 1, n + 1, ou, A2, c2, by omega, rfl, by omega, by omega, by rw [← hg, runs_more (n := n) (i := i) (by omega) (by omega)], rfl, rfl⟩⟩
    · (try replace hg21 := of_decide_eq_false hg21)
      refine vl_on rfl rfl rfl rfl ?_
      refine vl_val rfl (.some rfl) (val_move rfl) ?_
      refine vl_on rfl rfl rfl rfl ?_
      refine vl_val rfl (.some rfl) (val_move rfl) ?_
      refine vl_on rfl rfl rfl rfl ?_
      refine vl_val rfl (.some rfl) (val_add rfl rfl (by first | exact w_i64 (by omega) (by omega) | rfl)) ?_
      refine vl_on rfl rfl rfl rfl ?_
      refine vl_val rfl (.some rfl) (val_indexAddr Try.runUnderlying95 Try.sizeOf96 rfl rfl (by first | exact rd_sl (by repeat (first | exact .head | apply In.tail | apply Take.tail | apply Upd.tail)) | exact rd_slr (by repeat (first | exact .head | apply In.tail | apply Take.tail | apply Upd.tail)) | exact rd_old (by assumption) rfl) (by omega) (by omega) (by first | omega | (simp only [bcells_length, icells_length, ucells_length, tcells_length]; omega) | (simp only [bcells_length, icells_length, ucells_length, tcells_length, fillG_length]; omega) | (simp; omega))) ?_
      refine vl_on rfl rfl rfl rfl ?_
      refine vl_val rfl (.some rfl) (val_load Try.isAgg96 rfl (cell_rd (rd_old hr rfl) (ucells_of (p := i + 1) (by omega) (by omega)))) ?_
      refine vl_on rfl rfl rfl rfl ?_
      refine vl_val rfl (.some rfl) (val_move rfl) ?_
      refine vl_on rfl rfl rfl rfl ?_
      refine vl_val rfl (.some rfl) (val_ne rfl rfl) ?_
      refine vl_val rfl (.some rfl) (val_pick rfl rfl) ?_
      refine vl_nil ?_
      refine vc_cond rfl (fun hc1 => ?_) (fun hc1 => ?_)
      · (try replace hc1 := of_decide_eq_true hc1)
        refine vc_seq ?_
        refine vc_region ?_
        have hcut := runs_cut (n := n) (l := l) (i := i) (by omega) (by omega)
        refine vl_val rfl (.some rfl) (val_move rfl) ?_
        refine vl_val rfl (.some rfl) (val_move rfl) ?_
        refine vl_call (C := [BY A2 (ou).length c2 (ou)]) rfl rfl (.some rfl) Try.call81 rfl (by repeat (first | exact .nil | (apply Sub.cons; · repeat (first | exact .head | apply Take.tail)))) (fun w hw => cput A2 c2 (ou) (l.getD i 0) (by omega) (by omega) w) (fun v H' h => ?_)
        obtain ⟨A3, c3, rfl, rfl⟩ := h
        show VL _ _ _ _ _ (_ :: _)
        refine vl_val rfl (.some rfl) (val_move rfl) ?_
        refine vl_call (C := [BY A3 (ou ++ putN (l.getD i 0)).length c3 (ou ++ putN (l.getD i 0))]) rfl rfl (.some rfl) Try.call81 rfl (by repeat (first | exact .nil | (apply Sub.cons; · repeat (first | exact .head | apply Take.tail)))) (fun w hw => cput A3 c3 (ou ++ putN (l.getD i 0)) (n + 1) (by omega) (by have := putN_len (l.getD i 0); simp only [List.length_append]; omega) w) (fun v H' h => ?_)
        obtain ⟨A4, c4, rfl, rfl⟩ := h
        show VL _ _ _ _ _ (_ :: _)
        refine vl_val rfl (.some rfl) (val_assign rfl) ?_
        refine vl_nil ?_
        refine vc_region ?_
        refine vl_val rfl (.some rfl) (val_assign rfl) ?_
        refine vl_nil ?_
        refine vc_region ?_
        refine vl_val rfl (.some rfl) (val_add rfl rfl (by first | exact w_i64 (by omega) (by omega) | rfl)) ?_
        refine vl_val rfl (.some rfl) (val_move rfl) ?_
        refine vl_nil ?_
        have hp1 := putN_len (l.getD i 0)
        have hp2 := putN_len (n + 1)
        first
          | exact ⟨l.length - (i + 1), _, _, _, by omega, (by repeat (first | exact trivial | refine ⟨rfl, ?_⟩ | refine ⟨le_item rfl (by first | rfl | (congr 1; omega) | (simp; done) | (simp; omega)), ?_⟩)), (by repeat (first | exact .nil | (apply Sub.cons; · repeat (first | exact .head | apply Take.tail)))), ⟨i + 1, 0, ou ++ putN (l.getD i 0) ++ putN (n + 1), A4, c4, by omega, rfl, by omega, by simp only [List.length_append]; omega, by rw [← hg, hcut]; simp, rfl, rfl⟩⟩
          | exact ⟨l.length - (i + 1), _, _, _, by omega, (by repeat (first | exact trivial | refine ⟨rfl, ?_⟩ | refine ⟨le_item rfl (by first | rfl | (congr 1; omega) | (simp; done) | (simp; omega)), ?_⟩)), (by repeat (first | exact .nil | (apply Sub.cons; · repeat (first | exact .head | apply Take.tail)))), ⟨i + 1, n + 1, ou, A2, c2, by omega, rfl, by omega, by omega, by rw [← hg, runs_more (n := n) (i := i) (by omega) (by omega)], rfl, rfl⟩⟩
      · (try replace hc1 := of_decide_eq_false hc1)
        refine vc_skip ?_
        refine vc_region ?_
        refine vl_val rfl (.some rfl) (val_add rfl rfl (by first | exact w_i64 (by omega) (by omega) | rfl)) ?_
        refine vl_val rfl (.some rfl) (val_move rfl) ?_
        refine vl_nil ?_
        have hp1 := putN_len (l.getD i 0)
        have hp2 := putN_len (n + 1)
        first
          | exact ⟨l.length - (i + 1), _, _, _, by omega, (by repeat (first | exact trivial | refine ⟨rfl, ?_⟩ | refine ⟨le_item rfl (by first | rfl | (congr 1; omega) | (simp; done) | (simp; omega)), ?_⟩)), (by repeat (first | exact .nil | (apply Sub.cons; · repeat (first | exact .head | apply Take.tail)))), ⟨i + 1, 0, ou ++ putN (l.getD i 0) ++ putN (n + 1), A4, c4, by omega, rfl, by omega, by simp only [List.length_append]; omega, by rw [← hg, hcut]; simp, rfl, rfl⟩⟩
          | exact ⟨l.length - (i + 1), _, _, _, by omega, (by repeat (first | exact trivial | refine ⟨rfl, ?_⟩ | refine ⟨le_item rfl (by first | rfl | (congr 1; omega) | (simp; done) | (simp; omega)), ?_⟩)), (by repeat (first | exact .nil | (apply Sub.cons; · repeat (first | exact .head | apply Take.tail)))), ⟨i + 1, n + 1, ou, A2, c2, by omega, rfl, by omega, by omega, by rw [← hg, runs_more (n := n) (i := i) (by omega) (by omega)], rfl, rfl⟩⟩
  · (try replace hc0 := of_decide_eq_false hc0)
    refine vc_exit ?_
    refine vc_seq ?_
    refine vc_region ?_
    refine vl_val rfl (.some rfl) (val_move rfl) ?_
    refine vl_val rfl (.some rfl) (val_assign rfl) ?_
    refine vl_nil ?_
    refine vc_ret ?_
    refine ⟨_, [BY A2 ou.length c2 ou], _, res1 Try.results60 rfl, (by repeat (first | exact .nil | (apply Sub.cons; · repeat (first | exact .head | apply Take.tail)))), ?_⟩
    have he : ou = runsS l := by rw [List.drop_of_length_le (by omega)] at hg; simpa [runsG] using hg
    rw [he]
    exact ⟨A2, c2, rfl, rfl⟩
set_option maxRecDepth 20000 in
theorem cDeltas (A : Option Addr) (c : Nat) (l : List Int) (hl : l.length ≤ 1000000000) (w : World) (hr : Reads w A (icells .i64 l)) : Fn Try.prog 62 [.slice A l.length c] [] (ret fun v H' => ∃ A' c', v = .slice A' (deltS l).length c' ∧ H' = [BY A' (deltS l).length c' (deltS l)]) w := by
  refine fn_enter Try.func62 rfl Try.ntmps62 rfl ?_
  refine vc_seq ?_
  refine vc_region ?_
  refine vl_val rfl (.some rfl) (val_assign rfl) ?_
  refine vl_nil ?_
  refine vc_seq ?_
  refine vc_region ?_
  refine vl_val rfl (.some rfl) (val_assign rfl) ?_
  refine vl_nilSl 5 1 ?_
  refine vl_nil ?_
  refine vc_seq ?_
  refine vc_region ?_
  refine vl_val rfl (.some rfl) (val_assign rfl) ?_
  refine vl_nil ?_
  refine vc_seq ?_
  refine vc_seq ?_
  refine vc_region ?_
  refine vl_val rfl (.some rfl) (val_move rfl) ?_
  refine vl_val rfl (.some rfl) (val_lenSl Try.runUnderlying56 rfl) ?_
  refine vl_val rfl (.some rfl) (val_move rfl) ?_
  refine vl_nil ?_
  refine vc_block ?_
  refine vc_loopw (fun k E H => ∃ (i : Nat) (last : Int) (ou : List UInt8) (A2 : Option Addr) (c2 : Nat), i ≤ l.length ∧ k = l.length - i ∧ ou.length ≤ 10 * i ∧ ou ++ deltG last (l.drop i) = deltS l ∧ E = [(0, .slice A l.length c), (3, .slice A2 ou.length c2), (4, .int .i64 last), (7, .slice A l.length c), (8, .int .i64 l.length), (9, .int .i64 i)] ∧ H = [BY A2 ou.length c2 ou]) (l.length) ⟨_, _, _, ⟨0, 0, [], none, 0, by omega, rfl, by simp, rfl, rfl, rfl⟩, (by repeat (first | exact trivial | refine ⟨rfl, ?_⟩ | refine ⟨le_item rfl (by first | rfl | (congr 1; omega) | (simp; done) | (simp; omega)), ?_⟩)), (by repeat (first | exact .nil | (apply Sub.cons; · repeat (first | exact .head | apply Take.tail))))⟩ ?_
  intro k E H hI
  obtain ⟨i, last, ou, A2, c2, hi, rfl, ho, hg, rfl, rfl⟩ := hI
  refine vc_seq ?_
  refine vc_region ?_
  refine vl_val rfl (.some rfl) (val_lt rfl rfl) ?_
  refine vl_nil ?_
  refine vc_seq ?_
  refine vc_cond rfl (fun hc0 => ?_) (fun hc0 => ?_)
  · (try replace hc0 := of_decide_eq_true hc0)
    refine vc_skip ?_
    refine vc_seq ?_
    refine vc_block ?_
    refine vc_seq ?_
    refine vc_region ?_
    refine vl_val rfl (.some rfl) (val_indexAddr Try.runUnderlying56 Try.sizeOf3 rfl rfl (by first | exact rd_sl (by repeat (first | exact .head | apply In.tail | apply Take.tail | apply Upd.tail)) | exact rd_slr (by repeat (first | exact .head | apply In.tail | apply Take.tail | apply Upd.tail)) | exact rd_old (by assumption) rfl) (by omega) (by omega) (by first | omega | (simp only [bcells_length, icells_length, ucells_length, tcells_length]; omega) | (simp only [bcells_length, icells_length, ucells_length, tcells_length, fillG_length]; omega) | (simp; omega))) ?_
    refine vl_val rfl (.some rfl) (val_load Try.isAgg3 rfl (by first | exact cell_cells (by repeat (first | exact .head | apply In.tail | apply Take.tail | apply Upd.tail)) rfl | exact cell_rd (rd_sl (by repeat (first | exact .head | apply In.tail | apply Take.tail | apply Upd.tail))) (by first | exact bcells_at (by omega) | exact ucells_at (by omega) | exact icells_at (by omega) | exact tcells_at (by omega) | exact bcells_get (by omega) | exact icells_get (by omega) | exact tcells_get (by omega) | exact ucells_get (by omega)) | exact cell_rd (rd_old (by assumption) rfl) (by first | exact bcells_at (by omega) | exact ucells_at (by omega) | exact icells_at (by omega) | exact tcells_at (by omega) | exact bcells_get (by omega) | exact icells_get (by omega) | exact tcells_get (by omega) | exact ucells_get (by omega)) | exact cell_old (by assumption) (by simp [fps]))) ?_
    refine vl_val rfl (.some rfl) (val_assign rfl) ?_
    refine vl_nil ?_
    refine vc_seq ?_
    refine vc_region ?_
    refine vl_val rfl (.some rfl) (val_move rfl) ?_
    refine vl_val rfl (.some rfl) (val_move rfl) ?_
    refine vl_val rfl (.some rfl) (val_move rfl) ?_
    refine vl_val rfl (.some rfl) (val_sub rfl rfl rfl) ?_
    refine vl_callV rfl rfl (.some rfl) Try.call84 rfl (fun w hw => cZig _ (wrap_bd _).1 (wrap_bd _).2 w) ?_
    refine vl_call (C := [BY A2 (ou).length c2 (ou)]) rfl rfl (.some rfl) Try.call81 rfl (by repeat (first | exact .nil | (apply Sub.cons; · repeat (first | exact .head | apply Take.tail)))) (fun w hw => cput A2 c2 (ou) (zigS (IntKind.i64.wrap (l.getD i 0 - last))) (zigS_lt (wrap_bd _).1 (wrap_bd _).2) (by omega) w) (fun v H' h => ?_)
    obtain ⟨A3, c3, rfl, rfl⟩ := h
    show VL _ _ _ _ _ (_ :: _)
    refine vl_val rfl (.some rfl) (val_assign rfl) ?_
    refine vl_nil ?_
    refine vc_region ?_
    refine vl_val rfl (.some rfl) (val_move rfl) ?_
    refine vl_val rfl (.some rfl) (val_assign rfl) ?_
    refine vl_nil ?_
    refine vc_region ?_
    refine vl_val rfl (.some rfl) (val_add rfl rfl (by first | exact w_i64 (by omega) (by omega) | rfl)) ?_
    refine vl_val rfl (.some rfl) (val_move rfl) ?_
    refine vl_nil ?_
    have hp1 := putN_len (zigS (IntKind.i64.wrap (l.getD i 0 - last)))
    exact ⟨l.length - (i + 1), _, _, _, by omega, (by repeat (first | exact trivial | refine ⟨rfl, ?_⟩ | refine ⟨le_item rfl (by first | rfl | (congr 1; omega) | (simp; done) | (simp; omega)), ?_⟩)), (by repeat (first | exact .nil | (apply Sub.cons; · repeat (first | exact .head | apply Take.tail)))), ⟨i + 1, l.getD i 0, ou ++ putN (zigS (IntKind.i64.wrap (l.getD i 0 - last))), A3, c3, by omega, rfl, by simp only [List.length_append]; omega, by rw [← hg, delt_step (last := last) (i := i) (by omega), List.append_assoc], rfl, rfl⟩⟩
  · (try replace hc0 := of_decide_eq_false hc0)
    refine vc_exit ?_
    refine vc_seq ?_
    refine vc_region ?_
    refine vl_val rfl (.some rfl) (val_move rfl) ?_
    refine vl_val rfl (.some rfl) (val_assign rfl) ?_
    refine vl_nil ?_
    refine vc_ret ?_
    refine ⟨_, [BY A2 ou.length c2 ou], _, res1 Try.results62 rfl, (by repeat (first | exact .nil | (apply Sub.cons; · repeat (first | exact .head | apply Take.tail)))), ?_⟩
    have he : ou = deltS l := by rw [List.drop_of_length_le (by omega)] at hg; simpa [deltG] using hg
    rw [he]
    exact ⟨A2, c2, rfl, rfl⟩
set_option maxRecDepth 20000 in
theorem rDeltas (A : Option Addr) (c : Nat) (l : List Int) (hl : l.length ≤ 1000000000) (w : World) (hr : Reads w A (icells .i64 l)) : Fn Try.prog 66 [.slice A l.length c] [] (ret fun v H' => ∃ A' c', v = .slice A' (deltS l).length c' ∧ H' = [BY A' (deltS l).length c' (deltS l)]) w := by
  refine fn_enter Try.func66 rfl Try.ntmps66 rfl ?_
  refine vc_seq ?_
  refine vc_region ?_
  refine vl_val rfl (.some rfl) (val_assign rfl) ?_
  refine vl_nil ?_
  refine vc_seq ?_
  refine vc_region ?_
  refine vl_val rfl (.some rfl) (val_assign rfl) ?_
  refine vl_nilSl 5 1 ?_
  refine vl_nil ?_
  refine vc_seq ?_
  refine vc_seq ?_
  refine vc_region ?_
  refine vl_val rfl (.some rfl) (val_move rfl) ?_
  refine vl_val rfl (.some rfl) (val_lenSl Try.runUnderlying56 rfl) ?_
  refine vl_val rfl (.some rfl) (val_move rfl) ?_
  refine vl_nil ?_
  refine vc_block ?_
  refine vc_loopw (fun k E H => ∃ (i : Nat) (last : Int) (ou : List UInt8) (A2 : Option Addr) (c2 : Nat), i ≤ l.length ∧ k = l.length - i ∧ ou.length ≤ 10 * i ∧ last = (if i = 0 then 0 else l.getD (i - 1) 0) ∧ ou ++ deltG last (l.drop i) = deltS l ∧ E = [(0, .slice A l.length c), (3, .slice A2 ou.length c2), (7, .slice A l.length c), (8, .int .i64 l.length), (9, .int .i64 i)] ∧ H = [BY A2 ou.length c2 ou]) (l.length) ⟨_, _, _, ⟨0, 0, [], none, 0, by omega, rfl, by simp, rfl, rfl, rfl, rfl⟩, (by repeat (first | exact trivial | refine ⟨rfl, ?_⟩ | refine ⟨le_item rfl (by first | rfl | (congr 1; omega) | (simp; done) | (simp; omega)), ?_⟩)), (by repeat (first | exact .nil | (apply Sub.cons; · repeat (first | exact .head | apply Take.tail))))⟩ ?_
  intro k E H hI
  obtain ⟨i, last, ou, A2, c2, hi, rfl, ho, hla, hg, rfl, rfl⟩ := hI
  refine vc_seq ?_
  refine vc_region ?_
  refine vl_val rfl (.some rfl) (val_lt rfl rfl) ?_
  refine vl_nil ?_
  refine vc_seq ?_
  refine vc_cond rfl (fun hc0 => ?_) (fun hc0 => ?_)
  · (try replace hc0 := of_decide_eq_true hc0)
    refine vc_skip ?_
    refine vc_seq ?_
    refine vc_block ?_
    refine vc_seq ?_
    refine vc_region ?_
    refine vl_val rfl (.some rfl) (val_move rfl) ?_
    refine vl_val rfl (.some rfl) (val_indexAddr Try.runUnderlying56 Try.sizeOf3 rfl rfl (by first | exact rd_sl (by repeat (first | exact .head | apply In.tail | apply Take.tail | apply Upd.tail)) | exact rd_slr (by repeat (first | exact .head | apply In.tail | apply Take.tail | apply Upd.tail)) | exact rd_old (by assumption) rfl) (by omega) (by omega) (by first | omega | (simp only [bcells_length, icells_length, ucells_length, tcells_length]; omega) | (simp only [bcells_length, icells_length, ucells_length, tcells_length, fillG_length]; omega) | (simp; omega))) ?_
    refine vl_val rfl (.some rfl) (val_load Try.isAgg3 rfl (by first | exact cell_cells (by repeat (first | exact .head | apply In.tail | apply Take.tail | apply Upd.tail)) rfl | exact cell_rd (rd_sl (by repeat (first | exact .head | apply In.tail | apply Take.tail | apply Upd.tail))) (by first | exact bcells_at (by omega) | exact ucells_at (by omega) | exact icells_at (by omega) | exact tcells_at (by omega) | exact bcells_get (by omega) | exact icells_get (by omega) | exact tcells_get (by omega) | exact ucells_get (by omega)) | exact cell_rd (rd_old (by assumption) rfl) (by first | exact bcells_at (by omega) | exact ucells_at (by omega) | exact icells_at (by omega) | exact tcells_at (by omega) | exact bcells_get (by omega) | exact icells_get (by omega) | exact tcells_get (by omega) | exact ucells_get (by omega)) | exact cell_old (by assumption) (by simp [fps]))) ?_
    refine vl_val rfl (.some rfl) (val_assign rfl) ?_
    refine vl_val rfl (.some rfl) (val_assign rfl) ?_
    refine vl_nil ?_
    refine vc_seq ?_
    refine vc_region ?_
    refine vl_val rfl (.some rfl) (val_assign rfl) ?_
    refine vl_nil ?_
    refine vc_seq ?_
    refine vc_seq ?_
    refine vc_region ?_
    refine vl_val rfl (.some rfl) (val_move rfl) ?_
    refine vl_val rfl (.some rfl) (val_gt rfl rfl) ?_
    refine vl_nil ?_
    refine vc_cond rfl (fun hc1 => ?_) (fun hc1 => ?_)
    · (try replace hc1 := of_decide_eq_true hc1)
      replace hla : last = l.getD (i - 1) 0 := by rw [hla, if_neg (by omega)]
      refine vc_region ?_
      refine vl_val rfl (.some rfl) (val_move rfl) ?_
      refine vl_val rfl (.some rfl) (val_move rfl) ?_
      refine vl_val rfl (.some rfl) (val_sub rfl rfl (by first | exact w_i64 (by omega) (by omega) | rfl)) ?_
      refine vl_val rfl (.some rfl) (val_indexAddr Try.runUnderlying56 Try.sizeOf3 rfl rfl (by first | exact rd_sl (by repeat (first | exact .head | apply In.tail | apply Take.tail | apply Upd.tail)) | exact rd_slr (by repeat (first | exact .head | apply In.tail | apply Take.tail | apply Upd.tail)) | exact rd_old (by assumption) rfl) (by omega) (by omega) (by first | omega | (simp only [bcells_length, icells_length, ucells_length, tcells_length]; omega) | (simp only [bcells_length, icells_length, ucells_length, tcells_length, fillG_length]; omega) | (simp; omega))) ?_
      refine vl_val rfl (.some rfl) (val_load Try.isAgg3 rfl (cell_rd (rd_old hr rfl) (icells_of (p := i - 1) (by omega) (by omega)))) ?_
      refine vl_val rfl (.some rfl) (val_convInt Try.runUnderlying3 Try.runUnderlying96 rfl rfl) ?_
      refine vl_val rfl (.some rfl) (val_assign rfl) ?_
      refine vl_nil ?_
      refine vc_region ?_
      refine vl_val rfl (.some rfl) (val_move rfl) ?_
      refine vl_val rfl (.some rfl) (val_move rfl) ?_
      refine vl_val rfl (.some rfl) (val_convInt Try.runUnderlying3 Try.runUnderlying96 rfl rfl) ?_
      refine vl_val rfl (.some rfl) (val_move rfl) ?_
      refine vl_val rfl (.some rfl) (val_sub rfl rfl rfl) ?_
      refine vl_val rfl (.some rfl) (val_convInt Try.runUnderlying96 Try.runUnderlying3 rfl (show _ = IntKind.i64.wrap (l.getD i 0 - last) by rw [hla]; first | rw [diff_zero] | rw [diff_wrap])) ?_
      refine vl_callV rfl rfl (.some rfl) Try.call85 rfl (fun w hw => rZig _ (wrap_bd _).1 (wrap_bd _).2 w) ?_
      refine vl_call (C := []) rfl rfl (.some rfl) Try.call63 rfl .nil (fun w' hw => rPut A2 c2 (ou) (zigS (IntKind.i64.wrap (l.getD i 0 - last))) (zigS_lt (wrap_bd _).1 (wrap_bd _).2) (by omega) w' (rdw (rd_sl (by repeat (first | exact .head | apply In.tail | apply Take.tail | apply Upd.tail))) hw)) (fun v H' h => ?_)
      obtain ⟨A3, c3, rfl, rfl⟩ := h
      show VL _ _ _ _ _ (_ :: _)
      refine vl_val rfl (.some rfl) (val_assign rfl) ?_
      refine vl_nil ?_
      refine vc_region ?_
      refine vl_val rfl (.some rfl) (val_add rfl rfl (by first | exact w_i64 (by omega) (by omega) | rfl)) ?_
      refine vl_val rfl (.some rfl) (val_move rfl) ?_
      refine vl_nil ?_
      have hp1 := putN_len (zigS (IntKind.i64.wrap (l.getD i 0 - last)))
      exact ⟨l.length - (i + 1), _, _, _, by omega, (by repeat (first | exact trivial | refine ⟨rfl, ?_⟩ | refine ⟨le_item rfl (by first | rfl | (congr 1; omega) | (simp; done) | (simp; omega)), ?_⟩)), (by repeat (first | exact .nil | (apply Sub.cons; · repeat (first | exact .head | apply Take.tail)))), ⟨i + 1, l.getD i 0, ou ++ putN (zigS (IntKind.i64.wrap (l.getD i 0 - last))), A3, c3, by omega, rfl, by simp only [List.length_append]; omega, by rw [if_neg (by omega), Nat.add_sub_cancel], by rw [← hg, delt_step (last := last) (i := i) (by omega), List.append_assoc], rfl, rfl⟩⟩
    · (try replace hc1 := of_decide_eq_false hc1)
      replace hla : last = 0 := by rw [hla, if_pos (by omega)]
      refine vc_skip ?_
      refine vc_region ?_
      refine vl_val rfl (.some rfl) (val_move rfl) ?_
      refine vl_val rfl (.some rfl) (val_move rfl) ?_
      refine vl_val rfl (.some rfl) (val_convInt Try.runUnderlying3 Try.runUnderlying96 rfl rfl) ?_
      refine vl_val rfl (.some rfl) (val_move rfl) ?_
      refine vl_val rfl (.some rfl) (val_sub rfl rfl rfl) ?_
      refine vl_val rfl (.some rfl) (val_convInt Try.runUnderlying96 Try.runUnderlying3 rfl (show _ = IntKind.i64.wrap (l.getD i 0 - last) by rw [hla]; first | rw [diff_zero] | rw [diff_wrap])) ?_
      refine vl_callV rfl rfl (.some rfl) Try.call85 rfl (fun w hw => rZig _ (wrap_bd _).1 (wrap_bd _).2 w) ?_
      refine vl_call (C := []) rfl rfl (.some rfl) Try.call63 rfl .nil (fun w' hw => rPut A2 c2 (ou) (zigS (IntKind.i64.wrap (l.getD i 0 - last))) (zigS_lt (wrap_bd _).1 (wrap_bd _).2) (by omega) w' (rdw (rd_sl (by repeat (first | exact .head | apply In.tail | apply Take.tail | apply Upd.tail))) hw)) (fun v H' h => ?_)
      obtain ⟨A3, c3, rfl, rfl⟩ := h
      show VL _ _ _ _ _ (_ :: _)
      refine vl_val rfl (.some rfl) (val_assign rfl) ?_
      refine vl_nil ?_
      refine vc_region ?_
      refine vl_val rfl (.some rfl) (val_add rfl rfl (by first | exact w_i64 (by omega) (by omega) | rfl)) ?_
      refine vl_val rfl (.some rfl) (val_move rfl) ?_
      refine vl_nil ?_
      have hp1 := putN_len (zigS (IntKind.i64.wrap (l.getD i 0 - last)))
      exact ⟨l.length - (i + 1), _, _, _, by omega, (by repeat (first | exact trivial | refine ⟨rfl, ?_⟩ | refine ⟨le_item rfl (by first | rfl | (congr 1; omega) | (simp; done) | (simp; omega)), ?_⟩)), (by repeat (first | exact .nil | (apply Sub.cons; · repeat (first | exact .head | apply Take.tail)))), ⟨i + 1, l.getD i 0, ou ++ putN (zigS (IntKind.i64.wrap (l.getD i 0 - last))), A3, c3, by omega, rfl, by simp only [List.length_append]; omega, by rw [if_neg (by omega), Nat.add_sub_cancel], by rw [← hg, delt_step (last := last) (i := i) (by omega), List.append_assoc], rfl, rfl⟩⟩
  · (try replace hc0 := of_decide_eq_false hc0)
    refine vc_exit ?_
    refine vc_seq ?_
    refine vc_region ?_
    refine vl_val rfl (.some rfl) (val_move rfl) ?_
    refine vl_val rfl (.some rfl) (val_assign rfl) ?_
    refine vl_nil ?_
    refine vc_ret ?_
    refine ⟨_, [BY A2 ou.length c2 ou], _, res1 Try.results66 rfl, (by repeat (first | exact .nil | (apply Sub.cons; · repeat (first | exact .head | apply Take.tail)))), ?_⟩
    have he : ou = deltS l := by rw [List.drop_of_length_le (by omega)] at hg; simpa [deltG] using hg
    rw [he]
    exact ⟨A2, c2, rfl, rfl⟩
set_option maxRecDepth 20000 in
theorem rRuns (A : Option Addr) (c : Nat) (l : List Nat) (hl : l.length ≤ 1000000000) (hu : ∀ u ∈ l, u < 18446744073709551616) (w : World) (hr : Reads w A (ucells l)) : Fn Try.prog 65 [.slice A l.length c] [] (ret fun v H' => ∃ A' c', v = .slice A' (runsS l).length c' ∧ H' = [BY A' (runsS l).length c' (runsS l)]) w := by
  refine fn_enter Try.func65 rfl Try.ntmps65 rfl ?_
  refine vc_seq ?_
  refine vc_region ?_
  refine vl_val rfl (.some rfl) (val_assign rfl) ?_
  refine vl_nil ?_
  refine vc_seq ?_
  refine vc_region ?_
  refine vl_val rfl (.some rfl) (val_assign rfl) ?_
  refine vl_nilSl 5 1 ?_
  refine vl_nil ?_
  refine vc_seq ?_
  refine vc_seq ?_
  refine vc_region ?_
  refine vl_val rfl (.some rfl) (val_assign rfl) ?_
  refine vl_nil ?_
  refine vc_block ?_
  refine vc_loopw (fun k E H => ∃ (i : Nat) (ou : List UInt8) (A2 : Option Addr) (c2 : Nat), i ≤ l.length ∧ k = l.length - i ∧ ou.length ≤ 20 * i ∧ ou ++ runsG 0 (l.drop i) = runsS l ∧ E = [(0, .slice A l.length c), (3, .slice A2 ou.length c2), (4, .int .i64 i)] ∧ H = [BY A2 ou.length c2 ou]) (l.length) ⟨_, _, _, ⟨0, [], none, 0, by omega, rfl, by simp, rfl, rfl, rfl⟩, (by repeat (first | exact trivial | refine ⟨rfl, ?_⟩ | refine ⟨le_item rfl (by first | rfl | (congr 1; omega) | (simp; done) | (simp; omega)), ?_⟩)), (by repeat (first | exact .nil | (apply Sub.cons; · repeat (first | exact .head | apply Take.tail))))⟩ ?_
  intro k E H hI
  obtain ⟨i, ou, A2, c2, hi, rfl, ho, hg, rfl, rfl⟩ := hI
  refine vc_seq ?_
  refine vc_seq ?_
  refine vc_region ?_
  refine vl_val rfl (.some rfl) (val_move rfl) ?_
  refine vl_val rfl (.some rfl) (val_move rfl) ?_
  refine vl_val rfl (.some rfl) (val_lenSl Try.runUnderlying95 rfl) ?_
  refine vl_val rfl (.some rfl) (val_lt rfl rfl) ?_
  refine vl_nil ?_
  refine vc_cond rfl (fun hc0 => ?_) (fun hc0 => ?_)
  · (try replace hc0 := of_decide_eq_true hc0)
    have hub : l.getD i 0 < 18446744073709551616 := hu _ (by rw [List.getD_eq_getElem?_getD, List.getElem?_eq_getElem (by omega)]; exact List.getElem_mem _)
    refine vc_skip ?_
    refine vc_block ?_
    refine vc_seq ?_
    refine vc_region ?_
    refine vl_val rfl (.some rfl) (val_move rfl) ?_
    refine vl_val rfl (.some rfl) (val_assign rfl) ?_
    refine vl_nil ?_
    refine vc_seq ?_
    refine vc_block ?_
    refine vc_loopw (fun k E H => ∃ k2 : Nat, k2 ≤ l.length ∧ k = l.length - k2 ∧ i ≤ k2 ∧ (i < k2 → l.getD (k2 - 1) 0 = l.getD i 0 ∧ runsG 0 (l.drop i) = runsG (k2 - 1 - i) (l.drop (k2 - 1))) ∧ E = [(0, .slice A l.length c), (3, .slice A2 ou.length c2), (4, .int .i64 i), (5, .int .i64 k2)] ∧ H = [BY A2 ou.length c2 ou]) (l.length - i) ⟨_, _, _, ⟨i, by omega, rfl, by omega, fun h => absurd h (by omega), rfl, rfl⟩, (by repeat (first | exact trivial | refine ⟨rfl, ?_⟩ | refine ⟨le_item rfl (by first | rfl | (congr 1; omega) | (simp; done) | (simp; omega)), ?_⟩)), (by repeat (first | exact .nil | (apply Sub.cons; · repeat (first | exact .head | apply Take.tail))))⟩ ?_
    intro k E H hI
    obtain ⟨k2, hk2, rfl, hik, hin, rfl, rfl⟩ := hI
    refine vc_seq ?_
    refine vc_seq ?_
    refine vc_draws [0, 1, 2, 3, 4, 5, 6, 7, 8, 9, 10, 11, 12, 13, 14] [] [0, 1, 2, 3, 4, 5, 6, 7, 8, 9, 10, 11, 12, 13, 14] rfl (by kernel_rfl) (fun _ _ _ h => h) ?_
    refine vd_val rfl rfl rfl (.some rfl) (val_move rfl) ?_
    refine vd_val rfl rfl rfl (.some rfl) (val_move rfl) ?_
    refine vd_val rfl rfl rfl (.some rfl) (val_lenSl Try.runUnderlying95 rfl) ?_
    refine vd_val rfl rfl rfl (.some rfl) (val_lt rfl rfl) ?_
    refine vd_val rfl rfl rfl (.some rfl) (val_move rfl) ?_
    refine vd_split (t := 15) rfl (fun hg15 => ?_) (fun hg15 => ?_)
    · (try replace hg15 := of_decide_eq_true hg15)
      refine vd_on rfl rfl rfl rfl rfl rfl (.some rfl) (val_move rfl) ?_
      refine vd_on rfl rfl rfl rfl rfl rfl (.some rfl) (val_move rfl) ?_
      refine vd_on rfl rfl rfl rfl rfl rfl (.some rfl) (val_indexAddr Try.runUnderlying95 Try.sizeOf96 rfl rfl (by first | exact rd_sl (by repeat (first | exact .head | apply In.tail | apply Take.tail | apply Upd.tail)) | exact rd_slr (by repeat (first | exact .head | apply In.tail | apply Take.tail | apply Upd.tail)) | exact rd_old (by assumption) rfl) (by omega) (by omega) (by first | omega | (simp only [bcells_length, icells_length, ucells_length, tcells_length]; omega) | (simp only [bcells_length, icells_length, ucells_length, tcells_length, fillG_length]; omega) | (simp; omega))) ?_
      refine vd_on rfl rfl rfl rfl rfl rfl (.some rfl) (val_load Try.isAgg96 rfl (by first | exact cell_cells (by repeat (first | exact .head | apply In.tail | apply Take.tail | apply Upd.tail)) rfl | exact cell_rd (rd_sl (by repeat (first | exact .head | apply In.tail | apply Take.tail | apply Upd.tail))) (by first | exact bcells_at (by omega) | exact ucells_at (by omega) | exact icells_at (by omega) | exact tcells_at (by omega) | exact bcells_get (by omega) | exact icells_get (by omega) | exact tcells_get (by omega) | exact ucells_get (by omega)) | exact cell_rd (rd_old (by assumption) rfl) (by first | exact bcells_at (by omega) | exact ucells_at (by omega) | exact icells_at (by omega) | exact tcells_at (by omega) | exact bcells_get (by omega) | exact icells_get (by omega) | exact tcells_get (by omega) | exact ucells_get (by omega)) | exact cell_old (by assumption) (by simp [fps]))) ?_
      refine vd_on rfl rfl rfl rfl rfl rfl (.some rfl) (val_move rfl) ?_
      refine vd_on rfl rfl rfl rfl rfl rfl (.some rfl) (val_move rfl) ?_
      refine vd_on rfl rfl rfl rfl rfl rfl (.some rfl) (val_indexAddr Try.runUnderlying95 Try.sizeOf96 rfl rfl (by first | exact rd_sl (by repeat (first | exact .head | apply In.tail | apply Take.tail | apply Upd.tail)) | exact rd_slr (by repeat (first | exact .head | apply In.tail | apply Take.tail | apply Upd.tail)) | exact rd_old (by assumption) rfl) (by omega) (by omega) (by first | omega | (simp only [bcells_length, icells_length, ucells_length, tcells_length]; omega) | (simp only [bcells_length, icells_length, ucells_length, tcells_length, fillG_length]; omega) | (simp; omega))) ?_
      refine vd_on rfl rfl rfl rfl rfl rfl (.some rfl) (val_load Try.isAgg96 rfl (by first | exact cell_cells (by repeat (first | exact .head | apply In.tail | apply Take.tail | apply Upd.tail)) rfl | exact cell_rd (rd_sl (by repeat (first | exact .head | apply In.tail | apply Take.tail | apply Upd.tail))) (by first | exact bcells_at (by omega) | exact ucells_at (by omega) | exact icells_at (by omega) | exact tcells_at (by omega) | exact bcells_get (by omega) | exact icells_get (by omega) | exact tcells_get (by omega) | exact ucells_get (by omega)) | exact cell_rd (rd_old (by assumption) rfl) (by first | exact bcells_at (by omega) | exact ucells_at (by omega) | exact icells_at (by omega) | exact tcells_at (by omega) | exact bcells_get (by omega) | exact icells_get (by omega) | exact tcells_get (by omega) | exact ucells_get (by omega)) | exact cell_old (by assumption) (by simp [fps]))) ?_
      refine vd_on rfl rfl rfl rfl rfl rfl (.some rfl) (val_eq rfl rfl) ?_
      refine vd_val rfl rfl rfl (.some rfl) (val_pick rfl rfl) ?_
      refine vd_nil ?_
      refine vc_cond rfl (fun hc1 => ?_) (fun hc1 => ?_)
      · (try replace hc1 := of_decide_eq_true hc1)
        have hkl : k2 < l.length := by omega
        have hke : l.getD k2 0 = l.getD i 0 := by omega
        refine vc_skip ?_
        refine vc_block ?_
        refine vc_region ?_
        refine vl_val rfl (.some rfl) (val_move rfl) ?_
        refine vl_val rfl (.some rfl) (val_add rfl rfl (by first | exact w_i64 (by omega) (by omega) | rfl)) ?_
        refine vl_val rfl (.some rfl) (val_assign rfl) ?_
        refine vl_nil ?_
        exact ⟨l.length - (k2 + 1), _, _, _, by omega, (by repeat (first | exact trivial | refine ⟨rfl, ?_⟩ | refine ⟨le_item rfl (by first | rfl | (congr 1; omega) | (simp; done) | (simp; omega)), ?_⟩)), (by repeat (first | exact .nil | (apply Sub.cons; · repeat (first | exact .head | apply Take.tail)))), ⟨k2 + 1, by omega, rfl, by omega, fun _ => by
          rw [Nat.add_sub_cancel]
          refine ⟨hke, ?_⟩
          rcases Nat.lt_or_ge i k2 with h | h
          · obtain ⟨h1, h2⟩ := hin h
            rw [h2, runs_more (n := k2 - 1 - i) (i := k2 - 1) (by omega) (by rw [show k2 - 1 + 1 = k2 by omega]; omega)]
            rw [show k2 - 1 + 1 = k2 by omega, show k2 - 1 - i + 1 = k2 - i by omega]
          · obtain rfl : k2 = i := by omega
            rw [Nat.sub_self], rfl, rfl⟩⟩
      · (try replace hc1 := of_decide_eq_false hc1)
        refine vc_exit ?_
        refine vc_seq ?_
        refine vc_region ?_
        have hik2 : i < k2 := by
          rcases Nat.lt_or_ge i k2 with h | h
          · exact h
          · exfalso
            obtain rfl : k2 = i := by omega
            omega
        obtain ⟨hh1, hh2⟩ := hin hik2
        have hend : runsG 0 (l.drop i) = putN (l.getD i 0) ++ putN (k2 - i) ++ runsG 0 (l.drop k2) := by
          rw [hh2, runs_cut (n := k2 - 1 - i) (i := k2 - 1) (by omega) (by rw [show k2 - 1 + 1 = k2 by omega, hh1]; omega), hh1, show k2 - 1 + 1 = k2 by omega, show k2 - 1 - i + 1 = k2 - i by omega]
        refine vl_val rfl (.some rfl) (val_move rfl) ?_
        refine vl_val rfl (.some rfl) (val_move rfl) ?_
        refine vl_val rfl (.some rfl) (val_move rfl) ?_
        refine vl_val rfl (.some rfl) (val_indexAddr Try.runUnderlying95 Try.sizeOf96 rfl rfl (by first | exact rd_sl (by repeat (first | exact .head | apply In.tail | apply Take.tail | apply Upd.tail)) | exact rd_slr (by repeat (first | exact .head | apply In.tail | apply Take.tail | apply Upd.tail)) | exact rd_old (by assumption) rfl) (by omega) (by omega) (by first | omega | (simp only [bcells_length, icells_length, ucells_length, tcells_length]; omega) | (simp only [bcells_length, icells_length, ucells_length, tcells_length, fillG_length]; omega) | (simp; omega))) ?_
        refine vl_val rfl (.some rfl) (val_load Try.isAgg96 rfl (by first | exact cell_cells (by repeat (first | exact .head | apply In.tail | apply Take.tail | apply Upd.tail)) rfl | exact cell_rd (rd_sl (by repeat (first | exact .head | apply In.tail | apply Take.tail | apply Upd.tail))) (by first | exact bcells_at (by omega) | exact ucells_at (by omega) | exact icells_at (by omega) | exact tcells_at (by omega) | exact bcells_get (by omega) | exact icells_get (by omega) | exact tcells_get (by omega) | exact ucells_get (by omega)) | exact cell_rd (rd_old (by assumption) rfl) (by first | exact bcells_at (by omega) | exact ucells_at (by omega) | exact icells_at (by omega) | exact tcells_at (by omega) | exact bcells_get (by omega) | exact icells_get (by omega) | exact tcells_get (by omega) | exact ucells_get (by omega)) | exact cell_old (by assumption) (by simp [fps]))) ?_
        refine vl_call (C := []) rfl rfl (.some rfl) Try.call63 rfl .nil (fun w' hw => rPut A2 c2 (ou) (l.getD i 0) (by omega) (by omega) w' (rdw (rd_sl (by repeat (first | exact .head | apply In.tail | apply Take.tail | apply Upd.tail))) hw)) (fun v H' h => ?_)
        obtain ⟨A3, c3, rfl, rfl⟩ := h
        show VL _ _ _ _ _ (_ :: _)
        refine vl_val rfl (.some rfl) (val_move rfl) ?_
        refine vl_val rfl (.some rfl) (val_move rfl) ?_
        refine vl_val rfl (.some rfl) (val_sub rfl rfl (by first | exact w_i64 (by omega) (by omega) | rfl)) ?_
        refine vl_val rfl (.some rfl) (val_convInt Try.runUnderlying3 Try.runUnderlying96 rfl (show _ = ((k2 - i : Nat) : Int) by rw [w_u64 (by omega) (by omega)]; omega)) ?_
        refine vl_call (C := []) rfl rfl (.some rfl) Try.call63 rfl .nil (fun w' hw => rPut A3 c3 (ou ++ putN (l.getD i 0)) (k2 - i) (by omega) (by have := putN_len (l.getD i 0); simp only [List.length_append]; omega) w' (rdw (rd_sl (by repeat (first | exact .head | apply In.tail | apply Take.tail | apply Upd.tail))) hw)) (fun v H' h => ?_)
        obtain ⟨A4, c4, rfl, rfl⟩ := h
        show VL _ _ _ _ _ (_ :: _)
        refine vl_val rfl (.some rfl) (val_assign rfl) ?_
        refine vl_nil ?_
        refine vc_region ?_
        refine vl_val rfl (.some rfl) (val_move rfl) ?_
        refine vl_val rfl (.some rfl) (val_assign rfl) ?_
        refine vl_nil ?_
        have hp1 := putN_len (l.getD i 0)
        have hp2 := putN_len (k2 - i)
        exact ⟨l.length - k2, _, _, _, by omega, (by repeat (first | exact trivial | refine ⟨rfl, ?_⟩ | refine ⟨le_item rfl (by first | rfl | (congr 1; omega) | (simp; done) | (simp; omega)), ?_⟩)), (by repeat (first | exact .nil | (apply Sub.cons; · repeat (first | exact .head | apply Take.tail)))), ⟨k2, ou ++ putN (l.getD i 0) ++ putN (k2 - i), A4, c4, by omega, rfl, by simp only [List.length_append]; omega, by rw [← hg, hend]; simp, rfl, rfl⟩⟩
    · (try replace hg15 := of_decide_eq_false hg15)
      refine vd_off rfl rfl rfl rfl rfl rfl (.some rfl) ?_
      refine vd_off rfl rfl rfl rfl rfl rfl (.some rfl) ?_
      refine vd_off rfl rfl rfl rfl rfl rfl (.some rfl) ?_
      refine vd_off rfl rfl rfl rfl rfl rfl (.some rfl) ?_
      refine vd_off rfl rfl rfl rfl rfl rfl (.some rfl) ?_
      refine vd_off rfl rfl rfl rfl rfl rfl (.some rfl) ?_
      refine vd_off rfl rfl rfl rfl rfl rfl (.some rfl) ?_
      refine vd_off rfl rfl rfl rfl rfl rfl (.some rfl) ?_
      refine vd_off rfl rfl rfl rfl rfl rfl (.some rfl) ?_
      refine vd_val rfl rfl rfl (.some rfl) (val_pick rfl rfl) ?_
      refine vd_nil ?_
      refine vc_cond rfl (fun h => by cases h) (fun _ => ?_)
      refine vc_exit ?_
      refine vc_seq ?_
      refine vc_region ?_
      have hik2 : i < k2 := by
        rcases Nat.lt_or_ge i k2 with h | h
        · exact h
        · exfalso
          obtain rfl : k2 = i := by omega
          omega
      obtain ⟨hh1, hh2⟩ := hin hik2
      have hend : runsG 0 (l.drop i) = putN (l.getD i 0) ++ putN (k2 - i) ++ runsG 0 (l.drop k2) := by
        rw [hh2, runs_cut (n := k2 - 1 - i) (i := k2 - 1) (by omega) (by rw [show k2 - 1 + 1 = k2 by omega, hh1]; omega), hh1, show k2 - 1 + 1 = k2 by omega, show k2 - 1 - i + 1 = k2 - i by omega]
      refine vl_val rfl (.some rfl) (val_move rfl) ?_
      refine vl_val rfl (.some rfl) (val_move rfl) ?_
      refine vl_val rfl (.some rfl) (val_move rfl) ?_
      refine vl_val rfl (.some rfl) (val_indexAddr Try.runUnderlying95 Try.sizeOf96 rfl rfl (by first | exact rd_sl (by repeat (first | exact .head | apply In.tail | apply Take.tail | apply Upd.tail)) | exact rd_slr (by repeat (first | exact .head | apply In.tail | apply Take.tail | apply Upd.tail)) | exact rd_old (by assumption) rfl) (by omega) (by omega) (by first | omega | (simp only [bcells_length, icells_length, ucells_length, tcells_length]; omega) | (simp only [bcells_length, icells_length, ucells_length, tcells_length, fillG_length]; omega) | (simp; omega))) ?_
      refine vl_val rfl (.some rfl) (val_load Try.isAgg96 rfl (by first | exact cell_cells (by repeat (first | exact .head | apply In.tail | apply Take.tail | apply Upd.tail)) rfl | exact cell_rd (rd_sl (by repeat (first | exact .head | apply In.tail | apply Take.tail | apply Upd.tail))) (by first | exact bcells_at (by omega) | exact ucells_at (by omega) | exact icells_at (by omega) | exact tcells_at (by omega) | exact bcells_get (by omega) | exact icells_get (by omega) | exact tcells_get (by omega) | exact ucells_get (by omega)) | exact cell_rd (rd_old (by assumption) rfl) (by first | exact bcells_at (by omega) | exact ucells_at (by omega) | exact icells_at (by omega) | exact tcells_at (by omega) | exact bcells_get (by omega) | exact icells_get (by omega) | exact tcells_get (by omega) | exact ucells_get (by omega)) | exact cell_old (by assumption) (by simp [fps]))) ?_
      refine vl_call (C := []) rfl rfl (.some rfl) Try.call63 rfl .nil (fun w' hw => rPut A2 c2 (ou) (l.getD i 0) (by omega) (by omega) w' (rdw (rd_sl (by repeat (first | exact .head | apply In.tail | apply Take.tail | apply Upd.tail))) hw)) (fun v H' h => ?_)
      obtain ⟨A3, c3, rfl, rfl⟩ := h
      show VL _ _ _ _ _ (_ :: _)
      refine vl_val rfl (.some rfl) (val_move rfl) ?_
      refine vl_val rfl (.some rfl) (val_move rfl) ?_
      refine vl_val rfl (.some rfl) (val_sub rfl rfl (by first | exact w_i64 (by omega) (by omega) | rfl)) ?_
      refine vl_val rfl (.some rfl) (val_convInt Try.runUnderlying3 Try.runUnderlying96 rfl (show _ = ((k2 - i : Nat) : Int) by rw [w_u64 (by omega) (by omega)]; omega)) ?_
      refine vl_call (C := []) rfl rfl (.some rfl) Try.call63 rfl .nil (fun w' hw => rPut A3 c3 (ou ++ putN (l.getD i 0)) (k2 - i) (by omega) (by have := putN_len (l.getD i 0); simp only [List.length_append]; omega) w' (rdw (rd_sl (by repeat (first | exact .head | apply In.tail | apply Take.tail | apply Upd.tail))) hw)) (fun v H' h => ?_)
      obtain ⟨A4, c4, rfl, rfl⟩ := h
      show VL _ _ _ _ _ (_ :: _)
      refine vl_val rfl (.some rfl) (val_assign rfl) ?_
      refine vl_nil ?_
      refine vc_region ?_
      refine vl_val rfl (.some rfl) (val_move rfl) ?_
      refine vl_val rfl (.some rfl) (val_assign rfl) ?_
      refine vl_nil ?_
      have hp1 := putN_len (l.getD i 0)
      have hp2 := putN_len (k2 - i)
      exact ⟨l.length - k2, _, _, _, by omega, (by repeat (first | exact trivial | refine ⟨rfl, ?_⟩ | refine ⟨le_item rfl (by first | rfl | (congr 1; omega) | (simp; done) | (simp; omega)), ?_⟩)), (by repeat (first | exact .nil | (apply Sub.cons; · repeat (first | exact .head | apply Take.tail)))), ⟨k2, ou ++ putN (l.getD i 0) ++ putN (k2 - i), A4, c4, by omega, rfl, by simp only [List.length_append]; omega, by rw [← hg, hend]; simp, rfl, rfl⟩⟩
  · (try replace hc0 := of_decide_eq_false hc0)
    refine vc_exit ?_
    refine vc_seq ?_
    refine vc_region ?_
    refine vl_val rfl (.some rfl) (val_move rfl) ?_
    refine vl_val rfl (.some rfl) (val_assign rfl) ?_
    refine vl_nil ?_
    refine vc_ret ?_
    refine ⟨_, [BY A2 ou.length c2 ou], _, res1 Try.results65 rfl, (by repeat (first | exact .nil | (apply Sub.cons; · repeat (first | exact .head | apply Take.tail)))), ?_⟩
    have he : ou = runsS l := by rw [List.drop_of_length_le (by omega)] at hg; simpa [runsG] using hg
    rw [he]
    exact ⟨A2, c2, rfl, rfl⟩

end Go.Proofs.Ytibfngjfjddaiaa.K
