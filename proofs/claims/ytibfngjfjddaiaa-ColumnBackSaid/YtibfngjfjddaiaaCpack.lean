/- Walks of the program's functions, printed by a program of this session; Lean checks them. -/
import Derived.Test.YtibfngjfjddaiaaCb
import Derived.Test.YtibfngjfjddaiaaCbase
namespace Go.Proofs.Ytibfngjfjddaiaa.K
open Go Go.RowKit Go.Proofs
set_option linter.unusedVariables false
set_option linter.unusedSimpArgs false


set_option maxRecDepth 20000 in
theorem cPack (width : Int) (A : Option Addr) (c : Nat) (l : List Nat) (hl : l.length ≤ 1000000000) (hu : ∀ u ∈ l, u < 18446744073709551616) (w : World) (hr : Reads w A (ucells l)) : Fn Try.prog 54 [.int .i64 width, .slice A l.length c] [] (ret fun v H' => ∃ A' c', v = .tuple #[.slice A' (packB width l).length c', .int .i64 (packE width l)] ∧ H' = [BY A' (packB width l).length c' (packB width l)]) w := by
  refine fn_enter Try.func54 rfl Try.ntmps54 rfl ?_
  refine vc_seq ?_
  refine vc_region ?_
  refine vl_val rfl (.some rfl) (val_assign rfl) ?_
  refine vl_val rfl (.some rfl) (val_assign rfl) ?_
  refine vl_nil ?_
  refine vc_seq ?_
  refine vc_seq ?_
  refine vc_region ?_
  refine vl_val rfl (.some rfl) (val_move rfl) ?_
  refine vl_val rfl (.some rfl) (val_lt rfl rfl) ?_
  refine vl_val rfl (.some rfl) (val_move rfl) ?_
  refine vl_split (t := 13) rfl (fun hg13 => ?_) (fun hg13 => ?_)
  · (try replace hg13 := of_decide_eq_true hg13)
    refine vl_off rfl rfl rfl rfl (.some rfl) ?_
    refine vl_off rfl rfl rfl rfl (.some rfl) ?_
    refine vl_val rfl (.some rfl) (val_pick rfl rfl) ?_
    refine vl_nil ?_
    refine vc_cond rfl (fun _ => ?_) (fun h => by cases h)
    refine vc_seq ?_
    refine vc_region ?_
    refine vl_val rfl (.some rfl) (val_assign rfl) ?_
    refine vl_nilSl 5 1 ?_
    refine vl_val rfl (.some rfl) (val_assign rfl) ?_
    refine vl_nil ?_
    refine vc_ret ?_
    refine ⟨_, [BY none 0 0 []], _, res2 Try.results54 rfl rfl, (by repeat (first | exact .nil | (apply Sub.cons; · repeat (first | exact .head | apply Take.tail)))), ?_⟩
    have e1 : packB width l = [] := by unfold packB; rw [if_neg (by omega)]
    have e2 : packE width l = 2 := by unfold packE; rw [if_neg (by omega)]
    show ∃ A' c', _ ∧ _
    rw [e1, e2]
    exact ⟨none, 0, rfl, rfl⟩
  · (try replace hg13 := of_decide_eq_false hg13)
    refine vl_on rfl rfl rfl rfl ?_
    refine vl_val rfl (.some rfl) (val_move rfl) ?_
    refine vl_on rfl rfl rfl rfl ?_
    refine vl_val rfl (.some rfl) (val_gt rfl rfl) ?_
    refine vl_val rfl (.some rfl) (val_pick rfl rfl) ?_
    refine vl_nil ?_
    refine vc_cond rfl (fun hc0 => ?_) (fun hc0 => ?_)
    · (try replace hc0 := of_decide_eq_true hc0)
      refine vc_seq ?_
      refine vc_region ?_
      refine vl_val rfl (.some rfl) (val_assign rfl) ?_
      refine vl_nilSl 5 1 ?_
      refine vl_val rfl (.some rfl) (val_assign rfl) ?_
      refine vl_nil ?_
      refine vc_ret ?_
      refine ⟨_, [BY none 0 0 []], _, res2 Try.results54 rfl rfl, (by repeat (first | exact .nil | (apply Sub.cons; · repeat (first | exact .head | apply Take.tail)))), ?_⟩
      have e1 : packB width l = [] := by unfold packB; rw [if_neg (by omega)]
      have e2 : packE width l = 2 := by unfold packE; rw [if_neg (by omega)]
      show ∃ A' c', _ ∧ _
      rw [e1, e2]
      exact ⟨none, 0, rfl, rfl⟩
    · (try replace hc0 := of_decide_eq_false hc0)
      obtain ⟨n, rfl⟩ : ∃ n : Nat, width = n := ⟨width.toNat, by omega⟩
      have hn : n ≤ 64 := by omega
      have hwl : n * l.length ≤ 64 * 1000000000 := Nat.mul_le_mul hn hl
      have hcm : n * l.length = l.length * n := Nat.mul_comm _ _
      obtain ⟨N, hN⟩ : ∃ N, N = (n * l.length + 7) / 8 := ⟨_, rfl⟩
      refine vc_skip ?_
      refine vc_seq ?_
      refine vc_region ?_
      refine vl_val rfl (.some rfl) (val_move rfl) ?_
      refine vl_val rfl (.some rfl) (val_move rfl) ?_
      refine vl_val rfl (.some rfl) (val_lenSl Try.runUnderlying95 rfl) ?_
      refine vl_val rfl (.some rfl) (val_mul rfl rfl (by first | exact w_i64 (by omega) (by omega) | rfl)) ?_
      refine vl_val rfl (.some rfl) (val_add rfl rfl (by first | exact w_i64 (by omega) (by omega) | rfl)) ?_
      refine vl_val rfl (.some rfl) (val_quo rfl rfl (by omega) (by first | exact quo_nn (by omega) (w_i64 (by omega) (by omega)) | rfl)) ?_
      refine vl_makeSlice sT59 rfl rfl (.some rfl) rfl rfl (by omega) (by omega) (by omega) (made_u8 _) (fun r23 => ?_)
      rw [show Int.toNat ((((n : Int) * (l.length : Int)) + 7) / 8) = N by omega, ← packP_zero N (bitAt n l)]
      refine vl_val rfl (.some rfl) (val_assign rfl) ?_
      refine vl_nil ?_
      refine vc_seq ?_
      refine vc_seq ?_
      refine vc_region ?_
      refine vl_val rfl (.some rfl) (val_move rfl) ?_
      refine vl_val rfl (.some rfl) (val_lenSl Try.runUnderlying95 rfl) ?_
      refine vl_val rfl (.some rfl) (val_move rfl) ?_
      refine vl_nil ?_
      refine vc_block ?_
      refine vc_loopw (fun k E H => ∃ i m : Nat, i ≤ l.length ∧ k = l.length - i ∧ m = i * n ∧ (∀ j, j < i → n < 64 → (l.getD j 0) / 2 ^ n = 0) ∧ E = [(0, .int .i64 n), (24, .slice A l.length c), (25, .int .i64 l.length), (26, .int .i64 i), (6, .slice (some ⟨r23, 0, none⟩) N N)] ∧ H = [BY (some ⟨r23, 0, none⟩) N N (packP N (bitAt n l) m)]) (l.length) ⟨_, _, _, ⟨0, 0, by omega, rfl, by simp, fun j hj => absurd hj (Nat.not_lt_zero _), rfl, rfl⟩, (by repeat (first | exact trivial | refine ⟨rfl, ?_⟩ | refine ⟨le_item rfl (by first | rfl | (congr 1; omega) | (simp; done) | (simp; omega)), ?_⟩)), (by repeat (first | exact .nil | (apply Sub.cons; · repeat (first | exact .head | apply Take.tail))))⟩ ?_
      intro k E H hI
      obtain ⟨i, m, hi, rfl, rfl, hfit, rfl, rfl⟩ := hI
      refine vc_seq ?_
      refine vc_region ?_
      refine vl_val rfl (.some rfl) (val_lt rfl rfl) ?_
      refine vl_nil ?_
      refine vc_seq ?_
      refine vc_cond rfl (fun hc1 => ?_) (fun hc1 => ?_)
      · (try replace hc1 := of_decide_eq_true hc1)
        have hu1 : l.getD i 0 < 18446744073709551616 := hu _ (by rw [List.getD_eq_getElem?_getD, List.getElem?_eq_getElem (by omega)]; exact List.getElem_mem _)
        have hi' : i < l.length := by omega
        have hrow := row_le (w := n) (i := i) (n := l.length) hi
        refine vc_skip ?_
        refine vc_seq ?_
        refine vc_block ?_
        refine vc_seq ?_
        refine vc_region ?_
        refine vl_val rfl (.some rfl) (val_move rfl) ?_
        refine vl_val rfl (.some rfl) (val_indexAddr Try.runUnderlying95 Try.sizeOf96 rfl rfl (by first | exact rd_sl (by repeat (first | exact .head | apply In.tail | apply Take.tail | apply Upd.tail)) | exact rd_slr (by repeat (first | exact .head | apply In.tail | apply Take.tail | apply Upd.tail)) | exact rd_old (by assumption) rfl) (by omega) (by omega) (by first | omega | (simp only [bcells_length, icells_length, ucells_length, tcells_length]; omega) | (simp only [bcells_length, icells_length, ucells_length, tcells_length, fillG_length]; omega) | (simp; omega))) ?_
        refine vl_val rfl (.some rfl) (val_load Try.isAgg96 rfl (by first | exact cell_cells (by repeat (first | exact .head | apply In.tail | apply Take.tail | apply Upd.tail)) rfl | exact cell_rd (rd_sl (by repeat (first | exact .head | apply In.tail | apply Take.tail | apply Upd.tail))) (by first | exact bcells_at (by omega) | exact ucells_at (by omega) | exact icells_at (by omega) | exact tcells_at (by omega) | exact bcells_get (by omega) | exact icells_get (by omega) | exact tcells_get (by omega) | exact ucells_get (by omega)) | exact cell_rd (rd_old (by assumption) rfl) (by first | exact bcells_at (by omega) | exact ucells_at (by omega) | exact icells_at (by omega) | exact tcells_at (by omega) | exact bcells_get (by omega) | exact icells_get (by omega) | exact tcells_get (by omega) | exact ucells_get (by omega)) | exact cell_old (by assumption) (by simp [fps]))) ?_
        refine vl_val rfl (.some rfl) (val_assign rfl) ?_
        refine vl_val rfl (.some rfl) (val_assign rfl) ?_
        refine vl_nil ?_
        refine vc_seq ?_
        refine vc_seq ?_
        refine vc_region ?_
        refine vl_val rfl (.some rfl) (val_move rfl) ?_
        refine vl_val rfl (.some rfl) (val_lt rfl rfl) ?_
        refine vl_val rfl (.some rfl) (val_move rfl) ?_
        refine vl_split (t := 33) rfl (fun hg33 => ?_) (fun hg33 => ?_)
        · (try replace hg33 := of_decide_eq_true hg33)
          refine vl_on rfl rfl rfl rfl ?_
          refine vl_val rfl (.some rfl) (val_move rfl) ?_
          refine vl_on rfl rfl rfl rfl ?_
          refine vl_val rfl (.some rfl) (val_move rfl) ?_
          refine vl_on rfl rfl rfl rfl ?_
          refine vl_val rfl (.some rfl) (val_shr rfl rfl (by omega) (shr_nat (k := .u64) (by simp [IntKind.bits]; omega))) ?_
          refine vl_on rfl rfl rfl rfl ?_
          refine vl_val rfl (.some rfl) (val_gt rfl rfl) ?_
          refine vl_val rfl (.some rfl) (val_pick rfl rfl) ?_
          refine vl_nil ?_
          refine vc_cond rfl (fun hc2 => ?_) (fun hc2 => ?_)
          · (try replace hc2 := of_decide_eq_true hc2)
            refine vc_seq ?_
            refine vc_region ?_
            refine vl_val rfl (.some rfl) (val_assign rfl) ?_
            refine vl_nilSl 5 1 ?_
            refine vl_val rfl (.some rfl) (val_assign rfl) ?_
            refine vl_nil ?_
            refine vc_ret ?_
            have hnf : ¬ fitsW n l := fun h => by
              have h2 := h (by omega) (l.getD i 0) (by rw [List.getD_eq_getElem?_getD, List.getElem?_eq_getElem (by omega)]; exact List.getElem_mem _)
              omega
            refine ⟨_, [BY none 0 0 []], _, res2 Try.results54 rfl rfl, (by repeat (first | exact .nil | (apply Sub.cons; · repeat (first | exact .head | apply Take.tail)))), ?_⟩
            have e1 : packB n l = [] := by unfold packB; rw [if_pos (by omega), Int.toNat_natCast, if_neg hnf]
            have e2 : packE n l = 6 := by unfold packE; rw [if_pos (by omega), Int.toNat_natCast, if_neg hnf]
            show ∃ A' c', _ ∧ _
            rw [e1, e2]
            exact ⟨none, 0, rfl, rfl⟩
          · (try replace hc2 := of_decide_eq_false hc2)
            replace hc2 : l.getD i 0 / 2 ^ n = 0 := by
              generalize l.getD i 0 / 2 ^ n = q at hc2 ⊢
              omega
            refine vc_skip ?_
            refine vc_seq ?_
            refine vc_region ?_
            refine vl_val rfl (.some rfl) (val_move rfl) ?_
            refine vl_val rfl (.some rfl) (val_move rfl) ?_
            refine vl_nil ?_
            refine vc_block ?_
            refine vc_loopw (fun k E H => ∃ j m : Nat, j ≤ n ∧ k = n - j ∧ m = i * n + j ∧ E = [(0, .int .i64 n), (24, .slice A l.length c), (25, .int .i64 l.length), (26, .int .i64 i), (6, .slice (some ⟨r23, 0, none⟩) N N), (7, .int .i64 i), (8, .int .u64 (l.getD i 0 : Nat)), (39, .int .i64 n), (40, .int .i64 j)] ∧ H = [BY (some ⟨r23, 0, none⟩) N N (packP N (bitAt n l) m)]) (n) ⟨_, _, _, ⟨0, i * n, by omega, rfl, rfl, rfl, rfl⟩, (by repeat (first | exact trivial | refine ⟨rfl, ?_⟩ | refine ⟨le_item rfl (by first | rfl | (congr 1; omega) | (simp; done) | (simp; omega)), ?_⟩)), (by repeat (first | exact .nil | (apply Sub.cons; · repeat (first | exact .head | apply Take.tail))))⟩ ?_
            intro k E H hI
            obtain ⟨j, m, hj, rfl, rfl, rfl, rfl⟩ := hI
            refine vc_seq ?_
            refine vc_region ?_
            refine vl_val rfl (.some rfl) (val_lt rfl rfl) ?_
            refine vl_nil ?_
            refine vc_seq ?_
            refine vc_cond rfl (fun hc3 => ?_) (fun hc3 => ?_)
            · (try replace hc3 := of_decide_eq_true hc3)
              have hj' : j < n := by omega
              have hm := row_lt hi' hj'
              refine vc_skip ?_
              refine vc_seq ?_
              refine vc_block ?_
              refine vc_seq ?_
              refine vc_region ?_
              refine vl_val rfl (.some rfl) (val_move rfl) ?_
              refine vl_val rfl (.some rfl) (val_assign rfl) ?_
              refine vl_nil ?_
              refine vc_seq ?_
              refine vc_region ?_
              refine vl_val rfl (.some rfl) (val_move rfl) ?_
              refine vl_val rfl (.some rfl) (val_move rfl) ?_
              refine vl_val rfl (.some rfl) (val_mul rfl rfl (by first | exact w_i64 (by omega) (by omega) | rfl)) ?_
              refine vl_val rfl (.some rfl) (val_move rfl) ?_
              refine vl_val rfl (.some rfl) (val_add rfl rfl (by first | exact w_i64 (by omega) (by omega) | rfl)) ?_
              refine vl_val rfl (.some rfl) (val_assign rfl) ?_
              refine vl_nil ?_
              refine vc_draws [0, 1, 2, 3, 4, 5, 6, 7, 8, 9, 10, 11, 12, 13, 14] [15] [0, 1, 2, 3, 4, 5, 6, 7, 8, 9, 10, 11, 12, 13, 14, 15] rfl (by kernel_rfl) (fun _ _ _ h => h) ?_
              refine vd_val rfl rfl rfl (.some rfl) (val_move rfl) ?_
              refine vd_val rfl rfl rfl (.some rfl) (val_move rfl) ?_
              refine vd_val rfl rfl rfl (.some rfl) (val_quo rfl rfl (by omega) (by first | exact quo_nn (by omega) (w_i64 (by omega) (by omega)) | rfl)) ?_
              refine vd_val rfl rfl rfl (.some rfl) (val_indexAddr Try.runUnderlying59 Try.sizeOf5 rfl rfl (rd_sl (by repeat (first | exact .head | apply In.tail | apply Take.tail | apply Upd.tail))) (by omega) (by omega) (by rw [bcells_length, packP_len]; omega)) ?_
              refine vd_val rfl rfl rfl (.some rfl) (val_load Try.isAgg5 rfl (cell_rd (rd_sl (by repeat (first | exact .head | apply In.tail | apply Take.tail | apply Upd.tail))) (show _ = some (Value.int .u8 (((packP N (bitAt n l) (i * n + j)).getD ((i * n + j) / 8) 0).toNat : Int)) by rw [show Int.toNat (((i : Int) * (n : Int) + (j : Int)) / 8) * 1 = (i * n + j) / 8 by omega]; exact bcells_get (by rw [packP_len]; omega)))) ?_
              refine vd_val rfl rfl rfl (.some rfl) (val_move rfl) ?_
              refine vd_val rfl rfl rfl (.some rfl) (val_move rfl) ?_
              refine vd_val rfl rfl rfl (.some rfl) (val_shr rfl rfl (by omega) (shr_nat (k := .u64) (by simp [IntKind.bits]; omega))) ?_
              refine vd_val rfl rfl rfl (.some rfl) (val_and rfl rfl (and1_u64 (Nat.lt_of_le_of_lt (Nat.div_le_self _ _) hu1))) ?_
              refine vd_val rfl rfl rfl (.some rfl) (val_convInt Try.runUnderlying96 Try.runUnderlying5 rfl (by first | exact w_u8 (by omega) (by omega) | rfl)) ?_
              refine vd_val rfl rfl rfl (.some rfl) (val_move rfl) ?_
              refine vd_val rfl rfl rfl (.some rfl) (val_rem rfl rfl (by omega) (by first | exact rem_nn (by omega) | rfl)) ?_
              refine vd_val rfl rfl rfl (.some rfl) (val_shl rfl rfl (by omega) (shl_bit (s := (i * n + j) % 8) (by omega) (by omega) (by omega))) ?_
              refine vd_val rfl rfl rfl (.some rfl) (val_or rfl rfl (or_u8 (UInt8.toNat_lt _) (bit_lt (by omega) (by omega)))) ?_
              refine vd_val rfl rfl rfl (.some rfl) (val_indexAddr Try.runUnderlying59 Try.sizeOf5 rfl rfl (rd_sl (by repeat (first | exact .head | apply In.tail | apply Take.tail | apply Upd.tail))) (by omega) (by omega) (by rw [bcells_length, packP_len]; omega)) ?_
              refine vd_op rfl rfl ?_
              refine vl_storeSl rfl rfl .none rfl rfl Try.sizeOf5 rfl (by simp [Value.cells]) (by repeat (first | exact .head | apply In.tail | apply Take.tail | apply Upd.tail)) (by rw [bcells_length, packP_len]; simp [Value.cells]; omega) ?_
              refine vl_nil ?_
              refine ⟨fun h => (by cases h), ?_⟩
              refine vd_nil ?_
              refine vc_region ?_
              refine vl_val rfl (.some rfl) (val_add rfl rfl (by first | exact w_i64 (by omega) (by omega) | rfl)) ?_
              refine vl_val rfl (.some rfl) (val_move rfl) ?_
              refine vl_nil ?_
              rw [laid_pack (m := i * n + j) (by omega) (by omega) (by rw [bitAt_at hi' hj', Nat.toNat_testBit])]
              exact ⟨n - (j + 1), _, _, _, by omega, (by repeat (first | exact trivial | refine ⟨rfl, ?_⟩ | refine ⟨le_item rfl (by first | rfl | (congr 1; omega) | (simp; done) | (simp; omega)), ?_⟩)), (by repeat (first | exact .nil | (apply Sub.cons; · repeat (first | exact .head | apply Take.tail)))), ⟨j + 1, i * n + j + 1, by omega, rfl, rfl, rfl, rfl⟩⟩
            · (try replace hc3 := of_decide_eq_false hc3)
              obtain rfl : n = j := by omega
              refine vc_exit ?_
              refine vc_region ?_
              refine vl_val rfl (.some rfl) (val_add rfl rfl (by first | exact w_i64 (by omega) (by omega) | rfl)) ?_
              refine vl_val rfl (.some rfl) (val_move rfl) ?_
              refine vl_nil ?_
              exact ⟨l.length - (i + 1), _, _, _, by omega, (by repeat (first | exact trivial | refine ⟨rfl, ?_⟩ | refine ⟨le_item rfl (by first | rfl | (congr 1; omega) | (simp; done) | (simp; omega)), ?_⟩)), (by repeat (first | exact .nil | (apply Sub.cons; · repeat (first | exact .head | apply Take.tail)))), ⟨i + 1, i * n + n, by omega, rfl, by rw [Nat.add_mul, Nat.one_mul], fun j hj h64 => by
                rcases Nat.lt_or_ge j i with h | h
                · exact hfit j h h64
                · obtain rfl : j = i := by omega
                  first | omega | exact absurd h64 (by omega), rfl, rfl⟩⟩
        · (try replace hg33 := of_decide_eq_false hg33)
          refine vl_off rfl rfl rfl rfl (.some rfl) ?_
          refine vl_off rfl rfl rfl rfl (.some rfl) ?_
          refine vl_off rfl rfl rfl rfl (.some rfl) ?_
          refine vl_off rfl rfl rfl rfl (.some rfl) ?_
          refine vl_val rfl (.some rfl) (val_pick rfl rfl) ?_
          refine vl_nil ?_
          refine vc_cond rfl (fun h => by cases h) (fun _ => ?_)
          refine vc_skip ?_
          refine vc_seq ?_
          refine vc_region ?_
          refine vl_val rfl (.some rfl) (val_move rfl) ?_
          refine vl_val rfl (.some rfl) (val_move rfl) ?_
          refine vl_nil ?_
          refine vc_block ?_
          refine vc_loopw (fun k E H => ∃ j m : Nat, j ≤ n ∧ k = n - j ∧ m = i * n + j ∧ E = [(0, .int .i64 n), (24, .slice A l.length c), (25, .int .i64 l.length), (26, .int .i64 i), (6, .slice (some ⟨r23, 0, none⟩) N N), (7, .int .i64 i), (8, .int .u64 (l.getD i 0 : Nat)), (39, .int .i64 n), (40, .int .i64 j)] ∧ H = [BY (some ⟨r23, 0, none⟩) N N (packP N (bitAt n l) m)]) (n) ⟨_, _, _, ⟨0, i * n, by omega, rfl, rfl, rfl, rfl⟩, (by repeat (first | exact trivial | refine ⟨rfl, ?_⟩ | refine ⟨le_item rfl (by first | rfl | (congr 1; omega) | (simp; done) | (simp; omega)), ?_⟩)), (by repeat (first | exact .nil | (apply Sub.cons; · repeat (first | exact .head | apply Take.tail))))⟩ ?_
          intro k E H hI
          obtain ⟨j, m, hj, rfl, rfl, rfl, rfl⟩ := hI
          refine vc_seq ?_
          refine vc_region ?_
          refine vl_val rfl (.some rfl) (val_lt rfl rfl) ?_
          refine vl_nil ?_
          refine vc_seq ?_
          refine vc_cond rfl (fun hc3 => ?_) (fun hc3 => ?_)
          · (try replace hc3 := of_decide_eq_true hc3)
            have hj' : j < n := by omega
            have hm := row_lt hi' hj'
            refine vc_skip ?_
            refine vc_seq ?_
            refine vc_block ?_
            refine vc_seq ?_
            refine vc_region ?_
            refine vl_val rfl (.some rfl) (val_move rfl) ?_
            refine vl_val rfl (.some rfl) (val_assign rfl) ?_
            refine vl_nil ?_
            refine vc_seq ?_
            refine vc_region ?_
            refine vl_val rfl (.some rfl) (val_move rfl) ?_
            refine vl_val rfl (.some rfl) (val_move rfl) ?_
            refine vl_val rfl (.some rfl) (val_mul rfl rfl (by first | exact w_i64 (by omega) (by omega) | rfl)) ?_
            refine vl_val rfl (.some rfl) (val_move rfl) ?_
            refine vl_val rfl (.some rfl) (val_add rfl rfl (by first | exact w_i64 (by omega) (by omega) | rfl)) ?_
            refine vl_val rfl (.some rfl) (val_assign rfl) ?_
            refine vl_nil ?_
            refine vc_draws [0, 1, 2, 3, 4, 5, 6, 7, 8, 9, 10, 11, 12, 13, 14] [15] [0, 1, 2, 3, 4, 5, 6, 7, 8, 9, 10, 11, 12, 13, 14, 15] rfl (by kernel_rfl) (fun _ _ _ h => h) ?_
            refine vd_val rfl rfl rfl (.some rfl) (val_move rfl) ?_
            refine vd_val rfl rfl rfl (.some rfl) (val_move rfl) ?_
            refine vd_val rfl rfl rfl (.some rfl) (val_quo rfl rfl (by omega) (by first | exact quo_nn (by omega) (w_i64 (by omega) (by omega)) | rfl)) ?_
            refine vd_val rfl rfl rfl (.some rfl) (val_indexAddr Try.runUnderlying59 Try.sizeOf5 rfl rfl (rd_sl (by repeat (first | exact .head | apply In.tail | apply Take.tail | apply Upd.tail))) (by omega) (by omega) (by rw [bcells_length, packP_len]; omega)) ?_
            refine vd_val rfl rfl rfl (.some rfl) (val_load Try.isAgg5 rfl (cell_rd (rd_sl (by repeat (first | exact .head | apply In.tail | apply Take.tail | apply Upd.tail))) (show _ = some (Value.int .u8 (((packP N (bitAt n l) (i * n + j)).getD ((i * n + j) / 8) 0).toNat : Int)) by rw [show Int.toNat (((i : Int) * (n : Int) + (j : Int)) / 8) * 1 = (i * n + j) / 8 by omega]; exact bcells_get (by rw [packP_len]; omega)))) ?_
            refine vd_val rfl rfl rfl (.some rfl) (val_move rfl) ?_
            refine vd_val rfl rfl rfl (.some rfl) (val_move rfl) ?_
            refine vd_val rfl rfl rfl (.some rfl) (val_shr rfl rfl (by omega) (shr_nat (k := .u64) (by simp [IntKind.bits]; omega))) ?_
            refine vd_val rfl rfl rfl (.some rfl) (val_and rfl rfl (and1_u64 (Nat.lt_of_le_of_lt (Nat.div_le_self _ _) hu1))) ?_
            refine vd_val rfl rfl rfl (.some rfl) (val_convInt Try.runUnderlying96 Try.runUnderlying5 rfl (by first | exact w_u8 (by omega) (by omega) | rfl)) ?_
            refine vd_val rfl rfl rfl (.some rfl) (val_move rfl) ?_
            refine vd_val rfl rfl rfl (.some rfl) (val_rem rfl rfl (by omega) (by first | exact rem_nn (by omega) | rfl)) ?_
            refine vd_val rfl rfl rfl (.some rfl) (val_shl rfl rfl (by omega) (shl_bit (s := (i * n + j) % 8) (by omega) (by omega) (by omega))) ?_
            refine vd_val rfl rfl rfl (.some rfl) (val_or rfl rfl (or_u8 (UInt8.toNat_lt _) (bit_lt (by omega) (by omega)))) ?_
            refine vd_val rfl rfl rfl (.some rfl) (val_indexAddr Try.runUnderlying59 Try.sizeOf5 rfl rfl (rd_sl (by repeat (first | exact .head | apply In.tail | apply Take.tail | apply Upd.tail))) (by omega) (by omega) (by rw [bcells_length, packP_len]; omega)) ?_
            refine vd_op rfl rfl ?_
            refine vl_storeSl rfl rfl .none rfl rfl Try.sizeOf5 rfl (by simp [Value.cells]) (by repeat (first | exact .head | apply In.tail | apply Take.tail | apply Upd.tail)) (by rw [bcells_length, packP_len]; simp [Value.cells]; omega) ?_
            refine vl_nil ?_
            refine ⟨fun h => (by cases h), ?_⟩
            refine vd_nil ?_
            refine vc_region ?_
            refine vl_val rfl (.some rfl) (val_add rfl rfl (by first | exact w_i64 (by omega) (by omega) | rfl)) ?_
            refine vl_val rfl (.some rfl) (val_move rfl) ?_
            refine vl_nil ?_
            rw [laid_pack (m := i * n + j) (by omega) (by omega) (by rw [bitAt_at hi' hj', Nat.toNat_testBit])]
            exact ⟨n - (j + 1), _, _, _, by omega, (by repeat (first | exact trivial | refine ⟨rfl, ?_⟩ | refine ⟨le_item rfl (by first | rfl | (congr 1; omega) | (simp; done) | (simp; omega)), ?_⟩)), (by repeat (first | exact .nil | (apply Sub.cons; · repeat (first | exact .head | apply Take.tail)))), ⟨j + 1, i * n + j + 1, by omega, rfl, rfl, rfl, rfl⟩⟩
          · (try replace hc3 := of_decide_eq_false hc3)
            obtain rfl : n = j := by omega
            refine vc_exit ?_
            refine vc_region ?_
            refine vl_val rfl (.some rfl) (val_add rfl rfl (by first | exact w_i64 (by omega) (by omega) | rfl)) ?_
            refine vl_val rfl (.some rfl) (val_move rfl) ?_
            refine vl_nil ?_
            exact ⟨l.length - (i + 1), _, _, _, by omega, (by repeat (first | exact trivial | refine ⟨rfl, ?_⟩ | refine ⟨le_item rfl (by first | rfl | (congr 1; omega) | (simp; done) | (simp; omega)), ?_⟩)), (by repeat (first | exact .nil | (apply Sub.cons; · repeat (first | exact .head | apply Take.tail)))), ⟨i + 1, i * n + n, by omega, rfl, by rw [Nat.add_mul, Nat.one_mul], fun j hj h64 => by
              rcases Nat.lt_or_ge j i with h | h
              · exact hfit j h h64
              · obtain rfl : j = i := by omega
                first | omega | exact absurd h64 (by omega), rfl, rfl⟩⟩
      · (try replace hc1 := of_decide_eq_false hc1)
        have hfit : fitsW n l := fun h64 u hu' => by
          obtain ⟨j, hj, rfl⟩ := List.getElem_of_mem hu'
          have := hfit j (by omega) h64
          simpa [List.getD, hj] using this
        have hfin : packP N (bitAt n l) (i * n) = packS n l := by rw [packS, ← hN, show i * n = n * l.length by rw [show i = l.length by omega, Nat.mul_comm]]
        rw [hfin]
        refine vc_exit ?_
        refine vc_seq ?_
        refine vc_region ?_
        refine vl_val rfl (.some rfl) (val_move rfl) ?_
        refine vl_val rfl (.some rfl) (val_assign rfl) ?_
        refine vl_val rfl (.some rfl) (val_assign rfl) ?_
        refine vl_nil ?_
        refine vc_ret ?_
        refine ⟨_, [BY (some ⟨r23, 0, none⟩) N N (packS n l)], _, res2 Try.results54 rfl rfl, (by repeat (first | exact .nil | (apply Sub.cons; · repeat (first | exact .head | apply Take.tail)))), ?_⟩
        have e1 : packB n l = packS n l := by unfold packB; rw [if_pos (by omega), Int.toNat_natCast, if_pos hfit]
        have e2 : packE n l = 0 := by unfold packE; rw [if_pos (by omega), Int.toNat_natCast, if_pos hfit]
        show ∃ A' c', _ ∧ _
        rw [e1, e2, packS_len, ← hN]
        exact ⟨_, _, rfl, rfl⟩
set_option maxRecDepth 20000 in
theorem rPack (width : Int) (A : Option Addr) (c : Nat) (l : List Nat) (hl : l.length ≤ 1000000000) (hu : ∀ u ∈ l, u < 18446744073709551616) (w : World) (hr : Reads w A (ucells l)) : Fn Try.prog 64 [.int .i64 width, .slice A l.length c] [] (ret fun v H' => ∃ A' c', v = .tuple #[.slice A' (packB width l).length c', .int .i64 (packE width l)] ∧ H' = [BY A' (packB width l).length c' (packB width l)]) w := by
  refine fn_enter Try.func64 rfl Try.ntmps64 rfl ?_
  refine vc_seq ?_
  refine vc_region ?_
  refine vl_val rfl (.some rfl) (val_assign rfl) ?_
  refine vl_val rfl (.some rfl) (val_assign rfl) ?_
  refine vl_nil ?_
  refine vc_seq ?_
  refine vc_seq ?_
  refine vc_region ?_
  refine vl_val rfl (.some rfl) (val_move rfl) ?_
  refine vl_val rfl (.some rfl) (val_lt rfl rfl) ?_
  refine vl_val rfl (.some rfl) (val_move rfl) ?_
  refine vl_split (t := 16) rfl (fun hg16 => ?_) (fun hg16 => ?_)
  · (try replace hg16 := of_decide_eq_true hg16)
    refine vl_off rfl rfl rfl rfl (.some rfl) ?_
    refine vl_off rfl rfl rfl rfl (.some rfl) ?_
    refine vl_val rfl (.some rfl) (val_pick rfl rfl) ?_
    refine vl_nil ?_
    refine vc_cond rfl (fun _ => ?_) (fun h => by cases h)
    refine vc_seq ?_
    refine vc_region ?_
    refine vl_val rfl (.some rfl) (val_assign rfl) ?_
    refine vl_nilSl 5 1 ?_
    refine vl_val rfl (.some rfl) (val_assign rfl) ?_
    refine vl_nil ?_
    refine vc_ret ?_
    refine ⟨_, [BY none 0 0 []], _, res2 Try.results64 rfl rfl, (by repeat (first | exact .nil | (apply Sub.cons; · repeat (first | exact .head | apply Take.tail)))), ?_⟩
    have e1 : packB width l = [] := by unfold packB; rw [if_neg (by omega)]
    have e2 : packE width l = 2 := by unfold packE; rw [if_neg (by omega)]
    show ∃ A' c', _ ∧ _
    rw [e1, e2]
    exact ⟨none, 0, rfl, rfl⟩
  · (try replace hg16 := of_decide_eq_false hg16)
    refine vl_on rfl rfl rfl rfl ?_
    refine vl_val rfl (.some rfl) (val_move rfl) ?_
    refine vl_on rfl rfl rfl rfl ?_
    refine vl_val rfl (.some rfl) (val_gt rfl rfl) ?_
    refine vl_val rfl (.some rfl) (val_pick rfl rfl) ?_
    refine vl_nil ?_
    refine vc_cond rfl (fun hc0 => ?_) (fun hc0 => ?_)
    · (try replace hc0 := of_decide_eq_true hc0)
      refine vc_seq ?_
      refine vc_region ?_
      refine vl_val rfl (.some rfl) (val_assign rfl) ?_
      refine vl_nilSl 5 1 ?_
      refine vl_val rfl (.some rfl) (val_assign rfl) ?_
      refine vl_nil ?_
      refine vc_ret ?_
      refine ⟨_, [BY none 0 0 []], _, res2 Try.results64 rfl rfl, (by repeat (first | exact .nil | (apply Sub.cons; · repeat (first | exact .head | apply Take.tail)))), ?_⟩
      have e1 : packB width l = [] := by unfold packB; rw [if_neg (by omega)]
      have e2 : packE width l = 2 := by unfold packE; rw [if_neg (by omega)]
      show ∃ A' c', _ ∧ _
      rw [e1, e2]
      exact ⟨none, 0, rfl, rfl⟩
    · (try replace hc0 := of_decide_eq_false hc0)
      obtain ⟨n, rfl⟩ : ∃ n : Nat, width = n := ⟨width.toNat, by omega⟩
      have hn : n ≤ 64 := by omega
      have hwl : n * l.length ≤ 64 * 1000000000 := Nat.mul_le_mul hn hl
      have hcm : n * l.length = l.length * n := Nat.mul_comm _ _
      obtain ⟨N, hN⟩ : ∃ N, N = (n * l.length + 7) / 8 := ⟨_, rfl⟩
      refine vc_skip ?_
      refine vc_seq ?_
      refine vc_seq ?_
      refine vc_region ?_
      refine vl_val rfl (.some rfl) (val_move rfl) ?_
      refine vl_val rfl (.some rfl) (val_lenSl Try.runUnderlying95 rfl) ?_
      refine vl_val rfl (.some rfl) (val_move rfl) ?_
      refine vl_nil ?_
      refine vc_block ?_
      refine vc_loopw (fun k E H => ∃ i : Nat, i ≤ l.length ∧ k = l.length - i ∧ (∀ j, j < i → n < 64 → (l.getD j 0) / 2 ^ n = 0) ∧ E = [(0, .int .i64 n), (1, .slice A l.length c), (20, .slice A l.length c), (21, .int .i64 l.length), (22, .int .i64 i)] ∧ H = []) (l.length) ⟨_, _, _, ⟨0, by omega, rfl, fun j hj => absurd hj (Nat.not_lt_zero _), rfl, rfl⟩, (by repeat (first | exact trivial | refine ⟨rfl, ?_⟩ | refine ⟨le_item rfl (by first | rfl | (congr 1; omega) | (simp; done) | (simp; omega)), ?_⟩)), (by repeat (first | exact .nil | (apply Sub.cons; · repeat (first | exact .head | apply Take.tail))))⟩ ?_
      intro k E H hI
      obtain ⟨i, hi, rfl, hfit, rfl, rfl⟩ := hI
      refine vc_seq ?_
      refine vc_region ?_
      refine vl_val rfl (.some rfl) (val_lt rfl rfl) ?_
      refine vl_nil ?_
      refine vc_seq ?_
      refine vc_cond rfl (fun hc1 => ?_) (fun hc1 => ?_)
      · (try replace hc1 := of_decide_eq_true hc1)
        have hu1 : l.getD i 0 < 18446744073709551616 := hu _ (by rw [List.getD_eq_getElem?_getD, List.getElem?_eq_getElem (by omega)]; exact List.getElem_mem _)
        have hi' : i < l.length := by omega
        have hrow := row_le (w := n) (i := i) (n := l.length) hi
        refine vc_skip ?_
        refine vc_seq ?_
        refine vc_block ?_
        refine vc_seq ?_
        refine vc_region ?_
        refine vl_val rfl (.some rfl) (val_indexAddr Try.runUnderlying95 Try.sizeOf96 rfl rfl (by first | exact rd_sl (by repeat (first | exact .head | apply In.tail | apply Take.tail | apply Upd.tail)) | exact rd_slr (by repeat (first | exact .head | apply In.tail | apply Take.tail | apply Upd.tail)) | exact rd_old (by assumption) rfl) (by omega) (by omega) (by first | omega | (simp only [bcells_length, icells_length, ucells_length, tcells_length]; omega) | (simp only [bcells_length, icells_length, ucells_length, tcells_length, fillG_length]; omega) | (simp; omega))) ?_
        refine vl_val rfl (.some rfl) (val_load Try.isAgg96 rfl (by first | exact cell_cells (by repeat (first | exact .head | apply In.tail | apply Take.tail | apply Upd.tail)) rfl | exact cell_rd (rd_sl (by repeat (first | exact .head | apply In.tail | apply Take.tail | apply Upd.tail))) (by first | exact bcells_at (by omega) | exact ucells_at (by omega) | exact icells_at (by omega) | exact tcells_at (by omega) | exact bcells_get (by omega) | exact icells_get (by omega) | exact tcells_get (by omega) | exact ucells_get (by omega)) | exact cell_rd (rd_old (by assumption) rfl) (by first | exact bcells_at (by omega) | exact ucells_at (by omega) | exact icells_at (by omega) | exact tcells_at (by omega) | exact bcells_get (by omega) | exact icells_get (by omega) | exact tcells_get (by omega) | exact ucells_get (by omega)) | exact cell_old (by assumption) (by simp [fps]))) ?_
        refine vl_val rfl (.some rfl) (val_assign rfl) ?_
        refine vl_nil ?_
        refine vc_seq ?_
        refine vc_region ?_
        refine vl_val rfl (.some rfl) (val_move rfl) ?_
        refine vl_val rfl (.some rfl) (val_lt rfl rfl) ?_
        refine vl_val rfl (.some rfl) (val_move rfl) ?_
        refine vl_split (t := 28) rfl (fun hg28 => ?_) (fun hg28 => ?_)
        · (try replace hg28 := of_decide_eq_true hg28)
          refine vl_on rfl rfl rfl rfl ?_
          refine vl_val rfl (.some rfl) (val_move rfl) ?_
          refine vl_on rfl rfl rfl rfl ?_
          refine vl_val rfl (.some rfl) (val_move rfl) ?_
          refine vl_on rfl rfl rfl rfl ?_
          refine vl_val rfl (.some rfl) (val_convInt Try.runUnderlying3 Try.runUnderlying37 rfl (by first | exact w_u64 (by omega) (by omega) | rfl)) ?_
          refine vl_on rfl rfl rfl rfl ?_
          refine vl_val rfl (.some rfl) (val_shr rfl rfl (by omega) (shr_nat (k := .u64) (by simp [IntKind.bits]; omega))) ?_
          refine vl_on rfl rfl rfl rfl ?_
          refine vl_val rfl (.some rfl) (val_ne rfl rfl) ?_
          refine vl_val rfl (.some rfl) (val_pick rfl rfl) ?_
          refine vl_nil ?_
          refine vc_cond rfl (fun hc2 => ?_) (fun hc2 => ?_)
          · (try replace hc2 := of_decide_eq_true hc2)
            refine vc_seq ?_
            refine vc_region ?_
            refine vl_val rfl (.some rfl) (val_assign rfl) ?_
            refine vl_nilSl 5 1 ?_
            refine vl_val rfl (.some rfl) (val_assign rfl) ?_
            refine vl_nil ?_
            refine vc_ret ?_
            have hnf : ¬ fitsW n l := fun h => by
              have h2 := h (by omega) (l.getD i 0) (by rw [List.getD_eq_getElem?_getD, List.getElem?_eq_getElem (by omega)]; exact List.getElem_mem _)
              omega
            refine ⟨_, [BY none 0 0 []], _, res2 Try.results64 rfl rfl, (by repeat (first | exact .nil | (apply Sub.cons; · repeat (first | exact .head | apply Take.tail)))), ?_⟩
            have e1 : packB n l = [] := by unfold packB; rw [if_pos (by omega), Int.toNat_natCast, if_neg hnf]
            have e2 : packE n l = 6 := by unfold packE; rw [if_pos (by omega), Int.toNat_natCast, if_neg hnf]
            show ∃ A' c', _ ∧ _
            rw [e1, e2]
            exact ⟨none, 0, rfl, rfl⟩
          · (try replace hc2 := of_decide_eq_false hc2)
            replace hc2 : l.getD i 0 / 2 ^ n = 0 := by
              generalize l.getD i 0 / 2 ^ n = q at hc2 ⊢
              omega
            refine vc_skip ?_
            refine vc_region ?_
            refine vl_val rfl (.some rfl) (val_add rfl rfl (by first | exact w_i64 (by omega) (by omega) | rfl)) ?_
            refine vl_val rfl (.some rfl) (val_move rfl) ?_
            refine vl_nil ?_
            exact ⟨l.length - (i + 1), _, _, _, by omega, (by repeat (first | exact trivial | refine ⟨rfl, ?_⟩ | refine ⟨le_item rfl (by first | rfl | (congr 1; omega) | (simp; done) | (simp; omega)), ?_⟩)), (by repeat (first | exact .nil | (apply Sub.cons; · repeat (first | exact .head | apply Take.tail)))), ⟨i + 1, by omega, rfl, fun j hj h64 => by
              rcases Nat.lt_or_ge j i with h | h
              · exact hfit j h h64
              · obtain rfl : j = i := by omega
                first | exact hc2 | omega, rfl, rfl⟩⟩
        · (try replace hg28 := of_decide_eq_false hg28)
          refine vl_off rfl rfl rfl rfl (.some rfl) ?_
          refine vl_off rfl rfl rfl rfl (.some rfl) ?_
          refine vl_off rfl rfl rfl rfl (.some rfl) ?_
          refine vl_off rfl rfl rfl rfl (.some rfl) ?_
          refine vl_off rfl rfl rfl rfl (.some rfl) ?_
          refine vl_val rfl (.some rfl) (val_pick rfl rfl) ?_
          refine vl_nil ?_
          refine vc_cond rfl (fun h => by cases h) (fun _ => ?_)
          refine vc_skip ?_
          refine vc_region ?_
          refine vl_val rfl (.some rfl) (val_add rfl rfl (by first | exact w_i64 (by omega) (by omega) | rfl)) ?_
          refine vl_val rfl (.some rfl) (val_move rfl) ?_
          refine vl_nil ?_
          exact ⟨l.length - (i + 1), _, _, _, by omega, (by repeat (first | exact trivial | refine ⟨rfl, ?_⟩ | refine ⟨le_item rfl (by first | rfl | (congr 1; omega) | (simp; done) | (simp; omega)), ?_⟩)), (by repeat (first | exact .nil | (apply Sub.cons; · repeat (first | exact .head | apply Take.tail)))), ⟨i + 1, by omega, rfl, fun j hj h64 => by
            rcases Nat.lt_or_ge j i with h | h
            · exact hfit j h h64
            · obtain rfl : j = i := by omega
              first | exact hc2 | omega, rfl, rfl⟩⟩
      · (try replace hc1 := of_decide_eq_false hc1)
        have hfit : fitsW n l := fun h64 u hu' => by
          obtain ⟨j, hj, rfl⟩ := List.getElem_of_mem hu'
          have := hfit j (by omega) h64
          simpa [List.getD, hj] using this
        refine vc_exit ?_
        refine vc_seq ?_
        refine vc_region ?_
        refine vl_val rfl (.some rfl) (val_move rfl) ?_
        refine vl_val rfl (.some rfl) (val_lenSl Try.runUnderlying95 rfl) ?_
        refine vl_val rfl (.some rfl) (val_move rfl) ?_
        refine vl_val rfl (.some rfl) (val_mul rfl rfl (by first | exact w_i64 (by omega) (by omega) | rfl)) ?_
        refine vl_val rfl (.some rfl) (val_assign rfl) ?_
        refine vl_nil ?_
        refine vc_seq ?_
        refine vc_region ?_
        refine vl_val rfl (.some rfl) (val_move rfl) ?_
        refine vl_val rfl (.some rfl) (val_add rfl rfl (by first | exact w_i64 (by omega) (by omega) | rfl)) ?_
        refine vl_val rfl (.some rfl) (val_quo rfl rfl (by omega) (by first | exact quo_nn (by omega) (w_i64 (by omega) (by omega)) | rfl)) ?_
        refine vl_makeSlice sT59 rfl rfl (.some rfl) rfl rfl (by omega) (by omega) (by omega) (made_u8 _) (fun r43 => ?_)
        rw [show Int.toNat ((((l.length : Int) * (n : Int)) + 7) / 8) = N by omega, ← packP_zero N (bitAt n l)]
        refine vl_val rfl (.some rfl) (val_assign rfl) ?_
        refine vl_nil ?_
        refine vc_seq ?_
        refine vc_region ?_
        refine vl_val rfl (.some rfl) (val_assign rfl) ?_
        refine vl_nil ?_
        refine vc_seq ?_
        refine vc_seq ?_
        refine vc_region ?_
        refine vl_val rfl (.some rfl) (val_move rfl) ?_
        refine vl_val rfl (.some rfl) (val_lenSl Try.runUnderlying95 rfl) ?_
        refine vl_val rfl (.some rfl) (val_move rfl) ?_
        refine vl_nil ?_
        refine vc_block ?_
        refine vc_loopw (fun k E H => ∃ i m : Nat, i ≤ l.length ∧ k = l.length - i ∧ m = i * n ∧ E = [(0, .int .i64 n), (44, .slice A l.length c), (45, .int .i64 l.length), (46, .int .i64 i), (9, .slice (some ⟨r43, 0, none⟩) N N), (10, .int .i64 m)] ∧ H = [BY (some ⟨r43, 0, none⟩) N N (packP N (bitAt n l) m)]) (l.length) ⟨_, _, _, ⟨0, 0, by omega, rfl, by simp, rfl, rfl⟩, (by repeat (first | exact trivial | refine ⟨rfl, ?_⟩ | refine ⟨le_item rfl (by first | rfl | (congr 1; omega) | (simp; done) | (simp; omega)), ?_⟩)), (by repeat (first | exact .nil | (apply Sub.cons; · repeat (first | exact .head | apply Take.tail))))⟩ ?_
        intro k E H hI
        obtain ⟨i, m, hi, rfl, rfl, rfl, rfl⟩ := hI
        refine vc_seq ?_
        refine vc_region ?_
        refine vl_val rfl (.some rfl) (val_lt rfl rfl) ?_
        refine vl_nil ?_
        refine vc_seq ?_
        refine vc_cond rfl (fun hc3 => ?_) (fun hc3 => ?_)
        · (try replace hc3 := of_decide_eq_true hc3)
          have hu1 : l.getD i 0 < 18446744073709551616 := hu _ (by rw [List.getD_eq_getElem?_getD, List.getElem?_eq_getElem (by omega)]; exact List.getElem_mem _)
          have hi' : i < l.length := by omega
          have hrow := row_le (w := n) (i := i) (n := l.length) hi
          refine vc_skip ?_
          refine vc_seq ?_
          refine vc_block ?_
          refine vc_seq ?_
          refine vc_region ?_
          refine vl_val rfl (.some rfl) (val_indexAddr Try.runUnderlying95 Try.sizeOf96 rfl rfl (by first | exact rd_sl (by repeat (first | exact .head | apply In.tail | apply Take.tail | apply Upd.tail)) | exact rd_slr (by repeat (first | exact .head | apply In.tail | apply Take.tail | apply Upd.tail)) | exact rd_old (by assumption) rfl) (by omega) (by omega) (by first | omega | (simp only [bcells_length, icells_length, ucells_length, tcells_length]; omega) | (simp only [bcells_length, icells_length, ucells_length, tcells_length, fillG_length]; omega) | (simp; omega))) ?_
          refine vl_val rfl (.some rfl) (val_load Try.isAgg96 rfl (by first | exact cell_cells (by repeat (first | exact .head | apply In.tail | apply Take.tail | apply Upd.tail)) rfl | exact cell_rd (rd_sl (by repeat (first | exact .head | apply In.tail | apply Take.tail | apply Upd.tail))) (by first | exact bcells_at (by omega) | exact ucells_at (by omega) | exact icells_at (by omega) | exact tcells_at (by omega) | exact bcells_get (by omega) | exact icells_get (by omega) | exact tcells_get (by omega) | exact ucells_get (by omega)) | exact cell_rd (rd_old (by assumption) rfl) (by first | exact bcells_at (by omega) | exact ucells_at (by omega) | exact icells_at (by omega) | exact tcells_at (by omega) | exact bcells_get (by omega) | exact icells_get (by omega) | exact tcells_get (by omega) | exact ucells_get (by omega)) | exact cell_old (by assumption) (by simp [fps]))) ?_
          refine vl_val rfl (.some rfl) (val_assign rfl) ?_
          refine vl_nil ?_
          refine vc_seq ?_
          refine vc_region ?_
          refine vl_val rfl (.some rfl) (val_assign rfl) ?_
          refine vl_nil ?_
          refine vc_block ?_
          refine vc_loopw (fun k E H => ∃ j m : Nat, j ≤ n ∧ k = n - j ∧ m = i * n + j ∧ E = [(0, .int .i64 n), (44, .slice A l.length c), (45, .int .i64 l.length), (46, .int .i64 i), (9, .slice (some ⟨r43, 0, none⟩) N N), (10, .int .i64 m), (12, .int .u64 (l.getD i 0 : Nat)), (13, .int .i64 j)] ∧ H = [BY (some ⟨r43, 0, none⟩) N N (packP N (bitAt n l) m)]) (n) ⟨_, _, _, ⟨0, i * n, by omega, rfl, rfl, rfl, rfl⟩, (by repeat (first | exact trivial | refine ⟨rfl, ?_⟩ | refine ⟨le_item rfl (by first | rfl | (congr 1; omega) | (simp; done) | (simp; omega)), ?_⟩)), (by repeat (first | exact .nil | (apply Sub.cons; · repeat (first | exact .head | apply Take.tail))))⟩ ?_
          intro k E H hI
          obtain ⟨j, m, hj, rfl, rfl, rfl, rfl⟩ := hI
          refine vc_seq ?_
          refine vc_seq ?_
          refine vc_region ?_
          refine vl_val rfl (.some rfl) (val_move rfl) ?_
          refine vl_val rfl (.some rfl) (val_move rfl) ?_
          refine vl_val rfl (.some rfl) (val_lt rfl rfl) ?_
          refine vl_nil ?_
          refine vc_cond rfl (fun hc4 => ?_) (fun hc4 => ?_)
          · (try replace hc4 := of_decide_eq_true hc4)
            have hj' : j < n := by omega
            have hm := row_lt hi' hj'
            refine vc_skip ?_
            refine vc_seq ?_
            refine vc_block ?_
            refine vc_seq ?_
            refine vc_seq ?_
            refine vc_region ?_
            refine vl_val rfl (.some rfl) (val_move rfl) ?_
            refine vl_val rfl (.some rfl) (val_move rfl) ?_
            refine vl_val rfl (.some rfl) (val_convInt Try.runUnderlying3 Try.runUnderlying37 rfl (by first | exact w_u64 (by omega) (by omega) | rfl)) ?_
            refine vl_val rfl (.some rfl) (val_shr rfl rfl (by omega) (shr_nat (k := .u64) (by simp [IntKind.bits]; omega))) ?_
            refine vl_val rfl (.some rfl) (val_and rfl rfl (and1_u64 (Nat.lt_of_le_of_lt (Nat.div_le_self _ _) hu1))) ?_
            refine vl_val rfl (.some rfl) (val_eq rfl rfl) ?_
            refine vl_nil ?_
            refine vc_cond rfl (fun hc5 => ?_) (fun hc5 => ?_)
            · (try replace hc5 := of_decide_eq_true hc5)
              have hb1 : l.getD i 0 / 2 ^ j % 2 = 1 := by omega
              refine vc_region ?_
              refine vl_val rfl (.some rfl) (val_move rfl) ?_
              refine vl_val rfl (.some rfl) (val_move rfl) ?_
              refine vl_val rfl (.some rfl) (val_quo rfl rfl (by omega) (by first | exact quo_nn (by omega) (w_i64 (by omega) (by omega)) | rfl)) ?_
              refine vl_val rfl (.some rfl) (val_indexAddr Try.runUnderlying59 Try.sizeOf5 rfl rfl (rd_sl (by repeat (first | exact .head | apply In.tail | apply Take.tail | apply Upd.tail))) (by omega) (by omega) (by rw [bcells_length, packP_len]; omega)) ?_
              refine vl_val rfl (.some rfl) (val_load Try.isAgg5 rfl (cell_rd (rd_sl (by repeat (first | exact .head | apply In.tail | apply Take.tail | apply Upd.tail))) (show _ = some (Value.int .u8 (((packP N (bitAt n l) (i * n + j)).getD ((i * n + j) / 8) 0).toNat : Int)) by rw [show Int.toNat (((i * n + j : Nat) : Int) / 8) * 1 = (i * n + j) / 8 by omega]; exact bcells_get (by rw [packP_len]; omega)))) ?_
              refine vl_val rfl (.some rfl) (val_move rfl) ?_
              refine vl_val rfl (.some rfl) (val_rem rfl rfl (by omega) (by first | exact rem_nn (by omega) | rfl)) ?_
              refine vl_val rfl (.some rfl) (val_convInt Try.runUnderlying3 Try.runUnderlying37 rfl (by first | exact w_u64 (by omega) (by omega) | rfl)) ?_
              refine vl_val rfl (.some rfl) (val_shl rfl rfl (by omega) (show _ = ((1 * 2 ^ ((i * n + j) % 8) : Nat) : Int) from shl_bit (x := 1) (s := (i * n + j) % 8) (by omega) (by omega) (by omega))) ?_
              refine vl_val rfl (.some rfl) (val_or rfl rfl (or_u8 (UInt8.toNat_lt _) (bit_lt (by omega) (by omega)))) ?_
              refine vl_val rfl (.some rfl) (val_indexAddr Try.runUnderlying59 Try.sizeOf5 rfl rfl (rd_sl (by repeat (first | exact .head | apply In.tail | apply Take.tail | apply Upd.tail))) (by omega) (by omega) (by rw [bcells_length, packP_len]; omega)) ?_
              refine vl_storeSl rfl rfl .none rfl rfl Try.sizeOf5 rfl (by simp [Value.cells]) (by repeat (first | exact .head | apply In.tail | apply Take.tail | apply Upd.tail)) (by rw [bcells_length, packP_len]; simp [Value.cells]; omega) ?_
              refine vl_nil ?_
              refine vc_region ?_
              refine vl_val rfl (.some rfl) (val_move rfl) ?_
              refine vl_val rfl (.some rfl) (val_add rfl rfl (by first | exact w_i64 (by omega) (by omega) | rfl)) ?_
              refine vl_val rfl (.some rfl) (val_assign rfl) ?_
              refine vl_nil ?_
              refine vc_region ?_
              refine vl_val rfl (.some rfl) (val_move rfl) ?_
              refine vl_val rfl (.some rfl) (val_add rfl rfl (by first | exact w_i64 (by omega) (by omega) | rfl)) ?_
              refine vl_val rfl (.some rfl) (val_assign rfl) ?_
              refine vl_nil ?_
              first | rw [laid_pack (m := i * n + j) (by omega) (by omega) (by rw [bitAt_at hi' hj', Nat.toNat_testBit, hb1])] | rw [← packP_skip (f := bitAt n l) (m := i * n + j) hz]
              exact ⟨n - (j + 1), _, _, _, by omega, (by repeat (first | exact trivial | refine ⟨rfl, ?_⟩ | refine ⟨le_item rfl (by first | rfl | (congr 1; omega) | (simp; done) | (simp; omega)), ?_⟩)), (by repeat (first | exact .nil | (apply Sub.cons; · repeat (first | exact .head | apply Take.tail)))), ⟨j + 1, i * n + j + 1, by omega, rfl, rfl, rfl, rfl⟩⟩
            · (try replace hc5 := of_decide_eq_false hc5)
              have hz : bitAt n l (i * n + j) = false := by rw [bitAt_at hi' hj', Nat.testBit_eq_decide_div_mod_eq, decide_eq_false (by omega)]
              refine vc_skip ?_
              refine vc_region ?_
              refine vl_val rfl (.some rfl) (val_move rfl) ?_
              refine vl_val rfl (.some rfl) (val_add rfl rfl (by first | exact w_i64 (by omega) (by omega) | rfl)) ?_
              refine vl_val rfl (.some rfl) (val_assign rfl) ?_
              refine vl_nil ?_
              refine vc_region ?_
              refine vl_val rfl (.some rfl) (val_move rfl) ?_
              refine vl_val rfl (.some rfl) (val_add rfl rfl (by first | exact w_i64 (by omega) (by omega) | rfl)) ?_
              refine vl_val rfl (.some rfl) (val_assign rfl) ?_
              refine vl_nil ?_
              first | rw [laid_pack (m := i * n + j) (by omega) (by omega) (by rw [bitAt_at hi' hj', Nat.toNat_testBit, hb1])] | rw [← packP_skip (f := bitAt n l) (m := i * n + j) hz]
              exact ⟨n - (j + 1), _, _, _, by omega, (by repeat (first | exact trivial | refine ⟨rfl, ?_⟩ | refine ⟨le_item rfl (by first | rfl | (congr 1; omega) | (simp; done) | (simp; omega)), ?_⟩)), (by repeat (first | exact .nil | (apply Sub.cons; · repeat (first | exact .head | apply Take.tail)))), ⟨j + 1, i * n + j + 1, by omega, rfl, rfl, rfl, rfl⟩⟩
          · (try replace hc4 := of_decide_eq_false hc4)
            obtain rfl : n = j := by omega
            refine vc_exit ?_
            refine vc_region ?_
            refine vl_val rfl (.some rfl) (val_add rfl rfl (by first | exact w_i64 (by omega) (by omega) | rfl)) ?_
            refine vl_val rfl (.some rfl) (val_move rfl) ?_
            refine vl_nil ?_
            exact ⟨l.length - (i + 1), _, _, _, by omega, (by repeat (first | exact trivial | refine ⟨rfl, ?_⟩ | refine ⟨le_item rfl (by first | rfl | (congr 1; omega) | (simp; done) | (simp; omega)), ?_⟩)), (by repeat (first | exact .nil | (apply Sub.cons; · repeat (first | exact .head | apply Take.tail)))), ⟨i + 1, i * n + n, by omega, rfl, by rw [Nat.add_mul, Nat.one_mul], rfl, rfl⟩⟩
        · (try replace hc3 := of_decide_eq_false hc3)
          have hfin : packP N (bitAt n l) (i * n) = packS n l := by rw [packS, ← hN, show i * n = n * l.length by rw [show i = l.length by omega, Nat.mul_comm]]
          rw [hfin]
          refine vc_exit ?_
          refine vc_seq ?_
          refine vc_region ?_
          refine vl_val rfl (.some rfl) (val_move rfl) ?_
          refine vl_val rfl (.some rfl) (val_assign rfl) ?_
          refine vl_val rfl (.some rfl) (val_assign rfl) ?_
          refine vl_nil ?_
          refine vc_ret ?_
          refine ⟨_, [BY (some ⟨r43, 0, none⟩) N N (packS n l)], _, res2 Try.results64 rfl rfl, (by repeat (first | exact .nil | (apply Sub.cons; · repeat (first | exact .head | apply Take.tail)))), ?_⟩
          have e1 : packB n l = packS n l := by unfold packB; rw [if_pos (by omega), Int.toNat_natCast, if_pos hfit]
          have e2 : packE n l = 0 := by unfold packE; rw [if_pos (by omega), Int.toNat_natCast, if_pos hfit]
          show ∃ A' c', _ ∧ _
          rw [e1, e2, packS_len, ← hN]
          exact ⟨_, _, rfl, rfl⟩

end Go.Proofs.Ytibfngjfjddaiaa.K
