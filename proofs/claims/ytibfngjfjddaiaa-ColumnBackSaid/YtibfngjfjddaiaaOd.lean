/- Walks of the program's functions, printed by a program of this session; Lean checks them. -/
import Derived.Test.YtibfngjfjddaiaaOc
namespace Go.Proofs.Ytibfngjfjddaiaa.K
open Go Go.RowKit Go.Proofs
set_option linter.unusedVariables false
set_option linter.unusedSimpArgs false


set_option maxRecDepth 20000 in
theorem rBytes (An Ai : Option Addr) (cn ci : Nat) (nl : List Bool) (il : List Int) (hn : nl.length < 9223372036854775808) (hi : il.length < 9223372036854775808) (w : World) (hrn : Reads w An (tcells nl)) (hri : Reads w Ai (icells .i64 il)) : Fn Try.prog 32 [(VA An cn nl Ai ci il)] [] (ret fun v H' => ∃ A' c', v = .tuple #[.slice A' (bytesL nl il).length c', .int .i64 (bytesE nl il)] ∧ H' = [BY A' (bytesL nl il).length c' (bytesL nl il)]) w := by
  refine fn_enter Try.func32 rfl Try.ntmps32 rfl ?_
  refine vc_seq ?_
  refine vc_region ?_
  refine vl_box rfl rfl (.some rfl) rfl (fun r1 => ?_)
  refine vl_val rfl (.some rfl) (val_assign rfl) ?_
  refine vl_val rfl (.some rfl) (val_assign rfl) ?_
  refine vl_nil ?_
  refine vc_seq ?_
  refine vc_seq ?_
  refine vc_region ?_
  refine vl_val rfl (.some rfl) (val_loadAgg Try.isAgg64 Try.sizeOf64 rfl (by first | exact cells_whole (by repeat (first | exact .head | apply In.tail | apply Take.tail | apply Upd.tail)) | exact cells_part (by repeat (first | exact .head | apply In.tail | apply Take.tail | apply Upd.tail)) rfl) rfl) ?_
  refine vl_callV rfl rfl (.some rfl) Try.call37 rfl (fun w hw => rGood _ _ _ _ nl il (by omega) (by omega) w (rdw (rd_old hrn rfl) hw) (rdw (rd_old hri rfl) hw)) ?_
  refine vl_val rfl (.some rfl) (val_not rfl) ?_
  refine vl_nil ?_
  refine vc_cond rfl (fun hc0 => ?_) (fun hc0 => ?_)
  · (try replace hc0 := of_decide_eq_true hc0)
    have hok : ¬ okV nl il := by simpa using hc0
    refine vc_seq ?_
    refine vc_region ?_
    refine vl_val rfl (.some rfl) (val_assign rfl) ?_
    refine vl_nilSl 5 1 ?_
    refine vl_val rfl (.some rfl) (val_assign rfl) ?_
    refine vl_nil ?_
    refine vc_ret ?_
    refine ⟨_, [BY none 0 0 []], _, res2 Try.results32 rfl rfl, (by repeat (first | exact .nil | (apply Sub.cons; · repeat (first | exact .head | apply Take.tail)))), ?_⟩
    show ∃ A' c', _ ∧ _
    unfold bytesL bytesE
    rw [if_neg hok, if_neg hok]
    exact ⟨none, 0, rfl, rfl⟩
  · (try replace hc0 := of_decide_eq_false hc0)
    have hok : okV nl il := by simpa using hc0
    have hb := hok.mem
    have hle := hok.1
    have hil := hok.2.1
    have hwl := wordsV_len il
    have hfl := flagsV_len nl
    have hwd := wid_ok hok
    have hpf : packB 1 (flagsV nl) = packS 1 (flagsV nl) ∧ packE 1 (flagsV nl) = 0 := packB_ok (w := 1) (by decide) (flagsV_lt nl)
    have hpk := packB_ok (w := wid il) (by omega) (wordsV_lt hok)
    have hhl := headV_len hok
    have hbl := bestV_len hok
    have hpt := putN_len il.length
    have hpl : (packS 1 (flagsV nl)).length ≤ 126 := by rw [packS_len, hfl]; omega
    have hp1 : wid il * il.length ≤ 9 * 1000 := Nat.mul_le_mul hwd hil
    have hpl2 : (packS (wid il) (wordsV il)).length ≤ 1200 := by rw [packS_len, hwl]; omega
    have hrl := runsS_len (wordsV il)
    have hdl := deltS_len il
    refine vc_skip ?_
    refine vc_seq ?_
    refine vc_region ?_
    refine vl_val rfl (.some rfl) (val_assign rfl) ?_
    refine vl_nilSl 96 1 ?_
    refine vl_val rfl (.some rfl) (val_assign rfl) ?_
    refine vl_nilSl 96 1 ?_
    refine vl_nil ?_
    refine vc_seq ?_
    refine vc_region ?_
    refine vl_val rfl (.some rfl) (val_assign rfl) ?_
    refine vl_nil ?_
    refine vc_seq ?_
    refine vc_seq ?_
    refine vc_region ?_
    refine vl_val rfl (.some rfl) (by first | exact val_fieldAddr Try.runUnderlying64 rfl Try.sizeOf56 rfl | exact val_fieldAddrR Try.runUnderlying64 rfl Try.sizeOf56 rfl) ?_
    refine vl_val rfl (.some rfl) (val_load Try.isAgg56 rfl (by first | exact cell_cells (by repeat (first | exact .head | apply In.tail | apply Take.tail | apply Upd.tail)) rfl | exact cell_rd (rd_sl (by repeat (first | exact .head | apply In.tail | apply Take.tail | apply Upd.tail))) (by first | exact bcells_at (by omega) | exact ucells_at (by omega) | exact icells_at (by omega) | exact tcells_at (by omega) | exact bcells_get (by omega) | exact icells_get (by omega) | exact tcells_get (by omega) | exact ucells_get (by omega)) | exact cell_rd (rd_old (by assumption) rfl) (by first | exact bcells_at (by omega) | exact ucells_at (by omega) | exact icells_at (by omega) | exact tcells_at (by omega) | exact bcells_get (by omega) | exact icells_get (by omega) | exact tcells_get (by omega) | exact ucells_get (by omega)) | exact cell_old (by assumption) (by simp [fps]))) ?_
    refine vl_val rfl (.some rfl) (val_lenSl Try.runUnderlying56 rfl) ?_
    refine vl_val rfl (.some rfl) (val_move rfl) ?_
    refine vl_nil ?_
    refine vc_block ?_
    refine vc_loopw (fun k E H => ∃ (i : Nat) (A4 : Option Addr) (c4 : Nat) (A5 : Option Addr) (c5 : Nat), i ≤ il.length ∧ k = il.length - i ∧ E = [(1, .pointer (some ⟨r1, 0, none⟩)), (4, .slice A4 (flagsV (nl.take i)).length c4), (5, .slice A5 (wordsV (il.take i)).length c5), (6, .int .i64 (wid (il.take i))), (20, .slice Ai il.length ci), (21, .int .i64 il.length), (22, .int .i64 i)] ∧ H = [UW A5 (wordsV (il.take i)).length c5 (wordsV (il.take i)), UW A4 (flagsV (nl.take i)).length c4 (flagsV (nl.take i)), cells r1 [.slice An nl.length cn, .slice Ai il.length ci] 64]) (il.length) ⟨_, _, _, ⟨0, none, 0, none, 0, by omega, rfl, rfl, rfl⟩, (by repeat (first | exact trivial | refine ⟨rfl, ?_⟩ | refine ⟨le_item rfl (by first | rfl | (congr 1; omega) | (simp; done) | (simp; omega)), ?_⟩)), (by repeat (first | exact .nil | (apply Sub.cons; · repeat (first | exact .head | apply Take.tail))))⟩ ?_
    intro k E H hI
    obtain ⟨i, A4, c4, A5, c5, hin, rfl, rfl, rfl⟩ := hI
    refine vc_seq ?_
    refine vc_region ?_
    refine vl_val rfl (.some rfl) (val_lt rfl rfl) ?_
    refine vl_nil ?_
    refine vc_seq ?_
    refine vc_cond rfl (fun hc1 => ?_) (fun hc1 => ?_)
    · (try replace hc1 := of_decide_eq_true hc1)
      have hl0 : (flagsV (nl.take i)).length = i := by rw [flagsV_len, List.length_take]; omega
      have hl1 : (flagsV (nl.take (i + 1))).length = i + 1 := by rw [flagsV_len, List.length_take]; omega
      have hw0 : (wordsV (il.take i)).length = i := by rw [wordsV_len, List.length_take]; omega
      have hw1 : (wordsV (il.take (i + 1))).length = i + 1 := by rw [wordsV_len, List.length_take]; omega
      have hblx := bl_small (u := (il.getD i 0).toNat) (by have := hb _ (getD_mem 0 (l := il) (i := i) (by omega)); omega)
      have hw9 : wid (il.take (i + 1)) ≤ 9 := wid_le.2 fun n hn => bl_small (by have := hb n (List.mem_of_mem_take hn); omega)
      have hws := wid_step (il := il) (i := i) (by omega)
      have hbi := hb _ (getD_mem 0 (l := il) (i := i) (by omega))
      refine vc_skip ?_
      refine vc_seq ?_
      refine vc_block ?_
      refine vc_seq ?_
      refine vc_region ?_
      refine vl_val rfl (.some rfl) (val_move rfl) ?_
      refine vl_val rfl (.some rfl) (val_indexAddr Try.runUnderlying56 Try.sizeOf3 rfl rfl (by first | exact rd_sl (by repeat (first | exact .head | apply In.tail | apply Take.tail | apply Upd.tail)) | exact rd_slr (by repeat (first | exact .head | apply In.tail | apply Take.tail | apply Upd.tail)) | exact rd_old (by assumption) rfl) (by omega) (by omega) (by first | omega | (simp only [bcells_length, icells_length, ucells_length, tcells_length]; omega) | (simp only [bcells_length, icells_length, ucells_length, tcells_length, fillG_length]; omega) | (simp; omega))) ?_
      refine vl_val rfl (.some rfl) (val_load Try.isAgg3 rfl (by first | exact cell_cells (by repeat (first | exact .head | apply In.tail | apply Take.tail | apply Upd.tail)) rfl | exact cell_rd (rd_sl (by repeat (first | exact .head | apply In.tail | apply Take.tail | apply Upd.tail))) (by first | exact bcells_at (by omega) | exact ucells_at (by omega) | exact icells_at (by omega) | exact tcells_at (by omega) | exact bcells_get (by omega) | exact icells_get (by omega) | exact tcells_get (by omega) | exact ucells_get (by omega)) | exact cell_rd (rd_old (by assumption) rfl) (by first | exact bcells_at (by omega) | exact ucells_at (by omega) | exact icells_at (by omega) | exact tcells_at (by omega) | exact bcells_get (by omega) | exact icells_get (by omega) | exact tcells_get (by omega) | exact ucells_get (by omega)) | exact cell_old (by assumption) (by simp [fps]))) ?_
      refine vl_val rfl (.some rfl) (val_assign rfl) ?_
      refine vl_val rfl (.some rfl) (val_assign rfl) ?_
      refine vl_nil ?_
      refine vc_seq ?_
      refine vc_region ?_
      refine vl_val rfl (.some rfl) (val_assign rfl) ?_
      refine vl_nil ?_
      refine vc_seq ?_
      refine vc_seq ?_
      refine vc_region ?_
      refine vl_val rfl (.some rfl) (by first | exact val_fieldAddr Try.runUnderlying64 rfl Try.sizeOf55 rfl | exact val_fieldAddrR Try.runUnderlying64 rfl Try.sizeOf55 rfl) ?_
      refine vl_val rfl (.some rfl) (val_load Try.isAgg55 rfl (by first | exact cell_cells (by repeat (first | exact .head | apply In.tail | apply Take.tail | apply Upd.tail)) rfl | exact cell_rd (rd_sl (by repeat (first | exact .head | apply In.tail | apply Take.tail | apply Upd.tail))) (by first | exact bcells_at (by omega) | exact ucells_at (by omega) | exact icells_at (by omega) | exact tcells_at (by omega) | exact bcells_get (by omega) | exact icells_get (by omega) | exact tcells_get (by omega) | exact ucells_get (by omega)) | exact cell_rd (rd_old (by assumption) rfl) (by first | exact bcells_at (by omega) | exact ucells_at (by omega) | exact icells_at (by omega) | exact tcells_at (by omega) | exact bcells_get (by omega) | exact icells_get (by omega) | exact tcells_get (by omega) | exact ucells_get (by omega)) | exact cell_old (by assumption) (by simp [fps]))) ?_
      refine vl_val rfl (.some rfl) (val_move rfl) ?_
      refine vl_val rfl (.some rfl) (val_indexAddr Try.runUnderlying55 Try.sizeOf4 rfl rfl (by first | exact rd_sl (by repeat (first | exact .head | apply In.tail | apply Take.tail | apply Upd.tail)) | exact rd_slr (by repeat (first | exact .head | apply In.tail | apply Take.tail | apply Upd.tail)) | exact rd_old (by assumption) rfl) (by omega) (by omega) (by first | omega | (simp only [bcells_length, icells_length, ucells_length, tcells_length]; omega) | (simp only [bcells_length, icells_length, ucells_length, tcells_length, fillG_length]; omega) | (simp; omega))) ?_
      refine vl_val rfl (.some rfl) (val_load Try.isAgg4 rfl (by first | exact cell_cells (by repeat (first | exact .head | apply In.tail | apply Take.tail | apply Upd.tail)) rfl | exact cell_rd (rd_sl (by repeat (first | exact .head | apply In.tail | apply Take.tail | apply Upd.tail))) (by first | exact bcells_at (by omega) | exact ucells_at (by omega) | exact icells_at (by omega) | exact tcells_at (by omega) | exact bcells_get (by omega) | exact icells_get (by omega) | exact tcells_get (by omega) | exact ucells_get (by omega)) | exact cell_rd (rd_old (by assumption) rfl) (by first | exact bcells_at (by omega) | exact ucells_at (by omega) | exact icells_at (by omega) | exact tcells_at (by omega) | exact bcells_get (by omega) | exact icells_get (by omega) | exact tcells_get (by omega) | exact ucells_get (by omega)) | exact cell_old (by assumption) (by simp [fps]))) ?_
      refine vl_nil ?_
      refine vc_cond rfl (fun hc2 => ?_) (fun hc2 => ?_)
      · (try replace hc2 := of_decide_eq_true hc2)
        refine vc_region ?_
        refine vl_val rfl (.some rfl) (val_assign rfl) ?_
        refine vl_nil ?_
        refine vc_seq ?_
        refine vc_region ?_
        refine vl_val rfl (.some rfl) (val_move rfl) ?_
        refine vl_val rfl (.some rfl) (val_move rfl) ?_
        refine vl_lit sT95 rfl rfl (.some rfl) rfl rfl rfl (by decide) (by decide) rfl (flat_one rfl) (fun r34 => ?_)
        refine vl_append sT95 rfl rfl (.some rfl) rfl rfl (rd_sl (by repeat (first | exact .head | apply In.tail | apply Take.tail | apply Upd.tail))) (by first | rfl | simp) (by first | rfl | exact one_u _) (by omega) (by omega) (by repeat (first | exact .head | apply In.tail | apply Take.tail | apply Upd.tail)) (fun A35 k35 => ?_)
        first | rw [push1 hc2 (by omega)] | rw [push0 hc2 (by omega)]
        rw [show (flagsV (nl.take i)).length + 1 = (flagsV (nl.take (i + 1))).length by omega]
        refine vl_val rfl (.some rfl) (val_assign rfl) ?_
        refine vl_nil ?_
        refine vc_seq ?_
        refine vc_region ?_
        refine vl_val rfl (.some rfl) (val_move rfl) ?_
        refine vl_val rfl (.some rfl) (val_move rfl) ?_
        refine vl_val rfl (.some rfl) (val_convInt Try.runUnderlying3 Try.runUnderlying96 rfl (show _ = (((il.getD i 0).toNat : Nat) : Int) by rw [w_u64 (by omega) (by omega)]; omega)) ?_
        refine vl_lit sT95 rfl rfl (.some rfl) rfl rfl rfl (by decide) (by decide) rfl (flat_one rfl) (fun r39 => ?_)
        refine vl_append sT95 rfl rfl (.some rfl) rfl rfl (rd_sl (by repeat (first | exact .head | apply In.tail | apply Take.tail | apply Upd.tail))) (by first | rfl | simp) (by first | rfl | exact one_u _) (by omega) (by omega) (by repeat (first | exact .head | apply In.tail | apply Take.tail | apply Upd.tail)) (fun A40 k40 => ?_)
        rw [pushw (by omega), show (wordsV (il.take i)).length + 1 = (wordsV (il.take (i + 1))).length by omega]
        refine vl_val rfl (.some rfl) (val_assign rfl) ?_
        refine vl_nil ?_
        refine vc_block ?_
        refine vc_loopw (fun k E H => ∃ v : Nat, wid (il.take i) ≤ v ∧ v ≤ wid (il.take (i + 1)) ∧ k = 9 - v ∧ E = [(1, .pointer (some ⟨r1, 0, none⟩)), (4, .slice A35 (flagsV (nl.take (i + 1))).length k35), (5, .slice A40 (wordsV (il.take (i + 1))).length k40), (6, .int .i64 v), (8, .int .i64 (il.getD i 0)), (20, .slice Ai il.length ci), (21, .int .i64 il.length), (22, .int .i64 i)] ∧ H = [UW A40 (wordsV (il.take (i + 1))).length k40 (wordsV (il.take (i + 1))), UW A35 (flagsV (nl.take (i + 1))).length k35 (flagsV (nl.take (i + 1))), cells r1 [.slice An nl.length cn, .slice Ai il.length ci] 64]) (9 - wid (il.take i)) ⟨_, _, _, ⟨wid (il.take i), Nat.le_refl _, by omega, rfl, rfl, rfl⟩, (by repeat (first | exact trivial | refine ⟨rfl, ?_⟩ | refine ⟨le_item rfl (by first | rfl | (congr 1; omega) | (simp; done) | (simp; omega)), ?_⟩)), (by repeat (first | exact .nil | (apply Sub.cons; · repeat (first | exact .head | apply Take.tail))))⟩ ?_
        intro k E H hI
        obtain ⟨v, hv0, hv1, rfl, rfl, rfl⟩ := hI
        refine vc_seq ?_
        refine vc_seq ?_
        refine vc_region ?_
        refine vl_val rfl (.some rfl) (val_move rfl) ?_
        refine vl_val rfl (.some rfl) (val_move rfl) ?_
        refine vl_val rfl (.some rfl) (val_convInt Try.runUnderlying3 Try.runUnderlying37 rfl (by first | exact w_u64 (by omega) (by omega) | rfl)) ?_
        refine vl_val rfl (.some rfl) (val_shl rfl rfl (by omega) (shl_pw (by omega))) ?_
        refine vl_val rfl (.some rfl) (val_ge rfl rfl) ?_
        refine vl_nil ?_
        refine vc_cond rfl (fun hc3 => ?_) (fun hc3 => ?_)
        · (try replace hc3 := of_decide_eq_true hc3)
          have hv2 : v < bl (il.getD i 0).toNat := by
            rcases Nat.lt_or_ge v (bl (il.getD i 0).toNat) with h | h
            · exact h
            · have := bl_pw.1 h; omega
          refine vc_skip ?_
          refine vc_block ?_
          refine vc_region ?_
          refine vl_val rfl (.some rfl) (val_move rfl) ?_
          refine vl_val rfl (.some rfl) (val_add rfl rfl (by first | exact w_i64 (by omega) (by omega) | rfl)) ?_
          refine vl_val rfl (.some rfl) (val_assign rfl) ?_
          refine vl_nil ?_
          exact ⟨9 - (v + 1), _, _, _, by omega, (by repeat (first | exact trivial | refine ⟨rfl, ?_⟩ | refine ⟨le_item rfl (by first | rfl | (congr 1; omega) | (simp; done) | (simp; omega)), ?_⟩)), (by repeat (first | exact .nil | (apply Sub.cons; · repeat (first | exact .head | apply Take.tail)))), ⟨v + 1, by omega, by omega, rfl, rfl, rfl⟩⟩
        · (try replace hc3 := of_decide_eq_false hc3)
          have hv2 : bl (il.getD i 0).toNat ≤ v := bl_pw.2 (by omega)
          obtain rfl : v = wid (il.take (i + 1)) := by omega
          refine vc_exit ?_
          refine vc_region ?_
          refine vl_val rfl (.some rfl) (val_add rfl rfl (by first | exact w_i64 (by omega) (by omega) | rfl)) ?_
          refine vl_val rfl (.some rfl) (val_move rfl) ?_
          refine vl_nil ?_
          exact ⟨il.length - (i + 1), _, _, _, by omega, (by repeat (first | exact trivial | refine ⟨rfl, ?_⟩ | refine ⟨le_item rfl (by first | rfl | (congr 1; omega) | (simp; done) | (simp; omega)), ?_⟩)), (by repeat (first | exact .nil | (apply Sub.cons; · repeat (first | exact .head | apply Take.tail)))), ⟨i + 1, A35, k35, A40, k40, by omega, rfl, rfl, rfl⟩⟩
      · (try replace hc2 := of_decide_eq_false hc2)
        replace hc2 : nl.getD i false = false := by cases h : nl.getD i false with
          | false => rfl
          | true => exact absurd h (by simpa using hc2)
        refine vc_skip ?_
        refine vc_seq ?_
        refine vc_region ?_
        refine vl_val rfl (.some rfl) (val_move rfl) ?_
        refine vl_val rfl (.some rfl) (val_move rfl) ?_
        refine vl_lit sT95 rfl rfl (.some rfl) rfl rfl rfl (by decide) (by decide) rfl (flat_one rfl) (fun r34 => ?_)
        refine vl_append sT95 rfl rfl (.some rfl) rfl rfl (rd_sl (by repeat (first | exact .head | apply In.tail | apply Take.tail | apply Upd.tail))) (by first | rfl | simp) (by first | rfl | exact one_u _) (by omega) (by omega) (by repeat (first | exact .head | apply In.tail | apply Take.tail | apply Upd.tail)) (fun A35 k35 => ?_)
        first | rw [push1 hc2 (by omega)] | rw [push0 hc2 (by omega)]
        rw [show (flagsV (nl.take i)).length + 1 = (flagsV (nl.take (i + 1))).length by omega]
        refine vl_val rfl (.some rfl) (val_assign rfl) ?_
        refine vl_nil ?_
        refine vc_seq ?_
        refine vc_region ?_
        refine vl_val rfl (.some rfl) (val_move rfl) ?_
        refine vl_val rfl (.some rfl) (val_move rfl) ?_
        refine vl_val rfl (.some rfl) (val_convInt Try.runUnderlying3 Try.runUnderlying96 rfl (show _ = (((il.getD i 0).toNat : Nat) : Int) by rw [w_u64 (by omega) (by omega)]; omega)) ?_
        refine vl_lit sT95 rfl rfl (.some rfl) rfl rfl rfl (by decide) (by decide) rfl (flat_one rfl) (fun r39 => ?_)
        refine vl_append sT95 rfl rfl (.some rfl) rfl rfl (rd_sl (by repeat (first | exact .head | apply In.tail | apply Take.tail | apply Upd.tail))) (by first | rfl | simp) (by first | rfl | exact one_u _) (by omega) (by omega) (by repeat (first | exact .head | apply In.tail | apply Take.tail | apply Upd.tail)) (fun A40 k40 => ?_)
        rw [pushw (by omega), show (wordsV (il.take i)).length + 1 = (wordsV (il.take (i + 1))).length by omega]
        refine vl_val rfl (.some rfl) (val_assign rfl) ?_
        refine vl_nil ?_
        refine vc_block ?_
        refine vc_loopw (fun k E H => ∃ v : Nat, wid (il.take i) ≤ v ∧ v ≤ wid (il.take (i + 1)) ∧ k = 9 - v ∧ E = [(1, .pointer (some ⟨r1, 0, none⟩)), (4, .slice A35 (flagsV (nl.take (i + 1))).length k35), (5, .slice A40 (wordsV (il.take (i + 1))).length k40), (6, .int .i64 v), (8, .int .i64 (il.getD i 0)), (20, .slice Ai il.length ci), (21, .int .i64 il.length), (22, .int .i64 i)] ∧ H = [UW A40 (wordsV (il.take (i + 1))).length k40 (wordsV (il.take (i + 1))), UW A35 (flagsV (nl.take (i + 1))).length k35 (flagsV (nl.take (i + 1))), cells r1 [.slice An nl.length cn, .slice Ai il.length ci] 64]) (9 - wid (il.take i)) ⟨_, _, _, ⟨wid (il.take i), Nat.le_refl _, by omega, rfl, rfl, rfl⟩, (by repeat (first | exact trivial | refine ⟨rfl, ?_⟩ | refine ⟨le_item rfl (by first | rfl | (congr 1; omega) | (simp; done) | (simp; omega)), ?_⟩)), (by repeat (first | exact .nil | (apply Sub.cons; · repeat (first | exact .head | apply Take.tail))))⟩ ?_
        intro k E H hI
        obtain ⟨v, hv0, hv1, rfl, rfl, rfl⟩ := hI
        refine vc_seq ?_
        refine vc_seq ?_
        refine vc_region ?_
        refine vl_val rfl (.some rfl) (val_move rfl) ?_
        refine vl_val rfl (.some rfl) (val_move rfl) ?_
        refine vl_val rfl (.some rfl) (val_convInt Try.runUnderlying3 Try.runUnderlying37 rfl (by first | exact w_u64 (by omega) (by omega) | rfl)) ?_
        refine vl_val rfl (.some rfl) (val_shl rfl rfl (by omega) (shl_pw (by omega))) ?_
        refine vl_val rfl (.some rfl) (val_ge rfl rfl) ?_
        refine vl_nil ?_
        refine vc_cond rfl (fun hc3 => ?_) (fun hc3 => ?_)
        · (try replace hc3 := of_decide_eq_true hc3)
          have hv2 : v < bl (il.getD i 0).toNat := by
            rcases Nat.lt_or_ge v (bl (il.getD i 0).toNat) with h | h
            · exact h
            · have := bl_pw.1 h; omega
          refine vc_skip ?_
          refine vc_block ?_
          refine vc_region ?_
          refine vl_val rfl (.some rfl) (val_move rfl) ?_
          refine vl_val rfl (.some rfl) (val_add rfl rfl (by first | exact w_i64 (by omega) (by omega) | rfl)) ?_
          refine vl_val rfl (.some rfl) (val_assign rfl) ?_
          refine vl_nil ?_
          exact ⟨9 - (v + 1), _, _, _, by omega, (by repeat (first | exact trivial | refine ⟨rfl, ?_⟩ | refine ⟨le_item rfl (by first | rfl | (congr 1; omega) | (simp; done) | (simp; omega)), ?_⟩)), (by repeat (first | exact .nil | (apply Sub.cons; · repeat (first | exact .head | apply Take.tail)))), ⟨v + 1, by omega, by omega, rfl, rfl, rfl⟩⟩
        · (try replace hc3 := of_decide_eq_false hc3)
          have hv2 : bl (il.getD i 0).toNat ≤ v := bl_pw.2 (by omega)
          obtain rfl : v = wid (il.take (i + 1)) := by omega
          refine vc_exit ?_
          refine vc_region ?_
          refine vl_val rfl (.some rfl) (val_add rfl rfl (by first | exact w_i64 (by omega) (by omega) | rfl)) ?_
          refine vl_val rfl (.some rfl) (val_move rfl) ?_
          refine vl_nil ?_
          exact ⟨il.length - (i + 1), _, _, _, by omega, (by repeat (first | exact trivial | refine ⟨rfl, ?_⟩ | refine ⟨le_item rfl (by first | rfl | (congr 1; omega) | (simp; done) | (simp; omega)), ?_⟩)), (by repeat (first | exact .nil | (apply Sub.cons; · repeat (first | exact .head | apply Take.tail)))), ⟨i + 1, A35, k35, A40, k40, by omega, rfl, rfl, rfl⟩⟩
    · (try replace hc1 := of_decide_eq_false hc1)
      obtain rfl : i = il.length := by omega
      rw [List.take_length, List.take_of_length_le (i := il.length) (l := nl) (by omega)]
      refine vc_exit ?_
      refine vc_seq ?_
      refine vc_region ?_
      refine vl_val rfl (.some rfl) (val_move rfl) ?_
      refine vl_val rfl (.some rfl) (val_lenSl Try.runUnderlying95 rfl) ?_
      refine vl_val rfl (.some rfl) (val_convInt Try.runUnderlying3 Try.runUnderlying96 rfl (show _ = ((il.length : Nat) : Int) by rw [hwl]; exact w_u64 (by omega) (by omega))) ?_
      refine vl_call (C := []) rfl rfl (.some rfl) Try.call63 rfl .nil (fun w hw => rPut none 0 [] il.length (by omega) (by decide) w (rdw (by first | exact rd_sl (by repeat (first | exact .head | apply In.tail | apply Take.tail | apply Upd.tail)) | exact rd_slr (by repeat (first | exact .head | apply In.tail | apply Take.tail | apply Upd.tail)) | exact rd_old (by assumption) rfl | exact rd_slq (by repeat (first | exact .head | apply In.tail | apply Take.tail | apply Upd.tail)) | exact rd_nil) hw)) (fun v H' h => ?_)
      obtain ⟨A52, c52, rfl, rfl⟩ := h
      rw [List.nil_append]
      show VL _ _ _ _ _ (_ :: _)
      refine vl_val rfl (.some rfl) (val_assign rfl) ?_
      refine vl_nil ?_
      refine vc_seq ?_
      refine vc_region ?_
      refine vl_val rfl (.some rfl) (val_move rfl) ?_
      refine vl_call (C := []) rfl rfl (.some rfl) Try.call64 rfl .nil (fun w hw => rPack (1) A4 c4 (flagsV nl) (by omega) (fun u hu => by have := flagsV_lt nl u hu; omega) w (rdw (rd_sl (by repeat (first | exact .head | apply In.tail | apply Take.tail | apply Upd.tail))) hw)) (fun v H' h => ?_)
      obtain ⟨A55, c55, rfl, rfl⟩ := h
      show VL _ _ _ _ _ (_ :: _)
      rw [hpf.1, hpf.2]
      refine vl_val rfl (.some rfl) (val_move rfl) ?_
      refine vl_val rfl (.some rfl) (val_extract rfl rfl) ?_
      refine vl_val rfl (.some rfl) (val_extract rfl rfl) ?_
      refine vl_val rfl (.some rfl) (val_assign rfl) ?_
      refine vl_val rfl (.some rfl) (val_assign rfl) ?_
      refine vl_nil ?_
      refine vc_seq ?_
      refine vc_region ?_
      refine vl_val rfl (.some rfl) (val_move rfl) ?_
      refine vl_val rfl (.some rfl) (val_move rfl) ?_
      refine vl_append sT59 rfl rfl (.some rfl) rfl rfl (rd_sl (by repeat (first | exact .head | apply In.tail | apply Take.tail | apply Upd.tail))) (by simp [bcells_length]) (one_b _) (by have := hpl; omega) (by have := hpl; omega) (by repeat (first | exact .head | apply In.tail | apply Take.tail | apply Upd.tail)) (fun A60 k60 => ?_)
      rw [show (putN il.length).length + (packS 1 (flagsV nl)).length = (headV nl il).length by unfold headV; rw [List.length_append], bapp, show putN il.length ++ packS 1 (flagsV nl) = headV nl il from rfl]
      refine vl_val rfl (.some rfl) (val_assign rfl) ?_
      refine vl_nil ?_
      refine vc_seq ?_
      refine vc_region ?_
      refine vl_val rfl (.some rfl) (val_move rfl) ?_
      refine vl_val rfl (.some rfl) (val_move rfl) ?_
      refine vl_call (C := []) rfl rfl (.some rfl) Try.call64 rfl .nil (fun w hw => rPack (wid il) A5 c5 (wordsV il) (by omega) (wordsV_u64 hok) w (rdw (rd_sl (by repeat (first | exact .head | apply In.tail | apply Take.tail | apply Upd.tail))) hw)) (fun v H' h => ?_)
      obtain ⟨A64, c64, rfl, rfl⟩ := h
      show VL _ _ _ _ _ (_ :: _)
      rw [hpk.1, hpk.2]
      refine vl_val rfl (.some rfl) (val_move rfl) ?_
      refine vl_val rfl (.some rfl) (val_extract rfl rfl) ?_
      refine vl_val rfl (.some rfl) (val_extract rfl rfl) ?_
      refine vl_val rfl (.some rfl) (val_assign rfl) ?_
      refine vl_nil ?_
      refine vc_seq ?_
      refine vc_region ?_
      refine vl_val rfl (.some rfl) (val_move rfl) ?_
      refine vl_val rfl (.some rfl) (val_convInt Try.runUnderlying3 Try.runUnderlying5 rfl (show _ = (((UInt8.ofNat (wid il)).toNat : Nat) : Int) by rw [u8_ofNat (by omega)]; exact w_u8 (by omega) (by omega))) ?_
      refine vl_lit sT59 rfl rfl (.some rfl) rfl rfl rfl (by decide) (by decide) rfl (flat_one rfl) (fun r69 => ?_)
      refine vl_val rfl (.some rfl) (val_move rfl) ?_
      refine vl_append sT59 rfl rfl (.some rfl) rfl rfl (rd_sl (by repeat (first | exact .head | apply In.tail | apply Take.tail | apply Upd.tail))) (by simp [bcells_length]) (one_b _) (by have := hpl2; omega) (by have := hpl2; omega) (by repeat (first | exact .head | apply In.tail | apply Take.tail | apply Upd.tail)) (fun A71 k71 => ?_)
      rw [show 2 + (packS (wid il) (wordsV il)).length = (way0 il).length by unfold way0; simp only [List.length_cons]; omega, show [Value.int .u8 0, Value.int .u8 (((UInt8.ofNat (wid il)).toNat : Nat) : Int)] ++ bcells (packS (wid il) (wordsV il)) = bcells (way0 il) from rfl]
      refine vl_val rfl (.some rfl) (val_assign rfl) ?_
      refine vl_nil ?_
      refine vc_seq ?_
      refine vc_seq ?_
      refine vc_region ?_
      refine vl_lit sT59 rfl rfl (.some rfl) rfl rfl rfl (by decide) (by decide) rfl (flat_one rfl) (fun r72 => ?_)
      refine vl_val rfl (.some rfl) (val_move rfl) ?_
      refine vl_call (C := []) rfl rfl (.some rfl) Try.call65 rfl .nil (fun w hw => rRuns A5 c5 (wordsV il) (by omega) (wordsV_u64 hok) w (rdw (rd_sl (by repeat (first | exact .head | apply In.tail | apply Take.tail | apply Upd.tail))) hw)) (fun v H' h => ?_)
      obtain ⟨A74, c74, rfl, rfl⟩ := h
      show VL _ _ _ _ _ (_ :: _)
      refine vl_append sT59 rfl rfl (.some rfl) rfl rfl (rd_sl (by repeat (first | exact .head | apply In.tail | apply Take.tail | apply Upd.tail))) (by simp [bcells_length]) (one_b _) (by have := hrl; omega) (by have := hrl; omega) (by repeat (first | exact .head | apply In.tail | apply Take.tail | apply Upd.tail)) (fun A75 k75 => ?_)
      rw [show 1 + (runsS (wordsV il)).length = (way1 il).length by unfold way1; simp only [List.length_cons]; omega, show [Value.int .u8 1] ++ bcells (runsS (wordsV il)) = bcells (way1 il) from rfl]
      refine vl_val rfl (.some rfl) (val_assign rfl) ?_
      refine vl_nil ?_
      refine vc_seq ?_
      refine vc_region ?_
      refine vl_val rfl (.some rfl) (val_move rfl) ?_
      refine vl_val rfl (.some rfl) (val_lenSl Try.runUnderlying59 rfl) ?_
      refine vl_val rfl (.some rfl) (val_move rfl) ?_
      refine vl_val rfl (.some rfl) (val_lenSl Try.runUnderlying59 rfl) ?_
      refine vl_val rfl (.some rfl) (val_lt rfl rfl) ?_
      refine vl_nil ?_
      refine vc_cond rfl (fun hc4 => ?_) (fun hc4 => ?_)
      · (try replace hc4 := of_decide_eq_true hc4)
        have hb1 : less (way0 il) (way1 il) = way1 il := by unfold less; rw [if_pos (by omega)]
        rw [← hb1]
        refine vc_region ?_
        refine vl_val rfl (.some rfl) (val_move rfl) ?_
        refine vl_val rfl (.some rfl) (val_assign rfl) ?_
        refine vl_nil ?_
        refine vc_seq ?_
        refine vc_seq ?_
        refine vc_region ?_
        refine vl_lit sT59 rfl rfl (.some rfl) rfl rfl rfl (by decide) (by decide) rfl (flat_one rfl) (fun r82 => ?_)
        refine vl_val rfl (.some rfl) (by first | exact val_fieldAddr Try.runUnderlying64 rfl Try.sizeOf56 rfl | exact val_fieldAddrR Try.runUnderlying64 rfl Try.sizeOf56 rfl) ?_
        refine vl_val rfl (.some rfl) (val_load Try.isAgg56 rfl (by first | exact cell_cells (by repeat (first | exact .head | apply In.tail | apply Take.tail | apply Upd.tail)) rfl | exact cell_rd (rd_sl (by repeat (first | exact .head | apply In.tail | apply Take.tail | apply Upd.tail))) (by first | exact bcells_at (by omega) | exact ucells_at (by omega) | exact icells_at (by omega) | exact tcells_at (by omega) | exact bcells_get (by omega) | exact icells_get (by omega) | exact tcells_get (by omega) | exact ucells_get (by omega)) | exact cell_rd (rd_old (by assumption) rfl) (by first | exact bcells_at (by omega) | exact ucells_at (by omega) | exact icells_at (by omega) | exact tcells_at (by omega) | exact bcells_get (by omega) | exact icells_get (by omega) | exact tcells_get (by omega) | exact ucells_get (by omega)) | exact cell_old (by assumption) (by simp [fps]))) ?_
        refine vl_call (C := []) rfl rfl (.some rfl) Try.call66 rfl .nil (fun w hw => rDeltas Ai ci il (by omega) w (rdw (rd_old hri rfl) hw)) (fun v H' h => ?_)
        obtain ⟨A85, c85, rfl, rfl⟩ := h
        show VL _ _ _ _ _ (_ :: _)
        refine vl_append sT59 rfl rfl (.some rfl) rfl rfl (rd_sl (by repeat (first | exact .head | apply In.tail | apply Take.tail | apply Upd.tail))) (by simp [bcells_length]) (one_b _) (by have := hdl; omega) (by have := hdl; omega) (by repeat (first | exact .head | apply In.tail | apply Take.tail | apply Upd.tail)) (fun A86 k86 => ?_)
        rw [show 1 + (deltS il).length = (way2 il).length by unfold way2; simp only [List.length_cons]; omega, show [Value.int .u8 2] ++ bcells (deltS il) = bcells (way2 il) from rfl]
        refine vl_val rfl (.some rfl) (val_assign rfl) ?_
        refine vl_nil ?_
        refine vc_seq ?_
        refine vc_region ?_
        refine vl_val rfl (.some rfl) (val_move rfl) ?_
        refine vl_val rfl (.some rfl) (val_lenSl Try.runUnderlying59 rfl) ?_
        refine vl_val rfl (.some rfl) (val_move rfl) ?_
        refine vl_val rfl (.some rfl) (val_lenSl Try.runUnderlying59 rfl) ?_
        refine vl_val rfl (.some rfl) (val_lt rfl rfl) ?_
        refine vl_nil ?_
        refine vc_cond rfl (fun hc5 => ?_) (fun hc5 => ?_)
        · (try replace hc5 := of_decide_eq_true hc5)
          have hb2 : bestV il = way2 il := by unfold bestV; rw [less, if_pos (by omega)]
          rw [← hb2]
          refine vc_region ?_
          refine vl_val rfl (.some rfl) (val_move rfl) ?_
          refine vl_val rfl (.some rfl) (val_assign rfl) ?_
          refine vl_nil ?_
          refine vc_seq ?_
          refine vc_region ?_
          refine vl_val rfl (.some rfl) (val_move rfl) ?_
          refine vl_val rfl (.some rfl) (val_move rfl) ?_
          refine vl_append sT59 rfl rfl (.some rfl) rfl rfl (rd_sl (by repeat (first | exact .head | apply In.tail | apply Take.tail | apply Upd.tail))) (by simp [bcells_length]) (one_b _) (by have := hbl; omega) (by have := hbl; omega) (by repeat (first | exact .head | apply In.tail | apply Take.tail | apply Upd.tail)) (fun A95 k95 => ?_)
          rw [show (headV nl il).length + (bestV il).length = (bytesV nl il).length by show _ = (headV nl il ++ bestV il).length; rw [List.length_append], bapp, show headV nl il ++ bestV il = bytesV nl il from rfl]
          refine vl_val rfl (.some rfl) (val_assign rfl) ?_
          refine vl_val rfl (.some rfl) (val_assign rfl) ?_
          refine vl_nil ?_
          refine vc_ret ?_
          refine ⟨_, [BY A95 (bytesV nl il).length k95 (bytesV nl il)], _, res2 Try.results32 rfl rfl, (by repeat (first | exact .nil | (apply Sub.cons; · repeat (first | exact .head | apply Take.tail)))), ?_⟩
          show ∃ A' c', _ ∧ _
          unfold bytesL bytesE
          rw [if_pos hok, if_pos hok]
          exact ⟨A95, k95, rfl, rfl⟩
        · (try replace hc5 := of_decide_eq_false hc5)
          have hb2 : bestV il = less (way0 il) (way1 il) := by unfold bestV; rw [less, if_neg (by omega)]
          rw [← hb2]
          refine vc_skip ?_
          refine vc_seq ?_
          refine vc_region ?_
          refine vl_val rfl (.some rfl) (val_move rfl) ?_
          refine vl_val rfl (.some rfl) (val_move rfl) ?_
          refine vl_append sT59 rfl rfl (.some rfl) rfl rfl (rd_sl (by repeat (first | exact .head | apply In.tail | apply Take.tail | apply Upd.tail))) (by simp [bcells_length]) (one_b _) (by have := hbl; omega) (by have := hbl; omega) (by repeat (first | exact .head | apply In.tail | apply Take.tail | apply Upd.tail)) (fun A95 k95 => ?_)
          rw [show (headV nl il).length + (bestV il).length = (bytesV nl il).length by show _ = (headV nl il ++ bestV il).length; rw [List.length_append], bapp, show headV nl il ++ bestV il = bytesV nl il from rfl]
          refine vl_val rfl (.some rfl) (val_assign rfl) ?_
          refine vl_val rfl (.some rfl) (val_assign rfl) ?_
          refine vl_nil ?_
          refine vc_ret ?_
          refine ⟨_, [BY A95 (bytesV nl il).length k95 (bytesV nl il)], _, res2 Try.results32 rfl rfl, (by repeat (first | exact .nil | (apply Sub.cons; · repeat (first | exact .head | apply Take.tail)))), ?_⟩
          show ∃ A' c', _ ∧ _
          unfold bytesL bytesE
          rw [if_pos hok, if_pos hok]
          exact ⟨A95, k95, rfl, rfl⟩
      · (try replace hc4 := of_decide_eq_false hc4)
        have hb1 : less (way0 il) (way1 il) = way0 il := by unfold less; rw [if_neg (by omega)]
        rw [← hb1]
        refine vc_skip ?_
        refine vc_seq ?_
        refine vc_seq ?_
        refine vc_region ?_
        refine vl_lit sT59 rfl rfl (.some rfl) rfl rfl rfl (by decide) (by decide) rfl (flat_one rfl) (fun r82 => ?_)
        refine vl_val rfl (.some rfl) (by first | exact val_fieldAddr Try.runUnderlying64 rfl Try.sizeOf56 rfl | exact val_fieldAddrR Try.runUnderlying64 rfl Try.sizeOf56 rfl) ?_
        refine vl_val rfl (.some rfl) (val_load Try.isAgg56 rfl (by first | exact cell_cells (by repeat (first | exact .head | apply In.tail | apply Take.tail | apply Upd.tail)) rfl | exact cell_rd (rd_sl (by repeat (first | exact .head | apply In.tail | apply Take.tail | apply Upd.tail))) (by first | exact bcells_at (by omega) | exact ucells_at (by omega) | exact icells_at (by omega) | exact tcells_at (by omega) | exact bcells_get (by omega) | exact icells_get (by omega) | exact tcells_get (by omega) | exact ucells_get (by omega)) | exact cell_rd (rd_old (by assumption) rfl) (by first | exact bcells_at (by omega) | exact ucells_at (by omega) | exact icells_at (by omega) | exact tcells_at (by omega) | exact bcells_get (by omega) | exact icells_get (by omega) | exact tcells_get (by omega) | exact ucells_get (by omega)) | exact cell_old (by assumption) (by simp [fps]))) ?_
        refine vl_call (C := []) rfl rfl (.some rfl) Try.call66 rfl .nil (fun w hw => rDeltas Ai ci il (by omega) w (rdw (rd_old hri rfl) hw)) (fun v H' h => ?_)
        obtain ⟨A85, c85, rfl, rfl⟩ := h
        show VL _ _ _ _ _ (_ :: _)
        refine vl_append sT59 rfl rfl (.some rfl) rfl rfl (rd_sl (by repeat (first | exact .head | apply In.tail | apply Take.tail | apply Upd.tail))) (by simp [bcells_length]) (one_b _) (by have := hdl; omega) (by have := hdl; omega) (by repeat (first | exact .head | apply In.tail | apply Take.tail | apply Upd.tail)) (fun A86 k86 => ?_)
        rw [show 1 + (deltS il).length = (way2 il).length by unfold way2; simp only [List.length_cons]; omega, show [Value.int .u8 2] ++ bcells (deltS il) = bcells (way2 il) from rfl]
        refine vl_val rfl (.some rfl) (val_assign rfl) ?_
        refine vl_nil ?_
        refine vc_seq ?_
        refine vc_region ?_
        refine vl_val rfl (.some rfl) (val_move rfl) ?_
        refine vl_val rfl (.some rfl) (val_lenSl Try.runUnderlying59 rfl) ?_
        refine vl_val rfl (.some rfl) (val_move rfl) ?_
        refine vl_val rfl (.some rfl) (val_lenSl Try.runUnderlying59 rfl) ?_
        refine vl_val rfl (.some rfl) (val_lt rfl rfl) ?_
        refine vl_nil ?_
        refine vc_cond rfl (fun hc5 => ?_) (fun hc5 => ?_)
        · (try replace hc5 := of_decide_eq_true hc5)
          have hb2 : bestV il = way2 il := by unfold bestV; rw [less, if_pos (by omega)]
          rw [← hb2]
          refine vc_region ?_
          refine vl_val rfl (.some rfl) (val_move rfl) ?_
          refine vl_val rfl (.some rfl) (val_assign rfl) ?_
          refine vl_nil ?_
          refine vc_seq ?_
          refine vc_region ?_
          refine vl_val rfl (.some rfl) (val_move rfl) ?_
          refine vl_val rfl (.some rfl) (val_move rfl) ?_
          refine vl_append sT59 rfl rfl (.some rfl) rfl rfl (rd_sl (by repeat (first | exact .head | apply In.tail | apply Take.tail | apply Upd.tail))) (by simp [bcells_length]) (one_b _) (by have := hbl; omega) (by have := hbl; omega) (by repeat (first | exact .head | apply In.tail | apply Take.tail | apply Upd.tail)) (fun A95 k95 => ?_)
          rw [show (headV nl il).length + (bestV il).length = (bytesV nl il).length by show _ = (headV nl il ++ bestV il).length; rw [List.length_append], bapp, show headV nl il ++ bestV il = bytesV nl il from rfl]
          refine vl_val rfl (.some rfl) (val_assign rfl) ?_
          refine vl_val rfl (.some rfl) (val_assign rfl) ?_
          refine vl_nil ?_
          refine vc_ret ?_
          refine ⟨_, [BY A95 (bytesV nl il).length k95 (bytesV nl il)], _, res2 Try.results32 rfl rfl, (by repeat (first | exact .nil | (apply Sub.cons; · repeat (first | exact .head | apply Take.tail)))), ?_⟩
          show ∃ A' c', _ ∧ _
          unfold bytesL bytesE
          rw [if_pos hok, if_pos hok]
          exact ⟨A95, k95, rfl, rfl⟩
        · (try replace hc5 := of_decide_eq_false hc5)
          have hb2 : bestV il = less (way0 il) (way1 il) := by unfold bestV; rw [less, if_neg (by omega)]
          rw [← hb2]
          refine vc_skip ?_
          refine vc_seq ?_
          refine vc_region ?_
          refine vl_val rfl (.some rfl) (val_move rfl) ?_
          refine vl_val rfl (.some rfl) (val_move rfl) ?_
          refine vl_append sT59 rfl rfl (.some rfl) rfl rfl (rd_sl (by repeat (first | exact .head | apply In.tail | apply Take.tail | apply Upd.tail))) (by simp [bcells_length]) (one_b _) (by have := hbl; omega) (by have := hbl; omega) (by repeat (first | exact .head | apply In.tail | apply Take.tail | apply Upd.tail)) (fun A95 k95 => ?_)
          rw [show (headV nl il).length + (bestV il).length = (bytesV nl il).length by show _ = (headV nl il ++ bestV il).length; rw [List.length_append], bapp, show headV nl il ++ bestV il = bytesV nl il from rfl]
          refine vl_val rfl (.some rfl) (val_assign rfl) ?_
          refine vl_val rfl (.some rfl) (val_assign rfl) ?_
          refine vl_nil ?_
          refine vc_ret ?_
          refine ⟨_, [BY A95 (bytesV nl il).length k95 (bytesV nl il)], _, res2 Try.results32 rfl rfl, (by repeat (first | exact .nil | (apply Sub.cons; · repeat (first | exact .head | apply Take.tail)))), ?_⟩
          show ∃ A' c', _ ∧ _
          unfold bytesL bytesE
          rw [if_pos hok, if_pos hok]
          exact ⟨A95, k95, rfl, rfl⟩

end Go.Proofs.Ytibfngjfjddaiaa.K
