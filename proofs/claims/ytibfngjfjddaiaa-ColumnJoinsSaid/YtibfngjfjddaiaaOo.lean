/- Walks of the program's functions, printed by a program of this session; Lean checks them. -/
import Derived.Test.YtibfngjfjddaiaaOn
namespace Go.Proofs.Ytibfngjfjddaiaa.K
open Go Go.RowKit Go.Proofs
set_option linter.unusedVariables false
set_option linter.unusedSimpArgs false
set_option maxRecDepth 20000 in
theorem sT76 : SlT Try.prog 76 64 2 48 (.agg #[.slice none 0 0, .slice none 0 0]) := ⟨Try.underlying76, ⟨Try.t64, Try.type64, rfl, rfl, rfl⟩, rfl, Nat.lt_of_sub_eq_succ rfl⟩

/-- What the law's opener knows of each vector. -/
def VtG (w : World) (v : Vt) : Prop := (Reads w v.1.A (tcells v.1.l) ∧ v.1.l.length ≤ v.1.c ∧ v.1.c ≤ maxLen) ∧ (Reads w v.2.1.A (icells .i64 v.2.1.l) ∧ v.2.1.l.length ≤ v.2.1.c ∧ v.2.1.c ≤ maxLen ∧ ∀ n ∈ v.2.1.l, -9223372036854775808 ≤ n ∧ n < 9223372036854775808) ∧ True
theorem VtG.f {w : World} {v : Vt} (h : VtG w v) : VtF w v := by
  have hmx : maxLen = 9223372036854775807 := rfl
  obtain ⟨⟨h1, h2, h3⟩, ⟨h4, h5, h6, _⟩, _⟩ := h
  exact ⟨h1, by unfold vtN; omega, h4, by unfold vtI; omega⟩

set_option maxRecDepth 20000 in
set_option maxHeartbeats 400000 in
theorem law_ColumnJoins (A : Option Addr) (c : Nat) (l : List Vt) (w : World) (hr : Reads w A (l.flatMap vtC)) (g1 : l.length ≤ c) (g2 : c ≤ maxLen) (g3 : ∀ v ∈ l, VtG w v) (hl : l.length ≤ 2932031007402) : FnV Try.prog 9 [.slice A l.length c] (.bool true) w := by
  have hv : ∀ v ∈ l, VtF w v := fun v h => (g3 v h).f
  have hjl := join_len l
  refine fn_enter Try.func9 rfl Try.ntmps9 rfl ?_
  refine vc_seq ?_
  refine vc_region ?_
  refine vl_val rfl (.some rfl) (val_assign rfl) ?_
  refine vl_nil ?_
  refine vc_seq ?_
  refine vc_region ?_
  refine vl_val rfl (.some rfl) (val_assign rfl) ?_
  refine vl_nil ?_
  refine vc_seq ?_
  refine vc_region ?_
  refine vl_val rfl (.some rfl) (val_assign rfl) ?_
  refine vl_nilSl 64 2 ?_
  refine vl_nil ?_
  refine vc_seq ?_
  refine vc_seq ?_
  refine vc_region ?_
  refine vl_val rfl (.some rfl) (val_move rfl) ?_
  refine vl_val rfl (.some rfl) (val_lenSl Try.runUnderlying75 rfl) ?_
  refine vl_val rfl (.some rfl) (val_move rfl) ?_
  refine vl_nil ?_
  refine vc_block ?_
  refine vc_loopw (fun k E H => ∃ (i : Nat) (n : Int) (A4 : Option Addr) (c4 : Nat), i ≤ l.length ∧ k = l.length - i ∧ E = [(0, .slice A l.length c), (3, .int .i64 n), (4, .slice A4 i c4), (14, .slice A l.length c), (15, .int .i64 l.length), (16, .int .i64 i)] ∧ H = [sl A4 i c4 64 2 ((l.take i).flatMap vtC)]) (l.length) ⟨_, _, _, ⟨0, 0, none, 0, by omega, rfl, rfl, rfl⟩, (by repeat (first | exact trivial | refine ⟨rfl, ?_⟩ | refine ⟨le_item rfl (by first | rfl | (congr 1; omega) | (simp; done) | (simp; omega)), ?_⟩)), (by repeat (first | exact .nil | (apply Sub.cons; · repeat (first | exact .head | apply Take.tail))))⟩ ?_
  intro k E H hI
  obtain ⟨i, n, A4, c4, hil, rfl, rfl, rfl⟩ := hI
  refine vc_seq ?_
  refine vc_region ?_
  refine vl_val rfl (.some rfl) (val_lt rfl rfl) ?_
  refine vl_nil ?_
  refine vc_seq ?_
  refine vc_cond rfl (fun hc0 => ?_) (fun hc0 => ?_)
  · (try replace hc0 := of_decide_eq_true hc0)
    have hi8 : i < l.length := by omega
    obtain ⟨f1, f2, f3, f4⟩ := hv _ (getD_mem dV hi8)
    have hst := jI_step hi8
    have hsn := jN_step hi8
    have hpi := jI_push hi8
    have hpn := jN_push hi8
    have hat := flatV_at (q := (i : Int)) rfl hi8
    rcases hvd : l.getD i dV with ⟨⟨An, cn, nl⟩, ⟨Ai, ci, il⟩, _⟩
    rw [hvd] at f1 f2 f3 f4 hst hsn hpi hpn hat
    simp only [vtN, vtI] at f1 f2 f3 f4 hst hsn hpi hpn
    have hpv : (l.take i).flatMap vtC ++ [.slice An nl.length cn, .slice Ai il.length ci] = (l.take (i + 1)).flatMap vtC := by rw [← flatV_push hi8, hvd]; rfl
    refine vc_skip ?_
    refine vc_seq ?_
    refine vc_block ?_
    refine vc_seq ?_
    refine vc_region ?_
    refine vl_val rfl (.some rfl) (val_indexAddr Try.runUnderlying75 Try.sizeOf58 rfl rfl (rd_old hr rfl) (by omega) (by omega) (by rw [flatV_len]; omega)) ?_
    refine vl_val rfl (.some rfl) (val_loadAgg Try.isAgg58 Try.sizeOf58 rfl (cells_rd (us := [.slice An nl.length cn, .slice Ai il.length ci]) (rd_old hr rfl) hat) rfl) ?_
    refine vl_alloc rfl rfl (.some rfl) Try.zeroValue58 (fun r6 => ?_)
    first | refine vl_store rfl rfl .none rfl rfl Try.sizeOf58 rfl (by repeat (first | exact .head | apply In.tail | apply Take.tail | apply Upd.tail)) (by first | decide | exact Nat.le_refl _ | exact Nat.le_of_ble_eq_true rfl | (simp; omega)) ?_ | refine vl_storeSl rfl rfl .none rfl rfl Try.sizeOf58 rfl (by simp [Value.cells]) (by repeat (first | exact .head | apply In.tail | apply Take.tail | apply Upd.tail)) (by first | decide | (simp [Value.cells]; omega)) ?_
    refine vl_nil ?_
    refine vc_seq ?_
    refine vc_region ?_
    refine vl_val rfl (.some rfl) (val_move rfl) ?_
    refine vl_val rfl (.some rfl) (by first | exact val_fieldAddr Try.runUnderlying58 rfl Try.sizeOf56 rfl | exact val_fieldAddrR Try.runUnderlying58 rfl Try.sizeOf56 rfl) ?_
    refine vl_val rfl (.some rfl) (val_load Try.isAgg56 rfl (by first | exact cell_cells (by repeat (first | exact .head | apply In.tail | apply Take.tail | apply Upd.tail)) rfl | exact cell_rd (rd_sl (by repeat (first | exact .head | apply In.tail | apply Take.tail | apply Upd.tail))) (by first | exact bcells_at (by omega) | exact ucells_at (by omega) | exact icells_at (by omega) | exact tcells_at (by omega) | exact bcells_get (by omega) | exact icells_get (by omega) | exact tcells_get (by omega) | exact ucells_get (by omega)) | exact cell_rd (rd_old (by assumption) rfl) (by first | exact bcells_at (by omega) | exact ucells_at (by omega) | exact icells_at (by omega) | exact tcells_at (by omega) | exact bcells_get (by omega) | exact icells_get (by omega) | exact tcells_get (by omega) | exact ucells_get (by omega)) | exact cell_old (by assumption) (by simp [fps]))) ?_
    refine vl_val rfl (.some rfl) (val_lenSl Try.runUnderlying56 rfl) ?_
    refine vl_val rfl (.some rfl) (val_add rfl rfl (by first | exact w_i64 (by omega) (by omega) | rfl)) ?_
    refine vl_val rfl (.some rfl) (by first | exact val_fieldAddr Try.runUnderlying58 rfl Try.sizeOf55 rfl | exact val_fieldAddrR Try.runUnderlying58 rfl Try.sizeOf55 rfl) ?_
    refine vl_val rfl (.some rfl) (val_load Try.isAgg55 rfl (by first | exact cell_cells (by repeat (first | exact .head | apply In.tail | apply Take.tail | apply Upd.tail)) rfl | exact cell_rd (rd_sl (by repeat (first | exact .head | apply In.tail | apply Take.tail | apply Upd.tail))) (by first | exact bcells_at (by omega) | exact ucells_at (by omega) | exact icells_at (by omega) | exact tcells_at (by omega) | exact bcells_get (by omega) | exact icells_get (by omega) | exact tcells_get (by omega) | exact ucells_get (by omega)) | exact cell_rd (rd_old (by assumption) rfl) (by first | exact bcells_at (by omega) | exact ucells_at (by omega) | exact icells_at (by omega) | exact tcells_at (by omega) | exact bcells_get (by omega) | exact icells_get (by omega) | exact tcells_get (by omega) | exact ucells_get (by omega)) | exact cell_old (by assumption) (by simp [fps]))) ?_
    refine vl_val rfl (.some rfl) (val_lenSl Try.runUnderlying55 rfl) ?_
    refine vl_val rfl (.some rfl) (val_add rfl rfl (by first | exact w_i64 (by omega) (by omega) | rfl)) ?_
    refine vl_val rfl (.some rfl) (val_add rfl rfl (by first | exact w_i64 (by omega) (by omega) | rfl)) ?_
    refine vl_val rfl (.some rfl) (val_assign rfl) ?_
    refine vl_nil ?_
    refine vc_seq ?_
    refine vc_seq ?_
    refine vc_region ?_
    refine vl_val rfl (.some rfl) (val_move rfl) ?_
    refine vl_val rfl (.some rfl) (val_gt rfl rfl) ?_
    refine vl_nil ?_
    refine vc_cond rfl (fun hc1 => ?_) (fun hc1 => ?_)
    · (try replace hc1 := of_decide_eq_true hc1)
      refine vc_seq ?_
      refine vc_region ?_
      refine vl_callV rfl rfl (.some rfl) Try.call30 rfl (fun w hw => oLives w) ?_
      refine vl_val rfl (.some rfl) (val_assign rfl) ?_
      refine vl_nil ?_
      refine vc_ret ?_
      refine ⟨_, [], _, res1 Try.results9 rfl, .nil, ?_⟩
      rfl
    · (try replace hc1 := of_decide_eq_false hc1)
      refine vc_skip ?_
      refine vc_region ?_
      refine vl_val rfl (.some rfl) (val_move rfl) ?_
      refine vl_val rfl (.some rfl) (val_loadAgg Try.isAgg58 Try.sizeOf58 rfl (by first | exact cells_whole (by repeat (first | exact .head | apply In.tail | apply Take.tail | apply Upd.tail)) | exact cells_part (by repeat (first | exact .head | apply In.tail | apply Take.tail | apply Upd.tail)) rfl) rfl) ?_
      refine vl_callV rfl rfl (.some rfl) Try.call33 rfl (fun w hw => lPlain _ _ _ _ _ _ w) ?_
      refine vl_lit sT76 rfl rfl (.some rfl) rfl rfl rfl (by decide) (by decide) rfl rfl (fun r36 => ?_)
      refine vl_append (us := [.slice An nl.length cn, .slice Ai il.length ci]) sT76 rfl rfl (.some rfl) rfl rfl (rd_sl (by repeat (first | exact .head | apply In.tail | apply Take.tail | apply Upd.tail))) rfl rfl (by omega) (by omega) (by repeat (first | exact .head | apply In.tail | apply Take.tail | apply Upd.tail)) (fun A37 k37 => ?_)
      rw [hpv]
      refine vl_val rfl (.some rfl) (val_assign rfl) ?_
      refine vl_nil ?_
      refine vc_region ?_
      refine vl_val rfl (.some rfl) (val_add rfl rfl (by first | exact w_i64 (by omega) (by omega) | rfl)) ?_
      refine vl_val rfl (.some rfl) (val_move rfl) ?_
      refine vl_nil ?_
      exact ⟨l.length - (i + 1), _, _, _, by omega, (by repeat (first | exact trivial | refine ⟨rfl, ?_⟩ | refine ⟨le_item rfl (by first | rfl | (congr 1; omega) | (simp; done) | (simp; omega)), ?_⟩)), (by repeat (first | exact .nil | (apply Sub.cons; · repeat (first | exact .head | apply Take.tail)))), ⟨i + 1, _, A37, k37, by omega, rfl, rfl, rfl⟩⟩
  · (try replace hc0 := of_decide_eq_false hc0)
    obtain rfl : i = l.length := by omega
    rw [List.take_length]
    refine vc_exit ?_
    refine vc_seq ?_
    refine vc_region ?_
    refine vl_val rfl (.some rfl) (val_move rfl) ?_
    refine vl_call (C := []) rfl rfl (.some rfl) Try.call40 rfl .nil (fun w hw => cJoin A c l (by omega) w (rdw (rd_old hr rfl) hw) (fun v hv' => ⟨rdw (rd_old (hv v hv').1 rfl) hw, (hv v hv').2.1, rdw (rd_old (hv v hv').2.2.1 rfl) hw, (hv v hv').2.2.2⟩)) (fun v H' h => ?_)
    obtain ⟨An7, Ai7, cn7, ci7, rfl, rfl⟩ := h
    show VL _ _ _ _ _ (_ :: _)
    refine vl_val rfl (.some rfl) (val_move rfl) ?_
    refine vl_val rfl (.some rfl) (val_extract rfl rfl) ?_
    refine vl_val rfl (.some rfl) (val_extract rfl rfl) ?_
    refine vl_alloc rfl rfl (.some rfl) Try.zeroValue58 (fun r7 => ?_)
    first | refine vl_store rfl rfl .none rfl rfl Try.sizeOf58 rfl (by repeat (first | exact .head | apply In.tail | apply Take.tail | apply Upd.tail)) (by first | decide | exact Nat.le_refl _ | exact Nat.le_of_ble_eq_true rfl | (simp; omega)) ?_ | refine vl_storeSl rfl rfl .none rfl rfl Try.sizeOf58 rfl (by simp [Value.cells]) (by repeat (first | exact .head | apply In.tail | apply Take.tail | apply Upd.tail)) (by first | decide | (simp [Value.cells]; omega)) ?_
    refine vl_val rfl (.some rfl) (val_assign rfl) ?_
    refine vl_nil ?_
    refine vc_seq ?_
    refine vc_region ?_
    refine vl_val rfl (.some rfl) (val_move rfl) ?_
    refine vl_call (C := []) rfl rfl (.some rfl) Try.call41 rfl .nil (fun w hw => rJoin A4 c4 l (by omega) w (rdw (rd_sl (by repeat (first | exact .head | apply In.tail | apply Take.tail | apply Upd.tail))) hw) (fun v hv' => ⟨rdw (rd_old (hv v hv').1 rfl) hw, (hv v hv').2.1, rdw (rd_old (hv v hv').2.2.1 rfl) hw, (hv v hv').2.2.2⟩)) (fun v H' h => ?_)
    obtain ⟨An9, Ai9, cn9, ci9, rfl, rfl⟩ := h
    show VL _ _ _ _ _ (_ :: _)
    refine vl_val rfl (.some rfl) (val_move rfl) ?_
    refine vl_val rfl (.some rfl) (val_extract rfl rfl) ?_
    refine vl_val rfl (.some rfl) (val_extract rfl rfl) ?_
    refine vl_alloc rfl rfl (.some rfl) Try.zeroValue64 (fun r9 => ?_)
    first | refine vl_store rfl rfl .none rfl rfl Try.sizeOf64 rfl (by repeat (first | exact .head | apply In.tail | apply Take.tail | apply Upd.tail)) (by first | decide | exact Nat.le_refl _ | exact Nat.le_of_ble_eq_true rfl | (simp; omega)) ?_ | refine vl_storeSl rfl rfl .none rfl rfl Try.sizeOf64 rfl (by simp [Value.cells]) (by repeat (first | exact .head | apply In.tail | apply Take.tail | apply Upd.tail)) (by first | decide | (simp [Value.cells]; omega)) ?_
    refine vl_val rfl (.some rfl) (val_assign rfl) ?_
    refine vl_nil ?_
    refine vc_seq ?_
    refine vc_seq ?_
    refine vc_region ?_
    refine vl_val rfl (.some rfl) (val_loadAgg Try.isAgg58 Try.sizeOf58 rfl (by first | exact cells_whole (by repeat (first | exact .head | apply In.tail | apply Take.tail | apply Upd.tail)) | exact cells_part (by repeat (first | exact .head | apply In.tail | apply Take.tail | apply Upd.tail)) rfl) rfl) ?_
    refine vl_val rfl (.some rfl) (val_loadAgg Try.isAgg64 Try.sizeOf64 rfl (by first | exact cells_whole (by repeat (first | exact .head | apply In.tail | apply Take.tail | apply Upd.tail)) | exact cells_part (by repeat (first | exact .head | apply In.tail | apply Take.tail | apply Upd.tail)) rfl) rfl) ?_
    refine vl_callV rfl rfl (.some rfl) Try.call39 rfl (fun w hw => lSame _ _ _ _ _ _ _ _ (joinN l) (joinN l) (joinI l) (joinI l) (by omega) (by omega) w (rdw (rd_sl (by repeat (first | exact .head | apply In.tail | apply Take.tail | apply Upd.tail))) hw) (rdw (rd_sl (by repeat (first | exact .head | apply In.tail | apply Take.tail | apply Upd.tail))) hw) (rdw (rd_sl (by repeat (first | exact .head | apply In.tail | apply Take.tail | apply Upd.tail))) hw) (rdw (rd_sl (by repeat (first | exact .head | apply In.tail | apply Take.tail | apply Upd.tail))) hw)) ?_
    rw [decide_eq_true ⟨rfl, rfl⟩]
    refine vl_val rfl (.some rfl) (val_not rfl) ?_
    refine vl_val rfl (.some rfl) (val_move rfl) ?_
    refine vl_on rfl rfl rfl rfl ?_
    refine vl_val rfl (.some rfl) (val_move rfl) ?_
    refine vl_on rfl rfl rfl rfl ?_
    refine vl_val rfl (.some rfl) (val_move rfl) ?_
    refine vl_on rfl rfl rfl rfl ?_
    refine vl_val rfl (.some rfl) (val_net rfl rfl (rfl)) ?_
    refine vl_val rfl (.some rfl) (val_pick rfl rfl) ?_
    refine vl_nil ?_
    refine vc_cond rfl (fun h => by cases h) (fun _ => ?_)
    refine vc_skip ?_
    refine vc_seq ?_
    refine vc_seq ?_
    refine vc_region ?_
    refine vl_val rfl (.some rfl) (by first | exact val_fieldAddr Try.runUnderlying58 rfl Try.sizeOf56 rfl | exact val_fieldAddrR Try.runUnderlying58 rfl Try.sizeOf56 rfl) ?_
    refine vl_val rfl (.some rfl) (val_load Try.isAgg56 rfl (by first | exact cell_cells (by repeat (first | exact .head | apply In.tail | apply Take.tail | apply Upd.tail)) rfl | exact cell_rd (rd_sl (by repeat (first | exact .head | apply In.tail | apply Take.tail | apply Upd.tail))) (by first | exact bcells_at (by omega) | exact ucells_at (by omega) | exact icells_at (by omega) | exact tcells_at (by omega) | exact bcells_get (by omega) | exact icells_get (by omega) | exact tcells_get (by omega) | exact ucells_get (by omega)) | exact cell_rd (rd_old (by assumption) rfl) (by first | exact bcells_at (by omega) | exact ucells_at (by omega) | exact icells_at (by omega) | exact tcells_at (by omega) | exact bcells_get (by omega) | exact icells_get (by omega) | exact tcells_get (by omega) | exact ucells_get (by omega)) | exact cell_old (by assumption) (by simp [fps]))) ?_
    refine vl_val rfl (.some rfl) (val_lenSl Try.runUnderlying56 rfl) ?_
    refine vl_val rfl (.some rfl) (val_move rfl) ?_
    refine vl_nil ?_
    refine vc_block ?_
    refine vc_loopw (fun k E H => ∃ (i : Nat) (N' : List Bool) (I' : List Int), i ≤ (joinI l).length ∧ k = (joinI l).length - i ∧ N'.length = (joinI l).length ∧ I'.length = (joinI l).length ∧ E = [(0, .slice A l.length c), (7, .pointer (some ⟨r7, 0, none⟩)), (9, .pointer (some ⟨r9, 0, none⟩)), (60, .int .i64 (joinI l).length), (61, .int .i64 i)] ∧ H = [TW An7 (joinN l).length cn7 N', IW Ai7 (joinI l).length ci7 I', cells r7 [.slice An7 (joinN l).length cn7, .slice Ai7 (joinI l).length ci7] 58, TW An9 (joinN l).length cn9 (joinN l), IW Ai9 (joinI l).length ci9 (joinI l), cells r9 [.slice An9 (joinN l).length cn9, .slice Ai9 (joinI l).length ci9] 64]) ((joinI l).length) ⟨_, _, _, ⟨0, joinN l, joinI l, by omega, rfl, by omega, rfl, rfl, rfl⟩, (by repeat (first | exact trivial | refine ⟨rfl, ?_⟩ | refine ⟨le_item rfl (by first | rfl | (congr 1; omega) | (simp; done) | (simp; omega)), ?_⟩)), (by repeat (first | exact .nil | (apply Sub.cons; · repeat (first | exact .head | apply Take.tail))))⟩ ?_
    intro k E H hI
    obtain ⟨i, N', I', hi, rfl, hN, hI', rfl, rfl⟩ := hI
    refine vc_seq ?_
    refine vc_region ?_
    refine vl_val rfl (.some rfl) (val_lt rfl rfl) ?_
    refine vl_nil ?_
    refine vc_seq ?_
    refine vc_cond rfl (fun hc3 => ?_) (fun hc3 => ?_)
    · (try replace hc3 := of_decide_eq_true hc3)
      have hi8 : i < (joinI l).length := by omega
      refine vc_skip ?_
      refine vc_seq ?_
      refine vc_block ?_
      refine vc_seq ?_
      refine vc_region ?_
      refine vl_val rfl (.some rfl) (val_move rfl) ?_
      refine vl_val rfl (.some rfl) (val_assign rfl) ?_
      refine vl_nil ?_
      refine vc_seq ?_
      refine vc_region ?_
      refine vl_val rfl (.some rfl) (by first | exact val_fieldAddr Try.runUnderlying58 rfl Try.sizeOf56 rfl | exact val_fieldAddrR Try.runUnderlying58 rfl Try.sizeOf56 rfl) ?_
      refine vl_val rfl (.some rfl) (val_load Try.isAgg56 rfl (by first | exact cell_cells (by repeat (first | exact .head | apply In.tail | apply Take.tail | apply Upd.tail)) rfl | exact cell_rd (rd_sl (by repeat (first | exact .head | apply In.tail | apply Take.tail | apply Upd.tail))) (by first | exact bcells_at (by omega) | exact ucells_at (by omega) | exact icells_at (by omega) | exact tcells_at (by omega) | exact bcells_get (by omega) | exact icells_get (by omega) | exact tcells_get (by omega) | exact ucells_get (by omega)) | exact cell_rd (rd_old (by assumption) rfl) (by first | exact bcells_at (by omega) | exact ucells_at (by omega) | exact icells_at (by omega) | exact tcells_at (by omega) | exact bcells_get (by omega) | exact icells_get (by omega) | exact tcells_get (by omega) | exact ucells_get (by omega)) | exact cell_old (by assumption) (by simp [fps]))) ?_
      refine vl_val rfl (.some rfl) (val_move rfl) ?_
      refine vl_val rfl (.some rfl) (val_indexAddr Try.runUnderlying56 Try.sizeOf3 rfl rfl (by first | exact rd_sl (by repeat (first | exact .head | apply In.tail | apply Take.tail | apply Upd.tail)) | exact rd_slr (by repeat (first | exact .head | apply In.tail | apply Take.tail | apply Upd.tail)) | exact rd_old (by assumption) rfl) (by omega) (by omega) (by first | omega | (simp only [bcells_length, icells_length, ucells_length, tcells_length]; omega) | (simp only [bcells_length, icells_length, ucells_length, tcells_length, fillG_length]; omega) | (simp; omega))) ?_
      refine vl_storeSl rfl rfl .none rfl rfl Try.sizeOf3 rfl (by simp [Value.cells]) (by repeat (first | exact .head | apply In.tail | apply Take.tail | apply Upd.tail)) (by rw [icells_length]; show Int.toNat (i : Int) * 1 + 1 ≤ _; omega) ?_
      rw [laid_i (j := i) (by omega) (by omega)]
      refine vl_nil ?_
      refine vc_draws [0, 1, 2, 3, 4, 5, 6, 7, 8, 9] [10] [0, 1, 2, 3, 4, 5, 6, 7, 8, 9, 10] rfl (by kernel_rfl) (fun _ _ _ h => h) ?_
      refine vd_val rfl rfl rfl (.some rfl) (by first | exact val_fieldAddr Try.runUnderlying58 rfl Try.sizeOf55 rfl | exact val_fieldAddrR Try.runUnderlying58 rfl Try.sizeOf55 rfl) ?_
      refine vd_val rfl rfl rfl (.some rfl) (val_load Try.isAgg55 rfl (by first | exact cell_cells (by repeat (first | exact .head | apply In.tail | apply Take.tail | apply Upd.tail)) rfl | exact cell_rd (rd_sl (by repeat (first | exact .head | apply In.tail | apply Take.tail | apply Upd.tail))) (by first | exact bcells_at (by omega) | exact ucells_at (by omega) | exact icells_at (by omega) | exact tcells_at (by omega) | exact bcells_get (by omega) | exact icells_get (by omega) | exact tcells_get (by omega) | exact ucells_get (by omega)) | exact cell_rd (rd_old (by assumption) rfl) (by first | exact bcells_at (by omega) | exact ucells_at (by omega) | exact icells_at (by omega) | exact tcells_at (by omega) | exact bcells_get (by omega) | exact icells_get (by omega) | exact tcells_get (by omega) | exact ucells_get (by omega)) | exact cell_old (by assumption) (by simp [fps]))) ?_
      refine vd_val rfl rfl rfl (.some rfl) (val_move rfl) ?_
      refine vd_val rfl rfl rfl (.some rfl) (by first | exact val_fieldAddr Try.runUnderlying58 rfl Try.sizeOf55 rfl | exact val_fieldAddrR Try.runUnderlying58 rfl Try.sizeOf55 rfl) ?_
      refine vd_val rfl rfl rfl (.some rfl) (val_load Try.isAgg55 rfl (by first | exact cell_cells (by repeat (first | exact .head | apply In.tail | apply Take.tail | apply Upd.tail)) rfl | exact cell_rd (rd_sl (by repeat (first | exact .head | apply In.tail | apply Take.tail | apply Upd.tail))) (by first | exact bcells_at (by omega) | exact ucells_at (by omega) | exact icells_at (by omega) | exact tcells_at (by omega) | exact bcells_get (by omega) | exact icells_get (by omega) | exact tcells_get (by omega) | exact ucells_get (by omega)) | exact cell_rd (rd_old (by assumption) rfl) (by first | exact bcells_at (by omega) | exact ucells_at (by omega) | exact icells_at (by omega) | exact tcells_at (by omega) | exact bcells_get (by omega) | exact icells_get (by omega) | exact tcells_get (by omega) | exact ucells_get (by omega)) | exact cell_old (by assumption) (by simp [fps]))) ?_
      refine vd_val rfl rfl rfl (.some rfl) (val_move rfl) ?_
      refine vd_val rfl rfl rfl (.some rfl) (val_indexAddr Try.runUnderlying55 Try.sizeOf4 rfl rfl (by first | exact rd_sl (by repeat (first | exact .head | apply In.tail | apply Take.tail | apply Upd.tail)) | exact rd_slr (by repeat (first | exact .head | apply In.tail | apply Take.tail | apply Upd.tail)) | exact rd_old (by assumption) rfl) (by omega) (by omega) (by first | omega | (simp only [bcells_length, icells_length, ucells_length, tcells_length]; omega) | (simp only [bcells_length, icells_length, ucells_length, tcells_length, fillG_length]; omega) | (simp; omega))) ?_
      refine vd_val rfl rfl rfl (.some rfl) (val_load Try.isAgg4 rfl (by first | exact cell_cells (by repeat (first | exact .head | apply In.tail | apply Take.tail | apply Upd.tail)) rfl | exact cell_rd (rd_sl (by repeat (first | exact .head | apply In.tail | apply Take.tail | apply Upd.tail))) (by first | exact bcells_at (by omega) | exact ucells_at (by omega) | exact icells_at (by omega) | exact tcells_at (by omega) | exact bcells_get (by omega) | exact icells_get (by omega) | exact tcells_get (by omega) | exact ucells_get (by omega)) | exact cell_rd (rd_old (by assumption) rfl) (by first | exact bcells_at (by omega) | exact ucells_at (by omega) | exact icells_at (by omega) | exact tcells_at (by omega) | exact bcells_get (by omega) | exact icells_get (by omega) | exact tcells_get (by omega) | exact ucells_get (by omega)) | exact cell_old (by assumption) (by simp [fps]))) ?_
      refine vd_val rfl rfl rfl (.some rfl) (val_not rfl) ?_
      refine vd_val rfl rfl rfl (.some rfl) (val_indexAddr Try.runUnderlying55 Try.sizeOf4 rfl rfl (by first | exact rd_sl (by repeat (first | exact .head | apply In.tail | apply Take.tail | apply Upd.tail)) | exact rd_slr (by repeat (first | exact .head | apply In.tail | apply Take.tail | apply Upd.tail)) | exact rd_old (by assumption) rfl) (by omega) (by omega) (by first | omega | (simp only [bcells_length, icells_length, ucells_length, tcells_length]; omega) | (simp only [bcells_length, icells_length, ucells_length, tcells_length, fillG_length]; omega) | (simp; omega))) ?_
      refine vd_op rfl rfl ?_
      refine vl_storeSl rfl rfl .none rfl rfl Try.sizeOf4 rfl (by simp [Value.cells]) (by repeat (first | exact .head | apply In.tail | apply Take.tail | apply Upd.tail)) (by rw [tcells_length]; show Int.toNat (i : Int) * 1 + 1 ≤ _; omega) ?_
      rw [laid_t (j := i) (by omega) (by omega)]
      refine vl_nil ?_
      refine ⟨fun h => (by cases h), ?_⟩
      refine vd_nil ?_
      refine vc_region ?_
      refine vl_val rfl (.some rfl) (val_add rfl rfl (by first | exact w_i64 (by omega) (by omega) | rfl)) ?_
      refine vl_val rfl (.some rfl) (val_move rfl) ?_
      refine vl_nil ?_
      exact ⟨(joinI l).length - (i + 1), _, _, _, by omega, (by repeat (first | exact trivial | refine ⟨rfl, ?_⟩ | refine ⟨le_item rfl (by first | rfl | (congr 1; omega) | (simp; done) | (simp; omega)), ?_⟩)), (by repeat (first | exact .nil | (apply Sub.cons; · repeat (first | exact .head | apply Take.tail)))), ⟨i + 1, _, _, by omega, rfl, by rw [List.length_set]; exact hN, by rw [List.length_set]; exact hI', rfl, rfl⟩⟩
    · (try replace hc3 := of_decide_eq_false hc3)
      refine vc_exit ?_
      refine vc_seq ?_
      refine vc_region ?_
      refine vl_val rfl (.some rfl) (val_move rfl) ?_
      refine vl_call (C := []) rfl rfl (.some rfl) Try.call40 rfl .nil (fun w hw => cJoin A c l (by omega) w (rdw (rd_old hr rfl) hw) (fun v hv' => ⟨rdw (rd_old (hv v hv').1 rfl) hw, (hv v hv').2.1, rdw (rd_old (hv v hv').2.2.1 rfl) hw, (hv v hv').2.2.2⟩)) (fun v H' h => ?_)
      obtain ⟨An12, Ai12, cn12, ci12, rfl, rfl⟩ := h
      show VL _ _ _ _ _ (_ :: _)
      refine vl_val rfl (.some rfl) (val_move rfl) ?_
      refine vl_val rfl (.some rfl) (val_extract rfl rfl) ?_
      refine vl_val rfl (.some rfl) (val_extract rfl rfl) ?_
      refine vl_alloc rfl rfl (.some rfl) Try.zeroValue58 (fun r12 => ?_)
      first | refine vl_store rfl rfl .none rfl rfl Try.sizeOf58 rfl (by repeat (first | exact .head | apply In.tail | apply Take.tail | apply Upd.tail)) (by first | decide | exact Nat.le_refl _ | exact Nat.le_of_ble_eq_true rfl | (simp; omega)) ?_ | refine vl_storeSl rfl rfl .none rfl rfl Try.sizeOf58 rfl (by simp [Value.cells]) (by repeat (first | exact .head | apply In.tail | apply Take.tail | apply Upd.tail)) (by first | decide | (simp [Value.cells]; omega)) ?_
      refine vl_val rfl (.some rfl) (val_assign rfl) ?_
      refine vl_nil ?_
      refine vc_seq ?_
      refine vc_region ?_
      refine vl_val rfl (.some rfl) (val_loadAgg Try.isAgg58 Try.sizeOf58 rfl (by first | exact cells_whole (by repeat (first | exact .head | apply In.tail | apply Take.tail | apply Upd.tail)) | exact cells_part (by repeat (first | exact .head | apply In.tail | apply Take.tail | apply Upd.tail)) rfl) rfl) ?_
      refine vl_val rfl (.some rfl) (val_loadAgg Try.isAgg64 Try.sizeOf64 rfl (by first | exact cells_whole (by repeat (first | exact .head | apply In.tail | apply Take.tail | apply Upd.tail)) | exact cells_part (by repeat (first | exact .head | apply In.tail | apply Take.tail | apply Upd.tail)) rfl) rfl) ?_
      refine vl_callV rfl rfl (.some rfl) Try.call39 rfl (fun w hw => lSame _ _ _ _ _ _ _ _ (joinN l) (joinN l) (joinI l) (joinI l) (by omega) (by omega) w (rdw (rd_sl (by repeat (first | exact .head | apply In.tail | apply Take.tail | apply Upd.tail))) hw) (rdw (rd_sl (by repeat (first | exact .head | apply In.tail | apply Take.tail | apply Upd.tail))) hw) (rdw (rd_sl (by repeat (first | exact .head | apply In.tail | apply Take.tail | apply Upd.tail))) hw) (rdw (rd_sl (by repeat (first | exact .head | apply In.tail | apply Take.tail | apply Upd.tail))) hw)) ?_
      rw [decide_eq_true ⟨rfl, rfl⟩]
      refine vl_val rfl (.some rfl) (val_move rfl) ?_
      refine vl_on rfl rfl rfl rfl ?_
      refine vl_callV rfl rfl (.some rfl) Try.call30 rfl (fun w hw => oLives w) ?_
      refine vl_val rfl (.some rfl) (val_pick rfl rfl) ?_
      refine vl_val rfl (.some rfl) (val_assign rfl) ?_
      refine vl_nil ?_
      refine vc_ret ?_
      refine ⟨_, [], _, res1 Try.results9 rfl, .nil, ?_⟩
      rfl

end Go.Proofs.Ytibfngjfjddaiaa.K
