/- Walks of the program's functions, printed by a program of this session; Lean checks them. -/
import Derived.Test.YtibfngjfjddaiaaCi
import Derived.Test.YtibfngjfjddaiaaOi
namespace Go.Proofs.Ytibfngjfjddaiaa.K
open Go Go.RowKit Go.Proofs
set_option linter.unusedVariables false
set_option linter.unusedSimpArgs false


set_option maxRecDepth 20000 in
theorem cJoin (A : Option Addr) (c : Nat) (l : List Vt) (hl : l.length ≤ 2932031007402) (w : World) (hr : Reads w A (l.flatMap vtC)) (hv : ∀ v ∈ l, VtF w v) : Fn Try.prog 40 [.slice A l.length c] [] (ret fun v H' => ∃ AN AI cN cI, v = .tuple #[VA AN cN (joinN l) AI cI (joinI l), .int .i64 (joinE l)] ∧ H' = [TW AN (joinN l).length cN (joinN l), IW AI (joinI l).length cI (joinI l)]) w := by
  refine fn_enter Try.func40 rfl Try.ntmps40 rfl ?_
  refine vc_seq ?_
  refine vc_region ?_
  refine vl_alloc rfl rfl (.some rfl) Try.zeroValue58 (fun r2 => ?_)
  refine vl_val rfl (.some rfl) (val_assign rfl) ?_
  refine vl_nil ?_
  refine vc_seq ?_
  refine vc_region ?_
  refine vl_val rfl (.some rfl) (val_assign rfl) ?_
  refine vl_nil ?_
  refine vc_seq ?_
  refine vc_seq ?_
  refine vc_region ?_
  refine vl_val rfl (.some rfl) (val_move rfl) ?_
  refine vl_val rfl (.some rfl) (val_lenSl Try.runUnderlying75 rfl) ?_
  refine vl_val rfl (.some rfl) (val_move rfl) ?_
  refine vl_nil ?_
  refine vc_block ?_
  refine vc_loopw (fun k E H => ∃ i : Nat, i ≤ l.length ∧ k = l.length - i ∧ (∀ j, j < i → okV (vtN (l.getD j dV)) (vtI (l.getD j dV))) ∧ E = [(0, .slice A l.length c), (2, .pointer (some ⟨r2, 0, none⟩)), (4, .int .i64 ((min (jI (l.take i)).length 1001 : Nat) : Int)), (10, .slice A l.length c), (11, .int .i64 l.length), (12, .int .i64 i)] ∧ H = [cells r2 [.slice none 0 0, .slice none 0 0] 58]) (l.length) ⟨_, _, _, ⟨0, by omega, rfl, fun j hj => absurd hj (by omega), rfl, rfl⟩, (by repeat (first | exact trivial | refine ⟨rfl, ?_⟩ | refine ⟨le_item rfl (by first | rfl | (congr 1; omega) | (simp; done) | (simp; omega)), ?_⟩)), (by repeat (first | exact .nil | (apply Sub.cons; · repeat (first | exact .head | apply Take.tail))))⟩ ?_
  intro k E H hI
  obtain ⟨i, hil, rfl, hall, rfl, rfl⟩ := hI
  refine vc_seq ?_
  refine vc_region ?_
  refine vl_val rfl (.some rfl) (val_lt rfl rfl) ?_
  refine vl_nil ?_
  refine vc_seq ?_
  refine vc_cond rfl (fun hc0 => ?_) (fun hc0 => ?_)
  · (try replace hc0 := of_decide_eq_true hc0)
    have hi8 : i < l.length := by omega
    obtain ⟨f1, f2, f3, f4⟩ := hv _ (getD_mem dV hi8)
    have hst := jI_step hi8
    have hsn := jN_step hi8
    have hpi := jI_push hi8
    have hpn := jN_push hi8
    have hat := flatV_at (q := (i : Int)) rfl hi8
    rcases hvd : l.getD i dV with ⟨⟨An, cn, nl⟩, ⟨Ai, ci, il⟩, _⟩
    rw [hvd] at f1 f2 f3 f4 hst hsn hpi hpn hat
    simp only [vtN, vtI] at f1 f2 f3 f4 hst hsn hpi hpn
    refine vc_skip ?_
    refine vc_seq ?_
    refine vc_block ?_
    refine vc_seq ?_
    refine vc_region ?_
    refine vl_val rfl (.some rfl) (val_indexAddr Try.runUnderlying75 Try.sizeOf58 rfl rfl (rd_old hr rfl) (by omega) (by omega) (by rw [flatV_len]; omega)) ?_
    refine vl_val rfl (.some rfl) (val_loadAgg Try.isAgg58 Try.sizeOf58 rfl (cells_rd (us := [.slice An nl.length cn, .slice Ai il.length ci]) (rd_old hr rfl) hat) rfl) ?_
    refine vl_alloc rfl rfl (.some rfl) Try.zeroValue58 (fun r6 => ?_)
    first | refine vl_store rfl rfl .none rfl rfl Try.sizeOf58 rfl (by repeat (first | exact .head | apply In.tail | apply Take.tail | apply Upd.tail)) (by first | decide | exact Nat.le_refl _ | exact Nat.le_of_ble_eq_true rfl | (simp; omega)) ?_ | refine vl_storeSl rfl rfl .none rfl rfl Try.sizeOf58 rfl (by simp [Value.cells]) (by repeat (first | exact .head | apply In.tail | apply Take.tail | apply Upd.tail)) (by first | decide | (simp [Value.cells]; omega)) ?_
    refine vl_nil ?_
    refine vc_seq ?_
    refine vc_seq ?_
    refine vc_region ?_
    refine vl_val rfl (.some rfl) (val_loadAgg Try.isAgg58 Try.sizeOf58 rfl (by first | exact cells_whole (by repeat (first | exact .head | apply In.tail | apply Take.tail | apply Upd.tail)) | exact cells_part (by repeat (first | exact .head | apply In.tail | apply Take.tail | apply Upd.tail)) rfl) rfl) ?_
    refine vl_callV rfl rfl (.some rfl) Try.call36 rfl (fun w' hw => cGood An Ai cn ci nl il (by omega) (by omega) w' (rdw (rd_old f1 rfl) hw) (rdw (rd_old f3 rfl) hw)) ?_
    refine vl_val rfl (.some rfl) (val_not rfl) ?_
    refine vl_nil ?_
    refine vc_cond rfl (fun hc1 => ?_) (fun hc1 => ?_)
    · (try replace hc1 := of_decide_eq_true hc1)
      have hok : ¬ okV nl il := by simpa using hc1
      refine vc_seq ?_
      refine vc_region ?_
      refine vl_val rfl (.some rfl) (val_buildSt (pl := #[(0, 1), (1, 1)]) (cs := #[.slice none 0 0, .slice none 0 0]) Try.runUnderlying58 Try.zeroValue58 (fun w => by kernel_rfl) rfl rfl) ?_
      refine vl_nilSl 4 1 ?_
      refine vl_nilSl 3 1 ?_
      first | refine vl_store rfl rfl .none rfl rfl Try.sizeOf58 rfl (by repeat (first | exact .head | apply In.tail | apply Take.tail | apply Upd.tail)) (by first | decide | exact Nat.le_refl _ | exact Nat.le_of_ble_eq_true rfl | (simp; omega)) ?_ | refine vl_storeSl rfl rfl .none rfl rfl Try.sizeOf58 rfl (by simp [Value.cells]) (by repeat (first | exact .head | apply In.tail | apply Take.tail | apply Upd.tail)) (by first | decide | (simp [Value.cells]; omega)) ?_
      refine vl_val rfl (.some rfl) (val_assign rfl) ?_
      refine vl_nil ?_
      refine vc_ret ?_
      refine ⟨_, [TW none 0 0 [], IW none 0 0 []], _, resC2 Try.results40 rfl (whole_agg Try.isAgg58 Try.sizeOf58 (cells_whole (by repeat (first | exact .head | apply In.tail | apply Take.tail | apply Upd.tail))) rfl) rfl, (by repeat (first | exact .nil | (apply Sub.cons; · repeat (first | exact .head | apply Take.tail)))), ?_⟩
      obtain ⟨e1, e2, e3⟩ := join_bad (l := l) (fun h => by have h9 := h i hi8; rw [hvd] at h9; exact hok h9)
      show ∃ AN AI cN cI, _ ∧ _
      rw [e1, e2, e3]
      exact ⟨none, none, 0, 0, rfl, rfl⟩
    · (try replace hc1 := of_decide_eq_false hc1)
      have hok : okV nl il := by simpa using hc1
      have hil8 := hok.2.1
      refine vc_skip ?_
      refine vc_region ?_
      refine vl_val rfl (.some rfl) (val_move rfl) ?_
      refine vl_val rfl (.some rfl) (by first | exact val_fieldAddr Try.runUnderlying58 rfl Try.sizeOf56 rfl | exact val_fieldAddrR Try.runUnderlying58 rfl Try.sizeOf56 rfl) ?_
      refine vl_val rfl (.some rfl) (val_load Try.isAgg56 rfl (by first | exact cell_cells (by repeat (first | exact .head | apply In.tail | apply Take.tail | apply Upd.tail)) rfl | exact cell_rd (rd_sl (by repeat (first | exact .head | apply In.tail | apply Take.tail | apply Upd.tail))) (by first | exact bcells_at (by omega) | exact ucells_at (by omega) | exact icells_at (by omega) | exact tcells_at (by omega) | exact bcells_get (by omega) | exact icells_get (by omega) | exact tcells_get (by omega) | exact ucells_get (by omega)) | exact cell_rd (rd_old (by assumption) rfl) (by first | exact bcells_at (by omega) | exact ucells_at (by omega) | exact icells_at (by omega) | exact tcells_at (by omega) | exact bcells_get (by omega) | exact icells_get (by omega) | exact tcells_get (by omega) | exact ucells_get (by omega)) | exact cell_old (by assumption) (by simp [fps]))) ?_
      refine vl_val rfl (.some rfl) (val_lenSl Try.runUnderlying56 rfl) ?_
      refine vl_val rfl (.some rfl) (val_add rfl rfl (by first | exact w_i64 (by omega) (by omega) | rfl)) ?_
      refine vl_val rfl (.some rfl) (valEq (v' := .int .i64 ((min (jI (l.take (i + 1))).length 1001 : Nat) : Int)) (congrArg (Value.int .i64) (by omega)) (val_min rfl rfl)) ?_
      refine vl_val rfl (.some rfl) (val_assign rfl) ?_
      refine vl_nil ?_
      refine vc_region ?_
      refine vl_val rfl (.some rfl) (val_add rfl rfl (by first | exact w_i64 (by omega) (by omega) | rfl)) ?_
      refine vl_val rfl (.some rfl) (val_move rfl) ?_
      refine vl_nil ?_
      exact ⟨l.length - (i + 1), _, _, _, by omega, (by repeat (first | exact trivial | refine ⟨rfl, ?_⟩ | refine ⟨le_item rfl (by first | rfl | (congr 1; omega) | (simp; done) | (simp; omega)), ?_⟩)), (by repeat (first | exact .nil | (apply Sub.cons; · repeat (first | exact .head | apply Take.tail)))), ⟨i + 1, by omega, rfl, fun j hj => by
        rcases Nat.lt_or_ge j i with h | h
        · exact hall j h
        · obtain rfl : j = i := by omega
          rw [hvd]; exact hok, rfl, rfl⟩⟩
  · (try replace hc0 := of_decide_eq_false hc0)
    obtain rfl : i = l.length := by omega
    rw [List.take_length]
    have hA : allOk l := fun j hj => hall j hj
    refine vc_exit ?_
    refine vc_seq ?_
    refine vc_seq ?_
    refine vc_region ?_
    refine vl_val rfl (.some rfl) (val_move rfl) ?_
    refine vl_val rfl (.some rfl) (val_gt rfl rfl) ?_
    refine vl_nil ?_
    refine vc_cond rfl (fun hc2 => ?_) (fun hc2 => ?_)
    · (try replace hc2 := of_decide_eq_true hc2)
      refine vc_seq ?_
      refine vc_region ?_
      refine vl_val rfl (.some rfl) (val_buildSt (pl := #[(0, 1), (1, 1)]) (cs := #[.slice none 0 0, .slice none 0 0]) Try.runUnderlying58 Try.zeroValue58 (fun w => by kernel_rfl) rfl rfl) ?_
      refine vl_nilSl 4 1 ?_
      refine vl_nilSl 3 1 ?_
      first | refine vl_store rfl rfl .none rfl rfl Try.sizeOf58 rfl (by repeat (first | exact .head | apply In.tail | apply Take.tail | apply Upd.tail)) (by first | decide | exact Nat.le_refl _ | exact Nat.le_of_ble_eq_true rfl | (simp; omega)) ?_ | refine vl_storeSl rfl rfl .none rfl rfl Try.sizeOf58 rfl (by simp [Value.cells]) (by repeat (first | exact .head | apply In.tail | apply Take.tail | apply Upd.tail)) (by first | decide | (simp [Value.cells]; omega)) ?_
      refine vl_val rfl (.some rfl) (val_assign rfl) ?_
      refine vl_nil ?_
      refine vc_ret ?_
      refine ⟨_, [TW none 0 0 [], IW none 0 0 []], _, resC2 Try.results40 rfl (whole_agg Try.isAgg58 Try.sizeOf58 (cells_whole (by repeat (first | exact .head | apply In.tail | apply Take.tail | apply Upd.tail))) rfl) rfl, (by repeat (first | exact .nil | (apply Sub.cons; · repeat (first | exact .head | apply Take.tail)))), ?_⟩
      obtain ⟨e1, e2, e3⟩ := join_full hA (by omega)
      show ∃ AN AI cN cI, _ ∧ _
      rw [e1, e2, e3]
      exact ⟨none, none, 0, 0, rfl, rfl⟩
    · (try replace hc2 := of_decide_eq_false hc2)
      have hj1 : (jI l).length ≤ 1000 := by omega
      refine vc_skip ?_
      refine vc_seq ?_
      refine vc_region ?_
      refine vl_alloc rfl rfl (.some rfl) Try.zeroValue58 (fun r7 => ?_)
      refine vl_nilSl 4 1 ?_
      refine vl_nilSl 3 1 ?_
      refine vl_nil ?_
      refine vc_seq ?_
      refine vc_seq ?_
      refine vc_region ?_
      refine vl_val rfl (.some rfl) (val_move rfl) ?_
      refine vl_val rfl (.some rfl) (val_lenSl Try.runUnderlying75 rfl) ?_
      refine vl_val rfl (.some rfl) (val_move rfl) ?_
      refine vl_nil ?_
      refine vc_block ?_
      refine vc_loopw (fun k E H => ∃ (i : Nat) (AN : Option Addr) (cN : Nat) (AI : Option Addr) (cI : Nat), i ≤ l.length ∧ k = l.length - i ∧ True ∧ E = [(0, .slice A l.length c), (2, .pointer (some ⟨r2, 0, none⟩)), (7, .pointer (some ⟨r7, 0, none⟩)), (30, .slice A l.length c), (31, .int .i64 l.length), (32, .int .i64 i)] ∧ H = [cells r7 [.slice AN (jN (l.take i)).length cN, .slice AI (jI (l.take i)).length cI] 58, TW AN (jN (l.take i)).length cN (jN (l.take i)), IW AI (jI (l.take i)).length cI (jI (l.take i)), cells r2 [.slice none 0 0, .slice none 0 0] 58]) (l.length) ⟨_, _, _, ⟨0, none, 0, none, 0, by omega, rfl, trivial, rfl, rfl⟩, (by repeat (first | exact trivial | refine ⟨rfl, ?_⟩ | refine ⟨le_item rfl (by first | rfl | (congr 1; omega) | (simp; done) | (simp; omega)), ?_⟩)), (by repeat (first | exact .nil | (apply Sub.cons; · repeat (first | exact .head | apply Take.tail))))⟩ ?_
      intro k E H hI
      obtain ⟨i, AN, cN, AI, cI, hil, rfl, _, rfl, rfl⟩ := hI
      refine vc_seq ?_
      refine vc_region ?_
      refine vl_val rfl (.some rfl) (val_lt rfl rfl) ?_
      refine vl_nil ?_
      refine vc_seq ?_
      refine vc_cond rfl (fun hc3 => ?_) (fun hc3 => ?_)
      · (try replace hc3 := of_decide_eq_true hc3)
        have hi8 : i < l.length := by omega
        obtain ⟨f1, f2, f3, f4⟩ := hv _ (getD_mem dV hi8)
        have hst := jI_step hi8
        have hsn := jN_step hi8
        have hpi := jI_push hi8
        have hpn := jN_push hi8
        have hat := flatV_at (q := (i : Int)) rfl hi8
        rcases hvd : l.getD i dV with ⟨⟨An, cn, nl⟩, ⟨Ai, ci, il⟩, _⟩
        rw [hvd] at f1 f2 f3 f4 hst hsn hpi hpn hat
        simp only [vtN, vtI] at f1 f2 f3 f4 hst hsn hpi hpn
        have hokv := hA i hi8
        rw [hvd] at hokv
        have hlen : nl.length = il.length := hokv.1
        have hil8 : il.length ≤ 1000 := hokv.2.1
        have hbd1 := jI_le (l := l) (i := i)
        have hjl := jlen hA i hil
        refine vc_skip ?_
        refine vc_seq ?_
        refine vc_block ?_
        refine vc_seq ?_
        refine vc_region ?_
        refine vl_val rfl (.some rfl) (val_indexAddr Try.runUnderlying75 Try.sizeOf58 rfl rfl (rd_old hr rfl) (by omega) (by omega) (by rw [flatV_len]; omega)) ?_
        refine vl_val rfl (.some rfl) (val_loadAgg Try.isAgg58 Try.sizeOf58 rfl (cells_rd (us := [.slice An nl.length cn, .slice Ai il.length ci]) (rd_old hr rfl) hat) rfl) ?_
        refine vl_alloc rfl rfl (.some rfl) Try.zeroValue58 (fun r9 => ?_)
        first | refine vl_store rfl rfl .none rfl rfl Try.sizeOf58 rfl (by repeat (first | exact .head | apply In.tail | apply Take.tail | apply Upd.tail)) (by first | decide | exact Nat.le_refl _ | exact Nat.le_of_ble_eq_true rfl | (simp; omega)) ?_ | refine vl_storeSl rfl rfl .none rfl rfl Try.sizeOf58 rfl (by simp [Value.cells]) (by repeat (first | exact .head | apply In.tail | apply Take.tail | apply Upd.tail)) (by first | decide | (simp [Value.cells]; omega)) ?_
        refine vl_nil ?_
        refine vc_seq ?_
        refine vc_region ?_
        refine vl_val rfl (.some rfl) (by first | exact val_fieldAddr Try.runUnderlying58 rfl Try.sizeOf55 rfl | exact val_fieldAddrR Try.runUnderlying58 rfl Try.sizeOf55 rfl) ?_
        refine vl_val rfl (.some rfl) (val_load Try.isAgg55 rfl (by first | exact cell_cells (by repeat (first | exact .head | apply In.tail | apply Take.tail | apply Upd.tail)) rfl | exact cell_rd (rd_sl (by repeat (first | exact .head | apply In.tail | apply Take.tail | apply Upd.tail))) (by first | exact bcells_at (by omega) | exact ucells_at (by omega) | exact icells_at (by omega) | exact tcells_at (by omega) | exact bcells_get (by omega) | exact icells_get (by omega) | exact tcells_get (by omega) | exact ucells_get (by omega)) | exact cell_rd (rd_old (by assumption) rfl) (by first | exact bcells_at (by omega) | exact ucells_at (by omega) | exact icells_at (by omega) | exact tcells_at (by omega) | exact bcells_get (by omega) | exact icells_get (by omega) | exact tcells_get (by omega) | exact ucells_get (by omega)) | exact cell_old (by assumption) (by simp [fps]))) ?_
        refine vl_val rfl (.some rfl) (by first | exact val_fieldAddr Try.runUnderlying58 rfl Try.sizeOf55 rfl | exact val_fieldAddrR Try.runUnderlying58 rfl Try.sizeOf55 rfl) ?_
        refine vl_val rfl (.some rfl) (val_load Try.isAgg55 rfl (by first | exact cell_cells (by repeat (first | exact .head | apply In.tail | apply Take.tail | apply Upd.tail)) rfl | exact cell_rd (rd_sl (by repeat (first | exact .head | apply In.tail | apply Take.tail | apply Upd.tail))) (by first | exact bcells_at (by omega) | exact ucells_at (by omega) | exact icells_at (by omega) | exact tcells_at (by omega) | exact bcells_get (by omega) | exact icells_get (by omega) | exact tcells_get (by omega) | exact ucells_get (by omega)) | exact cell_rd (rd_old (by assumption) rfl) (by first | exact bcells_at (by omega) | exact ucells_at (by omega) | exact icells_at (by omega) | exact tcells_at (by omega) | exact bcells_get (by omega) | exact icells_get (by omega) | exact tcells_get (by omega) | exact ucells_get (by omega)) | exact cell_old (by assumption) (by simp [fps]))) ?_
        refine vl_append sT55 rfl rfl (.some rfl) rfl rfl (rd_old f1 rfl) (by rw [tcells_length]; omega) (one_t _) (by omega) (by omega) (by repeat (first | exact .head | apply In.tail | apply Take.tail | apply Upd.tail)) (fun A40 k40 => ?_)
        rw [hpn, show (jN (l.take i)).length + nl.length = (jN (l.take (i + 1))).length by omega]
        refine vl_val rfl (.some rfl) (by first | exact val_fieldAddr Try.runUnderlying58 rfl Try.sizeOf55 rfl | exact val_fieldAddrR Try.runUnderlying58 rfl Try.sizeOf55 rfl) ?_
        first | refine vl_store rfl rfl .none rfl rfl Try.sizeOf55 rfl (by repeat (first | exact .head | apply In.tail | apply Take.tail | apply Upd.tail)) (by first | decide | exact Nat.le_refl _ | exact Nat.le_of_ble_eq_true rfl | (simp; omega)) ?_ | refine vl_storeSl rfl rfl .none rfl rfl Try.sizeOf55 rfl (by simp [Value.cells]) (by repeat (first | exact .head | apply In.tail | apply Take.tail | apply Upd.tail)) (by first | decide | (simp [Value.cells]; omega)) ?_
        refine vl_nil ?_
        refine vc_region ?_
        refine vl_val rfl (.some rfl) (by first | exact val_fieldAddr Try.runUnderlying58 rfl Try.sizeOf56 rfl | exact val_fieldAddrR Try.runUnderlying58 rfl Try.sizeOf56 rfl) ?_
        refine vl_val rfl (.some rfl) (val_load Try.isAgg56 rfl (by first | exact cell_cells (by repeat (first | exact .head | apply In.tail | apply Take.tail | apply Upd.tail)) rfl | exact cell_rd (rd_sl (by repeat (first | exact .head | apply In.tail | apply Take.tail | apply Upd.tail))) (by first | exact bcells_at (by omega) | exact ucells_at (by omega) | exact icells_at (by omega) | exact tcells_at (by omega) | exact bcells_get (by omega) | exact icells_get (by omega) | exact tcells_get (by omega) | exact ucells_get (by omega)) | exact cell_rd (rd_old (by assumption) rfl) (by first | exact bcells_at (by omega) | exact ucells_at (by omega) | exact icells_at (by omega) | exact tcells_at (by omega) | exact bcells_get (by omega) | exact icells_get (by omega) | exact tcells_get (by omega) | exact ucells_get (by omega)) | exact cell_old (by assumption) (by simp [fps]))) ?_
        refine vl_val rfl (.some rfl) (by first | exact val_fieldAddr Try.runUnderlying58 rfl Try.sizeOf56 rfl | exact val_fieldAddrR Try.runUnderlying58 rfl Try.sizeOf56 rfl) ?_
        refine vl_val rfl (.some rfl) (val_load Try.isAgg56 rfl (by first | exact cell_cells (by repeat (first | exact .head | apply In.tail | apply Take.tail | apply Upd.tail)) rfl | exact cell_rd (rd_sl (by repeat (first | exact .head | apply In.tail | apply Take.tail | apply Upd.tail))) (by first | exact bcells_at (by omega) | exact ucells_at (by omega) | exact icells_at (by omega) | exact tcells_at (by omega) | exact bcells_get (by omega) | exact icells_get (by omega) | exact tcells_get (by omega) | exact ucells_get (by omega)) | exact cell_rd (rd_old (by assumption) rfl) (by first | exact bcells_at (by omega) | exact ucells_at (by omega) | exact icells_at (by omega) | exact tcells_at (by omega) | exact bcells_get (by omega) | exact icells_get (by omega) | exact tcells_get (by omega) | exact ucells_get (by omega)) | exact cell_old (by assumption) (by simp [fps]))) ?_
        refine vl_append sT56 rfl rfl (.some rfl) rfl rfl (rd_old f3 rfl) (by rw [icells_length]; omega) (one_i _) (by omega) (by omega) (by repeat (first | exact .head | apply In.tail | apply Take.tail | apply Upd.tail)) (fun A46 k46 => ?_)
        rw [hpi, show (jI (l.take i)).length + il.length = (jI (l.take (i + 1))).length by omega]
        refine vl_val rfl (.some rfl) (by first | exact val_fieldAddr Try.runUnderlying58 rfl Try.sizeOf56 rfl | exact val_fieldAddrR Try.runUnderlying58 rfl Try.sizeOf56 rfl) ?_
        first | refine vl_store rfl rfl .none rfl rfl Try.sizeOf56 rfl (by repeat (first | exact .head | apply In.tail | apply Take.tail | apply Upd.tail)) (by first | decide | exact Nat.le_refl _ | exact Nat.le_of_ble_eq_true rfl | (simp; omega)) ?_ | refine vl_storeSl rfl rfl .none rfl rfl Try.sizeOf56 rfl (by simp [Value.cells]) (by repeat (first | exact .head | apply In.tail | apply Take.tail | apply Upd.tail)) (by first | decide | (simp [Value.cells]; omega)) ?_
        refine vl_nil ?_
        refine vc_region ?_
        refine vl_val rfl (.some rfl) (val_add rfl rfl (by first | exact w_i64 (by omega) (by omega) | rfl)) ?_
        refine vl_val rfl (.some rfl) (val_move rfl) ?_
        refine vl_nil ?_
        exact ⟨l.length - (i + 1), _, _, _, by omega, (by repeat (first | exact trivial | refine ⟨rfl, ?_⟩ | refine ⟨le_item rfl (by first | rfl | (congr 1; omega) | (simp; done) | (simp; omega)), ?_⟩)), (by repeat (first | exact .nil | (apply Sub.cons; · repeat (first | exact .head | apply Take.tail)))), ⟨i + 1, A40, k40, A46, k46, by omega, rfl, trivial, rfl, rfl⟩⟩
      · (try replace hc3 := of_decide_eq_false hc3)
        obtain rfl : i = l.length := by omega
        rw [List.take_length]
        refine vc_exit ?_
        refine vc_seq ?_
        refine vc_region ?_
        refine vl_val rfl (.some rfl) (val_loadAgg Try.isAgg58 Try.sizeOf58 rfl (by first | exact cells_whole (by repeat (first | exact .head | apply In.tail | apply Take.tail | apply Upd.tail)) | exact cells_part (by repeat (first | exact .head | apply In.tail | apply Take.tail | apply Upd.tail)) rfl) rfl) ?_
        first | refine vl_store rfl rfl .none rfl rfl Try.sizeOf58 rfl (by repeat (first | exact .head | apply In.tail | apply Take.tail | apply Upd.tail)) (by first | decide | exact Nat.le_refl _ | exact Nat.le_of_ble_eq_true rfl | (simp; omega)) ?_ | refine vl_storeSl rfl rfl .none rfl rfl Try.sizeOf58 rfl (by simp [Value.cells]) (by repeat (first | exact .head | apply In.tail | apply Take.tail | apply Upd.tail)) (by first | decide | (simp [Value.cells]; omega)) ?_
        refine vl_val rfl (.some rfl) (val_assign rfl) ?_
        refine vl_nil ?_
        refine vc_ret ?_
        refine ⟨_, [TW AN (jN l).length cN (jN l), IW AI (jI l).length cI (jI l)], _, resC2 Try.results40 rfl (whole_agg Try.isAgg58 Try.sizeOf58 (cells_whole (by repeat (first | exact .head | apply In.tail | apply Take.tail | apply Upd.tail))) rfl) rfl, (by repeat (first | exact .nil | (apply Sub.cons; · repeat (first | exact .head | apply Take.tail)))), ?_⟩
        obtain ⟨e1, e2, e3⟩ := join_ok hA (by omega)
        show ∃ AN AI cN cI, _ ∧ _
        rw [e1, e2, e3]
        exact ⟨AN, AI, cN, cI, rfl, rfl⟩
set_option maxRecDepth 20000 in
theorem rJoin (A : Option Addr) (c : Nat) (l : List Vt) (hl : l.length ≤ 2932031007402) (w : World) (hr : Reads w A (l.flatMap vtC)) (hv : ∀ v ∈ l, VtF w v) : Fn Try.prog 41 [.slice A l.length c] [] (ret fun v H' => ∃ AN AI cN cI, v = .tuple #[VA AN cN (joinN l) AI cI (joinI l), .int .i64 (joinE l)] ∧ H' = [TW AN (joinN l).length cN (joinN l), IW AI (joinI l).length cI (joinI l)]) w := by
  refine fn_enter Try.func41 rfl Try.ntmps41 rfl ?_
  refine vc_seq ?_
  refine vc_region ?_
  refine vl_alloc rfl rfl (.some rfl) Try.zeroValue64 (fun r2 => ?_)
  refine vl_val rfl (.some rfl) (val_assign rfl) ?_
  refine vl_nil ?_
  refine vc_seq ?_
  refine vc_region ?_
  refine vl_alloc rfl rfl (.some rfl) Try.zeroValue64 (fun r4 => ?_)
  refine vl_nilSl 4 1 ?_
  refine vl_nilSl 3 1 ?_
  refine vl_nil ?_
  refine vc_seq ?_
  refine vc_seq ?_
  refine vc_region ?_
  refine vl_val rfl (.some rfl) (val_move rfl) ?_
  refine vl_val rfl (.some rfl) (val_lenSl Try.runUnderlying76 rfl) ?_
  refine vl_val rfl (.some rfl) (val_move rfl) ?_
  refine vl_nil ?_
  refine vc_block ?_
  refine vc_loopw (fun k E H => ∃ i : Nat, i ≤ l.length ∧ k = l.length - i ∧ (∀ j, j < i → okV (vtN (l.getD j dV)) (vtI (l.getD j dV))) ∧ E = [(0, .slice A l.length c), (2, .pointer (some ⟨r2, 0, none⟩)), (4, .pointer (some ⟨r4, 0, none⟩)), (9, .slice A l.length c), (10, .int .i64 l.length), (11, .int .i64 i)] ∧ H = [cells r4 [.slice none 0 0, .slice none 0 0] 64, TW none 0 0 [], IW none 0 0 [], cells r2 [.slice none 0 0, .slice none 0 0] 64]) (l.length) ⟨_, _, _, ⟨0, by omega, rfl, fun j hj => absurd hj (by omega), rfl, rfl⟩, (by repeat (first | exact trivial | refine ⟨rfl, ?_⟩ | refine ⟨le_item rfl (by first | rfl | (congr 1; omega) | (simp; done) | (simp; omega)), ?_⟩)), (by repeat (first | exact .nil | (apply Sub.cons; · repeat (first | exact .head | apply Take.tail))))⟩ ?_
  intro k E H hI
  obtain ⟨i, hil, rfl, hall, rfl, rfl⟩ := hI
  refine vc_seq ?_
  refine vc_region ?_
  refine vl_val rfl (.some rfl) (val_lt rfl rfl) ?_
  refine vl_nil ?_
  refine vc_seq ?_
  refine vc_cond rfl (fun hc0 => ?_) (fun hc0 => ?_)
  · (try replace hc0 := of_decide_eq_true hc0)
    have hi8 : i < l.length := by omega
    obtain ⟨f1, f2, f3, f4⟩ := hv _ (getD_mem dV hi8)
    have hst := jI_step hi8
    have hsn := jN_step hi8
    have hpi := jI_push hi8
    have hpn := jN_push hi8
    have hat := flatV_at (q := (i : Int)) rfl hi8
    rcases hvd : l.getD i dV with ⟨⟨An, cn, nl⟩, ⟨Ai, ci, il⟩, _⟩
    rw [hvd] at f1 f2 f3 f4 hst hsn hpi hpn hat
    simp only [vtN, vtI] at f1 f2 f3 f4 hst hsn hpi hpn
    refine vc_skip ?_
    refine vc_seq ?_
    refine vc_block ?_
    refine vc_seq ?_
    refine vc_region ?_
    refine vl_val rfl (.some rfl) (val_indexAddr Try.runUnderlying76 Try.sizeOf64 rfl rfl (rd_old hr rfl) (by omega) (by omega) (by rw [flatV_len]; omega)) ?_
    refine vl_val rfl (.some rfl) (val_loadAgg Try.isAgg64 Try.sizeOf64 rfl (cells_rd (us := [.slice An nl.length cn, .slice Ai il.length ci]) (rd_old hr rfl) hat) rfl) ?_
    refine vl_alloc rfl rfl (.some rfl) Try.zeroValue64 (fun r6 => ?_)
    first | refine vl_store rfl rfl .none rfl rfl Try.sizeOf64 rfl (by repeat (first | exact .head | apply In.tail | apply Take.tail | apply Upd.tail)) (by first | decide | exact Nat.le_refl _ | exact Nat.le_of_ble_eq_true rfl | (simp; omega)) ?_ | refine vl_storeSl rfl rfl .none rfl rfl Try.sizeOf64 rfl (by simp [Value.cells]) (by repeat (first | exact .head | apply In.tail | apply Take.tail | apply Upd.tail)) (by first | decide | (simp [Value.cells]; omega)) ?_
    refine vl_nil ?_
    refine vc_seq ?_
    refine vc_region ?_
    refine vl_val rfl (.some rfl) (val_loadAgg Try.isAgg64 Try.sizeOf64 rfl (by first | exact cells_whole (by repeat (first | exact .head | apply In.tail | apply Take.tail | apply Upd.tail)) | exact cells_part (by repeat (first | exact .head | apply In.tail | apply Take.tail | apply Upd.tail)) rfl) rfl) ?_
    refine vl_callV rfl rfl (.some rfl) Try.call37 rfl (fun w' hw => rGood An Ai cn ci nl il (by omega) (by omega) w' (rdw (rd_old f1 rfl) hw) (rdw (rd_old f3 rfl) hw)) ?_
    refine vl_val rfl (.some rfl) (val_not rfl) ?_
    refine vl_nil ?_
    refine vc_cond rfl (fun hc1 => ?_) (fun hc1 => ?_)
    · (try replace hc1 := of_decide_eq_true hc1)
      have hok : ¬ okV nl il := by simpa using hc1
      refine vc_seq ?_
      refine vc_region ?_
      refine vl_val rfl (.some rfl) (val_buildSt (pl := #[(0, 1), (1, 1)]) (cs := #[.slice none 0 0, .slice none 0 0]) Try.runUnderlying64 Try.zeroValue64 (fun w => by kernel_rfl) rfl rfl) ?_
      refine vl_nilSl 4 1 ?_
      refine vl_nilSl 3 1 ?_
      first | refine vl_store rfl rfl .none rfl rfl Try.sizeOf64 rfl (by repeat (first | exact .head | apply In.tail | apply Take.tail | apply Upd.tail)) (by first | decide | exact Nat.le_refl _ | exact Nat.le_of_ble_eq_true rfl | (simp; omega)) ?_ | refine vl_storeSl rfl rfl .none rfl rfl Try.sizeOf64 rfl (by simp [Value.cells]) (by repeat (first | exact .head | apply In.tail | apply Take.tail | apply Upd.tail)) (by first | decide | (simp [Value.cells]; omega)) ?_
      refine vl_val rfl (.some rfl) (val_assign rfl) ?_
      refine vl_nil ?_
      refine vc_ret ?_
      refine ⟨_, [TW none 0 0 [], IW none 0 0 []], _, resC2 Try.results41 rfl (whole_agg Try.isAgg64 Try.sizeOf64 (cells_whole (by repeat (first | exact .head | apply In.tail | apply Take.tail | apply Upd.tail))) rfl) rfl, (by repeat (first | exact .nil | (apply Sub.cons; · repeat (first | exact .head | apply Take.tail)))), ?_⟩
      obtain ⟨e1, e2, e3⟩ := join_bad (l := l) (fun h => by have h9 := h i hi8; rw [hvd] at h9; exact hok h9)
      show ∃ AN AI cN cI, _ ∧ _
      rw [e1, e2, e3]
      exact ⟨none, none, 0, 0, rfl, rfl⟩
    · (try replace hc1 := of_decide_eq_false hc1)
      have hok : okV nl il := by simpa using hc1
      have hil8 := hok.2.1
      refine vc_skip ?_
      refine vc_region ?_
      refine vl_val rfl (.some rfl) (val_add rfl rfl (by first | exact w_i64 (by omega) (by omega) | rfl)) ?_
      refine vl_val rfl (.some rfl) (val_move rfl) ?_
      refine vl_nil ?_
      exact ⟨l.length - (i + 1), _, _, _, by omega, (by repeat (first | exact trivial | refine ⟨rfl, ?_⟩ | refine ⟨le_item rfl (by first | rfl | (congr 1; omega) | (simp; done) | (simp; omega)), ?_⟩)), (by repeat (first | exact .nil | (apply Sub.cons; · repeat (first | exact .head | apply Take.tail)))), ⟨i + 1, by omega, rfl, fun j hj => by
        rcases Nat.lt_or_ge j i with h | h
        · exact hall j h
        · obtain rfl : j = i := by omega
          rw [hvd]; exact hok, rfl, rfl⟩⟩
  · (try replace hc0 := of_decide_eq_false hc0)
    obtain rfl : i = l.length := by omega
    have hA : allOk l := fun j hj => hall j hj
    refine vc_exit ?_
    refine vc_seq ?_
    refine vc_seq ?_
    refine vc_region ?_
    refine vl_val rfl (.some rfl) (val_move rfl) ?_
    refine vl_val rfl (.some rfl) (val_lenSl Try.runUnderlying76 rfl) ?_
    refine vl_val rfl (.some rfl) (val_move rfl) ?_
    refine vl_nil ?_
    refine vc_block ?_
    refine vc_loopw (fun k E H => ∃ (i : Nat) (AN : Option Addr) (cN : Nat) (AI : Option Addr) (cI : Nat), i ≤ l.length ∧ k = l.length - i ∧ (jI (l.take i)).length ≤ 1000 ∧ E = [(0, .slice A l.length c), (2, .pointer (some ⟨r2, 0, none⟩)), (4, .pointer (some ⟨r4, 0, none⟩)), (20, .slice A l.length c), (21, .int .i64 l.length), (22, .int .i64 i)] ∧ H = [cells r4 [.slice AN (jN (l.take i)).length cN, .slice AI (jI (l.take i)).length cI] 64, TW AN (jN (l.take i)).length cN (jN (l.take i)), IW AI (jI (l.take i)).length cI (jI (l.take i)), cells r2 [.slice none 0 0, .slice none 0 0] 64]) (l.length) ⟨_, _, _, ⟨0, none, 0, none, 0, by omega, rfl, Nat.zero_le _, rfl, rfl⟩, (by repeat (first | exact trivial | refine ⟨rfl, ?_⟩ | refine ⟨le_item rfl (by first | rfl | (congr 1; omega) | (simp; done) | (simp; omega)), ?_⟩)), (by repeat (first | exact .nil | (apply Sub.cons; · repeat (first | exact .head | apply Take.tail))))⟩ ?_
    intro k E H hI
    obtain ⟨i, AN, cN, AI, cI, hil, rfl, hj1, rfl, rfl⟩ := hI
    refine vc_seq ?_
    refine vc_region ?_
    refine vl_val rfl (.some rfl) (val_lt rfl rfl) ?_
    refine vl_nil ?_
    refine vc_seq ?_
    refine vc_cond rfl (fun hc2 => ?_) (fun hc2 => ?_)
    · (try replace hc2 := of_decide_eq_true hc2)
      have hi8 : i < l.length := by omega
      obtain ⟨f1, f2, f3, f4⟩ := hv _ (getD_mem dV hi8)
      have hst := jI_step hi8
      have hsn := jN_step hi8
      have hpi := jI_push hi8
      have hpn := jN_push hi8
      have hat := flatV_at (q := (i : Int)) rfl hi8
      rcases hvd : l.getD i dV with ⟨⟨An, cn, nl⟩, ⟨Ai, ci, il⟩, _⟩
      rw [hvd] at f1 f2 f3 f4 hst hsn hpi hpn hat
      simp only [vtN, vtI] at f1 f2 f3 f4 hst hsn hpi hpn
      have hokv := hA i hi8
      rw [hvd] at hokv
      have hlen : nl.length = il.length := hokv.1
      have hil8 : il.length ≤ 1000 := hokv.2.1
      have hbd1 := jI_le (l := l) (i := i)
      have hjl := jlen hA i hil
      refine vc_skip ?_
      refine vc_seq ?_
      refine vc_block ?_
      refine vc_seq ?_
      refine vc_region ?_
      refine vl_val rfl (.some rfl) (val_indexAddr Try.runUnderlying76 Try.sizeOf64 rfl rfl (rd_old hr rfl) (by omega) (by omega) (by rw [flatV_len]; omega)) ?_
      refine vl_val rfl (.some rfl) (val_loadAgg Try.isAgg64 Try.sizeOf64 rfl (cells_rd (us := [.slice An nl.length cn, .slice Ai il.length ci]) (rd_old hr rfl) hat) rfl) ?_
      refine vl_alloc rfl rfl (.some rfl) Try.zeroValue64 (fun r8 => ?_)
      first | refine vl_store rfl rfl .none rfl rfl Try.sizeOf64 rfl (by repeat (first | exact .head | apply In.tail | apply Take.tail | apply Upd.tail)) (by first | decide | exact Nat.le_refl _ | exact Nat.le_of_ble_eq_true rfl | (simp; omega)) ?_ | refine vl_storeSl rfl rfl .none rfl rfl Try.sizeOf64 rfl (by simp [Value.cells]) (by repeat (first | exact .head | apply In.tail | apply Take.tail | apply Upd.tail)) (by first | decide | (simp [Value.cells]; omega)) ?_
      refine vl_nil ?_
      refine vc_seq ?_
      refine vc_region ?_
      refine vl_val rfl (.some rfl) (by first | exact val_fieldAddr Try.runUnderlying64 rfl Try.sizeOf55 rfl | exact val_fieldAddrR Try.runUnderlying64 rfl Try.sizeOf55 rfl) ?_
      refine vl_val rfl (.some rfl) (val_load Try.isAgg55 rfl (by first | exact cell_cells (by repeat (first | exact .head | apply In.tail | apply Take.tail | apply Upd.tail)) rfl | exact cell_rd (rd_sl (by repeat (first | exact .head | apply In.tail | apply Take.tail | apply Upd.tail))) (by first | exact bcells_at (by omega) | exact ucells_at (by omega) | exact icells_at (by omega) | exact tcells_at (by omega) | exact bcells_get (by omega) | exact icells_get (by omega) | exact tcells_get (by omega) | exact ucells_get (by omega)) | exact cell_rd (rd_old (by assumption) rfl) (by first | exact bcells_at (by omega) | exact ucells_at (by omega) | exact icells_at (by omega) | exact tcells_at (by omega) | exact bcells_get (by omega) | exact icells_get (by omega) | exact tcells_get (by omega) | exact ucells_get (by omega)) | exact cell_old (by assumption) (by simp [fps]))) ?_
      refine vl_val rfl (.some rfl) (by first | exact val_fieldAddr Try.runUnderlying64 rfl Try.sizeOf55 rfl | exact val_fieldAddrR Try.runUnderlying64 rfl Try.sizeOf55 rfl) ?_
      refine vl_val rfl (.some rfl) (val_load Try.isAgg55 rfl (by first | exact cell_cells (by repeat (first | exact .head | apply In.tail | apply Take.tail | apply Upd.tail)) rfl | exact cell_rd (rd_sl (by repeat (first | exact .head | apply In.tail | apply Take.tail | apply Upd.tail))) (by first | exact bcells_at (by omega) | exact ucells_at (by omega) | exact icells_at (by omega) | exact tcells_at (by omega) | exact bcells_get (by omega) | exact icells_get (by omega) | exact tcells_get (by omega) | exact ucells_get (by omega)) | exact cell_rd (rd_old (by assumption) rfl) (by first | exact bcells_at (by omega) | exact ucells_at (by omega) | exact icells_at (by omega) | exact tcells_at (by omega) | exact bcells_get (by omega) | exact icells_get (by omega) | exact tcells_get (by omega) | exact ucells_get (by omega)) | exact cell_old (by assumption) (by simp [fps]))) ?_
      refine vl_append sT55 rfl rfl (.some rfl) rfl rfl (rd_old f1 rfl) (by rw [tcells_length]; omega) (one_t _) (by omega) (by omega) (by repeat (first | exact .head | apply In.tail | apply Take.tail | apply Upd.tail)) (fun A30 k30 => ?_)
      rw [hpn, show (jN (l.take i)).length + nl.length = (jN (l.take (i + 1))).length by omega]
      refine vl_val rfl (.some rfl) (by first | exact val_fieldAddr Try.runUnderlying64 rfl Try.sizeOf55 rfl | exact val_fieldAddrR Try.runUnderlying64 rfl Try.sizeOf55 rfl) ?_
      first | refine vl_store rfl rfl .none rfl rfl Try.sizeOf55 rfl (by repeat (first | exact .head | apply In.tail | apply Take.tail | apply Upd.tail)) (by first | decide | exact Nat.le_refl _ | exact Nat.le_of_ble_eq_true rfl | (simp; omega)) ?_ | refine vl_storeSl rfl rfl .none rfl rfl Try.sizeOf55 rfl (by simp [Value.cells]) (by repeat (first | exact .head | apply In.tail | apply Take.tail | apply Upd.tail)) (by first | decide | (simp [Value.cells]; omega)) ?_
      refine vl_nil ?_
      refine vc_seq ?_
      refine vc_region ?_
      refine vl_val rfl (.some rfl) (by first | exact val_fieldAddr Try.runUnderlying64 rfl Try.sizeOf56 rfl | exact val_fieldAddrR Try.runUnderlying64 rfl Try.sizeOf56 rfl) ?_
      refine vl_val rfl (.some rfl) (val_load Try.isAgg56 rfl (by first | exact cell_cells (by repeat (first | exact .head | apply In.tail | apply Take.tail | apply Upd.tail)) rfl | exact cell_rd (rd_sl (by repeat (first | exact .head | apply In.tail | apply Take.tail | apply Upd.tail))) (by first | exact bcells_at (by omega) | exact ucells_at (by omega) | exact icells_at (by omega) | exact tcells_at (by omega) | exact bcells_get (by omega) | exact icells_get (by omega) | exact tcells_get (by omega) | exact ucells_get (by omega)) | exact cell_rd (rd_old (by assumption) rfl) (by first | exact bcells_at (by omega) | exact ucells_at (by omega) | exact icells_at (by omega) | exact tcells_at (by omega) | exact bcells_get (by omega) | exact icells_get (by omega) | exact tcells_get (by omega) | exact ucells_get (by omega)) | exact cell_old (by assumption) (by simp [fps]))) ?_
      refine vl_val rfl (.some rfl) (by first | exact val_fieldAddr Try.runUnderlying64 rfl Try.sizeOf56 rfl | exact val_fieldAddrR Try.runUnderlying64 rfl Try.sizeOf56 rfl) ?_
      refine vl_val rfl (.some rfl) (val_load Try.isAgg56 rfl (by first | exact cell_cells (by repeat (first | exact .head | apply In.tail | apply Take.tail | apply Upd.tail)) rfl | exact cell_rd (rd_sl (by repeat (first | exact .head | apply In.tail | apply Take.tail | apply Upd.tail))) (by first | exact bcells_at (by omega) | exact ucells_at (by omega) | exact icells_at (by omega) | exact tcells_at (by omega) | exact bcells_get (by omega) | exact icells_get (by omega) | exact tcells_get (by omega) | exact ucells_get (by omega)) | exact cell_rd (rd_old (by assumption) rfl) (by first | exact bcells_at (by omega) | exact ucells_at (by omega) | exact icells_at (by omega) | exact tcells_at (by omega) | exact bcells_get (by omega) | exact icells_get (by omega) | exact tcells_get (by omega) | exact ucells_get (by omega)) | exact cell_old (by assumption) (by simp [fps]))) ?_
      refine vl_append sT56 rfl rfl (.some rfl) rfl rfl (rd_old f3 rfl) (by rw [icells_length]; omega) (one_i _) (by omega) (by omega) (by repeat (first | exact .head | apply In.tail | apply Take.tail | apply Upd.tail)) (fun A36 k36 => ?_)
      rw [hpi, show (jI (l.take i)).length + il.length = (jI (l.take (i + 1))).length by omega]
      refine vl_val rfl (.some rfl) (by first | exact val_fieldAddr Try.runUnderlying64 rfl Try.sizeOf56 rfl | exact val_fieldAddrR Try.runUnderlying64 rfl Try.sizeOf56 rfl) ?_
      first | refine vl_store rfl rfl .none rfl rfl Try.sizeOf56 rfl (by repeat (first | exact .head | apply In.tail | apply Take.tail | apply Upd.tail)) (by first | decide | exact Nat.le_refl _ | exact Nat.le_of_ble_eq_true rfl | (simp; omega)) ?_ | refine vl_storeSl rfl rfl .none rfl rfl Try.sizeOf56 rfl (by simp [Value.cells]) (by repeat (first | exact .head | apply In.tail | apply Take.tail | apply Upd.tail)) (by first | decide | (simp [Value.cells]; omega)) ?_
      refine vl_nil ?_
      refine vc_seq ?_
      refine vc_region ?_
      refine vl_val rfl (.some rfl) (by first | exact val_fieldAddr Try.runUnderlying64 rfl Try.sizeOf56 rfl | exact val_fieldAddrR Try.runUnderlying64 rfl Try.sizeOf56 rfl) ?_
      refine vl_val rfl (.some rfl) (val_load Try.isAgg56 rfl (by first | exact cell_cells (by repeat (first | exact .head | apply In.tail | apply Take.tail | apply Upd.tail)) rfl | exact cell_rd (rd_sl (by repeat (first | exact .head | apply In.tail | apply Take.tail | apply Upd.tail))) (by first | exact bcells_at (by omega) | exact ucells_at (by omega) | exact icells_at (by omega) | exact tcells_at (by omega) | exact bcells_get (by omega) | exact icells_get (by omega) | exact tcells_get (by omega) | exact ucells_get (by omega)) | exact cell_rd (rd_old (by assumption) rfl) (by first | exact bcells_at (by omega) | exact ucells_at (by omega) | exact icells_at (by omega) | exact tcells_at (by omega) | exact bcells_get (by omega) | exact icells_get (by omega) | exact tcells_get (by omega) | exact ucells_get (by omega)) | exact cell_old (by assumption) (by simp [fps]))) ?_
      refine vl_val rfl (.some rfl) (val_lenSl Try.runUnderlying56 rfl) ?_
      refine vl_val rfl (.some rfl) (val_gt rfl rfl) ?_
      refine vl_nil ?_
      refine vc_cond rfl (fun hc3 => ?_) (fun hc3 => ?_)
      · (try replace hc3 := of_decide_eq_true hc3)
        refine vc_seq ?_
        refine vc_region ?_
        refine vl_val rfl (.some rfl) (val_buildSt (pl := #[(0, 1), (1, 1)]) (cs := #[.slice none 0 0, .slice none 0 0]) Try.runUnderlying64 Try.zeroValue64 (fun w => by kernel_rfl) rfl rfl) ?_
        refine vl_nilSl 4 1 ?_
        refine vl_nilSl 3 1 ?_
        first | refine vl_store rfl rfl .none rfl rfl Try.sizeOf64 rfl (by repeat (first | exact .head | apply In.tail | apply Take.tail | apply Upd.tail)) (by first | decide | exact Nat.le_refl _ | exact Nat.le_of_ble_eq_true rfl | (simp; omega)) ?_ | refine vl_storeSl rfl rfl .none rfl rfl Try.sizeOf64 rfl (by simp [Value.cells]) (by repeat (first | exact .head | apply In.tail | apply Take.tail | apply Upd.tail)) (by first | decide | (simp [Value.cells]; omega)) ?_
        refine vl_val rfl (.some rfl) (val_assign rfl) ?_
        refine vl_nil ?_
        refine vc_ret ?_
        refine ⟨_, [TW none 0 0 [], IW none 0 0 []], _, resC2 Try.results41 rfl (whole_agg Try.isAgg64 Try.sizeOf64 (cells_whole (by repeat (first | exact .head | apply In.tail | apply Take.tail | apply Upd.tail))) rfl) rfl, (by repeat (first | exact .nil | (apply Sub.cons; · repeat (first | exact .head | apply Take.tail)))), ?_⟩
        obtain ⟨e1, e2, e3⟩ := join_full hA (by have := jI_le (l := l) (i := i + 1); omega)
        show ∃ AN AI cN cI, _ ∧ _
        rw [e1, e2, e3]
        exact ⟨none, none, 0, 0, rfl, rfl⟩
      · (try replace hc3 := of_decide_eq_false hc3)
        refine vc_skip ?_
        refine vc_region ?_
        refine vl_val rfl (.some rfl) (val_add rfl rfl (by first | exact w_i64 (by omega) (by omega) | rfl)) ?_
        refine vl_val rfl (.some rfl) (val_move rfl) ?_
        refine vl_nil ?_
        exact ⟨l.length - (i + 1), _, _, _, by omega, (by repeat (first | exact trivial | refine ⟨rfl, ?_⟩ | refine ⟨le_item rfl (by first | rfl | (congr 1; omega) | (simp; done) | (simp; omega)), ?_⟩)), (by repeat (first | exact .nil | (apply Sub.cons; · repeat (first | exact .head | apply Take.tail)))), ⟨i + 1, A30, k30, A36, k36, by omega, rfl, by omega, rfl, rfl⟩⟩
    · (try replace hc2 := of_decide_eq_false hc2)
      obtain rfl : i = l.length := by omega
      rw [List.take_length] at hj1 ⊢
      refine vc_exit ?_
      refine vc_seq ?_
      refine vc_region ?_
      refine vl_val rfl (.some rfl) (val_loadAgg Try.isAgg64 Try.sizeOf64 rfl (by first | exact cells_whole (by repeat (first | exact .head | apply In.tail | apply Take.tail | apply Upd.tail)) | exact cells_part (by repeat (first | exact .head | apply In.tail | apply Take.tail | apply Upd.tail)) rfl) rfl) ?_
      first | refine vl_store rfl rfl .none rfl rfl Try.sizeOf64 rfl (by repeat (first | exact .head | apply In.tail | apply Take.tail | apply Upd.tail)) (by first | decide | exact Nat.le_refl _ | exact Nat.le_of_ble_eq_true rfl | (simp; omega)) ?_ | refine vl_storeSl rfl rfl .none rfl rfl Try.sizeOf64 rfl (by simp [Value.cells]) (by repeat (first | exact .head | apply In.tail | apply Take.tail | apply Upd.tail)) (by first | decide | (simp [Value.cells]; omega)) ?_
      refine vl_val rfl (.some rfl) (val_assign rfl) ?_
      refine vl_nil ?_
      refine vc_ret ?_
      refine ⟨_, [TW AN (jN l).length cN (jN l), IW AI (jI l).length cI (jI l)], _, resC2 Try.results41 rfl (whole_agg Try.isAgg64 Try.sizeOf64 (cells_whole (by repeat (first | exact .head | apply In.tail | apply Take.tail | apply Upd.tail))) rfl) rfl, (by repeat (first | exact .nil | (apply Sub.cons; · repeat (first | exact .head | apply Take.tail)))), ?_⟩
      obtain ⟨e1, e2, e3⟩ := join_ok hA (by omega)
      show ∃ AN AI cN cI, _ ∧ _
      rw [e1, e2, e3]
      exact ⟨AN, AI, cN, cI, rfl, rfl⟩

end Go.Proofs.Ytibfngjfjddaiaa.K
