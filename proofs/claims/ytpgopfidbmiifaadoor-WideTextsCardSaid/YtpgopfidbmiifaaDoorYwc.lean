/- Walks of the program's functions, printed by a program of this session; Lean checks them. -/
import Derived.Test.YtpgopfidbmiifaaDoorYwb
namespace Go.Proofs.YtpgopfidbmiifaaDoor.K
open Go Go.RowKit Go.Proofs
set_option linter.unusedVariables false
set_option linter.unusedSimpArgs false


theorem hi10 (v : Nat) : (hP (v : Int) * 10 % 18446744073709551616 + ((v % 18446744073709551616 * 10 / 18446744073709551616 : Nat) : Int)) % 18446744073709551616 = hP (10 * (v : Int)) := by
  have e1 : (10 * (v : Int)) / 18446744073709551616 = 10 * ((v : Int) / 18446744073709551616) + ((v % 18446744073709551616 * 10 / 18446744073709551616 : Nat) : Int) := by omega
  unfold hP; rw [e1]; omega
theorem w8 {x : Int} (h : 0 ≤ x) (h2 : x < 256) : IntKind.u8.wrap x = x := by unfold IntKind.wrap; simp [IntKind.signed, IntKind.bits]; omega

set_option maxRecDepth 20000 in
set_option maxHeartbeats 2000000 in
theorem wParse (l : List UInt8) (hlb : l.length < 9223372036854775808) (w : World) : FnV Tryd.prog 16 [.string (sL l)] (.tuple #[wV ((parO l).getD 0), .bool (parO l).isSome]) w := by
  obtain ⟨q, hq⟩ : ∃ q, rest1 l = q := ⟨_, rfl⟩
  have hsz := sL_size q
  refine fn_enter Tryd.func16 rfl Tryd.ntmps16 rfl ?_
  refine vc_seq ?_
  refine vc_region ?_
  refine vl_alloc rfl rfl (.some rfl) Tryd.zeroValue24 (fun r2 => ?_)
  refine vl_val rfl (.some rfl) (val_assign rfl) ?_
  refine vl_nil ?_
  refine vc_seq ?_
  refine vc_region ?_
  refine vl_val rfl (.some rfl) (val_move rfl) ?_
  refine vl_callV rfl rfl (.some rfl) Tryd.call34 rfl (fun w hw => sCutP l w) ?_
  rw [hq]
  refine vl_val rfl (.some rfl) (val_move rfl) ?_
  refine vl_val rfl (.some rfl) (val_extract rfl rfl) ?_
  refine vl_val rfl (.some rfl) (val_extract rfl rfl) ?_
  refine vl_val rfl (.some rfl) (val_assign rfl) ?_
  refine vl_val rfl (.some rfl) (val_assign rfl) ?_
  refine vl_nil ?_
  refine vc_seq ?_
  refine vc_seq ?_
  refine vc_region ?_
  refine vl_val rfl (.some rfl) (val_move rfl) ?_
  refine vl_val rfl (.some rfl) (val_seq rfl rfl) ?_
  refine vl_val rfl (.some rfl) (val_move rfl) ?_
  refine vl_split (t := 17) rfl (fun hg17 => ?_) (fun hg17 => ?_)
  · (try replace hg17 := of_decide_eq_true hg17)
    have hq0 : q.length = 0 := by have := (sL_inj (b := [])).1 hg17; rw [this]; rfl
    refine vl_off rfl rfl rfl rfl (.some rfl) ?_
    refine vl_off rfl rfl rfl rfl (.some rfl) ?_
    refine vl_off rfl rfl rfl rfl (.some rfl) ?_
    refine vl_val rfl (.some rfl) (val_pick rfl rfl) ?_
    refine vl_nil ?_
    refine vc_cond rfl (fun _ => ?_) (fun h => by cases h)
    refine vc_seq ?_
    refine vc_region ?_
    refine vl_val rfl (.some rfl) (val_buildSt (pl := #[(0, 1), (1, 1)]) (cs := #[.int .i64 (0), .int .u64 (0)]) Tryd.runUnderlying24 Tryd.zeroValue24 (fun w => by kernel_rfl) rfl rfl) ?_
    first | refine vl_store rfl rfl .none rfl rfl Tryd.sizeOf24 rfl (by repeat (first | exact .head | apply In.tail | apply Take.tail | apply Upd.tail)) (by first | decide | exact Nat.le_refl _ | exact Nat.le_of_ble_eq_true rfl | (simp; omega)) ?_ | refine vl_storeSl rfl rfl .none rfl rfl Tryd.sizeOf24 rfl (by simp [Value.cells]) (by repeat (first | exact .head | apply In.tail | apply Take.tail | apply Upd.tail)) (by first | decide | (simp [Value.cells]; omega)) ?_
    refine vl_val rfl (.some rfl) (val_assign rfl) ?_
    refine vl_nil ?_
    refine vc_ret ?_
    refine ⟨_, [], _, resC2 Tryd.results16 rfl (whole_agg Tryd.isAgg24 Tryd.sizeOf24 (cells_whole (by repeat (first | exact .head | apply In.tail | apply Take.tail | apply Upd.tail))) rfl) rfl, .nil, ?_⟩
    show _ = _
    first | rw [par_len hq (.inl hq0)] | rw [par_len hq (.inr hq39)]
    rfl
  · (try replace hg17 := of_decide_eq_false hg17)
    refine vl_on rfl rfl rfl rfl ?_
    refine vl_val rfl (.some rfl) (val_move rfl) ?_
    refine vl_on rfl rfl rfl rfl ?_
    refine vl_val rfl (.some rfl) (val_lenStr Tryd.runUnderlying9 rfl) ?_
    refine vl_on rfl rfl rfl rfl ?_
    refine vl_val rfl (.some rfl) (val_gt rfl rfl) ?_
    refine vl_val rfl (.some rfl) (val_pick rfl rfl) ?_
    refine vl_nil ?_
    refine vc_cond rfl (fun hc0 => ?_) (fun hc0 => ?_)
    · (try replace hc0 := of_decide_eq_true hc0)
      have hq39 : 39 < q.length := by omega
      refine vc_seq ?_
      refine vc_region ?_
      refine vl_val rfl (.some rfl) (val_buildSt (pl := #[(0, 1), (1, 1)]) (cs := #[.int .i64 (0), .int .u64 (0)]) Tryd.runUnderlying24 Tryd.zeroValue24 (fun w => by kernel_rfl) rfl rfl) ?_
      first | refine vl_store rfl rfl .none rfl rfl Tryd.sizeOf24 rfl (by repeat (first | exact .head | apply In.tail | apply Take.tail | apply Upd.tail)) (by first | decide | exact Nat.le_refl _ | exact Nat.le_of_ble_eq_true rfl | (simp; omega)) ?_ | refine vl_storeSl rfl rfl .none rfl rfl Tryd.sizeOf24 rfl (by simp [Value.cells]) (by repeat (first | exact .head | apply In.tail | apply Take.tail | apply Upd.tail)) (by first | decide | (simp [Value.cells]; omega)) ?_
      refine vl_val rfl (.some rfl) (val_assign rfl) ?_
      refine vl_nil ?_
      refine vc_ret ?_
      refine ⟨_, [], _, resC2 Tryd.results16 rfl (whole_agg Tryd.isAgg24 Tryd.sizeOf24 (cells_whole (by repeat (first | exact .head | apply In.tail | apply Take.tail | apply Upd.tail))) rfl) rfl, .nil, ?_⟩
      show _ = _
      first | rw [par_len hq (.inl hq0)] | rw [par_len hq (.inr hq39)]
      rfl
    · (try replace hc0 := of_decide_eq_false hc0)
      refine vc_skip ?_
      refine vc_seq ?_
      refine vc_region ?_
      refine vl_alloc rfl rfl (.some rfl) Tryd.zeroValue46 (fun r6 => ?_)
      refine vl_nil ?_
      refine vc_seq ?_
      refine vc_seq ?_
      refine vc_region ?_
      refine vl_val rfl (.some rfl) (val_move rfl) ?_
      refine vl_val rfl (.some rfl) (val_lenStr Tryd.runUnderlying9 rfl) ?_
      refine vl_val rfl (.some rfl) (val_move rfl) ?_
      refine vl_nil ?_
      refine vc_block ?_
      refine vc_loopw (fun m E H => ∃ i v : Nat, i ≤ q.length ∧ m = q.length - i ∧ dval (q.take i) = v ∧ E = [(0, .string (sL l)), (2, .pointer (some ⟨r2, 0, none⟩)), (4, .string (sL q)), (5, .bool (isNeg l)), (6, .pointer (some ⟨r6, 0, none⟩)), (24, .int .i64 (sL q).size), (25, .int .i64 i)] ∧ H = [cells r2 [.int .i64 0, .int .u64 0] 24, cells r6 [.int .u64 (hP (v : Int)), .int .u64 (lW (v : Int))] 46]) (q.length) ⟨_, _, _, ⟨0, 0, by omega, rfl, rfl, rfl, rfl⟩, (by repeat (first | exact trivial | refine ⟨rfl, ?_⟩ | refine ⟨le_item rfl (by first | rfl | (congr 1; omega) | (simp; done) | (simp; omega)), ?_⟩)), (by repeat (first | exact .nil | (apply Sub.cons; · repeat (first | exact .head | apply Take.tail))))⟩ ?_
      intro m E H hI
      obtain ⟨i, v, hi, rfl, hv, rfl, rfl⟩ := hI
      refine vc_seq ?_
      refine vc_region ?_
      refine vl_val rfl (.some rfl) (val_lt rfl rfl) ?_
      refine vl_nil ?_
      refine vc_seq ?_
      refine vc_cond rfl (fun hc1 => ?_) (fun hc1 => ?_)
      · (try replace hc1 := of_decide_eq_true hc1)
        have hbt : bt (sL q) (Int.toNat (i : Int)) = (q.getD i 0).toNat := by rw [Int.toNat_natCast, bt_sL]
        obtain ⟨dd, hdd⟩ : ∃ dd, (q.getD i 0).toNat - 48 = dd := ⟨_, rfl⟩
        have hd256 := (q.getD i 0).toNat_lt
        refine vc_skip ?_
        refine vc_seq ?_
        refine vc_block ?_
        refine vc_seq ?_
        refine vc_region ?_
        refine vl_val rfl (.some rfl) (val_move rfl) ?_
        refine vl_val rfl (.some rfl) (val_assign rfl) ?_
        refine vl_nil ?_
        refine vc_seq ?_
        refine vc_seq ?_
        refine vc_region ?_
        refine vl_val rfl (.some rfl) (val_move rfl) ?_
        refine vl_val rfl (.some rfl) (val_move rfl) ?_
        refine vl_val rfl (.some rfl) (val_indexStr Tryd.runUnderlying9 rfl rfl (by omega) (by first | omega | (simp; omega))) ?_
        refine vl_val rfl (.some rfl) (val_lt rfl rfl) ?_
        refine vl_val rfl (.some rfl) (val_move rfl) ?_
        refine vl_split (t := 32) rfl (fun hg32 => ?_) (fun hg32 => ?_)
        · (try replace hg32 := of_decide_eq_true hg32)
          have hd1 : (q.getD i 0).toNat < 48 := by omega
          refine vl_off rfl rfl rfl rfl (.some rfl) ?_
          refine vl_off rfl rfl rfl rfl (.some rfl) ?_
          refine vl_off rfl rfl rfl rfl (.some rfl) ?_
          refine vl_off rfl rfl rfl rfl (.some rfl) ?_
          refine vl_val rfl (.some rfl) (val_pick rfl rfl) ?_
          refine vl_nil ?_
          refine vc_cond rfl (fun _ => ?_) (fun h => by cases h)
          refine vc_seq ?_
          refine vc_region ?_
          refine vl_val rfl (.some rfl) (val_buildSt (pl := #[(0, 1), (1, 1)]) (cs := #[.int .i64 (0), .int .u64 (0)]) Tryd.runUnderlying24 Tryd.zeroValue24 (fun w => by kernel_rfl) rfl rfl) ?_
          first | refine vl_store rfl rfl .none rfl rfl Tryd.sizeOf24 rfl (by repeat (first | exact .head | apply In.tail | apply Take.tail | apply Upd.tail)) (by first | decide | exact Nat.le_refl _ | exact Nat.le_of_ble_eq_true rfl | (simp; omega)) ?_ | refine vl_storeSl rfl rfl .none rfl rfl Tryd.sizeOf24 rfl (by simp [Value.cells]) (by repeat (first | exact .head | apply In.tail | apply Take.tail | apply Upd.tail)) (by first | decide | (simp [Value.cells]; omega)) ?_
          refine vl_val rfl (.some rfl) (val_assign rfl) ?_
          refine vl_nil ?_
          refine vc_ret ?_
          refine ⟨_, [], _, resC2 Tryd.results16 rfl (whole_agg Tryd.isAgg24 Tryd.sizeOf24 (cells_whole (by repeat (first | exact .head | apply In.tail | apply Take.tail | apply Upd.tail))) rfl) rfl, .nil, ?_⟩
          show _ = _
          rw [par_dig (i := i) hq (by omega) (by omega)]
          rfl
        · (try replace hg32 := of_decide_eq_false hg32)
          have hd1 : ¬ (q.getD i 0).toNat < 48 := by omega
          refine vl_on rfl rfl rfl rfl ?_
          refine vl_val rfl (.some rfl) (val_move rfl) ?_
          refine vl_on rfl rfl rfl rfl ?_
          refine vl_val rfl (.some rfl) (val_move rfl) ?_
          refine vl_on rfl rfl rfl rfl ?_
          refine vl_val rfl (.some rfl) (val_indexStr Tryd.runUnderlying9 rfl rfl (by omega) (by first | omega | (simp; omega))) ?_
          refine vl_on rfl rfl rfl rfl ?_
          refine vl_val rfl (.some rfl) (val_gt rfl rfl) ?_
          refine vl_val rfl (.some rfl) (val_pick rfl rfl) ?_
          refine vl_nil ?_
          refine vc_cond rfl (fun hc2 => ?_) (fun hc2 => ?_)
          · (try replace hc2 := of_decide_eq_true hc2)
            refine vc_seq ?_
            refine vc_region ?_
            refine vl_val rfl (.some rfl) (val_buildSt (pl := #[(0, 1), (1, 1)]) (cs := #[.int .i64 (0), .int .u64 (0)]) Tryd.runUnderlying24 Tryd.zeroValue24 (fun w => by kernel_rfl) rfl rfl) ?_
            first | refine vl_store rfl rfl .none rfl rfl Tryd.sizeOf24 rfl (by repeat (first | exact .head | apply In.tail | apply Take.tail | apply Upd.tail)) (by first | decide | exact Nat.le_refl _ | exact Nat.le_of_ble_eq_true rfl | (simp; omega)) ?_ | refine vl_storeSl rfl rfl .none rfl rfl Tryd.sizeOf24 rfl (by simp [Value.cells]) (by repeat (first | exact .head | apply In.tail | apply Take.tail | apply Upd.tail)) (by first | decide | (simp [Value.cells]; omega)) ?_
            refine vl_val rfl (.some rfl) (val_assign rfl) ?_
            refine vl_nil ?_
            refine vc_ret ?_
            refine ⟨_, [], _, resC2 Tryd.results16 rfl (whole_agg Tryd.isAgg24 Tryd.sizeOf24 (cells_whole (by repeat (first | exact .head | apply In.tail | apply Take.tail | apply Upd.tail))) rfl) rfl, .nil, ?_⟩
            show _ = _
            rw [par_dig (i := i) hq (by omega) (by omega)]
            rfl
          · (try replace hc2 := of_decide_eq_false hc2)
            refine vc_skip ?_
            refine vc_seq ?_
            refine vc_region ?_
            refine vl_val rfl (.some rfl) (by first | exact val_fieldAddr Tryd.runUnderlying46 rfl Tryd.sizeOf22 rfl | exact val_fieldAddrR Tryd.runUnderlying46 rfl Tryd.sizeOf22 rfl) ?_
            refine vl_val rfl (.some rfl) (val_load Tryd.isAgg22 rfl (by first | exact cell_cells (by repeat (first | exact .head | apply In.tail | apply Take.tail | apply Upd.tail)) rfl | exact cell_rd (rd_sl (by repeat (first | exact .head | apply In.tail | apply Take.tail | apply Upd.tail))) (by first | exact bcells_at (by omega) | exact ucells_at (by omega) | exact icells_at (by omega) | exact tcells_at (by omega) | exact bcells_get (by omega) | exact icells_get (by omega) | exact tcells_get (by omega) | exact ucells_get (by omega)) | exact cell_rd (rd_old (by assumption) rfl) (by first | exact bcells_at (by omega) | exact ucells_at (by omega) | exact icells_at (by omega) | exact tcells_at (by omega) | exact bcells_get (by omega) | exact icells_get (by omega) | exact tcells_get (by omega) | exact ucells_get (by omega)) | exact cell_old (by assumption) (by simp [fps]))) ?_
            refine vl_callV rfl rfl (.some rfl) Tryd.call28 rfl (fun w hw => by have h := bMul64 (v % 18446744073709551616) 10 (by omega) (by decide) w; rw [← lW_nat v] at h; exact h) ?_
            rw [show ((v % 18446744073709551616 * 10 % 18446744073709551616 : Nat) : Int) = lW (10 * (v : Int)) by unfold lW; omega]
            refine vl_val rfl (.some rfl) (val_move rfl) ?_
            refine vl_val rfl (.some rfl) (val_extract rfl rfl) ?_
            refine vl_val rfl (.some rfl) (val_extract rfl rfl) ?_
            refine vl_val rfl (.some rfl) (val_assign rfl) ?_
            refine vl_val rfl (.some rfl) (val_assign rfl) ?_
            refine vl_nil ?_
            refine vc_drawsS [0, 1, 2, 3, 4, 5, 6, 7, 8, 9, 10, 11, 12] [14] [0, 1, 2, 3, 4, 5, 6, 7, 8, 9, 10, 11, 12, 13, 14] [cells r6 [.int .u64 (hP (v : Int)), .int .u64 (lW (v : Int))] 46] (by repeat (first | exact .nil | (apply Sub.cons; · repeat (first | exact .head | apply Take.tail)))) rfl (by kernel_rfl) (fun _ _ _ h => h) ?_
            refine vd_val rfl rfl rfl (.some rfl) (by first | exact val_fieldAddr Tryd.runUnderlying46 rfl Tryd.sizeOf22 rfl | exact val_fieldAddrR Tryd.runUnderlying46 rfl Tryd.sizeOf22 rfl) ?_
            refine vd_val rfl rfl rfl (.some rfl) (val_load Tryd.isAgg22 rfl (by first | exact cell_cells (by repeat (first | exact .head | apply In.tail | apply Take.tail | apply Upd.tail)) rfl | exact cell_rd (rd_sl (by repeat (first | exact .head | apply In.tail | apply Take.tail | apply Upd.tail))) (by first | exact bcells_at (by omega) | exact ucells_at (by omega) | exact icells_at (by omega) | exact tcells_at (by omega) | exact bcells_get (by omega) | exact icells_get (by omega) | exact tcells_get (by omega) | exact ucells_get (by omega)) | exact cell_rd (rd_old (by assumption) rfl) (by first | exact bcells_at (by omega) | exact ucells_at (by omega) | exact icells_at (by omega) | exact tcells_at (by omega) | exact bcells_get (by omega) | exact icells_get (by omega) | exact tcells_get (by omega) | exact ucells_get (by omega)) | exact cell_old (by assumption) (by simp [fps]))) ?_
            refine vd_val rfl rfl rfl (.some rfl) (val_mul rfl rfl (show _ = hP (v : Int) * 10 % 18446744073709551616 by rw [w_mod64])) ?_
            refine vd_val rfl rfl rfl (.some rfl) (val_move rfl) ?_
            refine vd_val rfl rfl rfl (.some rfl) (val_add rfl rfl (show _ = hP (10 * (v : Int)) by rw [w_mod64, hi10])) ?_
            refine vd_val rfl rfl rfl (.some rfl) (val_move rfl) ?_
            refine vd_val rfl rfl rfl (.some rfl) (val_buildSt (pl := #[(0, 1), (1, 1)]) (cs := #[.int .u64 (hP (10 * (v : Int))), .int .u64 (lW (10 * (v : Int)))]) Tryd.runUnderlying46 Tryd.zeroValue46 (fun w => by kernel_rfl) rfl rfl) ?_
            refine vd_val rfl rfl rfl (.some rfl) (val_move rfl) ?_
            refine vd_val rfl rfl rfl (.some rfl) (val_move rfl) ?_
            refine vd_val rfl rfl rfl (.some rfl) (val_indexStr Tryd.runUnderlying9 rfl rfl (by omega) (by first | omega | (simp; omega))) ?_
            refine vd_val rfl rfl rfl (.some rfl) (val_sub rfl rfl (show _ = ((dd : Nat) : Int) by rw [hbt, w8 (by omega) (by omega)]; omega)) ?_
            refine vd_val rfl rfl rfl (.some rfl) (val_convInt Tryd.runUnderlying5 Tryd.runUnderlying22 rfl (show _ = ((dd : Nat) : Int) by rw [w_u64 (by omega) (by omega)])) ?_
            refine vd_val rfl rfl rfl (.some rfl) (val_buildSt (pl := #[(0, 1), (1, 1)]) (cs := #[.int .u64 (0), .int .u64 (((dd : Nat) : Int))]) Tryd.runUnderlying46 Tryd.zeroValue46 (fun w => by kernel_rfl) rfl rfl) ?_
            refine vd_op rfl rfl ?_
            refine vl_callV rfl rfl (.some rfl) Tryd.call35 rfl (fun w hw => by have h := wPlus (10 * (v : Int)) (dd : Int) w; rw [pV_small (show dd < 18446744073709551616 by omega)] at h; exact h) ?_
            rw [show 10 * (v : Int) + (dd : Int) = ((dval (q.take (i + 1)) : Nat) : Int) by rw [dval_take (show i < q.length by omega), hv, hdd]; omega]
            refine vl_nil ?_
            refine ⟨fun _ => ⟨_, (by repeat (first | exact .nil | (apply Sub.cons; · repeat (first | exact .head | apply Take.tail))))⟩, ?_⟩
            refine vd_op rfl rfl ?_
            first | refine vl_store rfl rfl .none rfl rfl Tryd.sizeOf46 rfl (by repeat (first | exact .head | apply In.tail | apply Take.tail | apply Upd.tail)) (by first | decide | exact Nat.le_refl _ | exact Nat.le_of_ble_eq_true rfl | (simp; omega)) ?_ | refine vl_storeSl rfl rfl .none rfl rfl Tryd.sizeOf46 rfl (by simp [Value.cells]) (by repeat (first | exact .head | apply In.tail | apply Take.tail | apply Upd.tail)) (by first | decide | (simp [Value.cells]; omega)) ?_
            refine vl_nil ?_
            refine ⟨fun h => (by cases h), ?_⟩
            refine vd_nil ?_
            refine vc_region ?_
            refine vl_val rfl (.some rfl) (val_add rfl rfl (by first | exact w_i64 (by omega) (by omega) | rfl)) ?_
            refine vl_val rfl (.some rfl) (val_move rfl) ?_
            refine vl_nil ?_
            exact ⟨(q.length - (i + 1)), _, _, _, by omega, (by repeat (first | exact trivial | refine ⟨rfl, ?_⟩ | refine ⟨le_item rfl (by first | rfl | (congr 1; omega) | (simp; done) | (simp; omega)), ?_⟩)), (by repeat (first | exact .nil | (apply Sub.cons; · repeat (first | exact .head | apply Take.tail)))), ⟨i + 1, _, by omega, rfl, rfl, rfl, rfl⟩⟩
      · (try replace hc1 := of_decide_eq_false hc1)
        refine vc_exit ?_
        refine vc_seq ?_
        refine vc_seq ?_
        refine vc_region ?_
        obtain rfl : i = q.length := by omega
        rw [List.take_length] at hv
        subst hv
        refine vl_val rfl (.some rfl) (val_move rfl) ?_
        refine vl_nil ?_
        refine vc_cond rfl (fun hc3 => ?_) (fun hc3 => ?_)
        · (try replace hc3 := of_decide_eq_true hc3)
          
          refine vc_region ?_
          refine vl_val rfl (.some rfl) (val_buildSt (pl := #[(0, 1), (1, 1)]) (cs := #[.int .u64 (hP 0), .int .u64 (lW 0)]) Tryd.runUnderlying46 Tryd.zeroValue46 (fun w => by kernel_rfl) rfl rfl) ?_
          refine vl_val rfl (.some rfl) (val_loadAgg Tryd.isAgg46 Tryd.sizeOf46 rfl (by first | exact cells_whole (by repeat (first | exact .head | apply In.tail | apply Take.tail | apply Upd.tail)) | exact cells_part (by repeat (first | exact .head | apply In.tail | apply Take.tail | apply Upd.tail)) rfl) rfl) ?_
          refine vl_callV rfl rfl (.some rfl) Tryd.call29 rfl (fun w hw => wMinus 0 (dval q : Nat) w) ?_
          rw [sval_neg hq (by simpa using hc3)]
          first | refine vl_store rfl rfl .none rfl rfl Tryd.sizeOf46 rfl (by repeat (first | exact .head | apply In.tail | apply Take.tail | apply Upd.tail)) (by first | decide | exact Nat.le_refl _ | exact Nat.le_of_ble_eq_true rfl | (simp; omega)) ?_ | refine vl_storeSl rfl rfl .none rfl rfl Tryd.sizeOf46 rfl (by simp [Value.cells]) (by repeat (first | exact .head | apply In.tail | apply Take.tail | apply Upd.tail)) (by first | decide | (simp [Value.cells]; omega)) ?_
          refine vl_nil ?_
          refine vc_seq ?_
          refine vc_seq ?_
          refine vc_region ?_
          refine vl_val rfl (.some rfl) (val_loadAgg Tryd.isAgg46 Tryd.sizeOf46 rfl (by first | exact cells_whole (by repeat (first | exact .head | apply In.tail | apply Take.tail | apply Upd.tail)) | exact cells_part (by repeat (first | exact .head | apply In.tail | apply Take.tail | apply Upd.tail)) rfl) rfl) ?_
          refine vl_callV rfl rfl (.some rfl) Tryd.call30 rfl (fun w hw => wWide (sval l) w) ?_
          refine vl_callV rfl rfl (.some rfl) Tryd.call18 rfl (fun w hw => by have h := wPrint (smW (sval l)) (smW_in _) w; rw [smW_is] at h; exact h) ?_
          refine vl_val rfl (.some rfl) (val_move rfl) ?_
          refine vl_val rfl (.some rfl) (val_sne rfl rfl) ?_
          refine vl_nil ?_
          refine vc_cond rfl (fun hc4 => ?_) (fun hc4 => ?_)
          · (try replace hc4 := of_decide_eq_true hc4)
            refine vc_seq ?_
            refine vc_region ?_
            refine vl_val rfl (.some rfl) (val_buildSt (pl := #[(0, 1), (1, 1)]) (cs := #[.int .i64 (0), .int .u64 (0)]) Tryd.runUnderlying24 Tryd.zeroValue24 (fun w => by kernel_rfl) rfl rfl) ?_
            first | refine vl_store rfl rfl .none rfl rfl Tryd.sizeOf24 rfl (by repeat (first | exact .head | apply In.tail | apply Take.tail | apply Upd.tail)) (by first | decide | exact Nat.le_refl _ | exact Nat.le_of_ble_eq_true rfl | (simp; omega)) ?_ | refine vl_storeSl rfl rfl .none rfl rfl Tryd.sizeOf24 rfl (by simp [Value.cells]) (by repeat (first | exact .head | apply In.tail | apply Take.tail | apply Upd.tail)) (by first | decide | (simp [Value.cells]; omega)) ?_
            refine vl_val rfl (.some rfl) (val_assign rfl) ?_
            refine vl_nil ?_
            refine vc_ret ?_
            refine ⟨_, [], _, resC2 Tryd.results16 rfl (whole_agg Tryd.isAgg24 Tryd.sizeOf24 (cells_whole (by repeat (first | exact .head | apply In.tail | apply Take.tail | apply Upd.tail))) rfl) rfl, .nil, ?_⟩
            show _ = _
            rw [par_no (fun e => (show ¬ sL (prL (smW (sval l))) = sL l by simpa using hc4) (by rw [e]))]
            rfl
          · (try replace hc4 := of_decide_eq_false hc4)
            refine vc_skip ?_
            refine vc_seq ?_
            refine vc_region ?_
            refine vl_val rfl (.some rfl) (val_loadAgg Tryd.isAgg46 Tryd.sizeOf46 rfl (by first | exact cells_whole (by repeat (first | exact .head | apply In.tail | apply Take.tail | apply Upd.tail)) | exact cells_part (by repeat (first | exact .head | apply In.tail | apply Take.tail | apply Upd.tail)) rfl) rfl) ?_
            refine vl_callV rfl rfl (.some rfl) Tryd.call30 rfl (fun w hw => wWide (sval l) w) ?_
            first | refine vl_store rfl rfl .none rfl rfl Tryd.sizeOf24 rfl (by repeat (first | exact .head | apply In.tail | apply Take.tail | apply Upd.tail)) (by first | decide | exact Nat.le_refl _ | exact Nat.le_of_ble_eq_true rfl | (simp; omega)) ?_ | refine vl_storeSl rfl rfl .none rfl rfl Tryd.sizeOf24 rfl (by simp [Value.cells]) (by repeat (first | exact .head | apply In.tail | apply Take.tail | apply Upd.tail)) (by first | decide | (simp [Value.cells]; omega)) ?_
            refine vl_val rfl (.some rfl) (val_assign rfl) ?_
            refine vl_nil ?_
            refine vc_ret ?_
            refine ⟨_, [], _, resC2 Tryd.results16 rfl (whole_agg Tryd.isAgg24 Tryd.sizeOf24 (cells_whole (by repeat (first | exact .head | apply In.tail | apply Take.tail | apply Upd.tail))) rfl) rfl, .nil, ?_⟩
            show _ = _
            obtain ⟨h1, h2⟩ := par_yes (l := l) (sL_inj.1 (by simpa using hc4))
            rw [h2]
            rfl
        · (try replace hc3 := of_decide_eq_false hc3)
          rw [show ((dval q : Nat) : Int) = sval l from sval_pos hq (by simpa using hc3)]
          refine vc_skip ?_
          refine vc_seq ?_
          refine vc_seq ?_
          refine vc_region ?_
          refine vl_val rfl (.some rfl) (val_loadAgg Tryd.isAgg46 Tryd.sizeOf46 rfl (by first | exact cells_whole (by repeat (first | exact .head | apply In.tail | apply Take.tail | apply Upd.tail)) | exact cells_part (by repeat (first | exact .head | apply In.tail | apply Take.tail | apply Upd.tail)) rfl) rfl) ?_
          refine vl_callV rfl rfl (.some rfl) Tryd.call30 rfl (fun w hw => wWide (sval l) w) ?_
          refine vl_callV rfl rfl (.some rfl) Tryd.call18 rfl (fun w hw => by have h := wPrint (smW (sval l)) (smW_in _) w; rw [smW_is] at h; exact h) ?_
          refine vl_val rfl (.some rfl) (val_move rfl) ?_
          refine vl_val rfl (.some rfl) (val_sne rfl rfl) ?_
          refine vl_nil ?_
          refine vc_cond rfl (fun hc4 => ?_) (fun hc4 => ?_)
          · (try replace hc4 := of_decide_eq_true hc4)
            refine vc_seq ?_
            refine vc_region ?_
            refine vl_val rfl (.some rfl) (val_buildSt (pl := #[(0, 1), (1, 1)]) (cs := #[.int .i64 (0), .int .u64 (0)]) Tryd.runUnderlying24 Tryd.zeroValue24 (fun w => by kernel_rfl) rfl rfl) ?_
            first | refine vl_store rfl rfl .none rfl rfl Tryd.sizeOf24 rfl (by repeat (first | exact .head | apply In.tail | apply Take.tail | apply Upd.tail)) (by first | decide | exact Nat.le_refl _ | exact Nat.le_of_ble_eq_true rfl | (simp; omega)) ?_ | refine vl_storeSl rfl rfl .none rfl rfl Tryd.sizeOf24 rfl (by simp [Value.cells]) (by repeat (first | exact .head | apply In.tail | apply Take.tail | apply Upd.tail)) (by first | decide | (simp [Value.cells]; omega)) ?_
            refine vl_val rfl (.some rfl) (val_assign rfl) ?_
            refine vl_nil ?_
            refine vc_ret ?_
            refine ⟨_, [], _, resC2 Tryd.results16 rfl (whole_agg Tryd.isAgg24 Tryd.sizeOf24 (cells_whole (by repeat (first | exact .head | apply In.tail | apply Take.tail | apply Upd.tail))) rfl) rfl, .nil, ?_⟩
            show _ = _
            rw [par_no (fun e => (show ¬ sL (prL (smW (sval l))) = sL l by simpa using hc4) (by rw [e]))]
            rfl
          · (try replace hc4 := of_decide_eq_false hc4)
            refine vc_skip ?_
            refine vc_seq ?_
            refine vc_region ?_
            refine vl_val rfl (.some rfl) (val_loadAgg Tryd.isAgg46 Tryd.sizeOf46 rfl (by first | exact cells_whole (by repeat (first | exact .head | apply In.tail | apply Take.tail | apply Upd.tail)) | exact cells_part (by repeat (first | exact .head | apply In.tail | apply Take.tail | apply Upd.tail)) rfl) rfl) ?_
            refine vl_callV rfl rfl (.some rfl) Tryd.call30 rfl (fun w hw => wWide (sval l) w) ?_
            first | refine vl_store rfl rfl .none rfl rfl Tryd.sizeOf24 rfl (by repeat (first | exact .head | apply In.tail | apply Take.tail | apply Upd.tail)) (by first | decide | exact Nat.le_refl _ | exact Nat.le_of_ble_eq_true rfl | (simp; omega)) ?_ | refine vl_storeSl rfl rfl .none rfl rfl Tryd.sizeOf24 rfl (by simp [Value.cells]) (by repeat (first | exact .head | apply In.tail | apply Take.tail | apply Upd.tail)) (by first | decide | (simp [Value.cells]; omega)) ?_
            refine vl_val rfl (.some rfl) (val_assign rfl) ?_
            refine vl_nil ?_
            refine vc_ret ?_
            refine ⟨_, [], _, resC2 Tryd.results16 rfl (whole_agg Tryd.isAgg24 Tryd.sizeOf24 (cells_whole (by repeat (first | exact .head | apply In.tail | apply Take.tail | apply Upd.tail))) rfl) rfl, .nil, ?_⟩
            show _ = _
            obtain ⟨h1, h2⟩ := par_yes (l := l) (sL_inj.1 (by simpa using hc4))
            rw [h2]
            rfl
set_option maxRecDepth 20000 in
set_option maxHeartbeats 1000000 in
theorem wLives (w : World) : FnV Tryd.prog 15 [] (.bool true) w := by
  refine fn_enter Tryd.func15 rfl Tryd.ntmps15 rfl ?_
  refine vc_seq ?_
  refine vc_region ?_
  refine vl_val rfl (.some rfl) (val_assign rfl) ?_
  refine vl_nil ?_
  refine vc_seq ?_
  refine vc_region ?_
  refine vl_callV rfl rfl (.some rfl) Tryd.call11 rfl (fun w hw => wOf 9223372036854775807 (by decide) w) ?_
  refine vl_callV rfl rfl (.some rfl) Tryd.call11 rfl (fun w hw => wOf 1 (by decide) w) ?_
  refine vl_callV rfl rfl (.some rfl) Tryd.call20 rfl (fun w hw => wAdd 9223372036854775807 1 (by decide) (by decide) w) ?_
  rw [show clW (9223372036854775807 + 1) = 9223372036854775808 by decide, decide_eq_true (show inW (9223372036854775807 + 1) by decide)]
  refine vl_val rfl (.some rfl) (val_move rfl) ?_
  refine vl_val rfl (.some rfl) (val_extract rfl rfl) ?_
  refine vl_val rfl (.some rfl) (val_extract rfl rfl) ?_
  refine vl_alloc rfl rfl (.some rfl) Tryd.zeroValue24 (fun r1 => ?_)
  first | refine vl_store rfl rfl .none rfl rfl Tryd.sizeOf24 rfl (by repeat (first | exact .head | apply In.tail | apply Take.tail | apply Upd.tail)) (by first | decide | exact Nat.le_refl _ | exact Nat.le_of_ble_eq_true rfl | (simp; omega)) ?_ | refine vl_storeSl rfl rfl .none rfl rfl Tryd.sizeOf24 rfl (by simp [Value.cells]) (by repeat (first | exact .head | apply In.tail | apply Take.tail | apply Upd.tail)) (by first | decide | (simp [Value.cells]; omega)) ?_
  refine vl_val rfl (.some rfl) (val_assign rfl) ?_
  refine vl_nil ?_
  refine vc_seq ?_
  refine vc_region ?_
  refine vl_val rfl (.some rfl) (val_loadAgg Tryd.isAgg24 Tryd.sizeOf24 rfl (by first | exact cells_whole (by repeat (first | exact .head | apply In.tail | apply Take.tail | apply Upd.tail)) | exact cells_part (by repeat (first | exact .head | apply In.tail | apply Take.tail | apply Upd.tail)) rfl) rfl) ?_
  refine vl_callV rfl rfl (.some rfl) Tryd.call9 rfl (fun w hw => wFits 9223372036854775808 (by decide) w) ?_
  rw [decide_eq_false (show ¬ inI 9223372036854775808 by decide)]
  refine vl_val rfl (.some rfl) (val_move rfl) ?_
  refine vl_val rfl (.some rfl) (val_extract rfl rfl) ?_
  refine vl_val rfl (.some rfl) (val_extract rfl rfl) ?_
  refine vl_val rfl (.some rfl) (val_assign rfl) ?_
  refine vl_val rfl (.some rfl) (val_assign rfl) ?_
  refine vl_nil ?_
  refine vc_seq ?_
  refine vc_region ?_
  refine vl_callV rfl rfl (.some rfl) Tryd.call16 rfl (fun w hw => wParse [45, 48] (by decide) w) ?_
  rw [show parO [45, 48] = none by decide +kernel]
  refine vl_val rfl (.some rfl) (val_move rfl) ?_
  refine vl_val rfl (.some rfl) (val_extract rfl rfl) ?_
  refine vl_val rfl (.some rfl) (val_extract rfl rfl) ?_
  refine vl_alloc rfl rfl (.some rfl) Tryd.zeroValue24 (fun r5 => ?_)
  first | refine vl_store rfl rfl .none rfl rfl Tryd.sizeOf24 rfl (by repeat (first | exact .head | apply In.tail | apply Take.tail | apply Upd.tail)) (by first | decide | exact Nat.le_refl _ | exact Nat.le_of_ble_eq_true rfl | (simp; omega)) ?_ | refine vl_storeSl rfl rfl .none rfl rfl Tryd.sizeOf24 rfl (by simp [Value.cells]) (by repeat (first | exact .head | apply In.tail | apply Take.tail | apply Upd.tail)) (by first | decide | (simp [Value.cells]; omega)) ?_
  refine vl_val rfl (.some rfl) (val_assign rfl) ?_
  refine vl_nil ?_
  refine vc_seq ?_
  refine vc_region ?_
  refine vl_val rfl (.some rfl) (val_move rfl) ?_
  refine vl_val rfl (.some rfl) (val_move rfl) ?_
  refine vl_on rfl rfl rfl rfl ?_
  refine vl_val rfl (.some rfl) (val_loadAgg Tryd.isAgg24 Tryd.sizeOf24 rfl (by first | exact cells_whole (by repeat (first | exact .head | apply In.tail | apply Take.tail | apply Upd.tail)) | exact cells_part (by repeat (first | exact .head | apply In.tail | apply Take.tail | apply Upd.tail)) rfl) rfl) ?_
  refine vl_on rfl rfl rfl rfl ?_
  refine vl_val rfl (.some rfl) (val_buildSt (pl := #[(0, 1), (1, 1)]) (cs := #[.int .i64 (hW 9223372036854775808), .int .u64 (lW 9223372036854775808)]) Tryd.runUnderlying24 Tryd.zeroValue24 (fun w => by kernel_rfl) rfl rfl) ?_
  refine vl_on rfl rfl rfl rfl ?_
  refine vl_val rfl (.some rfl) (val_opO rfl rfl (fun w => run_eqGuard_agg w _ _ _ _ _ _ (by kernel_rfl)) (bin_agg_eq (b := true) (fun w => (wide_equal 9223372036854775808 9223372036854775808 (by decide) (by decide) w).trans (by simp)))) ?_
  refine vl_val rfl (.some rfl) (val_pick rfl rfl) ?_
  refine vl_val rfl (.some rfl) (val_move rfl) ?_
  refine vl_on rfl rfl rfl rfl ?_
  refine vl_val rfl (.some rfl) (val_move rfl) ?_
  refine vl_on rfl rfl rfl rfl ?_
  refine vl_val rfl (.some rfl) (val_not rfl) ?_
  refine vl_val rfl (.some rfl) (val_pick rfl rfl) ?_
  refine vl_val rfl (.some rfl) (val_move rfl) ?_
  refine vl_on rfl rfl rfl rfl ?_
  refine vl_callV rfl rfl (.some rfl) Tryd.call13 rfl (fun w hw => wMul (-9223372036854775808) 2 (by decide) (by decide) w) ?_
  refine vl_on rfl rfl rfl rfl ?_
  refine vl_callV rfl rfl (.some rfl) Tryd.call18 rfl (fun w hw => wPrint (-9223372036854775808 * 2) (by decide) w) ?_
  rw [show prL (-9223372036854775808 * 2) = [45, 49, 56, 52, 52, 54, 55, 52, 52, 48, 55, 51, 55, 48, 57, 53, 53, 49, 54, 49, 54] by decide +kernel]
  refine vl_on rfl rfl rfl rfl ?_
  refine vl_val rfl (.some rfl) (val_seqt rfl rfl (rfl)) ?_
  refine vl_val rfl (.some rfl) (val_pick rfl rfl) ?_
  refine vl_val rfl (.some rfl) (val_move rfl) ?_
  refine vl_on rfl rfl rfl rfl ?_
  refine vl_val rfl (.some rfl) (val_move rfl) ?_
  refine vl_on rfl rfl rfl rfl ?_
  refine vl_val rfl (.some rfl) (val_not rfl) ?_
  refine vl_val rfl (.some rfl) (val_pick rfl rfl) ?_
  refine vl_val rfl (.some rfl) (val_assign rfl) ?_
  refine vl_nil ?_
  refine vc_ret ?_
  refine ⟨_, [], _, res1 Tryd.results15 rfl, .nil, ?_⟩
  rfl

end Go.Proofs.YtpgopfidbmiifaaDoor.K
