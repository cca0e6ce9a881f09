/- Walks of the program's functions, printed by a program of this session; Lean checks them. -/
import Derived.Test.YtdehjgpdcdjhjaaDoorYsr
namespace Go.Proofs.YtdehjgpdcdjhjaaDoor.K
open Go Go.RowKit Go.Proofs
set_option linter.unusedVariables false
set_option linter.unusedSimpArgs false


theorem tab_zero {nm : List UInt8} {cs : List Cq} (h : tabE nm cs = 0) : (∀ x ∈ cs.map fstQ, nameP x) ∧ (cs.map fstQ).Nodup := by
  by_cases h1 : nameP nm
  · by_cases h2 : ∀ x ∈ cs.map fstQ, nameP x
    · by_cases h3 : 1 ≤ (cs.length : Int) ∧ (cs.length : Int) ≤ 8
      · by_cases h4 : ∀ x ∈ cs, 1 ≤ x.2 ∧ x.2 ≤ 4
        · by_cases h5 : (cs.map fstQ).Nodup
          · exact ⟨h2, h5⟩
          · rw [tab_5 h1 h2 h3 h4 h5] at h; cases h
        · rw [tab_4 h1 h2 h3 h4] at h; cases h
      · rw [tab_3 h1 h2 h3] at h; cases h
    · rw [tab_2 h1 h2] at h; cases h
  · rw [tab_1 h1] at h; cases h
theorem rol_zero {rn rt : List UInt8} {ds : List (List UInt8)} {ms : List Mq} {tn : List UInt8} {cs : List Cq} (h : rolE rn rt ds ms tn cs = 0) : ∀ x ∈ ds, colB cs x = true := by
  by_cases h1 : nameP rn
  · by_cases h2 : rt = tn
    · by_cases h3 : ds.length ≤ 8 ∧ ms.length ≤ 16
      · by_cases h4 : ∀ x ∈ ms, 1 ≤ x.1 ∧ x.1 ≤ 7
        · by_cases h5 : ∀ x ∈ ds, colB cs x = true
          · exact h5
          · rw [rol_5 h1 h2 h3 h4 h5] at h; cases h
        · rw [rol_4 h1 h2 h3 h4] at h; cases h
      · rw [rol_3 h1 h2 h3] at h; cases h
    · rw [rol_2 h1 h2] at h; cases h
  · rw [rol_1 h1] at h; cases h
theorem col_own {cs : List Cq} (h : (cs.map fstQ).Nodup) {i : Nat} (hi : i < cs.length) : colN cs (cs.getD i ([], 0)).1 = (i : Int) ∧ colK cs (cs.getD i ([], 0)).1 = (cs.getD i ([], 0)).2 ∧ colB cs (cs.getD i ([], 0)).1 = true := by
  have e : colI cs (cs.getD i ([], 0)).1 = i := colI_at hi rfl fun j hj e => nodup_atM [] (i := i) (by rw [List.length_map]; exact hi) (by
    rw [fst_getD, ← e, ← fst_getD]
    exact getD_in [] hj (by rw [List.length_map]; omega)) h
  unfold colN colK colB
  rw [e, if_pos hi, if_pos hi, decide_eq_true hi]
  exact ⟨rfl, rfl, rfl⟩

set_option maxRecDepth 20000 in
set_option maxHeartbeats 2000000 in
theorem xRight (tn : List UInt8) (hlb : tn.length < 9223372036854775808) (A : Option Addr) (n c : Nat) (cs : List Cq) (hn : cs.length = n) (hnb : n ≤ 6000000000000) (hx : ∀ x ∈ cs, x.1.length < 9223372036854775808) (rn rt : List UInt8) (hlr : rn.length < 9223372036854775808) (Ad : Option Addr) (nd cd : Nat) (ds : List (List UInt8)) (hnd : ds.length = nd) (hdb : nd < 9223372036854775808) (hcd : nd ≤ cd) (Am : Option Addr) (nm cm : Nat) (ms : List Mq) (hnm : ms.length = nm) (hmb : nm < 9223372036854775808) (hcm : nm ≤ cm) (w : World) (hr : Reads w A (cs.flatMap colV)) (hrd : Reads w Ad (tcS ds)) (hrm : Reads w Am (ms.flatMap meaV)) : FnV Tryd.prog 6 [.agg #[.string (sL tn), .slice A n c], .agg #[.string (sL rn), .string (sL rt), .slice Ad nd cd, .slice Am nm cm]] (.bool true) w := by
  have hxn : ∀ i, (cs.getD i ([], 0)).1.length < 9223372036854775808 := fun i => by have := nm_lt hx hn i; rwa [fst_getD] at this
  refine fn_enter Tryd.func6 rfl Tryd.ntmps6 rfl ?_
  refine vc_seq ?_
  refine vc_region ?_
  refine vl_box rfl rfl (.some rfl) rfl (fun r2 => ?_)
  refine vl_box rfl rfl (.some rfl) rfl (fun r3 => ?_)
  refine vl_val rfl (.some rfl) (val_assign rfl) ?_
  refine vl_nil ?_
  refine vc_seq ?_
  refine vc_seq ?_
  refine vc_region ?_
  refine vl_val rfl (.some rfl) (val_loadAgg Tryd.isAgg26 Tryd.sizeOf26 rfl (by first | exact cells_whole (by repeat (first | exact .head | apply In.tail | apply Take.tail | apply Upd.tail)) | exact cells_part (by repeat (first | exact .head | apply In.tail | apply Take.tail | apply Upd.tail)) rfl) rfl) ?_
  refine vl_callV rfl rfl (.some rfl) Tryd.call13 rfl (fun w hw => xTable tn hlb A n c cs hn hnb hx w (rdw (rd_old hr rfl) hw)) ?_
  refine vl_val rfl (.some rfl) (val_ne rfl rfl) ?_
  refine vl_val rfl (.some rfl) (val_move rfl) ?_
  refine vl_split (t := 20) rfl (fun hg20 => ?_) (fun hg20 => ?_)
  · (try replace hg20 := of_decide_eq_true hg20)
    refine vl_off rfl rfl rfl rfl (.some rfl) ?_
    refine vl_off rfl rfl rfl rfl (.some rfl) ?_
    refine vl_off rfl rfl rfl rfl (.some rfl) ?_
    refine vl_off rfl rfl rfl rfl (.some rfl) ?_
    refine vl_val rfl (.some rfl) (val_pick rfl rfl) ?_
    refine vl_nil ?_
    refine vc_cond rfl (fun _ => ?_) (fun h => by cases h)
    refine vc_seq ?_
    refine vc_region ?_
    refine vl_callV rfl rfl (.some rfl) Tryd.call8 rfl (fun w hw => xLives w) ?_
    refine vl_val rfl (.some rfl) (val_assign rfl) ?_
    refine vl_nil ?_
    refine vc_ret ?_
    refine ⟨_, [], _, res1 Tryd.results6 rfl, .nil, ?_⟩
    rfl
  · (try replace hg20 := of_decide_eq_false hg20)
    refine vl_on rfl rfl rfl rfl ?_
    refine vl_val rfl (.some rfl) (by first | exact val_fieldAddr Tryd.runUnderlying30 rfl Tryd.sizeOf27 rfl | exact val_fieldAddrR Tryd.runUnderlying30 rfl Tryd.sizeOf27 rfl) ?_
    refine vl_on rfl rfl rfl rfl ?_
    refine vl_val rfl (.some rfl) (val_load Tryd.isAgg27 rfl (by first | exact cell_cells (by repeat (first | exact .head | apply In.tail | apply Take.tail | apply Upd.tail)) rfl | exact cell_rd (rd_sl (by repeat (first | exact .head | apply In.tail | apply Take.tail | apply Upd.tail))) (by first | exact bcells_at (by omega) | exact ucells_at (by omega) | exact icells_at (by omega) | exact tcells_at (by omega) | exact bcells_get (by omega) | exact icells_get (by omega) | exact tcells_get (by omega) | exact ucells_get (by omega)) | exact cell_rd (rd_old (by assumption) rfl) (by first | exact bcells_at (by omega) | exact ucells_at (by omega) | exact icells_at (by omega) | exact tcells_at (by omega) | exact bcells_get (by omega) | exact icells_get (by omega) | exact tcells_get (by omega) | exact ucells_get (by omega)) | exact cell_old (by assumption) (by simp [fps]))) ?_
    refine vl_on rfl rfl rfl rfl ?_
    refine vl_val rfl (.some rfl) (val_lenSl Tryd.runUnderlying27 rfl) ?_
    refine vl_on rfl rfl rfl rfl ?_
    refine vl_val rfl (.some rfl) (val_gt rfl rfl) ?_
    refine vl_val rfl (.some rfl) (val_pick rfl rfl) ?_
    refine vl_nil ?_
    refine vc_cond rfl (fun hc0 => ?_) (fun hc0 => ?_)
    · (try replace hc0 := of_decide_eq_true hc0)
      refine vc_seq ?_
      refine vc_region ?_
      refine vl_callV rfl rfl (.some rfl) Tryd.call8 rfl (fun w hw => xLives w) ?_
      refine vl_val rfl (.some rfl) (val_assign rfl) ?_
      refine vl_nil ?_
      refine vc_ret ?_
      refine ⟨_, [], _, res1 Tryd.results6 rfl, .nil, ?_⟩
      rfl
    · (try replace hc0 := of_decide_eq_false hc0)
      have ht0 : tabE tn cs = 0 := by omega
      obtain ⟨hnms, hnod⟩ := tab_zero ht0
      refine vc_skip ?_
      refine vc_seq ?_
      refine vc_seq ?_
      refine vc_region ?_
      refine vl_val rfl (.some rfl) (by first | exact val_fieldAddr Tryd.runUnderlying26 rfl Tryd.sizeOf24 rfl | exact val_fieldAddrR Tryd.runUnderlying26 rfl Tryd.sizeOf24 rfl) ?_
      refine vl_val rfl (.some rfl) (val_load Tryd.isAgg24 rfl (by first | exact cell_cells (by repeat (first | exact .head | apply In.tail | apply Take.tail | apply Upd.tail)) rfl | exact cell_rd (rd_sl (by repeat (first | exact .head | apply In.tail | apply Take.tail | apply Upd.tail))) (by first | exact bcells_at (by omega) | exact ucells_at (by omega) | exact icells_at (by omega) | exact tcells_at (by omega) | exact bcells_get (by omega) | exact icells_get (by omega) | exact tcells_get (by omega) | exact ucells_get (by omega)) | exact cell_rd (rd_old (by assumption) rfl) (by first | exact bcells_at (by omega) | exact ucells_at (by omega) | exact icells_at (by omega) | exact tcells_at (by omega) | exact bcells_get (by omega) | exact icells_get (by omega) | exact tcells_get (by omega) | exact ucells_get (by omega)) | exact cell_old (by assumption) (by simp [fps]))) ?_
      refine vl_val rfl (.some rfl) (val_lenSl Tryd.runUnderlying24 rfl) ?_
      refine vl_val rfl (.some rfl) (val_move rfl) ?_
      refine vl_nil ?_
      refine vc_block ?_
      refine vc_loopw (fun m E H => ∃ i : Nat, i ≤ n ∧ m = n - i ∧ (∀ j, j < i → True) ∧ E = [(2, .pointer (some ⟨r2, 0, none⟩)), (3, .pointer (some ⟨r3, 0, none⟩)), (28, .slice A n c), (29, .int .i64 n), (30, .int .i64 i)] ∧ H = [cells r3 [.string (sL rn), .string (sL rt), .slice Ad nd cd, .slice Am nm cm] 30, cells r2 [.string (sL tn), .slice A n c] 26]) (n) ⟨_, _, _, ⟨0, by omega, rfl, fun j hj => absurd hj (by omega), rfl, rfl⟩, (by repeat (first | exact trivial | refine ⟨rfl, ?_⟩ | refine ⟨le_item rfl (by first | rfl | (congr 1; omega) | (simp; done) | (simp; omega)), ?_⟩)), (by repeat (first | exact .nil | (apply Sub.cons; · repeat (first | exact .head | apply Take.tail))))⟩ ?_
      intro m E H hI
      obtain ⟨i, hi, rfl, htr, rfl, rfl⟩ := hI
      refine vc_seq ?_
      refine vc_region ?_
      refine vl_val rfl (.some rfl) (val_lt rfl rfl) ?_
      refine vl_nil ?_
      refine vc_seq ?_
      refine vc_cond rfl (fun hc1 => ?_) (fun hc1 => ?_)
      · (try replace hc1 := of_decide_eq_true hc1)
        refine vc_skip ?_
        refine vc_seq ?_
        refine vc_block ?_
        refine vc_seq ?_
        refine vc_region ?_
        refine vl_val rfl (.some rfl) (val_move rfl) ?_
        refine vl_val rfl (.some rfl) (val_indexAddr Tryd.runUnderlying24 Tryd.sizeOf41 rfl rfl (vs := cs.flatMap colV) (rd_old hr rfl) (by omega) (by omega) (by rw [colC_len, Int.toNat_natCast]; omega)) ?_
        refine vl_val rfl (.some rfl) (val_loadAgg Tryd.isAgg41 Tryd.sizeOf41 rfl (cells_rd (us := colV (cs.getD i ([], 0))) (rd_old hr rfl) (colC_at rfl (by omega))) rfl) ?_
        refine vl_alloc rfl rfl (.some rfl) Tryd.zeroValue41 (fun r6 => ?_)
        refine vl_val rfl (.some rfl) (val_assign rfl) ?_
        first | refine vl_store rfl rfl .none rfl rfl Tryd.sizeOf41 rfl (by repeat (first | exact .head | apply In.tail | apply Take.tail | apply Upd.tail)) (by first | decide | exact Nat.le_refl _ | exact Nat.le_of_ble_eq_true rfl | (simp; omega)) ?_ | refine vl_storeSl rfl rfl .none rfl rfl Tryd.sizeOf41 rfl (by simp [Value.cells]) (by repeat (first | exact .head | apply In.tail | apply Take.tail | apply Upd.tail)) (by first | decide | (simp [Value.cells]; omega)) ?_
        refine vl_nil ?_
        refine vc_seq ?_
        refine vc_region ?_
        refine vl_val rfl (.some rfl) (val_loadAgg Tryd.isAgg26 Tryd.sizeOf26 rfl (by first | exact cells_whole (by repeat (first | exact .head | apply In.tail | apply Take.tail | apply Upd.tail)) | exact cells_part (by repeat (first | exact .head | apply In.tail | apply Take.tail | apply Upd.tail)) rfl) rfl) ?_
        refine vl_val rfl (.some rfl) (by first | exact val_fieldAddr Tryd.runUnderlying41 rfl Tryd.sizeOf9 rfl | exact val_fieldAddrR Tryd.runUnderlying41 rfl Tryd.sizeOf9 rfl) ?_
        refine vl_val rfl (.some rfl) (val_load Tryd.isAgg9 rfl (by first | exact cell_cells (by repeat (first | exact .head | apply In.tail | apply Take.tail | apply Upd.tail)) rfl | exact cell_rd (rd_sl (by repeat (first | exact .head | apply In.tail | apply Take.tail | apply Upd.tail))) (by first | exact bcells_at (by omega) | exact ucells_at (by omega) | exact icells_at (by omega) | exact tcells_at (by omega) | exact bcells_get (by omega) | exact icells_get (by omega) | exact tcells_get (by omega) | exact ucells_get (by omega)) | exact cell_rd (rd_old (by assumption) rfl) (by first | exact bcells_at (by omega) | exact ucells_at (by omega) | exact icells_at (by omega) | exact tcells_at (by omega) | exact bcells_get (by omega) | exact icells_get (by omega) | exact tcells_get (by omega) | exact ucells_get (by omega)) | exact cell_old (by assumption) (by simp [fps]))) ?_
        refine vl_callV rfl rfl (.some rfl) Tryd.call11 rfl (fun w hw => xColumn A n c cs hn (by omega) (sL tn) (cs.getD i ([], 0)).1 w (rdw (rd_old hr rfl) hw)) ?_
        obtain ⟨hN, hK, hB⟩ := col_own hnod (i := i) (by omega)
        have hT : colT cs (cs.getD i ([], 0)).1 = .tuple #[.int .i64 (i : Int), .int .i64 (cs.getD i ([], 0)).2, .bool true] := by unfold colT; rw [hN, hK, hB]
        rw [hT]
        refine vl_val rfl (.some rfl) (val_move rfl) ?_
        refine vl_val rfl (.some rfl) (val_extract rfl rfl) ?_
        refine vl_val rfl (.some rfl) (val_extract rfl rfl) ?_
        refine vl_val rfl (.some rfl) (val_extract rfl rfl) ?_
        refine vl_val rfl (.some rfl) (val_assign rfl) ?_
        refine vl_val rfl (.some rfl) (val_assign rfl) ?_
        refine vl_val rfl (.some rfl) (val_assign rfl) ?_
        refine vl_nil ?_
        refine vc_seq ?_
        refine vc_region ?_
        refine vl_val rfl (.some rfl) (val_move rfl) ?_
        refine vl_val rfl (.some rfl) (val_not rfl) ?_
        refine vl_val rfl (.some rfl) (val_move rfl) ?_
        refine vl_split (t := 45) rfl (fun hg45 => ?_) (fun hg45 => ?_)
        · (try replace hg45 := of_decide_eq_true hg45)
          exfalso
          cases hg45
        · (try replace hg45 := of_decide_eq_false hg45)
          refine vl_on rfl rfl rfl rfl ?_
          refine vl_val rfl (.some rfl) (val_move rfl) ?_
          refine vl_on rfl rfl rfl rfl ?_
          refine vl_val rfl (.some rfl) (val_move rfl) ?_
          refine vl_on rfl rfl rfl rfl ?_
          refine vl_val rfl (.some rfl) (val_ne rfl rfl) ?_
          refine vl_val rfl (.some rfl) (val_pick rfl rfl) ?_
          refine vl_val rfl (.some rfl) (val_move rfl) ?_
          refine vl_split (t := 50) rfl (fun hg50 => ?_) (fun hg50 => ?_)
          · (try replace hg50 := of_decide_eq_true hg50)
            exfalso
            exact hg50 rfl
          · (try replace hg50 := of_decide_eq_false hg50)
            refine vl_on rfl rfl rfl rfl ?_
            refine vl_val rfl (.some rfl) (val_move rfl) ?_
            refine vl_on rfl rfl rfl rfl ?_
            refine vl_val rfl (.some rfl) (by first | exact val_fieldAddr Tryd.runUnderlying41 rfl Tryd.sizeOf3 rfl | exact val_fieldAddrR Tryd.runUnderlying41 rfl Tryd.sizeOf3 rfl) ?_
            refine vl_on rfl rfl rfl rfl ?_
            refine vl_val rfl (.some rfl) (val_load Tryd.isAgg3 rfl (by first | exact cell_cells (by repeat (first | exact .head | apply In.tail | apply Take.tail | apply Upd.tail)) rfl | exact cell_rd (rd_sl (by repeat (first | exact .head | apply In.tail | apply Take.tail | apply Upd.tail))) (by first | exact bcells_at (by omega) | exact ucells_at (by omega) | exact icells_at (by omega) | exact tcells_at (by omega) | exact bcells_get (by omega) | exact icells_get (by omega) | exact tcells_get (by omega) | exact ucells_get (by omega)) | exact cell_rd (rd_old (by assumption) rfl) (by first | exact bcells_at (by omega) | exact ucells_at (by omega) | exact icells_at (by omega) | exact tcells_at (by omega) | exact bcells_get (by omega) | exact icells_get (by omega) | exact tcells_get (by omega) | exact ucells_get (by omega)) | exact cell_old (by assumption) (by simp [fps]))) ?_
            refine vl_on rfl rfl rfl rfl ?_
            refine vl_val rfl (.some rfl) (val_ne rfl rfl) ?_
            refine vl_val rfl (.some rfl) (val_pick rfl rfl) ?_
            refine vl_val rfl (.some rfl) (val_move rfl) ?_
            refine vl_split (t := 56) rfl (fun hg56 => ?_) (fun hg56 => ?_)
            · (try replace hg56 := of_decide_eq_true hg56)
              exfalso
              exact hg56 rfl
            · (try replace hg56 := of_decide_eq_false hg56)
              refine vl_on rfl rfl rfl rfl ?_
              refine vl_val rfl (.some rfl) (by first | exact val_fieldAddr Tryd.runUnderlying41 rfl Tryd.sizeOf9 rfl | exact val_fieldAddrR Tryd.runUnderlying41 rfl Tryd.sizeOf9 rfl) ?_
              refine vl_on rfl rfl rfl rfl ?_
              refine vl_val rfl (.some rfl) (val_load Tryd.isAgg9 rfl (by first | exact cell_cells (by repeat (first | exact .head | apply In.tail | apply Take.tail | apply Upd.tail)) rfl | exact cell_rd (rd_sl (by repeat (first | exact .head | apply In.tail | apply Take.tail | apply Upd.tail))) (by first | exact bcells_at (by omega) | exact ucells_at (by omega) | exact icells_at (by omega) | exact tcells_at (by omega) | exact bcells_get (by omega) | exact icells_get (by omega) | exact tcells_get (by omega) | exact ucells_get (by omega)) | exact cell_rd (rd_old (by assumption) rfl) (by first | exact bcells_at (by omega) | exact ucells_at (by omega) | exact icells_at (by omega) | exact tcells_at (by omega) | exact bcells_get (by omega) | exact icells_get (by omega) | exact tcells_get (by omega) | exact ucells_get (by omega)) | exact cell_old (by assumption) (by simp [fps]))) ?_
              refine vl_on rfl rfl rfl rfl ?_
              refine vl_callV rfl rfl (.some rfl) Tryd.call9 rfl (fun w hw => sName (cs.getD i ([], 0)).1 (hxn i) w) ?_
              rw [decide_eq_true (hnms _ (List.mem_map.2 ⟨cs.getD i ([], 0), mem_firstM ([], 0) (i := i) (by omega) rfl, rfl⟩) : nameP (cs.getD i ([], 0)).1)]
              refine vl_on rfl rfl rfl rfl ?_
              refine vl_val rfl (.some rfl) (val_not rfl) ?_
              refine vl_val rfl (.some rfl) (val_pick rfl rfl) ?_
              refine vl_nil ?_
              refine vc_cond rfl (fun hc2 => False.elim (by (try replace hc2 := of_decide_eq_true hc2); cases hc2)) (fun hc2 => ?_)
              (try replace hc2 := of_decide_eq_false hc2)
              refine vc_skip ?_
              refine vc_region ?_
              refine vl_val rfl (.some rfl) (val_add rfl rfl (by first | exact w_i64 (by omega) (by omega) | rfl)) ?_
              refine vl_val rfl (.some rfl) (val_move rfl) ?_
              refine vl_nil ?_
              exact ⟨(n - (i + 1)), _, _, _, by omega, (by repeat (first | exact trivial | refine ⟨rfl, ?_⟩ | refine ⟨le_item rfl (by first | rfl | (congr 1; omega) | (simp; done) | (simp; omega)), ?_⟩)), (by repeat (first | exact .nil | (apply Sub.cons; · repeat (first | exact .head | apply Take.tail)))), ⟨i + 1, by omega, rfl, fun j hj => by
                rcases Nat.lt_or_ge j i with h | h
                · exact htr j h
                · obtain rfl : j = i := by omega
                  trivial, rfl, rfl⟩⟩
      · (try replace hc1 := of_decide_eq_false hc1)
        refine vc_exit ?_
        refine vc_seq ?_
        refine vc_seq ?_
        refine vc_region ?_
        refine vl_val rfl (.some rfl) (val_loadAgg Tryd.isAgg30 Tryd.sizeOf30 rfl (by first | exact cells_whole (by repeat (first | exact .head | apply In.tail | apply Take.tail | apply Upd.tail)) | exact cells_part (by repeat (first | exact .head | apply In.tail | apply Take.tail | apply Upd.tail)) rfl) rfl) ?_
        refine vl_val rfl (.some rfl) (val_loadAgg Tryd.isAgg26 Tryd.sizeOf26 rfl (by first | exact cells_whole (by repeat (first | exact .head | apply In.tail | apply Take.tail | apply Upd.tail)) | exact cells_part (by repeat (first | exact .head | apply In.tail | apply Take.tail | apply Upd.tail)) rfl) rfl) ?_
        refine vl_callV rfl rfl (.some rfl) Tryd.call15 rfl (fun w hw => xRollup rn rt hlr Ad nd cd ds hnd hdb hcd Am nm cm ms hnm hmb hcm tn A n c cs hn (by omega) w (rdw (rd_old hrd rfl) hw) (rdw (rd_old hrm rfl) hw) (rdw (rd_old hr rfl) hw)) ?_
        refine vl_val rfl (.some rfl) (val_ne rfl rfl) ?_
        refine vl_nil ?_
        refine vc_cond rfl (fun hc3 => ?_) (fun hc3 => ?_)
        · (try replace hc3 := of_decide_eq_true hc3)
          refine vc_seq ?_
          refine vc_region ?_
          refine vl_callV rfl rfl (.some rfl) Tryd.call8 rfl (fun w hw => xLives w) ?_
          refine vl_val rfl (.some rfl) (val_assign rfl) ?_
          refine vl_nil ?_
          refine vc_ret ?_
          refine ⟨_, [], _, res1 Tryd.results6 rfl, .nil, ?_⟩
          rfl
        · (try replace hc3 := of_decide_eq_false hc3)
          have hr0 : rolE rn rt ds ms tn cs = 0 := by omega
          have hdc := rol_zero hr0
          refine vc_skip ?_
          refine vc_seq ?_
          refine vc_seq ?_
          refine vc_region ?_
          refine vl_val rfl (.some rfl) (by first | exact val_fieldAddr Tryd.runUnderlying30 rfl Tryd.sizeOf27 rfl | exact val_fieldAddrR Tryd.runUnderlying30 rfl Tryd.sizeOf27 rfl) ?_
          refine vl_val rfl (.some rfl) (val_load Tryd.isAgg27 rfl (by first | exact cell_cells (by repeat (first | exact .head | apply In.tail | apply Take.tail | apply Upd.tail)) rfl | exact cell_rd (rd_sl (by repeat (first | exact .head | apply In.tail | apply Take.tail | apply Upd.tail))) (by first | exact bcells_at (by omega) | exact ucells_at (by omega) | exact icells_at (by omega) | exact tcells_at (by omega) | exact bcells_get (by omega) | exact icells_get (by omega) | exact tcells_get (by omega) | exact ucells_get (by omega)) | exact cell_rd (rd_old (by assumption) rfl) (by first | exact bcells_at (by omega) | exact ucells_at (by omega) | exact icells_at (by omega) | exact tcells_at (by omega) | exact bcells_get (by omega) | exact icells_get (by omega) | exact tcells_get (by omega) | exact ucells_get (by omega)) | exact cell_old (by assumption) (by simp [fps]))) ?_
          refine vl_val rfl (.some rfl) (val_lenSl Tryd.runUnderlying27 rfl) ?_
          refine vl_val rfl (.some rfl) (val_move rfl) ?_
          refine vl_nil ?_
          refine vc_block ?_
          refine vc_loopw (fun m E H => ∃ i : Nat, i ≤ nd ∧ m = nd - i ∧ (∀ j, j < i → True) ∧ E = [(2, .pointer (some ⟨r2, 0, none⟩)), (3, .pointer (some ⟨r3, 0, none⟩)), (69, .slice Ad nd cd), (70, .int .i64 nd), (71, .int .i64 i)] ∧ H = [cells r3 [.string (sL rn), .string (sL rt), .slice Ad nd cd, .slice Am nm cm] 30, cells r2 [.string (sL tn), .slice A n c] 26]) (nd) ⟨_, _, _, ⟨0, by omega, rfl, fun j hj => absurd hj (by omega), rfl, rfl⟩, (by repeat (first | exact trivial | refine ⟨rfl, ?_⟩ | refine ⟨le_item rfl (by first | rfl | (congr 1; omega) | (simp; done) | (simp; omega)), ?_⟩)), (by repeat (first | exact .nil | (apply Sub.cons; · repeat (first | exact .head | apply Take.tail))))⟩ ?_
          intro m E H hI
          obtain ⟨i, hi, rfl, htr, rfl, rfl⟩ := hI
          refine vc_seq ?_
          refine vc_region ?_
          refine vl_val rfl (.some rfl) (val_lt rfl rfl) ?_
          refine vl_nil ?_
          refine vc_seq ?_
          refine vc_cond rfl (fun hc4 => ?_) (fun hc4 => ?_)
          · (try replace hc4 := of_decide_eq_true hc4)
            refine vc_skip ?_
            refine vc_seq ?_
            refine vc_block ?_
            refine vc_seq ?_
            refine vc_region ?_
            refine vl_val rfl (.some rfl) (val_indexAddr Tryd.runUnderlying27 Tryd.sizeOf9 rfl rfl (vs := tcS ds) (rd_old hrd rfl) (by omega) (by omega) (by rw [tcS_length, Int.toNat_natCast]; omega)) ?_
            refine vl_val rfl (.some rfl) (val_load Tryd.isAgg9 rfl (cell_rd (rd_old hrd rfl) (tcS_at (by omega)))) ?_
            refine vl_val rfl (.some rfl) (val_assign rfl) ?_
            refine vl_nil ?_
            refine vc_seq ?_
            refine vc_region ?_
            refine vl_val rfl (.some rfl) (val_loadAgg Tryd.isAgg26 Tryd.sizeOf26 rfl (by first | exact cells_whole (by repeat (first | exact .head | apply In.tail | apply Take.tail | apply Upd.tail)) | exact cells_part (by repeat (first | exact .head | apply In.tail | apply Take.tail | apply Upd.tail)) rfl) rfl) ?_
            refine vl_val rfl (.some rfl) (val_move rfl) ?_
            refine vl_callV rfl rfl (.some rfl) Tryd.call11 rfl (fun w hw => xColumn A n c cs hn (by omega) (sL tn) (ds.getD i []) w (rdw (rd_old hr rfl) hw)) ?_
            have hT : colT cs (ds.getD i []) = .tuple #[.int .i64 (colN cs (ds.getD i [])), .int .i64 (colK cs (ds.getD i [])), .bool true] := by unfold colT; rw [hdc _ (mem_firstM [] (i := i) (by omega) rfl)]
            rw [hT]
            refine vl_val rfl (.some rfl) (val_move rfl) ?_
            refine vl_val rfl (.some rfl) (val_extract rfl rfl) ?_
            refine vl_val rfl (.some rfl) (val_extract rfl rfl) ?_
            refine vl_val rfl (.some rfl) (val_extract rfl rfl) ?_
            refine vl_val rfl (.some rfl) (val_assign rfl) ?_
            refine vl_val rfl (.some rfl) (val_assign rfl) ?_
            refine vl_val rfl (.some rfl) (val_assign rfl) ?_
            refine vl_nil ?_
            refine vc_seq ?_
            refine vc_region ?_
            refine vl_val rfl (.some rfl) (val_move rfl) ?_
            refine vl_val rfl (.some rfl) (val_not rfl) ?_
            refine vl_nil ?_
            refine vc_cond rfl (fun hc5 => False.elim (by (try replace hc5 := of_decide_eq_true hc5); cases hc5)) (fun hc5 => ?_)
            (try replace hc5 := of_decide_eq_false hc5)
            refine vc_skip ?_
            refine vc_region ?_
            refine vl_val rfl (.some rfl) (val_add rfl rfl (by first | exact w_i64 (by omega) (by omega) | rfl)) ?_
            refine vl_val rfl (.some rfl) (val_move rfl) ?_
            refine vl_nil ?_
            exact ⟨(nd - (i + 1)), _, _, _, by omega, (by repeat (first | exact trivial | refine ⟨rfl, ?_⟩ | refine ⟨le_item rfl (by first | rfl | (congr 1; omega) | (simp; done) | (simp; omega)), ?_⟩)), (by repeat (first | exact .nil | (apply Sub.cons; · repeat (first | exact .head | apply Take.tail)))), ⟨i + 1, by omega, rfl, fun j hj => by
              rcases Nat.lt_or_ge j i with h | h
              · exact htr j h
              · obtain rfl : j = i := by omega
                trivial, rfl, rfl⟩⟩
          · (try replace hc4 := of_decide_eq_false hc4)
            refine vc_exit ?_
            refine vc_seq ?_
            refine vc_seq ?_
            refine vc_region ?_
            refine vl_val rfl (.some rfl) (by first | exact val_fieldAddr Tryd.runUnderlying30 rfl Tryd.sizeOf28 rfl | exact val_fieldAddrR Tryd.runUnderlying30 rfl Tryd.sizeOf28 rfl) ?_
            refine vl_val rfl (.some rfl) (val_load Tryd.isAgg28 rfl (by first | exact cell_cells (by repeat (first | exact .head | apply In.tail | apply Take.tail | apply Upd.tail)) rfl | exact cell_rd (rd_sl (by repeat (first | exact .head | apply In.tail | apply Take.tail | apply Upd.tail))) (by first | exact bcells_at (by omega) | exact ucells_at (by omega) | exact icells_at (by omega) | exact tcells_at (by omega) | exact bcells_get (by omega) | exact icells_get (by omega) | exact tcells_get (by omega) | exact ucells_get (by omega)) | exact cell_rd (rd_old (by assumption) rfl) (by first | exact bcells_at (by omega) | exact ucells_at (by omega) | exact icells_at (by omega) | exact tcells_at (by omega) | exact bcells_get (by omega) | exact icells_get (by omega) | exact tcells_get (by omega) | exact ucells_get (by omega)) | exact cell_old (by assumption) (by simp [fps]))) ?_
            refine vl_val rfl (.some rfl) (val_lenSl Tryd.runUnderlying28 rfl) ?_
            refine vl_val rfl (.some rfl) (val_move rfl) ?_
            refine vl_nil ?_
            refine vc_block ?_
            refine vc_loopw (fun m E H => ∃ i : Nat, i ≤ nm ∧ m = nm - i ∧ (∀ j, j < i → True) ∧ E = [(2, .pointer (some ⟨r2, 0, none⟩)), (3, .pointer (some ⟨r3, 0, none⟩)), (86, .slice Am nm cm), (87, .int .i64 nm), (88, .int .i64 i)] ∧ H = [cells r3 [.string (sL rn), .string (sL rt), .slice Ad nd cd, .slice Am nm cm] 30, cells r2 [.string (sL tn), .slice A n c] 26]) (nm) ⟨_, _, _, ⟨0, by omega, rfl, fun j hj => absurd hj (by omega), rfl, rfl⟩, (by repeat (first | exact trivial | refine ⟨rfl, ?_⟩ | refine ⟨le_item rfl (by first | rfl | (congr 1; omega) | (simp; done) | (simp; omega)), ?_⟩)), (by repeat (first | exact .nil | (apply Sub.cons; · repeat (first | exact .head | apply Take.tail))))⟩ ?_
            intro m E H hI
            obtain ⟨i, hi, rfl, htr, rfl, rfl⟩ := hI
            refine vc_seq ?_
            refine vc_region ?_
            refine vl_val rfl (.some rfl) (val_lt rfl rfl) ?_
            refine vl_nil ?_
            refine vc_seq ?_
            refine vc_cond rfl (fun hc6 => ?_) (fun hc6 => ?_)
            · (try replace hc6 := of_decide_eq_true hc6)
              refine vc_skip ?_
              refine vc_seq ?_
              refine vc_block ?_
              refine vc_seq ?_
              refine vc_region ?_
              refine vl_val rfl (.some rfl) (val_indexAddr Tryd.runUnderlying28 Tryd.sizeOf43 rfl rfl (vs := ms.flatMap meaV) (rd_old hrm rfl) (by omega) (by omega) (by rw [meaC_len, Int.toNat_natCast]; omega)) ?_
              refine vl_val rfl (.some rfl) (val_loadAgg Tryd.isAgg43 Tryd.sizeOf43 rfl (cells_rd (us := meaV (ms.getD i (0, []))) (rd_old hrm rfl) (meaC_at rfl (by omega))) rfl) ?_
              refine vl_alloc rfl rfl (.some rfl) Tryd.zeroValue43 (fun r16 => ?_)
              first | refine vl_store rfl rfl .none rfl rfl Tryd.sizeOf43 rfl (by repeat (first | exact .head | apply In.tail | apply Take.tail | apply Upd.tail)) (by first | decide | exact Nat.le_refl _ | exact Nat.le_of_ble_eq_true rfl | (simp; omega)) ?_ | refine vl_storeSl rfl rfl .none rfl rfl Tryd.sizeOf43 rfl (by simp [Value.cells]) (by repeat (first | exact .head | apply In.tail | apply Take.tail | apply Upd.tail)) (by first | decide | (simp [Value.cells]; omega)) ?_
              refine vl_nil ?_
              refine vc_seq ?_
              refine vc_region ?_
              refine vl_val rfl (.some rfl) (val_loadAgg Tryd.isAgg30 Tryd.sizeOf30 rfl (by first | exact cells_whole (by repeat (first | exact .head | apply In.tail | apply Take.tail | apply Upd.tail)) | exact cells_part (by repeat (first | exact .head | apply In.tail | apply Take.tail | apply Upd.tail)) rfl) rfl) ?_
              refine vl_val rfl (.some rfl) (val_loadAgg Tryd.isAgg43 Tryd.sizeOf43 rfl (by first | exact cells_whole (by repeat (first | exact .head | apply In.tail | apply Take.tail | apply Upd.tail)) | exact cells_part (by repeat (first | exact .head | apply In.tail | apply Take.tail | apply Upd.tail)) rfl) rfl) ?_
              refine vl_callV rfl rfl (.some rfl) Tryd.call18 rfl (fun w hw => sHas (sL rn) (sL rt) Ad nd cd Am nm cm ms hnm hmb (ms.getD i (0, [])) w (rdw (rd_old hrm rfl) hw)) ?_
              rw [decide_eq_true (mem_firstM (0, []) (i := i) (by omega) rfl : ms.getD i (0, []) ∈ ms)]
              refine vl_val rfl (.some rfl) (val_not rfl) ?_
              refine vl_nil ?_
              refine vc_cond rfl (fun hc7 => False.elim (by (try replace hc7 := of_decide_eq_true hc7); cases hc7)) (fun hc7 => ?_)
              (try replace hc7 := of_decide_eq_false hc7)
              refine vc_skip ?_
              refine vc_region ?_
              refine vl_val rfl (.some rfl) (val_add rfl rfl (by first | exact w_i64 (by omega) (by omega) | rfl)) ?_
              refine vl_val rfl (.some rfl) (val_move rfl) ?_
              refine vl_nil ?_
              exact ⟨(nm - (i + 1)), _, _, _, by omega, (by repeat (first | exact trivial | refine ⟨rfl, ?_⟩ | refine ⟨le_item rfl (by first | rfl | (congr 1; omega) | (simp; done) | (simp; omega)), ?_⟩)), (by repeat (first | exact .nil | (apply Sub.cons; · repeat (first | exact .head | apply Take.tail)))), ⟨i + 1, by omega, rfl, fun j hj => by
                rcases Nat.lt_or_ge j i with h | h
                · exact htr j h
                · obtain rfl : j = i := by omega
                  trivial, rfl, rfl⟩⟩
            · (try replace hc6 := of_decide_eq_false hc6)
              refine vc_exit ?_
              refine vc_seq ?_
              refine vc_region ?_
              refine vl_callV rfl rfl (.some rfl) Tryd.call8 rfl (fun w hw => xLives w) ?_
              refine vl_val rfl (.some rfl) (val_assign rfl) ?_
              refine vl_nil ?_
              refine vc_ret ?_
              refine ⟨_, [], _, res1 Tryd.results6 rfl, .nil, ?_⟩
              rfl

abbrev colW (p : ByteArray × Int × Unit) : List Value := [.string p.1] ++ ([.int .i64 p.2.1] ++ [])
def colOf (p : ByteArray × Int × Unit) : Cq := (p.1.data.toList, p.2.1)
theorem colW_flat (l : List (ByteArray × Int × Unit)) : (l.map colOf).flatMap colV = l.flatMap colW := by
  rw [List.flatMap_map]
  refine congrArg (fun f => List.flatMap f l) (funext fun p => ?_)
  show [Value.string (sL p.1.data.toList), Value.int .i64 p.2.1] = _
  rw [sL_eta]; rfl
abbrev meaW (p : Int × ByteArray × Unit) : List Value := [.int .i64 p.1] ++ ([.string p.2.1] ++ [])
def meaOf (p : Int × ByteArray × Unit) : Mq := (p.1, p.2.1.data.toList)
theorem meaW_flat (l : List (Int × ByteArray × Unit)) : (l.map meaOf).flatMap meaV = l.flatMap meaW := by
  rw [List.flatMap_map]
  refine congrArg (fun f => List.flatMap f l) (funext fun p => ?_)
  show [Value.int .i64 p.1, Value.string (sL p.2.1.data.toList)] = _
  rw [sL_eta]; rfl
theorem txt_flat (l : List ByteArray) : tcS (l.map fun s => s.data.toList) = scells l := by
  unfold tcS scells
  rw [List.map_map]
  refine congrArg (fun f => List.map f l) (funext fun s => ?_)
  show Value.string (sL s.data.toList) = _
  rw [sL_eta]
theorem max_lt : maxLen < 9223372036854775808 := by decide
theorem len_b {s : ByteArray} (h : s.size ≤ maxLen) : s.data.toList.length < 9223372036854775808 := by
  have hl : s.data.toList.length = s.size := Array.length_toList
  have := max_lt
  omega

theorem law_SchemaRight (tn : ByteArray) (A : Option Addr) (c : Nat) (l : List (ByteArray × Int × Unit)) (rn rt : ByteArray) (Ad : Option Addr) (cd : Nat) (ds : List ByteArray) (Am : Option Addr) (cm : Nat) (ms : List (Int × ByteArray × Unit)) (w : World)
    (g1 : tn.size ≤ maxLen) (g2 : Reads w A (l.flatMap colW)) (g3 : l.length ≤ c) (g4 : c ≤ maxLen) (g5 : ∀ a ∈ l, a.1.size ≤ maxLen ∧ (-9223372036854775808 ≤ a.2.1 ∧ a.2.1 < 9223372036854775808) ∧ True) (gz : l.length * 24 ≤ 140737488351232)
    (g6 : rn.size ≤ maxLen) (g7 : rt.size ≤ maxLen) (g8 : Reads w Ad (scells ds)) (g9 : ds.length ≤ cd) (g10 : cd ≤ maxLen) (g11 : ∀ a ∈ ds, a.size ≤ maxLen) (g12 : Reads w Am (ms.flatMap meaW)) (g13 : ms.length ≤ cm) (g14 : cm ≤ maxLen) (g15 : ∀ a ∈ ms, (-9223372036854775808 ≤ a.1 ∧ a.1 < 9223372036854775808) ∧ a.2.1.size ≤ maxLen ∧ True) :
    FnV Tryd.prog 6 [.agg #[.string tn, .slice A l.length c], .agg #[.string rn, .string rt, .slice Ad ds.length cd, .slice Am ms.length cm]] (.bool true) w := by
  have hm := max_lt
  have h := xRight tn.data.toList (len_b g1) A l.length c (l.map colOf) (by simp) (by omega) (fun x hx => by
    obtain ⟨a, ha, rfl⟩ := List.mem_map.1 hx
    exact len_b (g5 a ha).1) rn.data.toList rt.data.toList (len_b g6) Ad ds.length cd (ds.map fun s => s.data.toList) (by simp) (by omega) g9 Am ms.length cm (ms.map meaOf) (by simp) (by omega) g13 w (by rw [colW_flat]; exact g2) (by rw [txt_flat]; exact g8) (by rw [meaW_flat]; exact g12)
  rw [sL_eta, sL_eta, sL_eta] at h
  exact h


end Go.Proofs.YtdehjgpdcdjhjaaDoor.K
