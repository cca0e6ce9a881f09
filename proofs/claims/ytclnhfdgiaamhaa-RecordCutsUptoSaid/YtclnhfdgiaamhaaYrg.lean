/- Walks of the program's functions, printed by a program of this session; Lean checks them. -/
import Derived.Test.YtclnhfdgiaamhaaYrb
namespace Go.Proofs.Ytclnhfdgiaamhaa.K
open Go Go.RowKit Go.Proofs
set_option linter.unusedVariables false
set_option linter.unusedSimpArgs false


theorem encV_len (l : List Vk) : (encV l).length ≤ 10 + 100 * l.length := by rw [← outV_all]; exact outV_len l l.length (Nat.le_refl _)
/-- Texts that are not too long. -/
structure RecB (m : RecM) : Prop where
  tn : m.tn.length ≤ 2000000
  rn : m.rn.length ≤ 2000000
  rt : m.rt.length ≤ 2000000
  nm : m.nm.length ≤ 2000000
  cs : ∀ x ∈ m.cs, x.1.length ≤ 2000000
  ds : ∀ x ∈ m.ds, x.length ≤ 2000000
  ms : ∀ x ∈ m.ms, x.2.length ≤ 2000000
def bytL (x : Rec) : Tx := if goodRec x then (if 262144 < (recB x).length then [] else recB x) else []
def bytE (x : Rec) : Int := if goodRec x then (if 262144 < (recB x).length then 7 else 0) else 2
theorem byt_bad {x : Rec} (h : ¬ goodRec x) : bytL x = [] ∧ bytE x = 2 := by unfold bytL bytE; rw [if_neg h, if_neg h]; exact ⟨rfl, rfl⟩
theorem byt_full {x : Rec} (h : goodRec x) (h2 : 262144 < (recB x).length) : bytL x = [] ∧ bytE x = 7 := by unfold bytL bytE; rw [if_pos h, if_pos h, if_pos h2, if_pos h2]; exact ⟨rfl, rfl⟩
theorem byt_ok {x : Rec} (h : goodRec x) (h2 : ¬ 262144 < (recB x).length) : bytL x = recB x ∧ bytE x = 0 := by unfold bytL bytE; rw [if_pos h, if_pos h, if_neg h2, if_neg h2]; exact ⟨rfl, rfl⟩

theorem rows_flat (m : RecM) : (rows m).flatMap (fun r => putTx (encV r)) = m.rs.flatMap fun q => putTx (encV q.2.2) := by rw [List.flatMap_map]

set_option maxRecDepth 20000 in
set_option maxHeartbeats 1000000 in
theorem rlPut (m : RecM) (hds : m.ds.length ≤ 8) (hms : m.ms.length ≤ 16) (hB : RecB m) (A : Option Addr) (c : Nat) (b : List UInt8) (hb : b.length ≤ 1000) (w : World) (hR : RecR w m) (hr : Reads w A (bcells b)) : Fn Try.prog 177 [.agg (rolC m).toArray, .slice A b.length c] [] (ret fun v H' => ∃ A' c', v = .slice A' (b ++ putR ⟨m.rn, m.rt, m.ds, m.ms⟩).length c' ∧ H' = [BY A' (b ++ putR ⟨m.rn, m.rt, m.ds, m.ms⟩).length c' (b ++ putR ⟨m.rn, m.rt, m.ds, m.ms⟩)]) w := by
  have q1 := hB.rn
  have q2 := hB.rt
  have hp1 := putTx_len m.rn
  have hp2 := putTx_len m.rt
  have hp3 := putN_len m.ds.length
  have hp4 := putN_len m.ms.length
  have hpd : ∀ x ∈ m.ds, (putTx x).length ≤ 2000020 := fun x h => by have := putTx_len x; have := hB.ds x h; omega
  have hpm : ∀ x ∈ m.ms, (putMq x).length ≤ 2000020 := fun x h => by have := putMq_len x; have := hB.ms x h; omega
  have hfd := flat_le hpd
  refine fn_enter Try.func177 rfl Try.ntmps177 rfl ?_
  refine vc_seq ?_
  refine vc_region ?_
  refine vl_box rfl rfl (.some rfl) rfl (fun r2 => ?_)
  refine vl_val rfl (.some rfl) (val_assign rfl) ?_
  refine vl_nil ?_
  refine vc_seq ?_
  refine vc_drawsS [0, 1, 2, 3, 5, 6, 7, 9, 10, 11, 12, 14] [] [0, 1, 2, 3, 5, 6, 7, 9, 10, 11, 12, 4, 8, 13, 14] [cells r2 (rolC m) 161] (by repeat constructor) rfl (by kernel_rfl) (fun _ _ _ h => h) ?_
  refine vd_val rfl rfl rfl (.some rfl) (val_move rfl) ?_
  refine vd_val rfl rfl rfl (.some rfl) (by first | exact val_fieldAddr Try.runUnderlying161 rfl Try.sizeOf40 rfl | exact val_fieldAddrR Try.runUnderlying161 rfl Try.sizeOf40 rfl) ?_
  refine vd_val rfl rfl rfl (.some rfl) (by first | exact val_fieldAddr Try.runUnderlying40 rfl Try.sizeOf9 rfl | exact val_fieldAddrR Try.runUnderlying40 rfl Try.sizeOf9 rfl) ?_
  refine vd_val rfl rfl rfl (.some rfl) (val_load Try.isAgg9 rfl (by first | exact cell_cells (by repeat constructor) rfl | exact cell_rd (by first | exact rd_sl (by repeat constructor) | exact rd_old (by assumption) rfl) (by first | exact bcells_at (by omega) | exact ucells_at (by omega) | exact icells_at (by omega) | exact tcells_at (by omega) | exact bcells_get (by omega) | exact icells_get (by omega) | exact tcells_get (by omega) | exact ucells_get (by omega)) | exact cell_old (by assumption) (by simp [fps]))) ?_
  refine vd_val rfl rfl rfl (.some rfl) (by first | exact val_fieldAddr Try.runUnderlying161 rfl Try.sizeOf40 rfl | exact val_fieldAddrR Try.runUnderlying161 rfl Try.sizeOf40 rfl) ?_
  refine vd_val rfl rfl rfl (.some rfl) (by first | exact val_fieldAddr Try.runUnderlying40 rfl Try.sizeOf9 rfl | exact val_fieldAddrR Try.runUnderlying40 rfl Try.sizeOf9 rfl) ?_
  refine vd_val rfl rfl rfl (.some rfl) (val_load Try.isAgg9 rfl (by first | exact cell_cells (by repeat constructor) rfl | exact cell_rd (by first | exact rd_sl (by repeat constructor) | exact rd_old (by assumption) rfl) (by first | exact bcells_at (by omega) | exact ucells_at (by omega) | exact icells_at (by omega) | exact tcells_at (by omega) | exact bcells_get (by omega) | exact icells_get (by omega) | exact tcells_get (by omega) | exact ucells_get (by omega)) | exact cell_old (by assumption) (by simp [fps]))) ?_
  refine vd_val rfl rfl rfl (.some rfl) (by first | exact val_fieldAddr Try.runUnderlying161 rfl Try.sizeOf40 rfl | exact val_fieldAddrR Try.runUnderlying161 rfl Try.sizeOf40 rfl) ?_
  refine vd_val rfl rfl rfl (.some rfl) (by first | exact val_fieldAddr Try.runUnderlying40 rfl Try.sizeOf37 rfl | exact val_fieldAddrR Try.runUnderlying40 rfl Try.sizeOf37 rfl) ?_
  refine vd_val rfl rfl rfl (.some rfl) (val_load Try.isAgg37 rfl (by first | exact cell_cells (by repeat constructor) rfl | exact cell_rd (by first | exact rd_sl (by repeat constructor) | exact rd_old (by assumption) rfl) (by first | exact bcells_at (by omega) | exact ucells_at (by omega) | exact icells_at (by omega) | exact tcells_at (by omega) | exact bcells_get (by omega) | exact icells_get (by omega) | exact tcells_get (by omega) | exact ucells_get (by omega)) | exact cell_old (by assumption) (by simp [fps]))) ?_
  refine vd_val rfl rfl rfl (.some rfl) (val_lenSl Try.runUnderlying37 rfl) ?_
  refine vd_op rfl rfl ?_
  refine vl_call (C := []) rfl rfl (.some rfl) Try.call175 rfl .nil (fun w hw => xText A c b (by omega) m.rn (by omega) w (rdw (rd_old hr rfl) hw)) (fun v H' h => ?_)
  obtain ⟨A13, c13, rfl, rfl⟩ := h
  show VL _ _ _ _ _ (_ :: _)
  refine vl_nil ?_
  refine ⟨fun _ => ⟨_, (by repeat (first | exact .nil | exact sub_self _ | exact sub_skip (sub_self _) | exact sub_skip (sub_skip (sub_self _)) | exact sub_skip (sub_skip (sub_skip (sub_self _))) | (apply Sub.cons; · repeat (first | exact .head | apply Take.tail))))⟩, ?_⟩
  refine vd_op rfl rfl ?_
  refine vl_call (C := []) rfl rfl (.some rfl) Try.call175 rfl .nil (fun w hw => xText A13 c13 (b ++ putTx m.rn) (by simp only [List.length_append]; omega) m.rt (by omega) w (rdw (rd_sl (by repeat constructor)) hw)) (fun v H' h => ?_)
  obtain ⟨A17, c17, rfl, rfl⟩ := h
  show VL _ _ _ _ _ (_ :: _)
  refine vl_nil ?_
  refine ⟨fun _ => ⟨_, (by repeat (first | exact .nil | exact sub_self _ | exact sub_skip (sub_self _) | exact sub_skip (sub_skip (sub_self _)) | exact sub_skip (sub_skip (sub_skip (sub_self _))) | (apply Sub.cons; · repeat (first | exact .head | apply Take.tail))))⟩, ?_⟩
  refine vd_op rfl rfl ?_
  refine vl_call (C := []) rfl rfl (.some rfl) Try.call56 rfl .nil (fun w hw => xNum A17 c17 (b ++ putTx m.rn ++ putTx m.rt) (by simp only [List.length_append]; omega) (m.ds.length : Int) w (rdw (rd_sl (by repeat constructor)) hw)) (fun v H' h => ?_)
  obtain ⟨A22, c22, rfl, rfl⟩ := h
  show VL _ _ _ _ _ (_ :: _)
  rw [u64N_nat (by omega)]
  refine vl_nil ?_
  refine ⟨fun _ => ⟨_, (by repeat (first | exact .nil | exact sub_self _ | exact sub_skip (sub_self _) | exact sub_skip (sub_skip (sub_self _)) | exact sub_skip (sub_skip (sub_skip (sub_self _))) | (apply Sub.cons; · repeat (first | exact .head | apply Take.tail))))⟩, ?_⟩
  refine vd_val rfl rfl rfl (.some rfl) (val_assign rfl) ?_
  refine vd_nil ?_
  refine vc_seq ?_
  refine vc_seq ?_
  refine vc_region ?_
  refine vl_val rfl (.some rfl) (by first | exact val_fieldAddr Try.runUnderlying161 rfl Try.sizeOf40 rfl | exact val_fieldAddrR Try.runUnderlying161 rfl Try.sizeOf40 rfl) ?_
  refine vl_val rfl (.some rfl) (by first | exact val_fieldAddr Try.runUnderlying40 rfl Try.sizeOf37 rfl | exact val_fieldAddrR Try.runUnderlying40 rfl Try.sizeOf37 rfl) ?_
  refine vl_val rfl (.some rfl) (val_load Try.isAgg37 rfl (by first | exact cell_cells (by repeat constructor) rfl | exact cell_rd (by first | exact rd_sl (by repeat constructor) | exact rd_old (by assumption) rfl) (by first | exact bcells_at (by omega) | exact ucells_at (by omega) | exact icells_at (by omega) | exact tcells_at (by omega) | exact bcells_get (by omega) | exact icells_get (by omega) | exact tcells_get (by omega) | exact ucells_get (by omega)) | exact cell_old (by assumption) (by simp [fps]))) ?_
  refine vl_val rfl (.some rfl) (val_lenSl Try.runUnderlying37 rfl) ?_
  refine vl_val rfl (.some rfl) (val_move rfl) ?_
  refine vl_nil ?_
  refine vc_block ?_
  rw [show b ++ putTx m.rn ++ putTx m.rt ++ putN m.ds.length = b ++ putTx m.rn ++ putTx m.rt ++ putN m.ds.length ++ (m.ds.take 0).flatMap putTx by simp]
  refine vc_loopw (fun q E H => ∃ (i : Nat) (A1 : Option Addr) (c1 : Nat), i ≤ m.ds.length ∧ q = m.ds.length - i ∧ E = [(2, .pointer (some ⟨r2, 0, none⟩)), (1, .slice A1 (b ++ putTx m.rn ++ putTx m.rt ++ putN m.ds.length ++ (m.ds.take i).flatMap putTx).length c1), (25, .slice m.Ad m.ds.length m.cd), (26, .int .i64 (m.ds.length : Nat)), (27, .int .i64 i)] ∧ H = [BY A1 (b ++ putTx m.rn ++ putTx m.rt ++ putN m.ds.length ++ (m.ds.take i).flatMap putTx).length c1 (b ++ putTx m.rn ++ putTx m.rt ++ putN m.ds.length ++ (m.ds.take i).flatMap putTx), cells r2 (rolC m) 161]) (m.ds.length) ⟨_, _, _, ⟨0, A22, c22, by omega, rfl, rfl, rfl⟩, (by repeat (first | exact trivial | refine ⟨rfl, ?_⟩ | refine ⟨le_item rfl (by first | rfl | (congr 1; omega) | (simp; done) | (simp; omega)), ?_⟩)), (by repeat constructor)⟩ ?_
  intro q E H hI
  obtain ⟨i, A1, c1, hi, rfl, rfl, rfl⟩ := hI
  refine vc_seq ?_
  refine vc_region ?_
  refine vl_val rfl (.some rfl) (val_lt rfl rfl) ?_
  refine vl_nil ?_
  refine vc_seq ?_
  refine vc_cond rfl (fun hc0 => ?_) (fun hc0 => ?_)
  · (try replace hc0 := of_decide_eq_true hc0)
    refine vc_skip ?_
    refine vc_seq ?_
    refine vc_block ?_
    refine vc_seq ?_
    refine vc_region ?_
    refine vl_val rfl (.some rfl) (val_indexAddr Try.runUnderlying37 Try.sizeOf9 rfl rfl (vs := tcS m.ds) (rd_old hR.ds rfl) (by omega) (by omega) (by rw [tcS_length, Int.toNat_natCast]; omega)) ?_
    refine vl_val rfl (.some rfl) (val_load Try.isAgg9 rfl (cell_rd (rd_old hR.ds rfl) (tcS_at (by omega)))) ?_
    refine vl_val rfl (.some rfl) (val_assign rfl) ?_
    refine vl_nil ?_
    refine vc_region ?_
    refine vl_val rfl (.some rfl) (val_move rfl) ?_
    refine vl_val rfl (.some rfl) (val_move rfl) ?_
    have hq := hB.ds _ (getD_inL [] (l := m.ds) (i := i) (by omega))
    have htk := tk_le hpd (i := i) hi
    refine vl_call (C := []) rfl rfl (.some rfl) Try.call175 rfl .nil (fun w hw => xText A1 c1 (b ++ putTx m.rn ++ putTx m.rt ++ putN m.ds.length ++ (m.ds.take i).flatMap putTx) (by simp only [List.length_append]; omega) (m.ds.getD i []) (by omega) w (rdw (rd_sl (by repeat constructor)) hw)) (fun v H' h => ?_)
    obtain ⟨A33, c33, rfl, rfl⟩ := h
    show VL _ _ _ _ _ (_ :: _)
    rw [List.append_assoc (b ++ putTx m.rn ++ putTx m.rt ++ putN m.ds.length), ← flat_tk [] putTx (show i < m.ds.length by omega)]
    refine vl_val rfl (.some rfl) (val_assign rfl) ?_
    refine vl_nil ?_
    refine vc_region ?_
    refine vl_val rfl (.some rfl) (val_add rfl rfl (by first | exact w_i64 (by omega) (by omega) | rfl)) ?_
    refine vl_val rfl (.some rfl) (val_move rfl) ?_
    refine vl_nil ?_
    exact ⟨(m.ds.length - (i + 1)), _, _, _, by omega, (by repeat (first | exact trivial | refine ⟨rfl, ?_⟩ | refine ⟨le_item rfl (by first | rfl | (congr 1; omega) | (simp; done) | (simp; omega)), ?_⟩)), (by repeat constructor), ⟨i + 1, A33, c33, by omega, rfl, rfl, rfl⟩⟩
  · (try replace hc0 := of_decide_eq_false hc0)
    obtain rfl : i = m.ds.length := by omega
    rw [List.take_length]
    refine vc_exit ?_
    refine vc_seq ?_
    refine vc_region ?_
    refine vl_val rfl (.some rfl) (val_move rfl) ?_
    refine vl_val rfl (.some rfl) (by first | exact val_fieldAddr Try.runUnderlying161 rfl Try.sizeOf40 rfl | exact val_fieldAddrR Try.runUnderlying161 rfl Try.sizeOf40 rfl) ?_
    refine vl_val rfl (.some rfl) (by first | exact val_fieldAddr Try.runUnderlying40 rfl Try.sizeOf38 rfl | exact val_fieldAddrR Try.runUnderlying40 rfl Try.sizeOf38 rfl) ?_
    refine vl_val rfl (.some rfl) (val_load Try.isAgg38 rfl (by first | exact cell_cells (by repeat constructor) rfl | exact cell_rd (by first | exact rd_sl (by repeat constructor) | exact rd_old (by assumption) rfl) (by first | exact bcells_at (by omega) | exact ucells_at (by omega) | exact icells_at (by omega) | exact tcells_at (by omega) | exact bcells_get (by omega) | exact icells_get (by omega) | exact tcells_get (by omega) | exact ucells_get (by omega)) | exact cell_old (by assumption) (by simp [fps]))) ?_
    refine vl_val rfl (.some rfl) (val_lenSl Try.runUnderlying38 rfl) ?_
    refine vl_call (C := []) rfl rfl (.some rfl) Try.call56 rfl .nil (fun w hw => xNum A1 c1 (b ++ putTx m.rn ++ putTx m.rt ++ putN m.ds.length ++ m.ds.flatMap putTx) (by simp only [List.length_append]; omega) (m.ms.length : Int) w (rdw (rd_sl (by repeat constructor)) hw)) (fun v H' h => ?_)
    obtain ⟨A40, c40, rfl, rfl⟩ := h
    show VL _ _ _ _ _ (_ :: _)
    rw [u64N_nat (by omega)]
    refine vl_val rfl (.some rfl) (val_assign rfl) ?_
    refine vl_nil ?_
    refine vc_seq ?_
    refine vc_seq ?_
    refine vc_region ?_
    refine vl_val rfl (.some rfl) (by first | exact val_fieldAddr Try.runUnderlying161 rfl Try.sizeOf40 rfl | exact val_fieldAddrR Try.runUnderlying161 rfl Try.sizeOf40 rfl) ?_
    refine vl_val rfl (.some rfl) (by first | exact val_fieldAddr Try.runUnderlying40 rfl Try.sizeOf38 rfl | exact val_fieldAddrR Try.runUnderlying40 rfl Try.sizeOf38 rfl) ?_
    refine vl_val rfl (.some rfl) (val_load Try.isAgg38 rfl (by first | exact cell_cells (by repeat constructor) rfl | exact cell_rd (by first | exact rd_sl (by repeat constructor) | exact rd_old (by assumption) rfl) (by first | exact bcells_at (by omega) | exact ucells_at (by omega) | exact icells_at (by omega) | exact tcells_at (by omega) | exact bcells_get (by omega) | exact icells_get (by omega) | exact tcells_get (by omega) | exact ucells_get (by omega)) | exact cell_old (by assumption) (by simp [fps]))) ?_
    refine vl_val rfl (.some rfl) (val_lenSl Try.runUnderlying38 rfl) ?_
    refine vl_val rfl (.some rfl) (val_move rfl) ?_
    refine vl_nil ?_
    refine vc_block ?_
    rw [show b ++ putTx m.rn ++ putTx m.rt ++ putN m.ds.length ++ m.ds.flatMap putTx ++ putN m.ms.length = b ++ putTx m.rn ++ putTx m.rt ++ putN m.ds.length ++ m.ds.flatMap putTx ++ putN m.ms.length ++ (m.ms.take 0).flatMap putMq by simp]
    refine vc_loopw (fun q E H => ∃ (i : Nat) (A1 : Option Addr) (c1 : Nat), i ≤ m.ms.length ∧ q = m.ms.length - i ∧ E = [(2, .pointer (some ⟨r2, 0, none⟩)), (1, .slice A1 (b ++ putTx m.rn ++ putTx m.rt ++ putN m.ds.length ++ m.ds.flatMap putTx ++ putN m.ms.length ++ (m.ms.take i).flatMap putMq).length c1), (43, .slice m.Am m.ms.length m.cm), (44, .int .i64 (m.ms.length : Nat)), (45, .int .i64 i)] ∧ H = [BY A1 (b ++ putTx m.rn ++ putTx m.rt ++ putN m.ds.length ++ m.ds.flatMap putTx ++ putN m.ms.length ++ (m.ms.take i).flatMap putMq).length c1 (b ++ putTx m.rn ++ putTx m.rt ++ putN m.ds.length ++ m.ds.flatMap putTx ++ putN m.ms.length ++ (m.ms.take i).flatMap putMq), cells r2 (rolC m) 161]) (m.ms.length) ⟨_, _, _, ⟨0, A40, c40, by omega, rfl, rfl, rfl⟩, (by repeat (first | exact trivial | refine ⟨rfl, ?_⟩ | refine ⟨le_item rfl (by first | rfl | (congr 1; omega) | (simp; done) | (simp; omega)), ?_⟩)), (by repeat constructor)⟩ ?_
    intro q E H hI
    obtain ⟨i, A1, c1, hi, rfl, rfl, rfl⟩ := hI
    refine vc_seq ?_
    refine vc_region ?_
    refine vl_val rfl (.some rfl) (val_lt rfl rfl) ?_
    refine vl_nil ?_
    refine vc_seq ?_
    refine vc_cond rfl (fun hc1 => ?_) (fun hc1 => ?_)
    · (try replace hc1 := of_decide_eq_true hc1)
      refine vc_skip ?_
      refine vc_seq ?_
      refine vc_block ?_
      refine vc_seq ?_
      refine vc_region ?_
      refine vl_val rfl (.some rfl) (val_indexAddr Try.runUnderlying38 Try.sizeOf104 rfl rfl (vs := m.ms.flatMap meaV) (rd_old hR.ms rfl) (by omega) (by omega) (by rw [meaC_len, Int.toNat_natCast]; omega)) ?_
      refine vl_val rfl (.some rfl) (val_loadAgg Try.isAgg104 Try.sizeOf104 rfl (cells_rd (us := meaV (m.ms.getD i (0, []))) (rd_old hR.ms rfl) (meaC_at rfl (by omega))) rfl) ?_
      refine vl_alloc rfl rfl (.some rfl) Try.zeroValue104 (fun r8 => ?_)
      first | refine vl_store rfl rfl .none rfl rfl Try.sizeOf104 rfl (by repeat constructor) (by first | decide | exact Nat.le_refl _ | exact Nat.le_of_ble_eq_true rfl | (simp; omega)) ?_ | refine vl_storeSl rfl rfl .none rfl rfl Try.sizeOf104 rfl (by simp [Value.cells]) (by repeat constructor) (by first | decide | (simp [Value.cells]; omega)) ?_
      refine vl_nil ?_
      refine vc_drawsS [0, 1, 2, 4, 5, 7] [] [0, 1, 2, 4, 5, 3, 6, 7] [cells r8 (meaV (m.ms.getD i (0, []))) 104] (by repeat constructor) rfl (by kernel_rfl) (fun _ _ _ h => h) ?_
      refine vd_val rfl rfl rfl (.some rfl) (val_move rfl) ?_
      refine vd_val rfl rfl rfl (.some rfl) (by first | exact val_fieldAddr Try.runUnderlying104 rfl Try.sizeOf3 rfl | exact val_fieldAddrR Try.runUnderlying104 rfl Try.sizeOf3 rfl) ?_
      refine vd_val rfl rfl rfl (.some rfl) (val_load Try.isAgg3 rfl (by first | exact cell_cells (by repeat constructor) rfl | exact cell_rd (by first | exact rd_sl (by repeat constructor) | exact rd_old (by assumption) rfl) (by first | exact bcells_at (by omega) | exact ucells_at (by omega) | exact icells_at (by omega) | exact tcells_at (by omega) | exact bcells_get (by omega) | exact icells_get (by omega) | exact tcells_get (by omega) | exact ucells_get (by omega)) | exact cell_old (by assumption) (by simp [fps]))) ?_
      refine vd_val rfl rfl rfl (.some rfl) (by first | exact val_fieldAddr Try.runUnderlying104 rfl Try.sizeOf9 rfl | exact val_fieldAddrR Try.runUnderlying104 rfl Try.sizeOf9 rfl) ?_
      refine vd_val rfl rfl rfl (.some rfl) (val_load Try.isAgg9 rfl (by first | exact cell_cells (by repeat constructor) rfl | exact cell_rd (by first | exact rd_sl (by repeat constructor) | exact rd_old (by assumption) rfl) (by first | exact bcells_at (by omega) | exact ucells_at (by omega) | exact icells_at (by omega) | exact tcells_at (by omega) | exact bcells_get (by omega) | exact icells_get (by omega) | exact tcells_get (by omega) | exact ucells_get (by omega)) | exact cell_old (by assumption) (by simp [fps]))) ?_
      refine vd_op rfl rfl ?_
      have hq := hB.ms _ (getD_inL (0, []) (l := m.ms) (i := i) (by omega))
      have htk := tk_le hpm (i := i) hi
      refine vl_call (C := []) rfl rfl (.some rfl) Try.call56 rfl .nil (fun w hw => xNum A1 c1 (b ++ putTx m.rn ++ putTx m.rt ++ putN m.ds.length ++ m.ds.flatMap putTx ++ putN m.ms.length ++ (m.ms.take i).flatMap putMq) (by simp only [List.length_append]; omega) (m.ms.getD i (0, [])).1 w (rdw (rd_sl (by repeat constructor)) hw)) (fun v H' h => ?_)
      obtain ⟨A52, c52, rfl, rfl⟩ := h
      show VL _ _ _ _ _ (_ :: _)
      refine vl_nil ?_
      refine ⟨fun _ => ⟨_, (by repeat (first | exact .nil | exact sub_self _ | exact sub_skip (sub_self _) | exact sub_skip (sub_skip (sub_self _)) | exact sub_skip (sub_skip (sub_skip (sub_self _))) | (apply Sub.cons; · repeat (first | exact .head | apply Take.tail))))⟩, ?_⟩
      refine vd_op rfl rfl ?_
      have hq2 := putN_len (u64N (m.ms.getD i (0, [])).1)
      refine vl_call (C := []) rfl rfl (.some rfl) Try.call175 rfl .nil (fun w hw => xText A52 c52 (b ++ putTx m.rn ++ putTx m.rt ++ putN m.ds.length ++ m.ds.flatMap putTx ++ putN m.ms.length ++ (m.ms.take i).flatMap putMq ++ putN (u64N (m.ms.getD i (0, [])).1)) (by simp only [List.length_append]; omega) (m.ms.getD i (0, [])).2 (by omega) w (rdw (rd_sl (by repeat constructor)) hw)) (fun v H' h => ?_)
      obtain ⟨A55, c55, rfl, rfl⟩ := h
      show VL _ _ _ _ _ (_ :: _)
      rw [List.append_assoc (b ++ putTx m.rn ++ putTx m.rt ++ putN m.ds.length ++ m.ds.flatMap putTx ++ putN m.ms.length ++ (m.ms.take i).flatMap putMq), show putN (u64N (m.ms.getD i (0, [])).1) ++ putTx (m.ms.getD i (0, [])).2 = putMq (m.ms.getD i (0, [])) from rfl, List.append_assoc (b ++ putTx m.rn ++ putTx m.rt ++ putN m.ds.length ++ m.ds.flatMap putTx ++ putN m.ms.length), ← flat_tk (0, []) putMq (show i < m.ms.length by omega)]
      refine vl_nil ?_
      refine ⟨fun _ => ⟨_, (by repeat (first | exact .nil | exact sub_self _ | exact sub_skip (sub_self _) | exact sub_skip (sub_skip (sub_self _)) | exact sub_skip (sub_skip (sub_skip (sub_self _))) | (apply Sub.cons; · repeat (first | exact .head | apply Take.tail))))⟩, ?_⟩
      refine vd_val rfl rfl rfl (.some rfl) (val_assign rfl) ?_
      refine vd_nil ?_
      refine vc_region ?_
      refine vl_val rfl (.some rfl) (val_add rfl rfl (by first | exact w_i64 (by omega) (by omega) | rfl)) ?_
      refine vl_val rfl (.some rfl) (val_move rfl) ?_
      refine vl_nil ?_
      exact ⟨(m.ms.length - (i + 1)), _, _, _, by omega, (by repeat (first | exact trivial | refine ⟨rfl, ?_⟩ | refine ⟨le_item rfl (by first | rfl | (congr 1; omega) | (simp; done) | (simp; omega)), ?_⟩)), (by repeat constructor), ⟨i + 1, A55, c55, by omega, rfl, rfl, rfl⟩⟩
    · (try replace hc1 := of_decide_eq_false hc1)
      obtain rfl : i = m.ms.length := by omega
      rw [List.take_length, show b ++ putTx m.rn ++ putTx m.rt ++ putN m.ds.length ++ m.ds.flatMap putTx ++ putN m.ms.length ++ m.ms.flatMap putMq = b ++ putR ⟨m.rn, m.rt, m.ds, m.ms⟩ by unfold putR; simp only [List.append_assoc]]
      refine vc_exit ?_
      refine vc_seq ?_
      refine vc_region ?_
      refine vl_val rfl (.some rfl) (val_move rfl) ?_
      refine vl_val rfl (.some rfl) (val_assign rfl) ?_
      refine vl_nil ?_
      refine vc_ret ?_
      refine ⟨_, [BY A1 (b ++ putR ⟨m.rn, m.rt, m.ds, m.ms⟩).length c1 (b ++ putR ⟨m.rn, m.rt, m.ds, m.ms⟩)], _, res1 Try.results177 rfl, (by repeat constructor), ?_⟩
      exact ⟨A1, c1, rfl, rfl⟩
set_option maxRecDepth 20000 in
set_option maxHeartbeats 1000000 in
theorem bPut (m : RecM) (hrs : m.rs.length ≤ 200) (hr8 : ∀ q ∈ m.rs, q.2.2.length ≤ 8) (hnm : m.nm.length ≤ 2000000) (A : Option Addr) (c : Nat) (b : List UInt8) (hb : b.length ≤ 1000) (w : World) (hR : RecR w m) (hr : Reads w A (bcells b)) : Fn Try.prog 180 [.agg (batC m).toArray, .slice A b.length c] [] (ret fun v H' => ∃ A' c', v = .slice A' (b ++ putB m.nm (rows m)).length c' ∧ H' = [BY A' (b ++ putB m.nm (rows m)).length c' (b ++ putB m.nm (rows m))]) w := by
  have hp1 := putTx_len m.nm
  have hp3 := putN_len m.rs.length
  have hpr : ∀ q ∈ m.rs, (putTx (encV q.2.2)).length ≤ 1000 := fun q h => by have := putTx_len (encV q.2.2); have := encV_len q.2.2; have := hr8 q h; omega
  refine fn_enter Try.func180 rfl Try.ntmps180 rfl ?_
  refine vc_seq ?_
  refine vc_region ?_
  refine vl_box rfl rfl (.some rfl) rfl (fun r2 => ?_)
  refine vl_val rfl (.some rfl) (val_assign rfl) ?_
  refine vl_nil ?_
  refine vc_seq ?_
  refine vc_drawsS [0, 1, 2, 4, 5, 6, 8] [] [0, 1, 2, 4, 5, 6, 3, 7, 8] [cells r2 (batC m) 163] (by repeat constructor) rfl (by kernel_rfl) (fun _ _ _ h => h) ?_
  refine vd_val rfl rfl rfl (.some rfl) (val_move rfl) ?_
  refine vd_val rfl rfl rfl (.some rfl) (by first | exact val_fieldAddr Try.runUnderlying163 rfl Try.sizeOf9 rfl | exact val_fieldAddrR Try.runUnderlying163 rfl Try.sizeOf9 rfl) ?_
  refine vd_val rfl rfl rfl (.some rfl) (val_load Try.isAgg9 rfl (by first | exact cell_cells (by repeat constructor) rfl | exact cell_rd (by first | exact rd_sl (by repeat constructor) | exact rd_old (by assumption) rfl) (by first | exact bcells_at (by omega) | exact ucells_at (by omega) | exact icells_at (by omega) | exact tcells_at (by omega) | exact bcells_get (by omega) | exact icells_get (by omega) | exact tcells_get (by omega) | exact ucells_get (by omega)) | exact cell_old (by assumption) (by simp [fps]))) ?_
  refine vd_val rfl rfl rfl (.some rfl) (by first | exact val_fieldAddr Try.runUnderlying163 rfl Try.sizeOf41 rfl | exact val_fieldAddrR Try.runUnderlying163 rfl Try.sizeOf41 rfl) ?_
  refine vd_val rfl rfl rfl (.some rfl) (val_load Try.isAgg41 rfl (by first | exact cell_cells (by repeat constructor) rfl | exact cell_rd (by first | exact rd_sl (by repeat constructor) | exact rd_old (by assumption) rfl) (by first | exact bcells_at (by omega) | exact ucells_at (by omega) | exact icells_at (by omega) | exact tcells_at (by omega) | exact bcells_get (by omega) | exact icells_get (by omega) | exact tcells_get (by omega) | exact ucells_get (by omega)) | exact cell_old (by assumption) (by simp [fps]))) ?_
  refine vd_val rfl rfl rfl (.some rfl) (val_lenSl Try.runUnderlying41 rfl) ?_
  refine vd_op rfl rfl ?_
  refine vl_call (C := []) rfl rfl (.some rfl) Try.call175 rfl .nil (fun w hw => xText A c b (by omega) m.nm (by omega) w (rdw (rd_old hr rfl) hw)) (fun v H' h => ?_)
  obtain ⟨A10, c10, rfl, rfl⟩ := h
  show VL _ _ _ _ _ (_ :: _)
  refine vl_nil ?_
  refine ⟨fun _ => ⟨_, (by repeat (first | exact .nil | exact sub_self _ | exact sub_skip (sub_self _) | exact sub_skip (sub_skip (sub_self _)) | exact sub_skip (sub_skip (sub_skip (sub_self _))) | (apply Sub.cons; · repeat (first | exact .head | apply Take.tail))))⟩, ?_⟩
  refine vd_op rfl rfl ?_
  refine vl_call (C := []) rfl rfl (.some rfl) Try.call56 rfl .nil (fun w hw => xNum A10 c10 (b ++ putTx m.nm) (by simp only [List.length_append]; omega) (m.rs.length : Int) w (rdw (rd_sl (by repeat constructor)) hw)) (fun v H' h => ?_)
  obtain ⟨A14, c14, rfl, rfl⟩ := h
  show VL _ _ _ _ _ (_ :: _)
  rw [u64N_nat (by omega)]
  refine vl_nil ?_
  refine ⟨fun _ => ⟨_, (by repeat (first | exact .nil | exact sub_self _ | exact sub_skip (sub_self _) | exact sub_skip (sub_skip (sub_self _)) | exact sub_skip (sub_skip (sub_skip (sub_self _))) | (apply Sub.cons; · repeat (first | exact .head | apply Take.tail))))⟩, ?_⟩
  refine vd_val rfl rfl rfl (.some rfl) (val_assign rfl) ?_
  refine vd_nil ?_
  refine vc_seq ?_
  refine vc_seq ?_
  refine vc_region ?_
  refine vl_val rfl (.some rfl) (by first | exact val_fieldAddr Try.runUnderlying163 rfl Try.sizeOf41 rfl | exact val_fieldAddrR Try.runUnderlying163 rfl Try.sizeOf41 rfl) ?_
  refine vl_val rfl (.some rfl) (val_load Try.isAgg41 rfl (by first | exact cell_cells (by repeat constructor) rfl | exact cell_rd (by first | exact rd_sl (by repeat constructor) | exact rd_old (by assumption) rfl) (by first | exact bcells_at (by omega) | exact ucells_at (by omega) | exact icells_at (by omega) | exact tcells_at (by omega) | exact bcells_get (by omega) | exact icells_get (by omega) | exact tcells_get (by omega) | exact ucells_get (by omega)) | exact cell_old (by assumption) (by simp [fps]))) ?_
  refine vl_val rfl (.some rfl) (val_lenSl Try.runUnderlying41 rfl) ?_
  refine vl_val rfl (.some rfl) (val_move rfl) ?_
  refine vl_nil ?_
  refine vc_block ?_
  rw [show b ++ putTx m.nm ++ putN m.rs.length = b ++ putTx m.nm ++ putN m.rs.length ++ (m.rs.take 0).flatMap (fun q => putTx (encV q.2.2)) by simp]
  refine vc_loopw (fun q E H => ∃ (i : Nat) (A1 : Option Addr) (c1 : Nat), i ≤ m.rs.length ∧ q = m.rs.length - i ∧ E = [(2, .pointer (some ⟨r2, 0, none⟩)), (1, .slice A1 (b ++ putTx m.nm ++ putN m.rs.length ++ (m.rs.take i).flatMap (fun q => putTx (encV q.2.2))).length c1), (16, .slice m.Ar m.rs.length m.cr), (17, .int .i64 (m.rs.length : Nat)), (18, .int .i64 i)] ∧ H = [BY A1 (b ++ putTx m.nm ++ putN m.rs.length ++ (m.rs.take i).flatMap (fun q => putTx (encV q.2.2))).length c1 (b ++ putTx m.nm ++ putN m.rs.length ++ (m.rs.take i).flatMap (fun q => putTx (encV q.2.2))), cells r2 (batC m) 163]) (m.rs.length) ⟨_, _, _, ⟨0, A14, c14, by omega, rfl, rfl, rfl⟩, (by repeat (first | exact trivial | refine ⟨rfl, ?_⟩ | refine ⟨le_item rfl (by first | rfl | (congr 1; omega) | (simp; done) | (simp; omega)), ?_⟩)), (by repeat constructor)⟩ ?_
  intro q E H hI
  obtain ⟨i, A1, c1, hi, rfl, rfl, rfl⟩ := hI
  refine vc_seq ?_
  refine vc_region ?_
  refine vl_val rfl (.some rfl) (val_lt rfl rfl) ?_
  refine vl_nil ?_
  refine vc_seq ?_
  refine vc_cond rfl (fun hc0 => ?_) (fun hc0 => ?_)
  · (try replace hc0 := of_decide_eq_true hc0)
    refine vc_skip ?_
    refine vc_seq ?_
    refine vc_block ?_
    refine vc_seq ?_
    refine vc_region ?_
    refine vl_val rfl (.some rfl) (val_indexAddr Try.runUnderlying41 Try.sizeOf105 rfl rfl (vs := m.rs.flatMap rowV) (rd_old hR.rs rfl) (by omega) (by omega) (by rw [rowC_len, Int.toNat_natCast]; omega)) ?_
    refine vl_val rfl (.some rfl) (val_load Try.isAgg105 rfl (cell_rd (rd_old hR.rs rfl) (rowC_at (i := i) (by omega)))) ?_
    refine vl_val rfl (.some rfl) (val_assign rfl) ?_
    refine vl_nil ?_
    refine vc_region ?_
    refine vl_val rfl (.some rfl) (val_move rfl) ?_
    refine vl_val rfl (.some rfl) (val_move rfl) ?_
    have hrow := hR.row _ (row_in (l := m.rs) (i := i) (by omega))
    have hq := hr8 _ (row_in (l := m.rs) (i := i) (by omega))
    have htk := tk_le hpr (i := i) hi
    have hel := encV_len (m.rs.getD i rw0).2.2
    refine vl_call (C := []) rfl rfl (.some rfl) Try.call182 rfl .nil (fun w hw => vBytes (m.rs.getD i rw0).1 (m.rs.getD i rw0).2.1 (m.rs.getD i rw0).2.2 (by omega) hrow.2 w (rdw (rd_old hrow.1 rfl) hw)) (fun v H' h => ?_)
    obtain ⟨A24, c24, rfl, rfl⟩ := h
    show VL _ _ _ _ _ (_ :: _)
    refine vl_val rfl (.some rfl) (val_bytesToStr Try.runUnderlying22 Try.runUnderlying5 Try.runUnderlying9 rfl (by first | exact rd_sl (by repeat constructor) | exact rd_slr (by repeat constructor) | exact rd_old (by assumption) rfl) (by first | rfl | (simp; done) | omega)) ?_
    refine vl_call (C := []) rfl rfl (.some rfl) Try.call175 rfl .nil (fun w hw => xText A1 c1 (b ++ putTx m.nm ++ putN m.rs.length ++ (m.rs.take i).flatMap (fun q => putTx (encV q.2.2))) (by simp only [List.length_append]; omega) (encV (m.rs.getD i rw0).2.2) (by omega) w (rdw (rd_sl (by repeat constructor)) hw)) (fun v H' h => ?_)
    obtain ⟨A26, c26, rfl, rfl⟩ := h
    show VL _ _ _ _ _ (_ :: _)
    rw [List.append_assoc (b ++ putTx m.nm ++ putN m.rs.length), ← flat_tk rw0 (fun q : Rw => putTx (encV q.2.2)) (show i < m.rs.length by omega)]
    refine vl_val rfl (.some rfl) (val_assign rfl) ?_
    refine vl_nil ?_
    refine vc_region ?_
    refine vl_val rfl (.some rfl) (val_add rfl rfl (by first | exact w_i64 (by omega) (by omega) | rfl)) ?_
    refine vl_val rfl (.some rfl) (val_move rfl) ?_
    refine vl_nil ?_
    exact ⟨(m.rs.length - (i + 1)), _, _, _, by omega, (by repeat (first | exact trivial | refine ⟨rfl, ?_⟩ | refine ⟨le_item rfl (by first | rfl | (congr 1; omega) | (simp; done) | (simp; omega)), ?_⟩)), (by repeat constructor), ⟨i + 1, A26, c26, by omega, rfl, rfl, rfl⟩⟩
  · (try replace hc0 := of_decide_eq_false hc0)
    obtain rfl : i = m.rs.length := by omega
    rw [List.take_length, show b ++ putTx m.nm ++ putN m.rs.length ++ m.rs.flatMap (fun q => putTx (encV q.2.2)) = b ++ putB m.nm (rows m) by unfold putB; rw [rows_flat, List.length_map]; simp only [List.append_assoc]]
    refine vc_exit ?_
    refine vc_seq ?_
    refine vc_region ?_
    refine vl_val rfl (.some rfl) (val_move rfl) ?_
    refine vl_val rfl (.some rfl) (val_assign rfl) ?_
    refine vl_nil ?_
    refine vc_ret ?_
    refine ⟨_, [BY A1 (b ++ putB m.nm (rows m)).length c1 (b ++ putB m.nm (rows m))], _, res1 Try.results180 rfl, (by repeat constructor), ?_⟩
    exact ⟨A1, c1, rfl, rfl⟩




theorem recB_1 {x : Rec} (h : x.k = 1) : putN (u64N x.k) ++ putT x.t = recB x := by unfold recB partB; rw [if_pos h, h]; rfl
theorem recB_2 {x : Rec} (h : x.k = 2) : putN (u64N x.k) ++ putR x.r = recB x := by unfold recB partB; rw [if_neg (by omega), if_pos h, h]; rfl
theorem recB_3 {x : Rec} (h : x.k = 3) : putN (u64N x.k) ++ putB x.nm x.rows = recB x := by unfold recB partB; rw [if_neg (by omega), if_neg (by omega), h]; rfl
theorem good_1 {x : Rec} (h : goodRec x) (hk : x.k = 1) : goodT x.t := by
  rcases h with ⟨_, h, _⟩ | ⟨h, _⟩ | ⟨h, _⟩
  · exact h
  · omega
  · omega
theorem good_2 {x : Rec} (h : goodRec x) (hk : x.k = 2) : goodR x.r := by
  rcases h with ⟨h, _⟩ | ⟨_, h, _⟩ | ⟨h, _⟩
  · omega
  · exact h
  · omega
theorem good_3 {x : Rec} (h : goodRec x) (hk : x.k = 3) : goodB x.rows := by
  rcases h with ⟨h, _⟩ | ⟨h, _⟩ | ⟨_, h, _⟩
  · omega
  · omega
  · exact h
theorem good_k {x : Rec} (h : goodRec x) : x.k = 1 ∨ x.k = 2 ∨ x.k = 3 := by
  rcases h with ⟨h, _⟩ | ⟨h, _⟩ | ⟨h, _⟩ <;> omega
theorem goodB_rows {m : RecM} (h : goodB (rows m)) : m.rs.length ≤ 200 ∧ ∀ q ∈ m.rs, q.2.2.length ≤ 8 :=
  ⟨by have := h.1.2; simpa using this, fun q hq => (h.2 q.2.2 (List.mem_map.2 ⟨q, hq, rfl⟩)).2.1.2⟩

set_option maxRecDepth 20000 in
set_option maxHeartbeats 1000000 in
theorem xBytes1 (m : RecM) (hk : m.k = 1) (hg : goodRec (recOf m)) (hL : RecL m) (hB : RecB m) (w : World) (hR : RecR w m) : Fn Try.prog 22 [recA m] [] (ret fun v H' => ∃ A' c', v = .tuple #[.slice A' (bytL (recOf m)).length c', .int .i64 (bytE (recOf m))] ∧ H' = [BY A' (bytL (recOf m)).length c' (bytL (recOf m))]) w := by
  have hof : ofR m = .iface 159 (.agg (tabC m).toArray) := by unfold ofR; rw [if_pos hk]
  have hpk := putN_len (u64N m.k)
  have hgt := good_1 hg hk
  refine fn_enter Try.func22 rfl Try.ntmps22 rfl ?_
  refine vc_seq ?_
  refine vc_region ?_
  refine vl_box rfl rfl (.some rfl) rfl (fun r1 => ?_)
  refine vl_val rfl (.some rfl) (val_assign rfl) ?_
  refine vl_val rfl (.some rfl) (val_assign rfl) ?_
  refine vl_nil ?_
  refine vc_seq ?_
  refine vc_seq ?_
  refine vc_region ?_
  refine vl_val rfl (.some rfl) (val_loadAgg Try.isAgg43 Try.sizeOf43 rfl (by first | exact cells_whole (by repeat constructor) | exact cells_part (by repeat constructor) rfl) rfl) ?_
  refine vl_callV rfl rfl (.some rfl) Try.call27 rfl (fun w hw => xGood1 m hk hL w (rec_here hR hw)) ?_
  rw [decide_eq_true hg]
  refine vl_val rfl (.some rfl) (val_not rfl) ?_
  refine vl_nil ?_
  refine vc_cond rfl (fun h => by cases h) (fun _ => ?_)
  refine vc_skip ?_
  refine vc_seq ?_
  refine vc_drawsS [0, 2, 3, 5, 6, 7, 9] [] [0, 2, 3, 1, 5, 6, 7, 4, 8, 9] [cells r1 (recC m) 43] (by repeat constructor) rfl (by kernel_rfl) (fun _ _ _ h => h) ?_
  refine vd_val rfl rfl rfl (.some rfl) (val_loadAgg Try.isAgg43 Try.sizeOf43 rfl (by first | exact cells_whole (by repeat constructor) | exact cells_part (by repeat constructor) rfl) rfl) ?_
  refine vd_val rfl rfl rfl (.some rfl) (by first | exact val_fieldAddr Try.runUnderlying43 rfl Try.sizeOf3 rfl | exact val_fieldAddrR Try.runUnderlying43 rfl Try.sizeOf3 rfl) ?_
  refine vd_val rfl rfl rfl (.some rfl) (val_load Try.isAgg3 rfl (by first | exact cell_cells (by repeat constructor) rfl | exact cell_rd (by first | exact rd_sl (by repeat constructor) | exact rd_old (by assumption) rfl) (by first | exact bcells_at (by omega) | exact ucells_at (by omega) | exact icells_at (by omega) | exact tcells_at (by omega) | exact bcells_get (by omega) | exact icells_get (by omega) | exact tcells_get (by omega) | exact ucells_get (by omega)) | exact cell_old (by assumption) (by simp [fps]))) ?_
  refine vd_op rfl rfl ?_
  refine vl_callV rfl rfl (.some rfl) Try.call55 rfl (fun w hw => xOf m w) ?_
  rw [hof]
  refine vl_nil ?_
  refine ⟨fun _ => ⟨_, (by repeat (first | exact .nil | exact sub_self _ | exact sub_skip (sub_self _) | exact sub_skip (sub_skip (sub_self _)) | exact sub_skip (sub_skip (sub_skip (sub_self _))) | (apply Sub.cons; · repeat (first | exact .head | apply Take.tail))))⟩, ?_⟩
  refine vd_val rfl rfl rfl (.some rfl) (val_mkFunc rfl rfl) ?_
  refine vd_val rfl rfl rfl (.some rfl) (val_nilM rfl (fun w => by kernel_rfl)) ?_
  refine vd_val rfl rfl rfl (.some rfl) (val_move rfl) ?_
  refine vd_op rfl rfl ?_
  refine vl_call (C := []) rfl rfl (.some rfl) Try.call56 rfl .nil (fun w hw => xNum none 0 [] (by decide) m.k w (fun j u hj => by simp [bcells] at hj)) (fun v H' h => ?_)
  obtain ⟨A12, c12, rfl, rfl⟩ := h
  show VL _ _ _ _ _ (_ :: _)
  rw [List.nil_append]
  refine vl_nil ?_
  refine ⟨fun _ => ⟨_, (by repeat (first | exact .nil | exact sub_self _ | exact sub_skip (sub_self _) | exact sub_skip (sub_skip (sub_self _)) | exact sub_skip (sub_skip (sub_skip (sub_self _))) | (apply Sub.cons; · repeat (first | exact .head | apply Take.tail))))⟩, ?_⟩
  refine vd_op rfl rfl ?_
  refine vl_invoke (C := []) (f := 173) (v := .agg (tabC m).toArray) rfl rfl (.some rfl) rfl rfl (fun args w => by kernel_rfl) .nil (fun w hw => tPut m hgt.2 hB.tn hB.cs A12 c12 (putN (u64N m.k)) (by omega) w (rec_here hR hw) (rdw (rd_sl (by repeat constructor)) hw)) (fun v H' h => ?_)
  obtain ⟨A16, c16, rfl, rfl⟩ := h
  show VL _ _ _ _ _ (_ :: _)
  rw [show putN (u64N m.k) ++ putT ⟨m.tn, m.cs⟩ = recB (recOf m) from recB_1 (x := recOf m) hk]
  refine vl_nil ?_
  refine ⟨fun _ => ⟨_, (by repeat (first | exact .nil | exact sub_self _ | exact sub_skip (sub_self _) | exact sub_skip (sub_skip (sub_self _)) | exact sub_skip (sub_skip (sub_skip (sub_self _))) | (apply Sub.cons; · repeat (first | exact .head | apply Take.tail))))⟩, ?_⟩
  refine vd_val rfl rfl rfl (.some rfl) (val_assign rfl) ?_
  refine vd_nil ?_
  refine vc_seq ?_
  refine vc_seq ?_
  refine vc_region ?_
  refine vl_val rfl (.some rfl) (val_move rfl) ?_
  refine vl_val rfl (.some rfl) (val_lenSl Try.runUnderlying22 rfl) ?_
  refine vl_val rfl (.some rfl) (val_gt rfl rfl) ?_
  refine vl_nil ?_
  refine vc_cond rfl (fun hc1 => ?_) (fun hc1 => ?_)
  · (try replace hc1 := of_decide_eq_true hc1)
    refine vc_seq ?_
    refine vc_region ?_
    refine vl_val rfl (.some rfl) (val_assign rfl) ?_
    refine vl_nilSl 5 1 ?_
    refine vl_val rfl (.some rfl) (val_assign rfl) ?_
    refine vl_nil ?_
    refine vc_ret ?_
    refine ⟨_, [BY none 0 0 []], _, res2 Try.results22 rfl rfl, (by repeat constructor), ?_⟩
    obtain ⟨e1, e2⟩ := byt_full hg (by omega)
    show ∃ A' c', _ ∧ _
    rw [e1, e2]
    exact ⟨none, 0, rfl, rfl⟩
  · (try replace hc1 := of_decide_eq_false hc1)
    refine vc_skip ?_
    refine vc_seq ?_
    refine vc_region ?_
    refine vl_val rfl (.some rfl) (val_move rfl) ?_
    refine vl_val rfl (.some rfl) (val_assign rfl) ?_
    refine vl_val rfl (.some rfl) (val_assign rfl) ?_
    refine vl_nil ?_
    refine vc_ret ?_
    refine ⟨_, [BY A16 (recB (recOf m)).length c16 (recB (recOf m))], _, res2 Try.results22 rfl rfl, (by repeat constructor), ?_⟩
    obtain ⟨e1, e2⟩ := byt_ok hg (by omega)
    show ∃ A' c', _ ∧ _
    rw [e1, e2]
    exact ⟨A16, c16, rfl, rfl⟩
set_option maxRecDepth 20000 in
set_option maxHeartbeats 1000000 in
theorem xBytes2 (m : RecM) (hk : m.k = 2) (hg : goodRec (recOf m)) (hL : RecL m) (hB : RecB m) (w : World) (hR : RecR w m) : Fn Try.prog 22 [recA m] [] (ret fun v H' => ∃ A' c', v = .tuple #[.slice A' (bytL (recOf m)).length c', .int .i64 (bytE (recOf m))] ∧ H' = [BY A' (bytL (recOf m)).length c' (bytL (recOf m))]) w := by
  have hof : ofR m = .iface 161 (.agg (rolC m).toArray) := by unfold ofR; rw [if_neg (by omega), if_pos hk]
  have hpk := putN_len (u64N m.k)
  have hgt := good_2 hg hk
  refine fn_enter Try.func22 rfl Try.ntmps22 rfl ?_
  refine vc_seq ?_
  refine vc_region ?_
  refine vl_box rfl rfl (.some rfl) rfl (fun r1 => ?_)
  refine vl_val rfl (.some rfl) (val_assign rfl) ?_
  refine vl_val rfl (.some rfl) (val_assign rfl) ?_
  refine vl_nil ?_
  refine vc_seq ?_
  refine vc_seq ?_
  refine vc_region ?_
  refine vl_val rfl (.some rfl) (val_loadAgg Try.isAgg43 Try.sizeOf43 rfl (by first | exact cells_whole (by repeat constructor) | exact cells_part (by repeat constructor) rfl) rfl) ?_
  refine vl_callV rfl rfl (.some rfl) Try.call27 rfl (fun w hw => xGood2 m hk hL w (rec_here hR hw)) ?_
  rw [decide_eq_true hg]
  refine vl_val rfl (.some rfl) (val_not rfl) ?_
  refine vl_nil ?_
  refine vc_cond rfl (fun h => by cases h) (fun _ => ?_)
  refine vc_skip ?_
  refine vc_seq ?_
  refine vc_drawsS [0, 2, 3, 5, 6, 7, 9] [] [0, 2, 3, 1, 5, 6, 7, 4, 8, 9] [cells r1 (recC m) 43] (by repeat constructor) rfl (by kernel_rfl) (fun _ _ _ h => h) ?_
  refine vd_val rfl rfl rfl (.some rfl) (val_loadAgg Try.isAgg43 Try.sizeOf43 rfl (by first | exact cells_whole (by repeat constructor) | exact cells_part (by repeat constructor) rfl) rfl) ?_
  refine vd_val rfl rfl rfl (.some rfl) (by first | exact val_fieldAddr Try.runUnderlying43 rfl Try.sizeOf3 rfl | exact val_fieldAddrR Try.runUnderlying43 rfl Try.sizeOf3 rfl) ?_
  refine vd_val rfl rfl rfl (.some rfl) (val_load Try.isAgg3 rfl (by first | exact cell_cells (by repeat constructor) rfl | exact cell_rd (by first | exact rd_sl (by repeat constructor) | exact rd_old (by assumption) rfl) (by first | exact bcells_at (by omega) | exact ucells_at (by omega) | exact icells_at (by omega) | exact tcells_at (by omega) | exact bcells_get (by omega) | exact icells_get (by omega) | exact tcells_get (by omega) | exact ucells_get (by omega)) | exact cell_old (by assumption) (by simp [fps]))) ?_
  refine vd_op rfl rfl ?_
  refine vl_callV rfl rfl (.some rfl) Try.call55 rfl (fun w hw => xOf m w) ?_
  rw [hof]
  refine vl_nil ?_
  refine ⟨fun _ => ⟨_, (by repeat (first | exact .nil | exact sub_self _ | exact sub_skip (sub_self _) | exact sub_skip (sub_skip (sub_self _)) | exact sub_skip (sub_skip (sub_skip (sub_self _))) | (apply Sub.cons; · repeat (first | exact .head | apply Take.tail))))⟩, ?_⟩
  refine vd_val rfl rfl rfl (.some rfl) (val_mkFunc rfl rfl) ?_
  refine vd_val rfl rfl rfl (.some rfl) (val_nilM rfl (fun w => by kernel_rfl)) ?_
  refine vd_val rfl rfl rfl (.some rfl) (val_move rfl) ?_
  refine vd_op rfl rfl ?_
  refine vl_call (C := []) rfl rfl (.some rfl) Try.call56 rfl .nil (fun w hw => xNum none 0 [] (by decide) m.k w (fun j u hj => by simp [bcells] at hj)) (fun v H' h => ?_)
  obtain ⟨A12, c12, rfl, rfl⟩ := h
  show VL _ _ _ _ _ (_ :: _)
  rw [List.nil_append]
  refine vl_nil ?_
  refine ⟨fun _ => ⟨_, (by repeat (first | exact .nil | exact sub_self _ | exact sub_skip (sub_self _) | exact sub_skip (sub_skip (sub_self _)) | exact sub_skip (sub_skip (sub_skip (sub_self _))) | (apply Sub.cons; · repeat (first | exact .head | apply Take.tail))))⟩, ?_⟩
  refine vd_op rfl rfl ?_
  refine vl_invoke (C := []) (f := 177) (v := .agg (rolC m).toArray) rfl rfl (.some rfl) rfl rfl (fun args w => by kernel_rfl) .nil (fun w hw => rlPut m hgt.1 hgt.2 hB A12 c12 (putN (u64N m.k)) (by omega) w (rec_here hR hw) (rdw (rd_sl (by repeat constructor)) hw)) (fun v H' h => ?_)
  obtain ⟨A16, c16, rfl, rfl⟩ := h
  show VL _ _ _ _ _ (_ :: _)
  rw [show putN (u64N m.k) ++ putR ⟨m.rn, m.rt, m.ds, m.ms⟩ = recB (recOf m) from recB_2 (x := recOf m) hk]
  refine vl_nil ?_
  refine ⟨fun _ => ⟨_, (by repeat (first | exact .nil | exact sub_self _ | exact sub_skip (sub_self _) | exact sub_skip (sub_skip (sub_self _)) | exact sub_skip (sub_skip (sub_skip (sub_self _))) | (apply Sub.cons; · repeat (first | exact .head | apply Take.tail))))⟩, ?_⟩
  refine vd_val rfl rfl rfl (.some rfl) (val_assign rfl) ?_
  refine vd_nil ?_
  refine vc_seq ?_
  refine vc_seq ?_
  refine vc_region ?_
  refine vl_val rfl (.some rfl) (val_move rfl) ?_
  refine vl_val rfl (.some rfl) (val_lenSl Try.runUnderlying22 rfl) ?_
  refine vl_val rfl (.some rfl) (val_gt rfl rfl) ?_
  refine vl_nil ?_
  refine vc_cond rfl (fun hc1 => ?_) (fun hc1 => ?_)
  · (try replace hc1 := of_decide_eq_true hc1)
    refine vc_seq ?_
    refine vc_region ?_
    refine vl_val rfl (.some rfl) (val_assign rfl) ?_
    refine vl_nilSl 5 1 ?_
    refine vl_val rfl (.some rfl) (val_assign rfl) ?_
    refine vl_nil ?_
    refine vc_ret ?_
    refine ⟨_, [BY none 0 0 []], _, res2 Try.results22 rfl rfl, (by repeat constructor), ?_⟩
    obtain ⟨e1, e2⟩ := byt_full hg (by omega)
    show ∃ A' c', _ ∧ _
    rw [e1, e2]
    exact ⟨none, 0, rfl, rfl⟩
  · (try replace hc1 := of_decide_eq_false hc1)
    refine vc_skip ?_
    refine vc_seq ?_
    refine vc_region ?_
    refine vl_val rfl (.some rfl) (val_move rfl) ?_
    refine vl_val rfl (.some rfl) (val_assign rfl) ?_
    refine vl_val rfl (.some rfl) (val_assign rfl) ?_
    refine vl_nil ?_
    refine vc_ret ?_
    refine ⟨_, [BY A16 (recB (recOf m)).length c16 (recB (recOf m))], _, res2 Try.results22 rfl rfl, (by repeat constructor), ?_⟩
    obtain ⟨e1, e2⟩ := byt_ok hg (by omega)
    show ∃ A' c', _ ∧ _
    rw [e1, e2]
    exact ⟨A16, c16, rfl, rfl⟩
set_option maxRecDepth 20000 in
set_option maxHeartbeats 1000000 in
theorem xBytes3 (m : RecM) (hk : m.k = 3) (hg : goodRec (recOf m)) (hL : RecL m) (hB : RecB m) (w : World) (hR : RecR w m) : Fn Try.prog 22 [recA m] [] (ret fun v H' => ∃ A' c', v = .tuple #[.slice A' (bytL (recOf m)).length c', .int .i64 (bytE (recOf m))] ∧ H' = [BY A' (bytL (recOf m)).length c' (bytL (recOf m))]) w := by
  have hof : ofR m = .iface 163 (.agg (batC m).toArray) := by unfold ofR; rw [if_neg (by omega), if_neg (by omega), if_pos hk]
  have hpk := putN_len (u64N m.k)
  have hgt := goodB_rows (good_3 hg hk)
  refine fn_enter Try.func22 rfl Try.ntmps22 rfl ?_
  refine vc_seq ?_
  refine vc_region ?_
  refine vl_box rfl rfl (.some rfl) rfl (fun r1 => ?_)
  refine vl_val rfl (.some rfl) (val_assign rfl) ?_
  refine vl_val rfl (.some rfl) (val_assign rfl) ?_
  refine vl_nil ?_
  refine vc_seq ?_
  refine vc_seq ?_
  refine vc_region ?_
  refine vl_val rfl (.some rfl) (val_loadAgg Try.isAgg43 Try.sizeOf43 rfl (by first | exact cells_whole (by repeat constructor) | exact cells_part (by repeat constructor) rfl) rfl) ?_
  refine vl_callV rfl rfl (.some rfl) Try.call27 rfl (fun w hw => xGood3 m hk hL w (rec_here hR hw)) ?_
  rw [decide_eq_true hg]
  refine vl_val rfl (.some rfl) (val_not rfl) ?_
  refine vl_nil ?_
  refine vc_cond rfl (fun h => by cases h) (fun _ => ?_)
  refine vc_skip ?_
  refine vc_seq ?_
  refine vc_drawsS [0, 2, 3, 5, 6, 7, 9] [] [0, 2, 3, 1, 5, 6, 7, 4, 8, 9] [cells r1 (recC m) 43] (by repeat constructor) rfl (by kernel_rfl) (fun _ _ _ h => h) ?_
  refine vd_val rfl rfl rfl (.some rfl) (val_loadAgg Try.isAgg43 Try.sizeOf43 rfl (by first | exact cells_whole (by repeat constructor) | exact cells_part (by repeat constructor) rfl) rfl) ?_
  refine vd_val rfl rfl rfl (.some rfl) (by first | exact val_fieldAddr Try.runUnderlying43 rfl Try.sizeOf3 rfl | exact val_fieldAddrR Try.runUnderlying43 rfl Try.sizeOf3 rfl) ?_
  refine vd_val rfl rfl rfl (.some rfl) (val_load Try.isAgg3 rfl (by first | exact cell_cells (by repeat constructor) rfl | exact cell_rd (by first | exact rd_sl (by repeat constructor) | exact rd_old (by assumption) rfl) (by first | exact bcells_at (by omega) | exact ucells_at (by omega) | exact icells_at (by omega) | exact tcells_at (by omega) | exact bcells_get (by omega) | exact icells_get (by omega) | exact tcells_get (by omega) | exact ucells_get (by omega)) | exact cell_old (by assumption) (by simp [fps]))) ?_
  refine vd_op rfl rfl ?_
  refine vl_callV rfl rfl (.some rfl) Try.call55 rfl (fun w hw => xOf m w) ?_
  rw [hof]
  refine vl_nil ?_
  refine ⟨fun _ => ⟨_, (by repeat (first | exact .nil | exact sub_self _ | exact sub_skip (sub_self _) | exact sub_skip (sub_skip (sub_self _)) | exact sub_skip (sub_skip (sub_skip (sub_self _))) | (apply Sub.cons; · repeat (first | exact .head | apply Take.tail))))⟩, ?_⟩
  refine vd_val rfl rfl rfl (.some rfl) (val_mkFunc rfl rfl) ?_
  refine vd_val rfl rfl rfl (.some rfl) (val_nilM rfl (fun w => by kernel_rfl)) ?_
  refine vd_val rfl rfl rfl (.some rfl) (val_move rfl) ?_
  refine vd_op rfl rfl ?_
  refine vl_call (C := []) rfl rfl (.some rfl) Try.call56 rfl .nil (fun w hw => xNum none 0 [] (by decide) m.k w (fun j u hj => by simp [bcells] at hj)) (fun v H' h => ?_)
  obtain ⟨A12, c12, rfl, rfl⟩ := h
  show VL _ _ _ _ _ (_ :: _)
  rw [List.nil_append]
  refine vl_nil ?_
  refine ⟨fun _ => ⟨_, (by repeat (first | exact .nil | exact sub_self _ | exact sub_skip (sub_self _) | exact sub_skip (sub_skip (sub_self _)) | exact sub_skip (sub_skip (sub_skip (sub_self _))) | (apply Sub.cons; · repeat (first | exact .head | apply Take.tail))))⟩, ?_⟩
  refine vd_op rfl rfl ?_
  refine vl_invoke (C := []) (f := 180) (v := .agg (batC m).toArray) rfl rfl (.some rfl) rfl rfl (fun args w => by kernel_rfl) .nil (fun w hw => bPut m hgt.1 hgt.2 hB.nm A12 c12 (putN (u64N m.k)) (by omega) w (rec_here hR hw) (rdw (rd_sl (by repeat constructor)) hw)) (fun v H' h => ?_)
  obtain ⟨A16, c16, rfl, rfl⟩ := h
  show VL _ _ _ _ _ (_ :: _)
  rw [show putN (u64N m.k) ++ putB m.nm (rows m) = recB (recOf m) from recB_3 (x := recOf m) hk]
  refine vl_nil ?_
  refine ⟨fun _ => ⟨_, (by repeat (first | exact .nil | exact sub_self _ | exact sub_skip (sub_self _) | exact sub_skip (sub_skip (sub_self _)) | exact sub_skip (sub_skip (sub_skip (sub_self _))) | (apply Sub.cons; · repeat (first | exact .head | apply Take.tail))))⟩, ?_⟩
  refine vd_val rfl rfl rfl (.some rfl) (val_assign rfl) ?_
  refine vd_nil ?_
  refine vc_seq ?_
  refine vc_seq ?_
  refine vc_region ?_
  refine vl_val rfl (.some rfl) (val_move rfl) ?_
  refine vl_val rfl (.some rfl) (val_lenSl Try.runUnderlying22 rfl) ?_
  refine vl_val rfl (.some rfl) (val_gt rfl rfl) ?_
  refine vl_nil ?_
  refine vc_cond rfl (fun hc1 => ?_) (fun hc1 => ?_)
  · (try replace hc1 := of_decide_eq_true hc1)
    refine vc_seq ?_
    refine vc_region ?_
    refine vl_val rfl (.some rfl) (val_assign rfl) ?_
    refine vl_nilSl 5 1 ?_
    refine vl_val rfl (.some rfl) (val_assign rfl) ?_
    refine vl_nil ?_
    refine vc_ret ?_
    refine ⟨_, [BY none 0 0 []], _, res2 Try.results22 rfl rfl, (by repeat constructor), ?_⟩
    obtain ⟨e1, e2⟩ := byt_full hg (by omega)
    show ∃ A' c', _ ∧ _
    rw [e1, e2]
    exact ⟨none, 0, rfl, rfl⟩
  · (try replace hc1 := of_decide_eq_false hc1)
    refine vc_skip ?_
    refine vc_seq ?_
    refine vc_region ?_
    refine vl_val rfl (.some rfl) (val_move rfl) ?_
    refine vl_val rfl (.some rfl) (val_assign rfl) ?_
    refine vl_val rfl (.some rfl) (val_assign rfl) ?_
    refine vl_nil ?_
    refine vc_ret ?_
    refine ⟨_, [BY A16 (recB (recOf m)).length c16 (recB (recOf m))], _, res2 Try.results22 rfl rfl, (by repeat constructor), ?_⟩
    obtain ⟨e1, e2⟩ := byt_ok hg (by omega)
    show ∃ A' c', _ ∧ _
    rw [e1, e2]
    exact ⟨A16, c16, rfl, rfl⟩
set_option maxRecDepth 20000 in
theorem xBytes0 (m : RecM) (hg : ¬ goodRec (recOf m)) (hL : RecL m) (w : World) (hR : RecR w m) : Fn Try.prog 22 [recA m] [] (ret fun v H' => ∃ A' c', v = .tuple #[.slice A' (bytL (recOf m)).length c', .int .i64 (bytE (recOf m))] ∧ H' = [BY A' (bytL (recOf m)).length c' (bytL (recOf m))]) w := by
  refine fn_enter Try.func22 rfl Try.ntmps22 rfl ?_
  refine vc_seq ?_
  refine vc_region ?_
  refine vl_box rfl rfl (.some rfl) rfl (fun r1 => ?_)
  refine vl_val rfl (.some rfl) (val_assign rfl) ?_
  refine vl_val rfl (.some rfl) (val_assign rfl) ?_
  refine vl_nil ?_
  refine vc_seq ?_
  refine vc_seq ?_
  refine vc_region ?_
  refine vl_val rfl (.some rfl) (val_loadAgg Try.isAgg43 Try.sizeOf43 rfl (by first | exact cells_whole (by repeat constructor) | exact cells_part (by repeat constructor) rfl) rfl) ?_
  refine vl_callV rfl rfl (.some rfl) Try.call27 rfl (fun w hw => xGoodR m hL w (rec_here hR hw)) ?_
  rw [decide_eq_false hg]
  refine vl_val rfl (.some rfl) (val_not rfl) ?_
  refine vl_nil ?_
  refine vc_cond rfl (fun _ => ?_) (fun h => by cases h)
  refine vc_seq ?_
  refine vc_region ?_
  refine vl_val rfl (.some rfl) (val_assign rfl) ?_
  refine vl_nilSl 5 1 ?_
  refine vl_val rfl (.some rfl) (val_assign rfl) ?_
  refine vl_nil ?_
  refine vc_ret ?_
  refine ⟨_, [BY none 0 0 []], _, res2 Try.results22 rfl rfl, (by repeat constructor), ?_⟩
  obtain ⟨e1, e2⟩ := byt_bad hg
  show ∃ A' c', _ ∧ _
  rw [e1, e2]
  exact ⟨none, 0, rfl, rfl⟩

theorem xBytesR (m : RecM) (hL : RecL m) (hB : goodRec (recOf m) → RecB m) (w : World) (hR : RecR w m) : Fn Try.prog 22 [recA m] [] (ret fun v H' => ∃ A' c', v = .tuple #[.slice A' (bytL (recOf m)).length c', .int .i64 (bytE (recOf m))] ∧ H' = [BY A' (bytL (recOf m)).length c' (bytL (recOf m))]) w := by
  by_cases hg : goodRec (recOf m)
  · rcases good_k hg with h | h | h
    · exact xBytes1 m h hg hL (hB hg) w hR
    · exact xBytes2 m h hg hL (hB hg) w hR
    · exact xBytes3 m h hg hL (hB hg) w hR
  · exact xBytes0 m hg hL w hR




theorem k_no {x : Rec} (h : ¬ x.k = 1) (h2 : ¬ x.k = 2) (h3 : ¬ x.k = 3) : ¬ goodRec x := fun hg => by rcases good_k hg with h | h | h <;> omega
theorem good_1iff {x : Rec} (hk : x.k = 1) : goodRec x ↔ goodT x.t ∧ noR x.r ∧ noB x := by
  unfold goodRec
  exact ⟨fun h => by rcases h with ⟨_, h⟩ | ⟨a, _⟩ | ⟨a, _⟩; exact h; omega; omega, fun h => .inl ⟨hk, h⟩⟩
theorem good_2iff {x : Rec} (hk : x.k = 2) : goodRec x ↔ goodR x.r ∧ noT x.t ∧ noB x := by
  unfold goodRec
  exact ⟨fun h => by rcases h with ⟨a, _⟩ | ⟨_, h⟩ | ⟨a, _⟩; omega; exact h; omega, fun h => .inr (.inl ⟨hk, h⟩)⟩
theorem good_3iff {x : Rec} (hk : x.k = 3) : goodRec x ↔ goodB x.rows ∧ noT x.t ∧ noR x.r := by
  unfold goodRec
  exact ⟨fun h => by rcases h with ⟨a, _⟩ | ⟨a, _⟩ | ⟨_, h⟩; omega; omega; exact h, fun h => .inr (.inr ⟨hk, h⟩)⟩

set_option maxRecDepth 20000 in
theorem rNoT (m : RecM) (w : World) : FnV Try.prog 67 [.agg (tabC m).toArray] (.bool (decide (noT ⟨m.tn, m.cs⟩))) w := by
  refine fn_enter Try.func67 rfl Try.ntmps67 rfl ?_
  refine vc_seq ?_
  refine vc_region ?_
  refine vl_box rfl rfl (.some rfl) rfl (fun r1 => ?_)
  refine vl_val rfl (.some rfl) (val_assign rfl) ?_
  refine vl_nil ?_
  refine vc_seq ?_
  refine vc_region ?_
  refine vl_val rfl (.some rfl) (by first | exact val_fieldAddr Try.runUnderlying36 rfl Try.sizeOf9 rfl | exact val_fieldAddrR Try.runUnderlying36 rfl Try.sizeOf9 rfl) ?_
  refine vl_val rfl (.some rfl) (val_load Try.isAgg9 rfl (by first | exact cell_cells (by repeat constructor) rfl | exact cell_rd (by first | exact rd_sl (by repeat constructor) | exact rd_old (by assumption) rfl) (by first | exact bcells_at (by omega) | exact ucells_at (by omega) | exact icells_at (by omega) | exact tcells_at (by omega) | exact bcells_get (by omega) | exact icells_get (by omega) | exact tcells_get (by omega) | exact ucells_get (by omega)) | exact cell_old (by assumption) (by simp [fps]))) ?_
  refine vl_val rfl (.some rfl) (val_seq rfl rfl) ?_
  refine vl_val rfl (.some rfl) (val_move rfl) ?_
  refine vl_split (t := 6) rfl (fun hg6 => ?_) (fun hg6 => ?_)
  · (try replace hg6 := of_decide_eq_true hg6)
    refine vl_on rfl rfl rfl rfl ?_
    refine vl_val rfl (.some rfl) (by first | exact val_fieldAddr Try.runUnderlying36 rfl Try.sizeOf34 rfl | exact val_fieldAddrR Try.runUnderlying36 rfl Try.sizeOf34 rfl) ?_
    refine vl_on rfl rfl rfl rfl ?_
    refine vl_val rfl (.some rfl) (val_load Try.isAgg34 rfl (by first | exact cell_cells (by repeat constructor) rfl | exact cell_rd (by first | exact rd_sl (by repeat constructor) | exact rd_old (by assumption) rfl) (by first | exact bcells_at (by omega) | exact ucells_at (by omega) | exact icells_at (by omega) | exact tcells_at (by omega) | exact bcells_get (by omega) | exact icells_get (by omega) | exact tcells_get (by omega) | exact ucells_get (by omega)) | exact cell_old (by assumption) (by simp [fps]))) ?_
    refine vl_on rfl rfl rfl rfl ?_
    refine vl_val rfl (.some rfl) (val_lenSl Try.runUnderlying34 rfl) ?_
    refine vl_on rfl rfl rfl rfl ?_
    refine vl_val rfl (.some rfl) (val_eq rfl rfl) ?_
    refine vl_val rfl (.some rfl) (val_pick rfl rfl) ?_
    refine vl_val rfl (.some rfl) (val_assign rfl) ?_
    refine vl_nil ?_
    refine vc_ret ?_
    refine ⟨_, [], _, res1 Try.results67 rfl, .nil, ?_⟩
    show Value.bool _ = Value.bool _
    refine congrArg Value.bool ?_
    first
      | (rw [decide_eq_decide]; exact ⟨fun h => ⟨sL_nil.1 hg6, len_nil.1 (show m.cs.length = 0 by omega)⟩, fun h => by rw [show m.cs = [] from h.2]; rfl⟩)
      | exact (decide_eq_false (fun h => hg6 (sL_nil.2 h.1))).symm
  · (try replace hg6 := of_decide_eq_false hg6)
    refine vl_off rfl rfl rfl rfl (.some rfl) ?_
    refine vl_off rfl rfl rfl rfl (.some rfl) ?_
    refine vl_off rfl rfl rfl rfl (.some rfl) ?_
    refine vl_off rfl rfl rfl rfl (.some rfl) ?_
    refine vl_val rfl (.some rfl) (val_pick rfl rfl) ?_
    refine vl_val rfl (.some rfl) (val_assign rfl) ?_
    refine vl_nil ?_
    refine vc_ret ?_
    refine ⟨_, [], _, res1 Try.results67 rfl, .nil, ?_⟩
    show Value.bool _ = Value.bool _
    refine congrArg Value.bool ?_
    first
      | (rw [decide_eq_decide]; exact ⟨fun h => ⟨sL_nil.1 hg6, len_nil.1 (show m.cs.length = 0 by omega)⟩, fun h => by rw [show m.cs = [] from h.2]; rfl⟩)
      | exact (decide_eq_false (fun h => hg6 (sL_nil.2 h.1))).symm
set_option maxRecDepth 20000 in
theorem rNoR (m : RecM) (w : World) : FnV Try.prog 66 [.agg (rolC m).toArray] (.bool (decide (noR ⟨m.rn, m.rt, m.ds, m.ms⟩))) w := by
  refine fn_enter Try.func66 rfl Try.ntmps66 rfl ?_
  refine vc_seq ?_
  refine vc_region ?_
  refine vl_box rfl rfl (.some rfl) rfl (fun r1 => ?_)
  refine vl_val rfl (.some rfl) (val_assign rfl) ?_
  refine vl_nil ?_
  refine vc_seq ?_
  refine vc_region ?_
  refine vl_val rfl (.some rfl) (by first | exact val_fieldAddr Try.runUnderlying40 rfl Try.sizeOf9 rfl | exact val_fieldAddrR Try.runUnderlying40 rfl Try.sizeOf9 rfl) ?_
  refine vl_val rfl (.some rfl) (val_load Try.isAgg9 rfl (by first | exact cell_cells (by repeat constructor) rfl | exact cell_rd (by first | exact rd_sl (by repeat constructor) | exact rd_old (by assumption) rfl) (by first | exact bcells_at (by omega) | exact ucells_at (by omega) | exact icells_at (by omega) | exact tcells_at (by omega) | exact bcells_get (by omega) | exact icells_get (by omega) | exact tcells_get (by omega) | exact ucells_get (by omega)) | exact cell_old (by assumption) (by simp [fps]))) ?_
  refine vl_val rfl (.some rfl) (val_seq rfl rfl) ?_
  refine vl_val rfl (.some rfl) (val_move rfl) ?_
  refine vl_split (t := 6) rfl (fun hg6 => ?_) (fun hg6 => ?_)
  · (try replace hg6 := of_decide_eq_true hg6)
    refine vl_on rfl rfl rfl rfl ?_
    refine vl_val rfl (.some rfl) (by first | exact val_fieldAddr Try.runUnderlying40 rfl Try.sizeOf9 rfl | exact val_fieldAddrR Try.runUnderlying40 rfl Try.sizeOf9 rfl) ?_
    refine vl_on rfl rfl rfl rfl ?_
    refine vl_val rfl (.some rfl) (val_load Try.isAgg9 rfl (by first | exact cell_cells (by repeat constructor) rfl | exact cell_rd (by first | exact rd_sl (by repeat constructor) | exact rd_old (by assumption) rfl) (by first | exact bcells_at (by omega) | exact ucells_at (by omega) | exact icells_at (by omega) | exact tcells_at (by omega) | exact bcells_get (by omega) | exact icells_get (by omega) | exact tcells_get (by omega) | exact ucells_get (by omega)) | exact cell_old (by assumption) (by simp [fps]))) ?_
    refine vl_on rfl rfl rfl rfl ?_
    refine vl_val rfl (.some rfl) (val_seq rfl rfl) ?_
    refine vl_val rfl (.some rfl) (val_pick rfl rfl) ?_
    refine vl_val rfl (.some rfl) (val_move rfl) ?_
    refine vl_split (t := 11) rfl (fun hg11 => ?_) (fun hg11 => ?_)
    · (try replace hg11 := of_decide_eq_true hg11)
      refine vl_on rfl rfl rfl rfl ?_
      refine vl_val rfl (.some rfl) (by first | exact val_fieldAddr Try.runUnderlying40 rfl Try.sizeOf37 rfl | exact val_fieldAddrR Try.runUnderlying40 rfl Try.sizeOf37 rfl) ?_
      refine vl_on rfl rfl rfl rfl ?_
      refine vl_val rfl (.some rfl) (val_load Try.isAgg37 rfl (by first | exact cell_cells (by repeat constructor) rfl | exact cell_rd (by first | exact rd_sl (by repeat constructor) | exact rd_old (by assumption) rfl) (by first | exact bcells_at (by omega) | exact ucells_at (by omega) | exact icells_at (by omega) | exact tcells_at (by omega) | exact bcells_get (by omega) | exact icells_get (by omega) | exact tcells_get (by omega) | exact ucells_get (by omega)) | exact cell_old (by assumption) (by simp [fps]))) ?_
      refine vl_on rfl rfl rfl rfl ?_
      refine vl_val rfl (.some rfl) (val_lenSl Try.runUnderlying37 rfl) ?_
      refine vl_on rfl rfl rfl rfl ?_
      refine vl_val rfl (.some rfl) (val_eq rfl rfl) ?_
      refine vl_val rfl (.some rfl) (val_pick rfl rfl) ?_
      refine vl_val rfl (.some rfl) (val_move rfl) ?_
      refine vl_split (t := 17) rfl (fun hg17 => ?_) (fun hg17 => ?_)
      · (try replace hg17 := of_decide_eq_true hg17)
        refine vl_on rfl rfl rfl rfl ?_
        refine vl_val rfl (.some rfl) (by first | exact val_fieldAddr Try.runUnderlying40 rfl Try.sizeOf38 rfl | exact val_fieldAddrR Try.runUnderlying40 rfl Try.sizeOf38 rfl) ?_
        refine vl_on rfl rfl rfl rfl ?_
        refine vl_val rfl (.some rfl) (val_load Try.isAgg38 rfl (by first | exact cell_cells (by repeat constructor) rfl | exact cell_rd (by first | exact rd_sl (by repeat constructor) | exact rd_old (by assumption) rfl) (by first | exact bcells_at (by omega) | exact ucells_at (by omega) | exact icells_at (by omega) | exact tcells_at (by omega) | exact bcells_get (by omega) | exact icells_get (by omega) | exact tcells_get (by omega) | exact ucells_get (by omega)) | exact cell_old (by assumption) (by simp [fps]))) ?_
        refine vl_on rfl rfl rfl rfl ?_
        refine vl_val rfl (.some rfl) (val_lenSl Try.runUnderlying38 rfl) ?_
        refine vl_on rfl rfl rfl rfl ?_
        refine vl_val rfl (.some rfl) (val_eq rfl rfl) ?_
        refine vl_val rfl (.some rfl) (val_pick rfl rfl) ?_
        refine vl_val rfl (.some rfl) (val_assign rfl) ?_
        refine vl_nil ?_
        refine vc_ret ?_
        refine ⟨_, [], _, res1 Try.results66 rfl, .nil, ?_⟩
        show Value.bool _ = Value.bool _
        refine congrArg Value.bool ?_
        first
          | (rw [decide_eq_decide]; exact ⟨fun h => ⟨sL_nil.1 hg6, sL_nil.1 hg11, len_nil.1 (show m.ds.length = 0 by omega), len_nil.1 (show m.ms.length = 0 by omega)⟩, fun h => by rw [show m.ms = [] from h.2.2.2]; rfl⟩)
          | exact (decide_eq_false (fun h => by
              first
              | exact hg6 (sL_nil.2 h.1)
              | exact hg11 (sL_nil.2 h.2.1)
              | (have e : m.ds.length = 0 := by rw [show m.ds = [] from h.2.2.1]; rfl
                 omega))).symm
      · (try replace hg17 := of_decide_eq_false hg17)
        refine vl_off rfl rfl rfl rfl (.some rfl) ?_
        refine vl_off rfl rfl rfl rfl (.some rfl) ?_
        refine vl_off rfl rfl rfl rfl (.some rfl) ?_
        refine vl_off rfl rfl rfl rfl (.some rfl) ?_
        refine vl_val rfl (.some rfl) (val_pick rfl rfl) ?_
        refine vl_val rfl (.some rfl) (val_assign rfl) ?_
        refine vl_nil ?_
        refine vc_ret ?_
        refine ⟨_, [], _, res1 Try.results66 rfl, .nil, ?_⟩
        show Value.bool _ = Value.bool _
        refine congrArg Value.bool ?_
        first
          | (rw [decide_eq_decide]; exact ⟨fun h => ⟨sL_nil.1 hg6, sL_nil.1 hg11, len_nil.1 (show m.ds.length = 0 by omega), len_nil.1 (show m.ms.length = 0 by omega)⟩, fun h => by rw [show m.ms = [] from h.2.2.2]; rfl⟩)
          | exact (decide_eq_false (fun h => by
              first
              | exact hg6 (sL_nil.2 h.1)
              | exact hg11 (sL_nil.2 h.2.1)
              | (have e : m.ds.length = 0 := by rw [show m.ds = [] from h.2.2.1]; rfl
                 omega))).symm
    · (try replace hg11 := of_decide_eq_false hg11)
      refine vl_off rfl rfl rfl rfl (.some rfl) ?_
      refine vl_off rfl rfl rfl rfl (.some rfl) ?_
      refine vl_off rfl rfl rfl rfl (.some rfl) ?_
      refine vl_off rfl rfl rfl rfl (.some rfl) ?_
      refine vl_val rfl (.some rfl) (val_pick rfl rfl) ?_
      refine vl_val rfl (.some rfl) (val_move rfl) ?_
      refine vl_off rfl rfl rfl rfl (.some rfl) ?_
      refine vl_off rfl rfl rfl rfl (.some rfl) ?_
      refine vl_off rfl rfl rfl rfl (.some rfl) ?_
      refine vl_off rfl rfl rfl rfl (.some rfl) ?_
      refine vl_val rfl (.some rfl) (val_pick rfl rfl) ?_
      refine vl_val rfl (.some rfl) (val_assign rfl) ?_
      refine vl_nil ?_
      refine vc_ret ?_
      refine ⟨_, [], _, res1 Try.results66 rfl, .nil, ?_⟩
      show Value.bool _ = Value.bool _
      refine congrArg Value.bool ?_
      first
        | (rw [decide_eq_decide]; exact ⟨fun h => ⟨sL_nil.1 hg6, sL_nil.1 hg11, len_nil.1 (show m.ds.length = 0 by omega), len_nil.1 (show m.ms.length = 0 by omega)⟩, fun h => by rw [show m.ms = [] from h.2.2.2]; rfl⟩)
        | exact (decide_eq_false (fun h => by
            first
            | exact hg6 (sL_nil.2 h.1)
            | exact hg11 (sL_nil.2 h.2.1)
            | (have e : m.ds.length = 0 := by rw [show m.ds = [] from h.2.2.1]; rfl
               omega))).symm
  · (try replace hg6 := of_decide_eq_false hg6)
    refine vl_off rfl rfl rfl rfl (.some rfl) ?_
    refine vl_off rfl rfl rfl rfl (.some rfl) ?_
    refine vl_off rfl rfl rfl rfl (.some rfl) ?_
    refine vl_val rfl (.some rfl) (val_pick rfl rfl) ?_
    refine vl_val rfl (.some rfl) (val_move rfl) ?_
    refine vl_off rfl rfl rfl rfl (.some rfl) ?_
    refine vl_off rfl rfl rfl rfl (.some rfl) ?_
    refine vl_off rfl rfl rfl rfl (.some rfl) ?_
    refine vl_off rfl rfl rfl rfl (.some rfl) ?_
    refine vl_val rfl (.some rfl) (val_pick rfl rfl) ?_
    refine vl_val rfl (.some rfl) (val_move rfl) ?_
    refine vl_off rfl rfl rfl rfl (.some rfl) ?_
    refine vl_off rfl rfl rfl rfl (.some rfl) ?_
    refine vl_off rfl rfl rfl rfl (.some rfl) ?_
    refine vl_off rfl rfl rfl rfl (.some rfl) ?_
    refine vl_val rfl (.some rfl) (val_pick rfl rfl) ?_
    refine vl_val rfl (.some rfl) (val_assign rfl) ?_
    refine vl_nil ?_
    refine vc_ret ?_
    refine ⟨_, [], _, res1 Try.results66 rfl, .nil, ?_⟩
    show Value.bool _ = Value.bool _
    refine congrArg Value.bool ?_
    first
      | (rw [decide_eq_decide]; exact ⟨fun h => ⟨sL_nil.1 hg6, sL_nil.1 hg11, len_nil.1 (show m.ds.length = 0 by omega), len_nil.1 (show m.ms.length = 0 by omega)⟩, fun h => by rw [show m.ms = [] from h.2.2.2]; rfl⟩)
      | exact (decide_eq_false (fun h => by
          first
          | exact hg6 (sL_nil.2 h.1)
          | exact hg11 (sL_nil.2 h.2.1)
          | (have e : m.ds.length = 0 := by rw [show m.ds = [] from h.2.2.1]; rfl
             omega))).symm
set_option maxRecDepth 20000 in
set_option maxHeartbeats 2000000 in
theorem rGoodR (m : RecM) (hL : RecL m) (w : World) (hR : RecR w m) : FnV Try.prog 28 [recA m] (.bool (decide (goodRec (recOf m)))) w := by
  have hrs := hL.rs
  refine fn_enter Try.func28 rfl Try.ntmps28 rfl ?_
  refine vc_seq ?_
  refine vc_region ?_
  refine vl_box rfl rfl (.some rfl) rfl (fun r1 => ?_)
  refine vl_val rfl (.some rfl) (val_assign rfl) ?_
  refine vl_nil ?_
  refine vc_seq ?_
  refine vc_seq ?_
  refine vc_region ?_
  refine vl_val rfl (.some rfl) (by first | exact val_fieldAddr Try.runUnderlying44 rfl Try.sizeOf3 rfl | exact val_fieldAddrR Try.runUnderlying44 rfl Try.sizeOf3 rfl) ?_
  refine vl_val rfl (.some rfl) (val_load Try.isAgg3 rfl (by first | exact cell_cells (by repeat constructor) rfl | exact cell_rd (by first | exact rd_sl (by repeat constructor) | exact rd_old (by assumption) rfl) (by first | exact bcells_at (by omega) | exact ucells_at (by omega) | exact icells_at (by omega) | exact tcells_at (by omega) | exact bcells_get (by omega) | exact icells_get (by omega) | exact tcells_get (by omega) | exact ucells_get (by omega)) | exact cell_old (by assumption) (by simp [fps]))) ?_
  refine vl_nil ?_
  refine vc_block ?_
  refine vc_seq ?_
  refine vc_region ?_
  refine vl_val rfl (.some rfl) (val_eq rfl rfl) ?_
  refine vl_val rfl (.some rfl) (val_assign rfl) ?_
  refine vl_nil ?_
  refine vc_cond rfl (fun hc0 => ?_) (fun hc0 => ?_)
  · (try replace hc0 := of_decide_eq_true hc0)
    refine vc_seq ?_
    refine vc_region ?_
    refine vl_val rfl (.some rfl) (by first | exact val_fieldAddr Try.runUnderlying44 rfl Try.sizeOf36 rfl | exact val_fieldAddrR Try.runUnderlying44 rfl Try.sizeOf36 rfl) ?_
    refine vl_val rfl (.some rfl) (by first | exact val_fieldAddr Try.runUnderlying36 rfl Try.sizeOf34 rfl | exact val_fieldAddrR Try.runUnderlying36 rfl Try.sizeOf34 rfl) ?_
    refine vl_val rfl (.some rfl) (val_load Try.isAgg34 rfl (by first | exact cell_cells (by repeat constructor) rfl | exact cell_rd (by first | exact rd_sl (by repeat constructor) | exact rd_old (by assumption) rfl) (by first | exact bcells_at (by omega) | exact ucells_at (by omega) | exact icells_at (by omega) | exact tcells_at (by omega) | exact bcells_get (by omega) | exact icells_get (by omega) | exact tcells_get (by omega) | exact ucells_get (by omega)) | exact cell_old (by assumption) (by simp [fps]))) ?_
    refine vl_val rfl (.some rfl) (val_lenSl Try.runUnderlying34 rfl) ?_
    refine vl_val rfl (.some rfl) (val_assign rfl) ?_
    refine vl_nil ?_
    refine vc_seq ?_
    refine vc_region ?_
    refine vl_val rfl (.some rfl) (val_move rfl) ?_
    refine vl_val rfl (.some rfl) (val_ge rfl rfl) ?_
    refine vl_val rfl (.some rfl) (val_move rfl) ?_
    refine vl_split (t := 19) rfl (fun hg19 => ?_) (fun hg19 => ?_)
    · (try replace hg19 := of_decide_eq_true hg19)
      refine vl_on rfl rfl rfl rfl ?_
      refine vl_val rfl (.some rfl) (val_move rfl) ?_
      refine vl_on rfl rfl rfl rfl ?_
      refine vl_val rfl (.some rfl) (val_le rfl rfl) ?_
      refine vl_val rfl (.some rfl) (val_pick rfl rfl) ?_
      refine vl_val rfl (.some rfl) (val_move rfl) ?_
      refine vl_split (t := 23) rfl (fun hg23 => ?_) (fun hg23 => ?_)
      · (try replace hg23 := of_decide_eq_true hg23)
        refine vl_on rfl rfl rfl rfl ?_
        refine vl_val rfl (.some rfl) (by first | exact val_fieldAddr Try.runUnderlying44 rfl Try.sizeOf40 rfl | exact val_fieldAddrR Try.runUnderlying44 rfl Try.sizeOf40 rfl) ?_
        refine vl_on rfl rfl rfl rfl ?_
        refine vl_val rfl (.some rfl) (val_loadAgg Try.isAgg40 Try.sizeOf40 rfl (cells_part (us := rolC m) (by repeat constructor) rfl) rfl) ?_
        refine vl_on rfl rfl rfl rfl ?_
        refine vl_callV rfl rfl (.some rfl) Try.call66 rfl (fun w hw => rNoR m w) ?_
        refine vl_val rfl (.some rfl) (val_pick rfl rfl) ?_
        refine vl_val rfl (.some rfl) (val_move rfl) ?_
        refine vl_split (t := 28) rfl (fun hg28 => ?_) (fun hg28 => ?_)
        · (try replace hg28 := of_decide_eq_true hg28)
          refine vl_on rfl rfl rfl rfl ?_
          refine vl_val rfl (.some rfl) (by first | exact val_fieldAddr Try.runUnderlying44 rfl Try.sizeOf9 rfl | exact val_fieldAddrR Try.runUnderlying44 rfl Try.sizeOf9 rfl) ?_
          refine vl_on rfl rfl rfl rfl ?_
          refine vl_val rfl (.some rfl) (val_load Try.isAgg9 rfl (by first | exact cell_cells (by repeat constructor) rfl | exact cell_rd (by first | exact rd_sl (by repeat constructor) | exact rd_old (by assumption) rfl) (by first | exact bcells_at (by omega) | exact ucells_at (by omega) | exact icells_at (by omega) | exact tcells_at (by omega) | exact bcells_get (by omega) | exact icells_get (by omega) | exact tcells_get (by omega) | exact ucells_get (by omega)) | exact cell_old (by assumption) (by simp [fps]))) ?_
          refine vl_on rfl rfl rfl rfl ?_
          refine vl_val rfl (.some rfl) (val_seq rfl rfl) ?_
          refine vl_val rfl (.some rfl) (val_pick rfl rfl) ?_
          refine vl_val rfl (.some rfl) (val_move rfl) ?_
          refine vl_split (t := 33) rfl (fun hg33 => ?_) (fun hg33 => ?_)
          · (try replace hg33 := of_decide_eq_true hg33)
            refine vl_on rfl rfl rfl rfl ?_
            refine vl_val rfl (.some rfl) (by first | exact val_fieldAddr Try.runUnderlying44 rfl Try.sizeOf41 rfl | exact val_fieldAddrR Try.runUnderlying44 rfl Try.sizeOf41 rfl) ?_
            refine vl_on rfl rfl rfl rfl ?_
            refine vl_val rfl (.some rfl) (val_load Try.isAgg41 rfl (by first | exact cell_cells (by repeat constructor) rfl | exact cell_rd (by first | exact rd_sl (by repeat constructor) | exact rd_old (by assumption) rfl) (by first | exact bcells_at (by omega) | exact ucells_at (by omega) | exact icells_at (by omega) | exact tcells_at (by omega) | exact bcells_get (by omega) | exact icells_get (by omega) | exact tcells_get (by omega) | exact ucells_get (by omega)) | exact cell_old (by assumption) (by simp [fps]))) ?_
            refine vl_on rfl rfl rfl rfl ?_
            refine vl_val rfl (.some rfl) (val_lenSl Try.runUnderlying41 rfl) ?_
            refine vl_on rfl rfl rfl rfl ?_
            refine vl_val rfl (.some rfl) (val_eq rfl rfl) ?_
            refine vl_val rfl (.some rfl) (val_pick rfl rfl) ?_
            refine vl_val rfl (.some rfl) (val_assign rfl) ?_
            refine vl_nil ?_
            refine vc_ret ?_
            refine ⟨_, [], _, res1 Try.results28 rfl, .nil, ?_⟩
            show Value.bool _ = Value.bool _
            refine congrArg Value.bool ?_
            have hk : (recOf m).k = 1 := hc0
            first
              | (rw [decide_eq_decide, good_1iff hk]; exact ⟨fun h => ⟨⟨show 1 ≤ m.cs.length by omega, show m.cs.length ≤ 8 by omega⟩, hg28, sL_nil.1 hg33, rows_nil.2 (len_nil.1 (show m.rs.length = 0 by omega))⟩, fun h => by rw [rows_nil.1 h.2.2.2]; rfl⟩)
              | exact (decide_eq_false (fun h => by
                  rw [good_1iff hk] at h
                  have g1 : 1 ≤ m.cs.length := h.1.1
                  have g2 : m.cs.length ≤ 8 := h.1.2
                  first
                  | omega
                  | exact hg28 h.2.1
                  | exact hg33 (sL_nil.2 h.2.2.1))).symm
          · (try replace hg33 := of_decide_eq_false hg33)
            refine vl_off rfl rfl rfl rfl (.some rfl) ?_
            refine vl_off rfl rfl rfl rfl (.some rfl) ?_
            refine vl_off rfl rfl rfl rfl (.some rfl) ?_
            refine vl_off rfl rfl rfl rfl (.some rfl) ?_
            refine vl_val rfl (.some rfl) (val_pick rfl rfl) ?_
            refine vl_val rfl (.some rfl) (val_assign rfl) ?_
            refine vl_nil ?_
            refine vc_ret ?_
            refine ⟨_, [], _, res1 Try.results28 rfl, .nil, ?_⟩
            show Value.bool _ = Value.bool _
            refine congrArg Value.bool ?_
            have hk : (recOf m).k = 1 := hc0
            first
              | (rw [decide_eq_decide, good_1iff hk]; exact ⟨fun h => ⟨⟨show 1 ≤ m.cs.length by omega, show m.cs.length ≤ 8 by omega⟩, hg28, sL_nil.1 hg33, rows_nil.2 (len_nil.1 (show m.rs.length = 0 by omega))⟩, fun h => by rw [rows_nil.1 h.2.2.2]; rfl⟩)
              | exact (decide_eq_false (fun h => by
                  rw [good_1iff hk] at h
                  have g1 : 1 ≤ m.cs.length := h.1.1
                  have g2 : m.cs.length ≤ 8 := h.1.2
                  first
                  | omega
                  | exact hg28 h.2.1
                  | exact hg33 (sL_nil.2 h.2.2.1))).symm
        · (try replace hg28 := of_decide_eq_false hg28)
          refine vl_off rfl rfl rfl rfl (.some rfl) ?_
          refine vl_off rfl rfl rfl rfl (.some rfl) ?_
          refine vl_off rfl rfl rfl rfl (.some rfl) ?_
          refine vl_val rfl (.some rfl) (val_pick rfl rfl) ?_
          refine vl_val rfl (.some rfl) (val_move rfl) ?_
          refine vl_off rfl rfl rfl rfl (.some rfl) ?_
          refine vl_off rfl rfl rfl rfl (.some rfl) ?_
          refine vl_off rfl rfl rfl rfl (.some rfl) ?_
          refine vl_off rfl rfl rfl rfl (.some rfl) ?_
          refine vl_val rfl (.some rfl) (val_pick rfl rfl) ?_
          refine vl_val rfl (.some rfl) (val_assign rfl) ?_
          refine vl_nil ?_
          refine vc_ret ?_
          refine ⟨_, [], _, res1 Try.results28 rfl, .nil, ?_⟩
          show Value.bool _ = Value.bool _
          refine congrArg Value.bool ?_
          have hk : (recOf m).k = 1 := hc0
          first
            | (rw [decide_eq_decide, good_1iff hk]; exact ⟨fun h => ⟨⟨show 1 ≤ m.cs.length by omega, show m.cs.length ≤ 8 by omega⟩, hg28, sL_nil.1 hg33, rows_nil.2 (len_nil.1 (show m.rs.length = 0 by omega))⟩, fun h => by rw [rows_nil.1 h.2.2.2]; rfl⟩)
            | exact (decide_eq_false (fun h => by
                rw [good_1iff hk] at h
                have g1 : 1 ≤ m.cs.length := h.1.1
                have g2 : m.cs.length ≤ 8 := h.1.2
                first
                | omega
                | exact hg28 h.2.1
                | exact hg33 (sL_nil.2 h.2.2.1))).symm
      · (try replace hg23 := of_decide_eq_false hg23)
        refine vl_off rfl rfl rfl rfl (.some rfl) ?_
        refine vl_off rfl rfl rfl rfl (.some rfl) ?_
        refine vl_off rfl rfl rfl rfl (.some rfl) ?_
        refine vl_val rfl (.some rfl) (val_pick rfl rfl) ?_
        refine vl_val rfl (.some rfl) (val_move rfl) ?_
        refine vl_off rfl rfl rfl rfl (.some rfl) ?_
        refine vl_off rfl rfl rfl rfl (.some rfl) ?_
        refine vl_off rfl rfl rfl rfl (.some rfl) ?_
        refine vl_val rfl (.some rfl) (val_pick rfl rfl) ?_
        refine vl_val rfl (.some rfl) (val_move rfl) ?_
        refine vl_off rfl rfl rfl rfl (.some rfl) ?_
        refine vl_off rfl rfl rfl rfl (.some rfl) ?_
        refine vl_off rfl rfl rfl rfl (.some rfl) ?_
        refine vl_off rfl rfl rfl rfl (.some rfl) ?_
        refine vl_val rfl (.some rfl) (val_pick rfl rfl) ?_
        refine vl_val rfl (.some rfl) (val_assign rfl) ?_
        refine vl_nil ?_
        refine vc_ret ?_
        refine ⟨_, [], _, res1 Try.results28 rfl, .nil, ?_⟩
        show Value.bool _ = Value.bool _
        refine congrArg Value.bool ?_
        have hk : (recOf m).k = 1 := hc0
        first
          | (rw [decide_eq_decide, good_1iff hk]; exact ⟨fun h => ⟨⟨show 1 ≤ m.cs.length by omega, show m.cs.length ≤ 8 by omega⟩, hg28, sL_nil.1 hg33, rows_nil.2 (len_nil.1 (show m.rs.length = 0 by omega))⟩, fun h => by rw [rows_nil.1 h.2.2.2]; rfl⟩)
          | exact (decide_eq_false (fun h => by
              rw [good_1iff hk] at h
              have g1 : 1 ≤ m.cs.length := h.1.1
              have g2 : m.cs.length ≤ 8 := h.1.2
              first
              | omega
              | exact hg28 h.2.1
              | exact hg33 (sL_nil.2 h.2.2.1))).symm
    · (try replace hg19 := of_decide_eq_false hg19)
      refine vl_off rfl rfl rfl rfl (.some rfl) ?_
      refine vl_off rfl rfl rfl rfl (.some rfl) ?_
      refine vl_val rfl (.some rfl) (val_pick rfl rfl) ?_
      refine vl_val rfl (.some rfl) (val_move rfl) ?_
      refine vl_off rfl rfl rfl rfl (.some rfl) ?_
      refine vl_off rfl rfl rfl rfl (.some rfl) ?_
      refine vl_off rfl rfl rfl rfl (.some rfl) ?_
      refine vl_val rfl (.some rfl) (val_pick rfl rfl) ?_
      refine vl_val rfl (.some rfl) (val_move rfl) ?_
      refine vl_off rfl rfl rfl rfl (.some rfl) ?_
      refine vl_off rfl rfl rfl rfl (.some rfl) ?_
      refine vl_off rfl rfl rfl rfl (.some rfl) ?_
      refine vl_val rfl (.some rfl) (val_pick rfl rfl) ?_
      refine vl_val rfl (.some rfl) (val_move rfl) ?_
      refine vl_off rfl rfl rfl rfl (.some rfl) ?_
      refine vl_off rfl rfl rfl rfl (.some rfl) ?_
      refine vl_off rfl rfl rfl rfl (.some rfl) ?_
      refine vl_off rfl rfl rfl rfl (.some rfl) ?_
      refine vl_val rfl (.some rfl) (val_pick rfl rfl) ?_
      refine vl_val rfl (.some rfl) (val_assign rfl) ?_
      refine vl_nil ?_
      refine vc_ret ?_
      refine ⟨_, [], _, res1 Try.results28 rfl, .nil, ?_⟩
      show Value.bool _ = Value.bool _
      refine congrArg Value.bool ?_
      have hk : (recOf m).k = 1 := hc0
      first
        | (rw [decide_eq_decide, good_1iff hk]; exact ⟨fun h => ⟨⟨show 1 ≤ m.cs.length by omega, show m.cs.length ≤ 8 by omega⟩, hg28, sL_nil.1 hg33, rows_nil.2 (len_nil.1 (show m.rs.length = 0 by omega))⟩, fun h => by rw [rows_nil.1 h.2.2.2]; rfl⟩)
        | exact (decide_eq_false (fun h => by
            rw [good_1iff hk] at h
            have g1 : 1 ≤ m.cs.length := h.1.1
            have g2 : m.cs.length ≤ 8 := h.1.2
            first
            | omega
            | exact hg28 h.2.1
            | exact hg33 (sL_nil.2 h.2.2.1))).symm
  · (try replace hc0 := of_decide_eq_false hc0)
    refine vc_seq ?_
    refine vc_region ?_
    refine vl_val rfl (.some rfl) (val_eq rfl rfl) ?_
    refine vl_val rfl (.some rfl) (val_assign rfl) ?_
    refine vl_nil ?_
    refine vc_cond rfl (fun hc1 => ?_) (fun hc1 => ?_)
    · (try replace hc1 := of_decide_eq_true hc1)
      refine vc_seq ?_
      refine vc_region ?_
      refine vl_val rfl (.some rfl) (by first | exact val_fieldAddr Try.runUnderlying44 rfl Try.sizeOf40 rfl | exact val_fieldAddrR Try.runUnderlying44 rfl Try.sizeOf40 rfl) ?_
      refine vl_val rfl (.some rfl) (by first | exact val_fieldAddr Try.runUnderlying40 rfl Try.sizeOf37 rfl | exact val_fieldAddrR Try.runUnderlying40 rfl Try.sizeOf37 rfl) ?_
      refine vl_val rfl (.some rfl) (val_load Try.isAgg37 rfl (by first | exact cell_cells (by repeat constructor) rfl | exact cell_rd (by first | exact rd_sl (by repeat constructor) | exact rd_old (by assumption) rfl) (by first | exact bcells_at (by omega) | exact ucells_at (by omega) | exact icells_at (by omega) | exact tcells_at (by omega) | exact bcells_get (by omega) | exact icells_get (by omega) | exact tcells_get (by omega) | exact ucells_get (by omega)) | exact cell_old (by assumption) (by simp [fps]))) ?_
      refine vl_val rfl (.some rfl) (val_lenSl Try.runUnderlying37 rfl) ?_
      refine vl_val rfl (.some rfl) (val_le rfl rfl) ?_
      refine vl_val rfl (.some rfl) (val_move rfl) ?_
      refine vl_split (t := 46) rfl (fun hg46 => ?_) (fun hg46 => ?_)
      · (try replace hg46 := of_decide_eq_true hg46)
        refine vl_on rfl rfl rfl rfl ?_
        refine vl_val rfl (.some rfl) (by first | exact val_fieldAddr Try.runUnderlying44 rfl Try.sizeOf40 rfl | exact val_fieldAddrR Try.runUnderlying44 rfl Try.sizeOf40 rfl) ?_
        refine vl_on rfl rfl rfl rfl ?_
        refine vl_val rfl (.some rfl) (by first | exact val_fieldAddr Try.runUnderlying40 rfl Try.sizeOf38 rfl | exact val_fieldAddrR Try.runUnderlying40 rfl Try.sizeOf38 rfl) ?_
        refine vl_on rfl rfl rfl rfl ?_
        refine vl_val rfl (.some rfl) (val_load Try.isAgg38 rfl (by first | exact cell_cells (by repeat constructor) rfl | exact cell_rd (by first | exact rd_sl (by repeat constructor) | exact rd_old (by assumption) rfl) (by first | exact bcells_at (by omega) | exact ucells_at (by omega) | exact icells_at (by omega) | exact tcells_at (by omega) | exact bcells_get (by omega) | exact icells_get (by omega) | exact tcells_get (by omega) | exact ucells_get (by omega)) | exact cell_old (by assumption) (by simp [fps]))) ?_
        refine vl_on rfl rfl rfl rfl ?_
        refine vl_val rfl (.some rfl) (val_lenSl Try.runUnderlying38 rfl) ?_
        refine vl_on rfl rfl rfl rfl ?_
        refine vl_val rfl (.some rfl) (val_le rfl rfl) ?_
        refine vl_val rfl (.some rfl) (val_pick rfl rfl) ?_
        refine vl_val rfl (.some rfl) (val_move rfl) ?_
        refine vl_split (t := 53) rfl (fun hg53 => ?_) (fun hg53 => ?_)
        · (try replace hg53 := of_decide_eq_true hg53)
          refine vl_on rfl rfl rfl rfl ?_
          refine vl_val rfl (.some rfl) (by first | exact val_fieldAddr Try.runUnderlying44 rfl Try.sizeOf36 rfl | exact val_fieldAddrR Try.runUnderlying44 rfl Try.sizeOf36 rfl) ?_
          refine vl_on rfl rfl rfl rfl ?_
          refine vl_val rfl (.some rfl) (val_loadAgg Try.isAgg36 Try.sizeOf36 rfl (cells_part (us := tabC m) (by repeat constructor) rfl) rfl) ?_
          refine vl_on rfl rfl rfl rfl ?_
          refine vl_callV rfl rfl (.some rfl) Try.call67 rfl (fun w hw => rNoT m w) ?_
          refine vl_val rfl (.some rfl) (val_pick rfl rfl) ?_
          refine vl_val rfl (.some rfl) (val_move rfl) ?_
          refine vl_split (t := 58) rfl (fun hg58 => ?_) (fun hg58 => ?_)
          · (try replace hg58 := of_decide_eq_true hg58)
            refine vl_on rfl rfl rfl rfl ?_
            refine vl_val rfl (.some rfl) (by first | exact val_fieldAddr Try.runUnderlying44 rfl Try.sizeOf9 rfl | exact val_fieldAddrR Try.runUnderlying44 rfl Try.sizeOf9 rfl) ?_
            refine vl_on rfl rfl rfl rfl ?_
            refine vl_val rfl (.some rfl) (val_load Try.isAgg9 rfl (by first | exact cell_cells (by repeat constructor) rfl | exact cell_rd (by first | exact rd_sl (by repeat constructor) | exact rd_old (by assumption) rfl) (by first | exact bcells_at (by omega) | exact ucells_at (by omega) | exact icells_at (by omega) | exact tcells_at (by omega) | exact bcells_get (by omega) | exact icells_get (by omega) | exact tcells_get (by omega) | exact ucells_get (by omega)) | exact cell_old (by assumption) (by simp [fps]))) ?_
            refine vl_on rfl rfl rfl rfl ?_
            refine vl_val rfl (.some rfl) (val_seq rfl rfl) ?_
            refine vl_val rfl (.some rfl) (val_pick rfl rfl) ?_
            refine vl_val rfl (.some rfl) (val_move rfl) ?_
            refine vl_split (t := 63) rfl (fun hg63 => ?_) (fun hg63 => ?_)
            · (try replace hg63 := of_decide_eq_true hg63)
              refine vl_on rfl rfl rfl rfl ?_
              refine vl_val rfl (.some rfl) (by first | exact val_fieldAddr Try.runUnderlying44 rfl Try.sizeOf41 rfl | exact val_fieldAddrR Try.runUnderlying44 rfl Try.sizeOf41 rfl) ?_
              refine vl_on rfl rfl rfl rfl ?_
              refine vl_val rfl (.some rfl) (val_load Try.isAgg41 rfl (by first | exact cell_cells (by repeat constructor) rfl | exact cell_rd (by first | exact rd_sl (by repeat constructor) | exact rd_old (by assumption) rfl) (by first | exact bcells_at (by omega) | exact ucells_at (by omega) | exact icells_at (by omega) | exact tcells_at (by omega) | exact bcells_get (by omega) | exact icells_get (by omega) | exact tcells_get (by omega) | exact ucells_get (by omega)) | exact cell_old (by assumption) (by simp [fps]))) ?_
              refine vl_on rfl rfl rfl rfl ?_
              refine vl_val rfl (.some rfl) (val_lenSl Try.runUnderlying41 rfl) ?_
              refine vl_on rfl rfl rfl rfl ?_
              refine vl_val rfl (.some rfl) (val_eq rfl rfl) ?_
              refine vl_val rfl (.some rfl) (val_pick rfl rfl) ?_
              refine vl_val rfl (.some rfl) (val_assign rfl) ?_
              refine vl_nil ?_
              refine vc_ret ?_
              refine ⟨_, [], _, res1 Try.results28 rfl, .nil, ?_⟩
              show Value.bool _ = Value.bool _
              refine congrArg Value.bool ?_
              have hk : (recOf m).k = 2 := hc1
              first
                | (rw [decide_eq_decide, good_2iff hk]; exact ⟨fun h => ⟨⟨show m.ds.length ≤ 8 by omega, show m.ms.length ≤ 16 by omega⟩, hg58, sL_nil.1 hg63, rows_nil.2 (len_nil.1 (show m.rs.length = 0 by omega))⟩, fun h => by rw [rows_nil.1 h.2.2.2]; rfl⟩)
                | exact (decide_eq_false (fun h => by
                    rw [good_2iff hk] at h
                    have g1 : m.ds.length ≤ 8 := h.1.1
                    have g2 : m.ms.length ≤ 16 := h.1.2
                    first
                    | omega
                    | exact hg58 h.2.1
                    | exact hg63 (sL_nil.2 h.2.2.1))).symm
            · (try replace hg63 := of_decide_eq_false hg63)
              refine vl_off rfl rfl rfl rfl (.some rfl) ?_
              refine vl_off rfl rfl rfl rfl (.some rfl) ?_
              refine vl_off rfl rfl rfl rfl (.some rfl) ?_
              refine vl_off rfl rfl rfl rfl (.some rfl) ?_
              refine vl_val rfl (.some rfl) (val_pick rfl rfl) ?_
              refine vl_val rfl (.some rfl) (val_assign rfl) ?_
              refine vl_nil ?_
              refine vc_ret ?_
              refine ⟨_, [], _, res1 Try.results28 rfl, .nil, ?_⟩
              show Value.bool _ = Value.bool _
              refine congrArg Value.bool ?_
              have hk : (recOf m).k = 2 := hc1
              first
                | (rw [decide_eq_decide, good_2iff hk]; exact ⟨fun h => ⟨⟨show m.ds.length ≤ 8 by omega, show m.ms.length ≤ 16 by omega⟩, hg58, sL_nil.1 hg63, rows_nil.2 (len_nil.1 (show m.rs.length = 0 by omega))⟩, fun h => by rw [rows_nil.1 h.2.2.2]; rfl⟩)
                | exact (decide_eq_false (fun h => by
                    rw [good_2iff hk] at h
                    have g1 : m.ds.length ≤ 8 := h.1.1
                    have g2 : m.ms.length ≤ 16 := h.1.2
                    first
                    | omega
                    | exact hg58 h.2.1
                    | exact hg63 (sL_nil.2 h.2.2.1))).symm
          · (try replace hg58 := of_decide_eq_false hg58)
            refine vl_off rfl rfl rfl rfl (.some rfl) ?_
            refine vl_off rfl rfl rfl rfl (.some rfl) ?_
            refine vl_off rfl rfl rfl rfl (.some rfl) ?_
            refine vl_val rfl (.some rfl) (val_pick rfl rfl) ?_
            refine vl_val rfl (.some rfl) (val_move rfl) ?_
            refine vl_off rfl rfl rfl rfl (.some rfl) ?_
            refine vl_off rfl rfl rfl rfl (.some rfl) ?_
            refine vl_off rfl rfl rfl rfl (.some rfl) ?_
            refine vl_off rfl rfl rfl rfl (.some rfl) ?_
            refine vl_val rfl (.some rfl) (val_pick rfl rfl) ?_
            refine vl_val rfl (.some rfl) (val_assign rfl) ?_
            refine vl_nil ?_
            refine vc_ret ?_
            refine ⟨_, [], _, res1 Try.results28 rfl, .nil, ?_⟩
            show Value.bool _ = Value.bool _
            refine congrArg Value.bool ?_
            have hk : (recOf m).k = 2 := hc1
            first
              | (rw [decide_eq_decide, good_2iff hk]; exact ⟨fun h => ⟨⟨show m.ds.length ≤ 8 by omega, show m.ms.length ≤ 16 by omega⟩, hg58, sL_nil.1 hg63, rows_nil.2 (len_nil.1 (show m.rs.length = 0 by omega))⟩, fun h => by rw [rows_nil.1 h.2.2.2]; rfl⟩)
              | exact (decide_eq_false (fun h => by
                  rw [good_2iff hk] at h
                  have g1 : m.ds.length ≤ 8 := h.1.1
                  have g2 : m.ms.length ≤ 16 := h.1.2
                  first
                  | omega
                  | exact hg58 h.2.1
                  | exact hg63 (sL_nil.2 h.2.2.1))).symm
        · (try replace hg53 := of_decide_eq_false hg53)
          refine vl_off rfl rfl rfl rfl (.some rfl) ?_
          refine vl_off rfl rfl rfl rfl (.some rfl) ?_
          refine vl_off rfl rfl rfl rfl (.some rfl) ?_
          refine vl_val rfl (.some rfl) (val_pick rfl rfl) ?_
          refine vl_val rfl (.some rfl) (val_move rfl) ?_
          refine vl_off rfl rfl rfl rfl (.some rfl) ?_
          refine vl_off rfl rfl rfl rfl (.some rfl) ?_
          refine vl_off rfl rfl rfl rfl (.some rfl) ?_
          refine vl_val rfl (.some rfl) (val_pick rfl rfl) ?_
          refine vl_val rfl (.some rfl) (val_move rfl) ?_
          refine vl_off rfl rfl rfl rfl (.some rfl) ?_
          refine vl_off rfl rfl rfl rfl (.some rfl) ?_
          refine vl_off rfl rfl rfl rfl (.some rfl) ?_
          refine vl_off rfl rfl rfl rfl (.some rfl) ?_
          refine vl_val rfl (.some rfl) (val_pick rfl rfl) ?_
          refine vl_val rfl (.some rfl) (val_assign rfl) ?_
          refine vl_nil ?_
          refine vc_ret ?_
          refine ⟨_, [], _, res1 Try.results28 rfl, .nil, ?_⟩
          show Value.bool _ = Value.bool _
          refine congrArg Value.bool ?_
          have hk : (recOf m).k = 2 := hc1
          first
            | (rw [decide_eq_decide, good_2iff hk]; exact ⟨fun h => ⟨⟨show m.ds.length ≤ 8 by omega, show m.ms.length ≤ 16 by omega⟩, hg58, sL_nil.1 hg63, rows_nil.2 (len_nil.1 (show m.rs.length = 0 by omega))⟩, fun h => by rw [rows_nil.1 h.2.2.2]; rfl⟩)
            | exact (decide_eq_false (fun h => by
                rw [good_2iff hk] at h
                have g1 : m.ds.length ≤ 8 := h.1.1
                have g2 : m.ms.length ≤ 16 := h.1.2
                first
                | omega
                | exact hg58 h.2.1
                | exact hg63 (sL_nil.2 h.2.2.1))).symm
      · (try replace hg46 := of_decide_eq_false hg46)
        refine vl_off rfl rfl rfl rfl (.some rfl) ?_
        refine vl_off rfl rfl rfl rfl (.some rfl) ?_
        refine vl_off rfl rfl rfl rfl (.some rfl) ?_
        refine vl_off rfl rfl rfl rfl (.some rfl) ?_
        refine vl_off rfl rfl rfl rfl (.some rfl) ?_
        refine vl_val rfl (.some rfl) (val_pick rfl rfl) ?_
        refine vl_val rfl (.some rfl) (val_move rfl) ?_
        refine vl_off rfl rfl rfl rfl (.some rfl) ?_
        refine vl_off rfl rfl rfl rfl (.some rfl) ?_
        refine vl_off rfl rfl rfl rfl (.some rfl) ?_
        refine vl_val rfl (.some rfl) (val_pick rfl rfl) ?_
        refine vl_val rfl (.some rfl) (val_move rfl) ?_
        refine vl_off rfl rfl rfl rfl (.some rfl) ?_
        refine vl_off rfl rfl rfl rfl (.some rfl) ?_
        refine vl_off rfl rfl rfl rfl (.some rfl) ?_
        refine vl_val rfl (.some rfl) (val_pick rfl rfl) ?_
        refine vl_val rfl (.some rfl) (val_move rfl) ?_
        refine vl_off rfl rfl rfl rfl (.some rfl) ?_
        refine vl_off rfl rfl rfl rfl (.some rfl) ?_
        refine vl_off rfl rfl rfl rfl (.some rfl) ?_
        refine vl_off rfl rfl rfl rfl (.some rfl) ?_
        refine vl_val rfl (.some rfl) (val_pick rfl rfl) ?_
        refine vl_val rfl (.some rfl) (val_assign rfl) ?_
        refine vl_nil ?_
        refine vc_ret ?_
        refine ⟨_, [], _, res1 Try.results28 rfl, .nil, ?_⟩
        show Value.bool _ = Value.bool _
        refine congrArg Value.bool ?_
        have hk : (recOf m).k = 2 := hc1
        first
          | (rw [decide_eq_decide, good_2iff hk]; exact ⟨fun h => ⟨⟨show m.ds.length ≤ 8 by omega, show m.ms.length ≤ 16 by omega⟩, hg58, sL_nil.1 hg63, rows_nil.2 (len_nil.1 (show m.rs.length = 0 by omega))⟩, fun h => by rw [rows_nil.1 h.2.2.2]; rfl⟩)
          | exact (decide_eq_false (fun h => by
              rw [good_2iff hk] at h
              have g1 : m.ds.length ≤ 8 := h.1.1
              have g2 : m.ms.length ≤ 16 := h.1.2
              first
              | omega
              | exact hg58 h.2.1
              | exact hg63 (sL_nil.2 h.2.2.1))).symm
    · (try replace hc1 := of_decide_eq_false hc1)
      refine vc_seq ?_
      refine vc_region ?_
      refine vl_val rfl (.some rfl) (val_eq rfl rfl) ?_
      refine vl_val rfl (.some rfl) (val_assign rfl) ?_
      refine vl_nil ?_
      refine vc_cond rfl (fun hc2 => ?_) (fun hc2 => ?_)
      · (try replace hc2 := of_decide_eq_true hc2)
        refine vc_seq ?_
        refine vc_seq ?_
        refine vc_region ?_
        refine vl_val rfl (.some rfl) (by first | exact val_fieldAddr Try.runUnderlying44 rfl Try.sizeOf41 rfl | exact val_fieldAddrR Try.runUnderlying44 rfl Try.sizeOf41 rfl) ?_
        refine vl_val rfl (.some rfl) (val_load Try.isAgg41 rfl (by first | exact cell_cells (by repeat constructor) rfl | exact cell_rd (by first | exact rd_sl (by repeat constructor) | exact rd_old (by assumption) rfl) (by first | exact bcells_at (by omega) | exact ucells_at (by omega) | exact icells_at (by omega) | exact tcells_at (by omega) | exact bcells_get (by omega) | exact icells_get (by omega) | exact tcells_get (by omega) | exact ucells_get (by omega)) | exact cell_old (by assumption) (by simp [fps]))) ?_
        refine vl_val rfl (.some rfl) (val_lenSl Try.runUnderlying41 rfl) ?_
        refine vl_val rfl (.some rfl) (val_lt rfl rfl) ?_
        refine vl_val rfl (.some rfl) (val_move rfl) ?_
        refine vl_split (t := 75) rfl (fun hg75 => ?_) (fun hg75 => ?_)
        · (try replace hg75 := of_decide_eq_true hg75)
          refine vl_off rfl rfl rfl rfl (.some rfl) ?_
          refine vl_off rfl rfl rfl rfl (.some rfl) ?_
          refine vl_off rfl rfl rfl rfl (.some rfl) ?_
          refine vl_off rfl rfl rfl rfl (.some rfl) ?_
          refine vl_val rfl (.some rfl) (val_pick rfl rfl) ?_
          refine vl_val rfl (.some rfl) (val_move rfl) ?_
          refine vl_off rfl rfl rfl rfl (.some rfl) ?_
          refine vl_off rfl rfl rfl rfl (.some rfl) ?_
          refine vl_off rfl rfl rfl rfl (.some rfl) ?_
          refine vl_off rfl rfl rfl rfl (.some rfl) ?_
          refine vl_val rfl (.some rfl) (val_pick rfl rfl) ?_
          refine vl_val rfl (.some rfl) (val_move rfl) ?_
          refine vl_off rfl rfl rfl rfl (.some rfl) ?_
          refine vl_off rfl rfl rfl rfl (.some rfl) ?_
          refine vl_off rfl rfl rfl rfl (.some rfl) ?_
          refine vl_off rfl rfl rfl rfl (.some rfl) ?_
          refine vl_val rfl (.some rfl) (val_pick rfl rfl) ?_
          refine vl_nil ?_
          refine vc_cond rfl (fun _ => ?_) (fun h => by cases h)
          refine vc_seq ?_
          refine vc_region ?_
          refine vl_val rfl (.some rfl) (val_assign rfl) ?_
          refine vl_nil ?_
          refine vc_ret ?_
          refine ⟨_, [], _, res1 Try.results28 rfl, .nil, ?_⟩
          show Value.bool false = _
          rw [decide_eq_false (p := goodRec (recOf m)) (fun h => by
            rw [good_3iff (x := recOf m) hc2] at h
            have g1 : 1 ≤ (rows m).length ∧ (rows m).length ≤ 200 := h.1.1
            rw [List.length_map] at g1
            first
            | omega
            | (rw [decide_eq_true (p := noT ⟨m.tn, m.cs⟩) h.2.1] at hg87; exact absurd hg87 (by decide))
            | (rw [decide_eq_true (p := noR ⟨m.rn, m.rt, m.ds, m.ms⟩) h.2.2] at hc3; exact absurd hc3 (by decide)))]
        · (try replace hg75 := of_decide_eq_false hg75)
          refine vl_on rfl rfl rfl rfl ?_
          refine vl_val rfl (.some rfl) (by first | exact val_fieldAddr Try.runUnderlying44 rfl Try.sizeOf41 rfl | exact val_fieldAddrR Try.runUnderlying44 rfl Try.sizeOf41 rfl) ?_
          refine vl_on rfl rfl rfl rfl ?_
          refine vl_val rfl (.some rfl) (val_load Try.isAgg41 rfl (by first | exact cell_cells (by repeat constructor) rfl | exact cell_rd (by first | exact rd_sl (by repeat constructor) | exact rd_old (by assumption) rfl) (by first | exact bcells_at (by omega) | exact ucells_at (by omega) | exact icells_at (by omega) | exact tcells_at (by omega) | exact bcells_get (by omega) | exact icells_get (by omega) | exact tcells_get (by omega) | exact ucells_get (by omega)) | exact cell_old (by assumption) (by simp [fps]))) ?_
          refine vl_on rfl rfl rfl rfl ?_
          refine vl_val rfl (.some rfl) (val_lenSl Try.runUnderlying41 rfl) ?_
          refine vl_on rfl rfl rfl rfl ?_
          refine vl_val rfl (.some rfl) (val_gt rfl rfl) ?_
          refine vl_val rfl (.some rfl) (val_pick rfl rfl) ?_
          refine vl_val rfl (.some rfl) (val_move rfl) ?_
          refine vl_split (t := 81) rfl (fun hg81 => ?_) (fun hg81 => ?_)
          · (try replace hg81 := of_decide_eq_true hg81)
            refine vl_off rfl rfl rfl rfl (.some rfl) ?_
            refine vl_off rfl rfl rfl rfl (.some rfl) ?_
            refine vl_off rfl rfl rfl rfl (.some rfl) ?_
            refine vl_off rfl rfl rfl rfl (.some rfl) ?_
            refine vl_val rfl (.some rfl) (val_pick rfl rfl) ?_
            refine vl_val rfl (.some rfl) (val_move rfl) ?_
            refine vl_off rfl rfl rfl rfl (.some rfl) ?_
            refine vl_off rfl rfl rfl rfl (.some rfl) ?_
            refine vl_off rfl rfl rfl rfl (.some rfl) ?_
            refine vl_off rfl rfl rfl rfl (.some rfl) ?_
            refine vl_val rfl (.some rfl) (val_pick rfl rfl) ?_
            refine vl_nil ?_
            refine vc_cond rfl (fun _ => ?_) (fun h => by cases h)
            refine vc_seq ?_
            refine vc_region ?_
            refine vl_val rfl (.some rfl) (val_assign rfl) ?_
            refine vl_nil ?_
            refine vc_ret ?_
            refine ⟨_, [], _, res1 Try.results28 rfl, .nil, ?_⟩
            show Value.bool false = _
            rw [decide_eq_false (p := goodRec (recOf m)) (fun h => by
              rw [good_3iff (x := recOf m) hc2] at h
              have g1 : 1 ≤ (rows m).length ∧ (rows m).length ≤ 200 := h.1.1
              rw [List.length_map] at g1
              first
              | omega
              | (rw [decide_eq_true (p := noT ⟨m.tn, m.cs⟩) h.2.1] at hg87; exact absurd hg87 (by decide))
              | (rw [decide_eq_true (p := noR ⟨m.rn, m.rt, m.ds, m.ms⟩) h.2.2] at hc3; exact absurd hc3 (by decide)))]
          · (try replace hg81 := of_decide_eq_false hg81)
            refine vl_on rfl rfl rfl rfl ?_
            refine vl_val rfl (.some rfl) (by first | exact val_fieldAddr Try.runUnderlying44 rfl Try.sizeOf36 rfl | exact val_fieldAddrR Try.runUnderlying44 rfl Try.sizeOf36 rfl) ?_
            refine vl_on rfl rfl rfl rfl ?_
            refine vl_val rfl (.some rfl) (val_loadAgg Try.isAgg36 Try.sizeOf36 rfl (cells_part (us := tabC m) (by repeat constructor) rfl) rfl) ?_
            refine vl_on rfl rfl rfl rfl ?_
            refine vl_callV rfl rfl (.some rfl) Try.call67 rfl (fun w hw => rNoT m w) ?_
            refine vl_on rfl rfl rfl rfl ?_
            refine vl_val rfl (.some rfl) (val_not rfl) ?_
            refine vl_val rfl (.some rfl) (val_pick rfl rfl) ?_
            refine vl_val rfl (.some rfl) (val_move rfl) ?_
            refine vl_split (t := 87) rfl (fun hg87 => ?_) (fun hg87 => ?_)
            · (try replace hg87 := of_decide_eq_true hg87)
              refine vl_off rfl rfl rfl rfl (.some rfl) ?_
              refine vl_off rfl rfl rfl rfl (.some rfl) ?_
              refine vl_off rfl rfl rfl rfl (.some rfl) ?_
              refine vl_off rfl rfl rfl rfl (.some rfl) ?_
              refine vl_val rfl (.some rfl) (val_pick rfl rfl) ?_
              refine vl_nil ?_
              refine vc_cond rfl (fun _ => ?_) (fun h => by cases h)
              refine vc_seq ?_
              refine vc_region ?_
              refine vl_val rfl (.some rfl) (val_assign rfl) ?_
              refine vl_nil ?_
              refine vc_ret ?_
              refine ⟨_, [], _, res1 Try.results28 rfl, .nil, ?_⟩
              show Value.bool false = _
              rw [decide_eq_false (p := goodRec (recOf m)) (fun h => by
                rw [good_3iff (x := recOf m) hc2] at h
                have g1 : 1 ≤ (rows m).length ∧ (rows m).length ≤ 200 := h.1.1
                rw [List.length_map] at g1
                first
                | omega
                | (rw [decide_eq_true (p := noT ⟨m.tn, m.cs⟩) h.2.1] at hg87; exact absurd hg87 (by decide))
                | (rw [decide_eq_true (p := noR ⟨m.rn, m.rt, m.ds, m.ms⟩) h.2.2] at hc3; exact absurd hc3 (by decide)))]
            · (try replace hg87 := of_decide_eq_false hg87)
              refine vl_on rfl rfl rfl rfl ?_
              refine vl_val rfl (.some rfl) (by first | exact val_fieldAddr Try.runUnderlying44 rfl Try.sizeOf40 rfl | exact val_fieldAddrR Try.runUnderlying44 rfl Try.sizeOf40 rfl) ?_
              refine vl_on rfl rfl rfl rfl ?_
              refine vl_val rfl (.some rfl) (val_loadAgg Try.isAgg40 Try.sizeOf40 rfl (cells_part (us := rolC m) (by repeat constructor) rfl) rfl) ?_
              refine vl_on rfl rfl rfl rfl ?_
              refine vl_callV rfl rfl (.some rfl) Try.call66 rfl (fun w hw => rNoR m w) ?_
              refine vl_on rfl rfl rfl rfl ?_
              refine vl_val rfl (.some rfl) (val_not rfl) ?_
              refine vl_val rfl (.some rfl) (val_pick rfl rfl) ?_
              refine vl_nil ?_
              refine vc_cond rfl (fun hc3 => ?_) (fun hc3 => ?_)
              · (try replace hc3 := of_decide_eq_true hc3)
                refine vc_seq ?_
                refine vc_region ?_
                refine vl_val rfl (.some rfl) (val_assign rfl) ?_
                refine vl_nil ?_
                refine vc_ret ?_
                refine ⟨_, [], _, res1 Try.results28 rfl, .nil, ?_⟩
                show Value.bool false = _
                rw [decide_eq_false (p := goodRec (recOf m)) (fun h => by
                  rw [good_3iff (x := recOf m) hc2] at h
                  have g1 : 1 ≤ (rows m).length ∧ (rows m).length ≤ 200 := h.1.1
                  rw [List.length_map] at g1
                  first
                  | omega
                  | (rw [decide_eq_true (p := noT ⟨m.tn, m.cs⟩) h.2.1] at hg87; exact absurd hg87 (by decide))
                  | (rw [decide_eq_true (p := noR ⟨m.rn, m.rt, m.ds, m.ms⟩) h.2.2] at hc3; exact absurd hc3 (by decide)))]
              · (try replace hc3 := of_decide_eq_false hc3)
                have nT : noT (recOf m).t := by simpa using hg87
                have nR : noR (recOf m).r := by simpa using hc3
                have hle : 1 ≤ m.rs.length ∧ m.rs.length ≤ 200 := by omega
                refine vc_skip ?_
                refine vc_seq ?_
                refine vc_region ?_
                refine vl_val rfl (.some rfl) (by first | exact val_fieldAddr Try.runUnderlying44 rfl Try.sizeOf41 rfl | exact val_fieldAddrR Try.runUnderlying44 rfl Try.sizeOf41 rfl) ?_
                refine vl_val rfl (.some rfl) (val_load Try.isAgg41 rfl (by first | exact cell_cells (by repeat constructor) rfl | exact cell_rd (by first | exact rd_sl (by repeat constructor) | exact rd_old (by assumption) rfl) (by first | exact bcells_at (by omega) | exact ucells_at (by omega) | exact icells_at (by omega) | exact tcells_at (by omega) | exact bcells_get (by omega) | exact icells_get (by omega) | exact tcells_get (by omega) | exact ucells_get (by omega)) | exact cell_old (by assumption) (by simp [fps]))) ?_
                refine vl_val rfl (.some rfl) (val_indexAddr (i := ((0 : Nat) : Int)) Try.runUnderlying41 Try.sizeOf105 rfl rfl (vs := m.rs.flatMap rowV) (rd_old hR.rs rfl) (by omega) (by omega) (by rw [rowC_len, Int.toNat_natCast]; omega)) ?_
                refine vl_val rfl (.some rfl) (val_load Try.isAgg105 rfl (cell_rd (rd_old hR.rs rfl) (rowC_at (i := 0) (by omega)))) ?_
                refine vl_val rfl (.some rfl) (val_lenSl Try.runUnderlying105 rfl) ?_
                refine vl_val rfl (.some rfl) (val_assign rfl) ?_
                refine vl_nil ?_
                refine vc_seq ?_
                refine vc_seq ?_
                refine vc_region ?_
                refine vl_val rfl (.some rfl) (by first | exact val_fieldAddr Try.runUnderlying44 rfl Try.sizeOf41 rfl | exact val_fieldAddrR Try.runUnderlying44 rfl Try.sizeOf41 rfl) ?_
                refine vl_val rfl (.some rfl) (val_load Try.isAgg41 rfl (by first | exact cell_cells (by repeat constructor) rfl | exact cell_rd (by first | exact rd_sl (by repeat constructor) | exact rd_old (by assumption) rfl) (by first | exact bcells_at (by omega) | exact ucells_at (by omega) | exact icells_at (by omega) | exact tcells_at (by omega) | exact bcells_get (by omega) | exact icells_get (by omega) | exact tcells_get (by omega) | exact ucells_get (by omega)) | exact cell_old (by assumption) (by simp [fps]))) ?_
                refine vl_val rfl (.some rfl) (val_lenSl Try.runUnderlying41 rfl) ?_
                refine vl_val rfl (.some rfl) (val_move rfl) ?_
                refine vl_nil ?_
                refine vc_block ?_
                refine vc_loopw (fun q E H => ∃ i : Nat, i ≤ m.rs.length ∧ q = m.rs.length - i ∧ (∀ j, j < i → okRow (m.rs.getD 0 rw0).2.2.length (m.rs.getD j rw0).2.2) ∧ E = [(1, .pointer (some ⟨r1, 0, none⟩)), (4, .int .i64 (m.rs.getD 0 rw0).2.2.length), (99, .slice m.Ar m.rs.length m.cr), (100, .int .i64 m.rs.length), (101, .int .i64 i)] ∧ H = [cells r1 (recC m) 44]) (m.rs.length) ⟨_, _, _, ⟨0, by omega, rfl, fun j hj => absurd hj (by omega), rfl, rfl⟩, (by repeat (first | exact trivial | refine ⟨rfl, ?_⟩ | refine ⟨le_item rfl (by first | rfl | (congr 1; omega) | (simp; done) | (simp; omega)), ?_⟩)), (by repeat constructor)⟩ ?_
                intro q E H hI
                obtain ⟨i, hi, rfl, hok, rfl, rfl⟩ := hI
                refine vc_seq ?_
                refine vc_region ?_
                refine vl_val rfl (.some rfl) (val_lt rfl rfl) ?_
                refine vl_nil ?_
                refine vc_seq ?_
                refine vc_cond rfl (fun hc4 => ?_) (fun hc4 => ?_)
                · (try replace hc4 := of_decide_eq_true hc4)
                  have hrow := hR.row _ (row_in (l := m.rs) (i := i) (by omega))
                  have hrl := hL.row _ (row_in (l := m.rs) (i := i) (by omega))
                  refine vc_skip ?_
                  refine vc_seq ?_
                  refine vc_block ?_
                  refine vc_seq ?_
                  refine vc_region ?_
                  refine vl_val rfl (.some rfl) (val_indexAddr Try.runUnderlying41 Try.sizeOf105 rfl rfl (vs := m.rs.flatMap rowV) (rd_old hR.rs rfl) (by omega) (by omega) (by rw [rowC_len, Int.toNat_natCast]; omega)) ?_
                  refine vl_val rfl (.some rfl) (val_load Try.isAgg105 rfl (cell_rd (rd_old hR.rs rfl) (rowC_at (i := i) (by omega)))) ?_
                  refine vl_val rfl (.some rfl) (val_assign rfl) ?_
                  refine vl_nil ?_
                  refine vc_seq ?_
                  refine vc_seq ?_
                  refine vc_region ?_
                  refine vl_val rfl (.some rfl) (val_move rfl) ?_
                  refine vl_val rfl (.some rfl) (val_lenSl Try.runUnderlying105 rfl) ?_
                  refine vl_val rfl (.some rfl) (val_move rfl) ?_
                  refine vl_val rfl (.some rfl) (val_ne rfl rfl) ?_
                  refine vl_val rfl (.some rfl) (val_move rfl) ?_
                  refine vl_split (t := 109) rfl (fun hg109 => ?_) (fun hg109 => ?_)
                  · (try replace hg109 := of_decide_eq_true hg109)
                    refine vl_off rfl rfl rfl rfl (.some rfl) ?_
                    refine vl_off rfl rfl rfl rfl (.some rfl) ?_
                    refine vl_val rfl (.some rfl) (val_pick rfl rfl) ?_
                    refine vl_val rfl (.some rfl) (val_move rfl) ?_
                    refine vl_off rfl rfl rfl rfl (.some rfl) ?_
                    refine vl_off rfl rfl rfl rfl (.some rfl) ?_
                    refine vl_val rfl (.some rfl) (val_pick rfl rfl) ?_
                    refine vl_nil ?_
                    refine vc_cond rfl (fun _ => ?_) (fun h => by cases h)
                    refine vc_seq ?_
                    refine vc_region ?_
                    refine vl_val rfl (.some rfl) (val_assign rfl) ?_
                    refine vl_nil ?_
                    refine vc_ret ?_
                    refine ⟨_, [], _, res1 Try.results28 rfl, .nil, ?_⟩
                    show Value.bool false = _
                    rw [decide_eq_false (p := goodRec (recOf m)) (fun h => by
                      rw [good_3iff (x := recOf m) hc2] at h
                      exact goodB_not (m := m) (j := i) (by omega) (fun h => by have h1 := h.1; have h2 := h.2.1; omega) h.1)]
                  · (try replace hg109 := of_decide_eq_false hg109)
                    refine vl_on rfl rfl rfl rfl ?_
                    refine vl_val rfl (.some rfl) (val_move rfl) ?_
                    refine vl_on rfl rfl rfl rfl ?_
                    refine vl_val rfl (.some rfl) (val_lt rfl rfl) ?_
                    refine vl_val rfl (.some rfl) (val_pick rfl rfl) ?_
                    refine vl_val rfl (.some rfl) (val_move rfl) ?_
                    refine vl_split (t := 113) rfl (fun hg113 => ?_) (fun hg113 => ?_)
                    · (try replace hg113 := of_decide_eq_true hg113)
                      refine vl_off rfl rfl rfl rfl (.some rfl) ?_
                      refine vl_off rfl rfl rfl rfl (.some rfl) ?_
                      refine vl_val rfl (.some rfl) (val_pick rfl rfl) ?_
                      refine vl_nil ?_
                      refine vc_cond rfl (fun _ => ?_) (fun h => by cases h)
                      refine vc_seq ?_
                      refine vc_region ?_
                      refine vl_val rfl (.some rfl) (val_assign rfl) ?_
                      refine vl_nil ?_
                      refine vc_ret ?_
                      refine ⟨_, [], _, res1 Try.results28 rfl, .nil, ?_⟩
                      show Value.bool false = _
                      rw [decide_eq_false (p := goodRec (recOf m)) (fun h => by
                        rw [good_3iff (x := recOf m) hc2] at h
                        exact goodB_not (m := m) (j := i) (by omega) (fun h => by have h1 := h.1; have h2 := h.2.1; omega) h.1)]
                    · (try replace hg113 := of_decide_eq_false hg113)
                      refine vl_on rfl rfl rfl rfl ?_
                      refine vl_val rfl (.some rfl) (val_move rfl) ?_
                      refine vl_on rfl rfl rfl rfl ?_
                      refine vl_val rfl (.some rfl) (val_gt rfl rfl) ?_
                      refine vl_val rfl (.some rfl) (val_pick rfl rfl) ?_
                      refine vl_nil ?_
                      refine vc_cond rfl (fun hc5 => ?_) (fun hc5 => ?_)
                      · (try replace hc5 := of_decide_eq_true hc5)
                        refine vc_seq ?_
                        refine vc_region ?_
                        refine vl_val rfl (.some rfl) (val_assign rfl) ?_
                        refine vl_nil ?_
                        refine vc_ret ?_
                        refine ⟨_, [], _, res1 Try.results28 rfl, .nil, ?_⟩
                        show Value.bool false = _
                        rw [decide_eq_false (p := goodRec (recOf m)) (fun h => by
                          rw [good_3iff (x := recOf m) hc2] at h
                          exact goodB_not (m := m) (j := i) (by omega) (fun h => by have h1 := h.1; have h2 := h.2.1; omega) h.1)]
                      · (try replace hc5 := of_decide_eq_false hc5)
                        refine vc_skip ?_
                        refine vc_seq ?_
                        refine vc_region ?_
                        refine vl_val rfl (.some rfl) (val_move rfl) ?_
                        refine vl_val rfl (.some rfl) (val_lenSl Try.runUnderlying105 rfl) ?_
                        refine vl_val rfl (.some rfl) (val_move rfl) ?_
                        refine vl_nil ?_
                        refine vc_block ?_
                        refine vc_loopw (fun q E H => ∃ j : Nat, j ≤ (m.rs.getD i rw0).2.2.length ∧ q = (m.rs.getD i rw0).2.2.length - j ∧ (∀ j2, j2 < j → goodV ((m.rs.getD i rw0).2.2.getD j2 z3) = true) ∧ E = [(1, .pointer (some ⟨r1, 0, none⟩)), (4, .int .i64 (m.rs.getD 0 rw0).2.2.length), (99, .slice m.Ar m.rs.length m.cr), (100, .int .i64 m.rs.length), (101, .int .i64 i), (117, .slice (m.rs.getD i rw0).1 (m.rs.getD i rw0).2.2.length (m.rs.getD i rw0).2.1), (118, .int .i64 (m.rs.getD i rw0).2.2.length), (119, .int .i64 j)] ∧ H = [cells r1 (recC m) 44]) ((m.rs.getD i rw0).2.2.length) ⟨_, _, _, ⟨0, by omega, rfl, fun j hj => absurd hj (by omega), rfl, rfl⟩, (by repeat (first | exact trivial | refine ⟨rfl, ?_⟩ | refine ⟨le_item rfl (by first | rfl | (congr 1; omega) | (simp; done) | (simp; omega)), ?_⟩)), (by repeat constructor)⟩ ?_
                        intro q E H hI
                        obtain ⟨j, hj, rfl, hv, rfl, rfl⟩ := hI
                        refine vc_seq ?_
                        refine vc_region ?_
                        refine vl_val rfl (.some rfl) (val_lt rfl rfl) ?_
                        refine vl_nil ?_
                        refine vc_seq ?_
                        refine vc_cond rfl (fun hc6 => ?_) (fun hc6 => ?_)
                        · (try replace hc6 := of_decide_eq_true hc6)
                          refine vc_skip ?_
                          refine vc_seq ?_
                          refine vc_block ?_
                          refine vc_seq ?_
                          refine vc_region ?_
                          refine vl_val rfl (.some rfl) (val_indexAddr Try.runUnderlying105 Try.sizeOf107 rfl rfl (vs := flat (m.rs.getD i rw0).2.2) (rd_old hrow.1 rfl) (by omega) (by omega) (by rw [vflat_len, Int.toNat_natCast]; omega)) ?_
                          refine vl_val rfl (.some rfl) (val_loadAgg Try.isAgg107 Try.sizeOf107 rfl (cells_rd (us := [.int .i64 ((m.rs.getD i rw0).2.2.getD j z3).k, .int .i64 ((m.rs.getD i rw0).2.2.getD j z3).n, .string ((m.rs.getD i rw0).2.2.getD j z3).s]) (rd_old hrow.1 rfl) (by rw [Int.toNat_natCast]; exact flat_at (m.rs.getD i rw0).2.2 j (by omega))) rfl) ?_
                          refine vl_alloc rfl rfl (.some rfl) Try.zeroValue107 (fun r8 => ?_)
                          first | refine vl_store rfl rfl .none rfl rfl Try.sizeOf107 rfl (by repeat constructor) (by first | decide | exact Nat.le_refl _ | exact Nat.le_of_ble_eq_true rfl | (simp; omega)) ?_ | refine vl_storeSl rfl rfl .none rfl rfl Try.sizeOf107 rfl (by simp [Value.cells]) (by repeat constructor) (by first | decide | (simp [Value.cells]; omega)) ?_
                          refine vl_nil ?_
                          refine vc_seq ?_
                          refine vc_region ?_
                          refine vl_val rfl (.some rfl) (val_loadAgg Try.isAgg107 Try.sizeOf107 rfl (by first | exact cells_whole (by repeat constructor) | exact cells_part (by repeat constructor) rfl) rfl) ?_
                          have hwv := hrow.2 _ (getV_in (r := (m.rs.getD i rw0).2.2) (j := j) (by omega))
                          refine vl_callV rfl rfl (.some rfl) Try.call68 rfl (fun w hw => xGood ((m.rs.getD i rw0).2.2.getD j z3) hwv.1 hwv.2 w) ?_
                          refine vl_val rfl (.some rfl) (val_not rfl) ?_
                          refine vl_nil ?_
                          refine vc_cond rfl (fun hc7 => ?_) (fun hc7 => ?_)
                          · (try replace hc7 := of_decide_eq_true hc7)
                            refine vc_seq ?_
                            refine vc_region ?_
                            refine vl_val rfl (.some rfl) (val_assign rfl) ?_
                            refine vl_nil ?_
                            refine vc_ret ?_
                            refine ⟨_, [], _, res1 Try.results28 rfl, .nil, ?_⟩
                            show Value.bool false = _
                            rw [decide_eq_false (p := goodRec (recOf m)) (fun h => by
                              rw [good_3iff (x := recOf m) hc2] at h
                              exact goodB_not (m := m) (j := i) (by omega) (fun h => by have h1 := h.2.2 _ (getV_in (j := j) (by omega)); rw [h1] at hc7; cases hc7) h.1)]
                          · (try replace hc7 := of_decide_eq_false hc7)
                            refine vc_skip ?_
                            refine vc_region ?_
                            refine vl_val rfl (.some rfl) (val_add rfl rfl (by first | exact w_i64 (by omega) (by omega) | rfl)) ?_
                            refine vl_val rfl (.some rfl) (val_move rfl) ?_
                            refine vl_nil ?_
                            exact ⟨((m.rs.getD i rw0).2.2.length - (j + 1)), _, _, _, by omega, (by repeat (first | exact trivial | refine ⟨rfl, ?_⟩ | refine ⟨le_item rfl (by first | rfl | (congr 1; omega) | (simp; done) | (simp; omega)), ?_⟩)), (by repeat constructor), ⟨j + 1, by omega, rfl, fun j2 hj2 => by
                              rcases Nat.lt_or_ge j2 j with h | h
                              · exact hv j2 h
                              · obtain rfl : j2 = j := by omega
                                simpa using hc7, rfl, rfl⟩⟩
                        · (try replace hc6 := of_decide_eq_false hc6)
                          refine vc_exit ?_
                          refine vc_region ?_
                          refine vl_val rfl (.some rfl) (val_add rfl rfl (by first | exact w_i64 (by omega) (by omega) | rfl)) ?_
                          refine vl_val rfl (.some rfl) (val_move rfl) ?_
                          refine vl_nil ?_
                          exact ⟨(m.rs.length - (i + 1)), _, _, _, by omega, (by repeat (first | exact trivial | refine ⟨rfl, ?_⟩ | refine ⟨le_item rfl (by first | rfl | (congr 1; omega) | (simp; done) | (simp; omega)), ?_⟩)), (by repeat constructor), ⟨i + 1, by omega, rfl, fun j2 hj2 => by
                            rcases Nat.lt_or_ge j2 i with h | h
                            · exact hok j2 h
                            · obtain rfl : j2 = i := by omega
                              exact ⟨by omega, ⟨by omega, by omega⟩, all_V (fun j3 hj3 => hv j3 (by omega))⟩, rfl, rfl⟩⟩
                · (try replace hc4 := of_decide_eq_false hc4)
                  refine vc_exit ?_
                  refine vc_seq ?_
                  refine vc_region ?_
                  refine vl_val rfl (.some rfl) (val_assign rfl) ?_
                  refine vl_nil ?_
                  refine vc_ret ?_
                  refine ⟨_, [], _, res1 Try.results28 rfl, .nil, ?_⟩
                  show Value.bool true = _
                  rw [decide_eq_true (p := goodRec (recOf m)) (by rw [good_3iff (x := recOf m) hc2]; exact ⟨goodB_all (m := m) hle (fun j hj => hok j (by omega)), nT, nR⟩)]
      · (try replace hc2 := of_decide_eq_false hc2)
        refine vc_skip ?_
        refine vc_seq ?_
        refine vc_region ?_
        refine vl_val rfl (.some rfl) (val_assign rfl) ?_
        refine vl_nil ?_
        refine vc_ret ?_
        refine ⟨_, [], _, res1 Try.results28 rfl, .nil, ?_⟩
        show Value.bool false = _
        rw [decide_eq_false (k_no (x := recOf m) hc0 hc1 hc2)]
set_option maxRecDepth 20000 in
theorem rText (A : Option Addr) (c : Nat) (b : List UInt8) (hb : b.length ≤ 900000000) (s : Tx) (hs : s.length ≤ 3000000) (w : World) (hr : Reads w A (bcells b)) : Fn Try.prog 104 [.slice A b.length c, .string (sL s)] [] (ret fun v H' => ∃ A' c', v = .slice A' (b ++ putTx s).length c' ∧ H' = [BY A' (b ++ putTx s).length c' (b ++ putTx s)]) w := by
  have hsz := sL_size s
  refine fn_enter Try.func104 rfl Try.ntmps104 rfl ?_
  refine vc_seq ?_
  refine vc_region ?_
  refine vl_val rfl (.some rfl) (val_assign rfl) ?_
  refine vl_nil ?_
  refine vc_seq ?_
  refine vc_region ?_
  refine vl_val rfl (.some rfl) (val_move rfl) ?_
  refine vl_val rfl (.some rfl) (val_move rfl) ?_
  refine vl_val rfl (.some rfl) (val_lenStr Try.runUnderlying9 rfl) ?_
  rw [hsz]
  refine vl_val rfl (.some rfl) (val_convInt Try.runUnderlying3 Try.runUnderlying23 rfl (w_u64 (by omega) (by omega))) ?_
  refine vl_call (C := []) rfl rfl (.some rfl) Try.call54 rfl .nil (fun w hw => rPut A c b s.length (by omega) (by omega) w (rdw (rd_old hr rfl) hw)) (fun v H' h => ?_)
  obtain ⟨A9, c9, rfl, rfl⟩ := h
  show VL _ _ _ _ _ (_ :: _)
  refine vl_val rfl (.some rfl) (val_move rfl) ?_
  refine vl_appendStr sT22 Try.underlying9 rfl rfl (.some rfl) rfl rfl (by simp only [List.length_append, sL_size]; have := putN_len (s).length; omega) (by repeat constructor) (fun A11 k11 => ?_)
  rw [strc, sL_list, sL_size, show (b ++ putN s.length).length + (s).length = (b ++ putN s.length ++ s).length from List.length_append.symm, List.append_assoc]
  refine vl_val rfl (.some rfl) (val_assign rfl) ?_
  refine vl_nil ?_
  refine vc_ret ?_
  refine ⟨_, [BY A11 (b ++ putTx s).length k11 (b ++ putTx s)], _, res1 Try.results104 rfl, (by repeat constructor), ?_⟩
  exact ⟨A11, k11, rfl, rfl⟩




set_option maxRecDepth 20000 in
set_option maxHeartbeats 2000000 in
theorem rWrite (m : RecM) (hg : goodRec (recOf m)) (hB : RecB m) (w : World) (hR : RecR w m) : Fn Try.prog 57 [recA m] [] (ret fun v H' => ∃ A' c', v = .slice A' (recB (recOf m)).length c' ∧ H' = [BY A' (recB (recOf m)).length c' (recB (recOf m))]) w := by
  have hpk := putN_len (u64N m.k)
  refine fn_enter Try.func57 rfl Try.ntmps57 rfl ?_
  refine vc_seq ?_
  refine vc_region ?_
  refine vl_box rfl rfl (.some rfl) rfl (fun r1 => ?_)
  refine vl_val rfl (.some rfl) (val_assign rfl) ?_
  refine vl_nil ?_
  refine vc_seq ?_
  refine vc_region ?_
  refine vl_val rfl (.some rfl) (by first | exact val_fieldAddr Try.runUnderlying44 rfl Try.sizeOf3 rfl | exact val_fieldAddrR Try.runUnderlying44 rfl Try.sizeOf3 rfl) ?_
  refine vl_val rfl (.some rfl) (val_load Try.isAgg3 rfl (by first | exact cell_cells (by repeat constructor) rfl | exact cell_rd (by first | exact rd_sl (by repeat constructor) | exact rd_old (by assumption) rfl) (by first | exact bcells_at (by omega) | exact ucells_at (by omega) | exact icells_at (by omega) | exact tcells_at (by omega) | exact bcells_get (by omega) | exact icells_get (by omega) | exact tcells_get (by omega) | exact ucells_get (by omega)) | exact cell_old (by assumption) (by simp [fps]))) ?_
  refine vl_val rfl (.some rfl) (val_convInt Try.runUnderlying3 Try.runUnderlying23 rfl (w_u64N m.k)) ?_
  refine vl_call (C := []) rfl rfl (.some rfl) Try.call54 rfl .nil (fun w hw => rPut none 0 [] (u64N m.k) (u64N_lt _) (by decide) w (fun j u hj => by simp [bcells] at hj)) (fun v H' h => ?_)
  obtain ⟨A16, c16, rfl, rfl⟩ := h
  show VL _ _ _ _ _ (_ :: _)
  rw [List.nil_append]
  refine vl_val rfl (.some rfl) (val_assign rfl) ?_
  refine vl_nil ?_
  refine vc_seq ?_
  refine vc_seq ?_
  refine vc_region ?_
  refine vl_val rfl (.some rfl) (by first | exact val_fieldAddr Try.runUnderlying44 rfl Try.sizeOf3 rfl | exact val_fieldAddrR Try.runUnderlying44 rfl Try.sizeOf3 rfl) ?_
  refine vl_val rfl (.some rfl) (val_load Try.isAgg3 rfl (by first | exact cell_cells (by repeat constructor) rfl | exact cell_rd (by first | exact rd_sl (by repeat constructor) | exact rd_old (by assumption) rfl) (by first | exact bcells_at (by omega) | exact ucells_at (by omega) | exact icells_at (by omega) | exact tcells_at (by omega) | exact bcells_get (by omega) | exact icells_get (by omega) | exact tcells_get (by omega) | exact ucells_get (by omega)) | exact cell_old (by assumption) (by simp [fps]))) ?_
  refine vl_nil ?_
  refine vc_block ?_
  refine vc_seq ?_
  refine vc_region ?_
  refine vl_val rfl (.some rfl) (val_eq rfl rfl) ?_
  refine vl_val rfl (.some rfl) (val_assign rfl) ?_
  refine vl_nil ?_
  refine vc_cond rfl (fun hc0 => ?_) (fun hc0 => ?_)
  · (try replace hc0 := of_decide_eq_true hc0)
    have hck : (recOf m).k = 1 := hc0
    have hgt := good_1 hg hck
    have hg8 : m.cs.length ≤ 8 := hgt.2
    have htn := hB.tn
    have hp1 := putTx_len m.tn
    have hp2 := putN_len m.cs.length
    have hpc : ∀ x ∈ m.cs, (putCq x).length ≤ 2000020 := fun x h => by have := putCq_len x; have := hB.cs x h; omega
    refine vc_seq ?_
    refine vc_drawsS [0, 1, 2, 3, 5, 6, 7, 8, 9, 11] [] [0, 1, 2, 3, 5, 6, 7, 8, 9, 4, 10, 11] [cells r1 (recC m) 44] (by repeat constructor) rfl (by kernel_rfl) (fun _ _ _ h => h) ?_
    refine vd_val rfl rfl rfl (.some rfl) (val_move rfl) ?_
    refine vd_val rfl rfl rfl (.some rfl) (by first | exact val_fieldAddr Try.runUnderlying44 rfl Try.sizeOf36 rfl | exact val_fieldAddrR Try.runUnderlying44 rfl Try.sizeOf36 rfl) ?_
    refine vd_val rfl rfl rfl (.some rfl) (by first | exact val_fieldAddr Try.runUnderlying36 rfl Try.sizeOf9 rfl | exact val_fieldAddrR Try.runUnderlying36 rfl Try.sizeOf9 rfl) ?_
    refine vd_val rfl rfl rfl (.some rfl) (val_load Try.isAgg9 rfl (by first | exact cell_cells (by repeat constructor) rfl | exact cell_rd (by first | exact rd_sl (by repeat constructor) | exact rd_old (by assumption) rfl) (by first | exact bcells_at (by omega) | exact ucells_at (by omega) | exact icells_at (by omega) | exact tcells_at (by omega) | exact bcells_get (by omega) | exact icells_get (by omega) | exact tcells_get (by omega) | exact ucells_get (by omega)) | exact cell_old (by assumption) (by simp [fps]))) ?_
    refine vd_val rfl rfl rfl (.some rfl) (by first | exact val_fieldAddr Try.runUnderlying44 rfl Try.sizeOf36 rfl | exact val_fieldAddrR Try.runUnderlying44 rfl Try.sizeOf36 rfl) ?_
    refine vd_val rfl rfl rfl (.some rfl) (by first | exact val_fieldAddr Try.runUnderlying36 rfl Try.sizeOf34 rfl | exact val_fieldAddrR Try.runUnderlying36 rfl Try.sizeOf34 rfl) ?_
    refine vd_val rfl rfl rfl (.some rfl) (val_load Try.isAgg34 rfl (by first | exact cell_cells (by repeat constructor) rfl | exact cell_rd (by first | exact rd_sl (by repeat constructor) | exact rd_old (by assumption) rfl) (by first | exact bcells_at (by omega) | exact ucells_at (by omega) | exact icells_at (by omega) | exact tcells_at (by omega) | exact bcells_get (by omega) | exact icells_get (by omega) | exact tcells_get (by omega) | exact ucells_get (by omega)) | exact cell_old (by assumption) (by simp [fps]))) ?_
    refine vd_val rfl rfl rfl (.some rfl) (val_lenSl Try.runUnderlying34 rfl) ?_
    refine vd_val rfl rfl rfl (.some rfl) (val_convInt Try.runUnderlying3 Try.runUnderlying23 rfl (w_u64 (by omega) (by omega))) ?_
    refine vd_op rfl rfl ?_
    refine vl_call (C := []) rfl rfl (.some rfl) Try.call104 rfl .nil (fun w hw => rText A16 c16 (putN (u64N m.k)) (by omega) m.tn (by omega) w (rdw (rd_sl (by repeat constructor)) hw)) (fun v H' h => ?_)
    obtain ⟨A51, c51, rfl, rfl⟩ := h
    show VL _ _ _ _ _ (_ :: _)
    refine vl_nil ?_
    refine ⟨fun _ => ⟨_, (by repeat (first | exact .nil | exact sub_self _ | exact sub_skip (sub_self _) | exact sub_skip (sub_skip (sub_self _)) | exact sub_skip (sub_skip (sub_skip (sub_self _))) | (apply Sub.cons; · repeat (first | exact .head | apply Take.tail))))⟩, ?_⟩
    refine vd_op rfl rfl ?_
    refine vl_call (C := []) rfl rfl (.some rfl) Try.call54 rfl .nil (fun w hw => rPut A51 c51 (putN (u64N m.k) ++ putTx m.tn) m.cs.length (by omega) (by simp only [List.length_append]; omega) w (rdw (rd_sl (by repeat constructor)) hw)) (fun v H' h => ?_)
    obtain ⟨A57, c57, rfl, rfl⟩ := h
    show VL _ _ _ _ _ (_ :: _)
    refine vl_nil ?_
    refine ⟨fun _ => ⟨_, (by repeat (first | exact .nil | exact sub_self _ | exact sub_skip (sub_self _) | exact sub_skip (sub_skip (sub_self _)) | exact sub_skip (sub_skip (sub_skip (sub_self _))) | (apply Sub.cons; · repeat (first | exact .head | apply Take.tail))))⟩, ?_⟩
    refine vd_val rfl rfl rfl (.some rfl) (val_assign rfl) ?_
    refine vd_nil ?_
    refine vc_seq ?_
    refine vc_region ?_
    refine vl_val rfl (.some rfl) (by first | exact val_fieldAddr Try.runUnderlying44 rfl Try.sizeOf36 rfl | exact val_fieldAddrR Try.runUnderlying44 rfl Try.sizeOf36 rfl) ?_
    refine vl_val rfl (.some rfl) (by first | exact val_fieldAddr Try.runUnderlying36 rfl Try.sizeOf34 rfl | exact val_fieldAddrR Try.runUnderlying36 rfl Try.sizeOf34 rfl) ?_
    refine vl_val rfl (.some rfl) (val_load Try.isAgg34 rfl (by first | exact cell_cells (by repeat constructor) rfl | exact cell_rd (by first | exact rd_sl (by repeat constructor) | exact rd_old (by assumption) rfl) (by first | exact bcells_at (by omega) | exact ucells_at (by omega) | exact icells_at (by omega) | exact tcells_at (by omega) | exact bcells_get (by omega) | exact icells_get (by omega) | exact tcells_get (by omega) | exact ucells_get (by omega)) | exact cell_old (by assumption) (by simp [fps]))) ?_
    refine vl_val rfl (.some rfl) (val_lenSl Try.runUnderlying34 rfl) ?_
    refine vl_val rfl (.some rfl) (val_move rfl) ?_
    refine vl_nil ?_
    refine vc_block ?_
    rw [show putN (u64N m.k) ++ putTx m.tn ++ putN m.cs.length = putN (u64N m.k) ++ putTx m.tn ++ putN m.cs.length ++ (m.cs.take 0).flatMap putCq by simp]
    refine vc_loopw (fun q E H => ∃ (i : Nat) (A1 : Option Addr) (c1 : Nat), i ≤ m.cs.length ∧ q = m.cs.length - i ∧ E = [(1, .pointer (some ⟨r1, 0, none⟩)), (3, .slice A1 (putN (u64N m.k) ++ putTx m.tn ++ putN m.cs.length ++ (m.cs.take i).flatMap putCq).length c1), (60, .slice m.Ac m.cs.length m.cc), (61, .int .i64 (m.cs.length : Nat)), (62, .int .i64 i)] ∧ H = [BY A1 (putN (u64N m.k) ++ putTx m.tn ++ putN m.cs.length ++ (m.cs.take i).flatMap putCq).length c1 (putN (u64N m.k) ++ putTx m.tn ++ putN m.cs.length ++ (m.cs.take i).flatMap putCq), cells r1 (recC m) 44]) (m.cs.length) ⟨_, _, _, ⟨0, A57, c57, by omega, rfl, rfl, rfl⟩, (by repeat (first | exact trivial | refine ⟨rfl, ?_⟩ | refine ⟨le_item rfl (by first | rfl | (congr 1; omega) | (simp; done) | (simp; omega)), ?_⟩)), (by repeat constructor)⟩ ?_
    intro q E H hI
    obtain ⟨i, A1, c1, hi, rfl, rfl, rfl⟩ := hI
    refine vc_seq ?_
    refine vc_region ?_
    refine vl_val rfl (.some rfl) (val_lt rfl rfl) ?_
    refine vl_nil ?_
    refine vc_seq ?_
    refine vc_cond rfl (fun hc1 => ?_) (fun hc1 => ?_)
    · (try replace hc1 := of_decide_eq_true hc1)
      refine vc_skip ?_
      refine vc_seq ?_
      refine vc_block ?_
      refine vc_seq ?_
      refine vc_region ?_
      refine vl_val rfl (.some rfl) (val_indexAddr Try.runUnderlying34 Try.sizeOf96 rfl rfl (vs := m.cs.flatMap colV) (rd_old hR.cs rfl) (by omega) (by omega) (by rw [colC_len, Int.toNat_natCast]; omega)) ?_
      refine vl_val rfl (.some rfl) (val_loadAgg Try.isAgg96 Try.sizeOf96 rfl (cells_rd (us := colV (m.cs.getD i ([], 0))) (rd_old hR.cs rfl) (colC_at rfl (by omega))) rfl) ?_
      refine vl_alloc rfl rfl (.some rfl) Try.zeroValue96 (fun r5 => ?_)
      first | refine vl_store rfl rfl .none rfl rfl Try.sizeOf96 rfl (by repeat constructor) (by first | decide | exact Nat.le_refl _ | exact Nat.le_of_ble_eq_true rfl | (simp; omega)) ?_ | refine vl_storeSl rfl rfl .none rfl rfl Try.sizeOf96 rfl (by simp [Value.cells]) (by repeat constructor) (by first | decide | (simp [Value.cells]; omega)) ?_
      refine vl_nil ?_
      refine vc_drawsS [0, 1, 2, 4, 5, 6, 8] [] [0, 1, 2, 4, 5, 6, 3, 7, 8] [cells r5 (colV (m.cs.getD i ([], 0))) 96] (by repeat constructor) rfl (by kernel_rfl) (fun _ _ _ h => h) ?_
      refine vd_val rfl rfl rfl (.some rfl) (val_move rfl) ?_
      refine vd_val rfl rfl rfl (.some rfl) (by first | exact val_fieldAddr Try.runUnderlying96 rfl Try.sizeOf9 rfl | exact val_fieldAddrR Try.runUnderlying96 rfl Try.sizeOf9 rfl) ?_
      refine vd_val rfl rfl rfl (.some rfl) (val_load Try.isAgg9 rfl (by first | exact cell_cells (by repeat constructor) rfl | exact cell_rd (by first | exact rd_sl (by repeat constructor) | exact rd_old (by assumption) rfl) (by first | exact bcells_at (by omega) | exact ucells_at (by omega) | exact icells_at (by omega) | exact tcells_at (by omega) | exact bcells_get (by omega) | exact icells_get (by omega) | exact tcells_get (by omega) | exact ucells_get (by omega)) | exact cell_old (by assumption) (by simp [fps]))) ?_
      refine vd_val rfl rfl rfl (.some rfl) (by first | exact val_fieldAddr Try.runUnderlying96 rfl Try.sizeOf3 rfl | exact val_fieldAddrR Try.runUnderlying96 rfl Try.sizeOf3 rfl) ?_
      refine vd_val rfl rfl rfl (.some rfl) (val_load Try.isAgg3 rfl (by first | exact cell_cells (by repeat constructor) rfl | exact cell_rd (by first | exact rd_sl (by repeat constructor) | exact rd_old (by assumption) rfl) (by first | exact bcells_at (by omega) | exact ucells_at (by omega) | exact icells_at (by omega) | exact tcells_at (by omega) | exact bcells_get (by omega) | exact icells_get (by omega) | exact tcells_get (by omega) | exact ucells_get (by omega)) | exact cell_old (by assumption) (by simp [fps]))) ?_
      refine vd_val rfl rfl rfl (.some rfl) (val_convInt Try.runUnderlying3 Try.runUnderlying23 rfl (w_u64N (m.cs.getD i ([], 0)).2)) ?_
      refine vd_op rfl rfl ?_
      have hq := hB.cs _ (getD_inL ([], 0) (l := m.cs) (i := i) (by omega))
      have htk := tk_le hpc (i := i) hi
      refine vl_call (C := []) rfl rfl (.some rfl) Try.call104 rfl .nil (fun w hw => rText A1 c1 (putN (u64N m.k) ++ putTx m.tn ++ putN m.cs.length ++ (m.cs.take i).flatMap putCq) (by simp only [List.length_append]; omega) (m.cs.getD i ([], 0)).1 (by omega) w (rdw (rd_sl (by repeat constructor)) hw)) (fun v H' h => ?_)
      obtain ⟨A69, c69, rfl, rfl⟩ := h
      show VL _ _ _ _ _ (_ :: _)
      refine vl_nil ?_
      refine ⟨fun _ => ⟨_, (by repeat (first | exact .nil | exact sub_self _ | exact sub_skip (sub_self _) | exact sub_skip (sub_skip (sub_self _)) | exact sub_skip (sub_skip (sub_skip (sub_self _))) | (apply Sub.cons; · repeat (first | exact .head | apply Take.tail))))⟩, ?_⟩
      refine vd_op rfl rfl ?_
      have hq2 := putTx_len (m.cs.getD i ([], 0)).1
      refine vl_call (C := []) rfl rfl (.some rfl) Try.call54 rfl .nil (fun w hw => rPut A69 c69 (putN (u64N m.k) ++ putTx m.tn ++ putN m.cs.length ++ (m.cs.take i).flatMap putCq ++ putTx (m.cs.getD i ([], 0)).1) (u64N (m.cs.getD i ([], 0)).2) (u64N_lt _) (by simp only [List.length_append]; omega) w (rdw (rd_sl (by repeat constructor)) hw)) (fun v H' h => ?_)
      obtain ⟨A73, c73, rfl, rfl⟩ := h
      show VL _ _ _ _ _ (_ :: _)
      rw [List.append_assoc (putN (u64N m.k) ++ putTx m.tn ++ putN m.cs.length ++ (m.cs.take i).flatMap putCq), show putTx (m.cs.getD i ([], 0)).1 ++ putN (u64N (m.cs.getD i ([], 0)).2) = putCq (m.cs.getD i ([], 0)) from rfl, List.append_assoc (putN (u64N m.k) ++ putTx m.tn ++ putN m.cs.length), ← flat_tk ([], 0) putCq (show i < m.cs.length by omega)]
      refine vl_nil ?_
      refine ⟨fun _ => ⟨_, (by repeat (first | exact .nil | exact sub_self _ | exact sub_skip (sub_self _) | exact sub_skip (sub_skip (sub_self _)) | exact sub_skip (sub_skip (sub_skip (sub_self _))) | (apply Sub.cons; · repeat (first | exact .head | apply Take.tail))))⟩, ?_⟩
      refine vd_val rfl rfl rfl (.some rfl) (val_assign rfl) ?_
      refine vd_nil ?_
      refine vc_region ?_
      refine vl_val rfl (.some rfl) (val_add rfl rfl (by first | exact w_i64 (by omega) (by omega) | rfl)) ?_
      refine vl_val rfl (.some rfl) (val_move rfl) ?_
      refine vl_nil ?_
      exact ⟨(m.cs.length - (i + 1)), _, _, _, by omega, (by repeat (first | exact trivial | refine ⟨rfl, ?_⟩ | refine ⟨le_item rfl (by first | rfl | (congr 1; omega) | (simp; done) | (simp; omega)), ?_⟩)), (by repeat constructor), ⟨i + 1, A73, c73, by omega, rfl, rfl, rfl⟩⟩
    · (try replace hc1 := of_decide_eq_false hc1)
      obtain rfl : i = m.cs.length := by omega
      rw [List.take_length, show putN (u64N m.k) ++ putTx m.tn ++ putN m.cs.length ++ m.cs.flatMap putCq = recB (recOf m) by rw [← recB_1 (x := recOf m) hck]; show _ = putN (u64N m.k) ++ _; unfold putT; simp only [List.append_assoc]]
      refine vc_exit ?_
      refine vc_seq ?_
      refine vc_region ?_
      refine vl_val rfl (.some rfl) (val_move rfl) ?_
      refine vl_val rfl (.some rfl) (val_assign rfl) ?_
      refine vl_nil ?_
      refine vc_ret ?_
      refine ⟨_, [BY A1 (recB (recOf m)).length c1 (recB (recOf m))], _, res1 Try.results57 rfl, (by repeat constructor), ?_⟩
      exact ⟨A1, c1, rfl, rfl⟩
  · (try replace hc0 := of_decide_eq_false hc0)
    refine vc_seq ?_
    refine vc_region ?_
    refine vl_val rfl (.some rfl) (val_eq rfl rfl) ?_
    refine vl_val rfl (.some rfl) (val_assign rfl) ?_
    refine vl_nil ?_
    refine vc_cond rfl (fun hc2 => ?_) (fun hc2 => ?_)
    · (try replace hc2 := of_decide_eq_true hc2)
      have hck : (recOf m).k = 2 := hc2
      have hgt := good_2 hg hck
      have hg8 : m.ds.length ≤ 8 := hgt.1
      have hg16 : m.ms.length ≤ 16 := hgt.2
      have q1 := hB.rn
      have q2 := hB.rt
      have hp1 := putTx_len m.rn
      have hp2 := putTx_len m.rt
      have hp3 := putN_len m.ds.length
      have hp4 := putN_len m.ms.length
      have hpd : ∀ x ∈ m.ds, (putTx x).length ≤ 2000020 := fun x h => by have := putTx_len x; have := hB.ds x h; omega
      have hpm : ∀ x ∈ m.ms, (putMq x).length ≤ 2000020 := fun x h => by have := putMq_len x; have := hB.ms x h; omega
      have hfd := flat_le hpd
      refine vc_seq ?_
      refine vc_drawsS [0, 1, 2, 3, 5, 6, 7, 9, 10, 11, 12, 13, 15] [] [0, 1, 2, 3, 5, 6, 7, 9, 10, 11, 12, 13, 4, 8, 14, 15] [cells r1 (recC m) 44] (by repeat constructor) rfl (by kernel_rfl) (fun _ _ _ h => h) ?_
      refine vd_val rfl rfl rfl (.some rfl) (val_move rfl) ?_
      refine vd_val rfl rfl rfl (.some rfl) (by first | exact val_fieldAddr Try.runUnderlying44 rfl Try.sizeOf40 rfl | exact val_fieldAddrR Try.runUnderlying44 rfl Try.sizeOf40 rfl) ?_
      refine vd_val rfl rfl rfl (.some rfl) (by first | exact val_fieldAddr Try.runUnderlying40 rfl Try.sizeOf9 rfl | exact val_fieldAddrR Try.runUnderlying40 rfl Try.sizeOf9 rfl) ?_
      refine vd_val rfl rfl rfl (.some rfl) (val_load Try.isAgg9 rfl (by first | exact cell_cells (by repeat constructor) rfl | exact cell_rd (by first | exact rd_sl (by repeat constructor) | exact rd_old (by assumption) rfl) (by first | exact bcells_at (by omega) | exact ucells_at (by omega) | exact icells_at (by omega) | exact tcells_at (by omega) | exact bcells_get (by omega) | exact icells_get (by omega) | exact tcells_get (by omega) | exact ucells_get (by omega)) | exact cell_old (by assumption) (by simp [fps]))) ?_
      refine vd_val rfl rfl rfl (.some rfl) (by first | exact val_fieldAddr Try.runUnderlying44 rfl Try.sizeOf40 rfl | exact val_fieldAddrR Try.runUnderlying44 rfl Try.sizeOf40 rfl) ?_
      refine vd_val rfl rfl rfl (.some rfl) (by first | exact val_fieldAddr Try.runUnderlying40 rfl Try.sizeOf9 rfl | exact val_fieldAddrR Try.runUnderlying40 rfl Try.sizeOf9 rfl) ?_
      refine vd_val rfl rfl rfl (.some rfl) (val_load Try.isAgg9 rfl (by first | exact cell_cells (by repeat constructor) rfl | exact cell_rd (by first | exact rd_sl (by repeat constructor) | exact rd_old (by assumption) rfl) (by first | exact bcells_at (by omega) | exact ucells_at (by omega) | exact icells_at (by omega) | exact tcells_at (by omega) | exact bcells_get (by omega) | exact icells_get (by omega) | exact tcells_get (by omega) | exact ucells_get (by omega)) | exact cell_old (by assumption) (by simp [fps]))) ?_
      refine vd_val rfl rfl rfl (.some rfl) (by first | exact val_fieldAddr Try.runUnderlying44 rfl Try.sizeOf40 rfl | exact val_fieldAddrR Try.runUnderlying44 rfl Try.sizeOf40 rfl) ?_
      refine vd_val rfl rfl rfl (.some rfl) (by first | exact val_fieldAddr Try.runUnderlying40 rfl Try.sizeOf37 rfl | exact val_fieldAddrR Try.runUnderlying40 rfl Try.sizeOf37 rfl) ?_
      refine vd_val rfl rfl rfl (.some rfl) (val_load Try.isAgg37 rfl (by first | exact cell_cells (by repeat constructor) rfl | exact cell_rd (by first | exact rd_sl (by repeat constructor) | exact rd_old (by assumption) rfl) (by first | exact bcells_at (by omega) | exact ucells_at (by omega) | exact icells_at (by omega) | exact tcells_at (by omega) | exact bcells_get (by omega) | exact icells_get (by omega) | exact tcells_get (by omega) | exact ucells_get (by omega)) | exact cell_old (by assumption) (by simp [fps]))) ?_
      refine vd_val rfl rfl rfl (.some rfl) (val_lenSl Try.runUnderlying37 rfl) ?_
      refine vd_val rfl rfl rfl (.some rfl) (val_convInt Try.runUnderlying3 Try.runUnderlying23 rfl (w_u64 (by omega) (by omega))) ?_
      refine vd_op rfl rfl ?_
      refine vl_call (C := []) rfl rfl (.some rfl) Try.call104 rfl .nil (fun w hw => rText A16 c16 (putN (u64N m.k)) (by omega) m.rn (by omega) w (rdw (rd_sl (by repeat constructor)) hw)) (fun v H' h => ?_)
      obtain ⟨A81, c81, rfl, rfl⟩ := h
      show VL _ _ _ _ _ (_ :: _)
      refine vl_nil ?_
      refine ⟨fun _ => ⟨_, (by repeat (first | exact .nil | exact sub_self _ | exact sub_skip (sub_self _) | exact sub_skip (sub_skip (sub_self _)) | exact sub_skip (sub_skip (sub_skip (sub_self _))) | (apply Sub.cons; · repeat (first | exact .head | apply Take.tail))))⟩, ?_⟩
      refine vd_op rfl rfl ?_
      refine vl_call (C := []) rfl rfl (.some rfl) Try.call104 rfl .nil (fun w hw => rText A81 c81 (putN (u64N m.k) ++ putTx m.rn) (by simp only [List.length_append]; omega) m.rt (by omega) w (rdw (rd_sl (by repeat constructor)) hw)) (fun v H' h => ?_)
      obtain ⟨A85, c85, rfl, rfl⟩ := h
      show VL _ _ _ _ _ (_ :: _)
      refine vl_nil ?_
      refine ⟨fun _ => ⟨_, (by repeat (first | exact .nil | exact sub_self _ | exact sub_skip (sub_self _) | exact sub_skip (sub_skip (sub_self _)) | exact sub_skip (sub_skip (sub_skip (sub_self _))) | (apply Sub.cons; · repeat (first | exact .head | apply Take.tail))))⟩, ?_⟩
      refine vd_op rfl rfl ?_
      refine vl_call (C := []) rfl rfl (.some rfl) Try.call54 rfl .nil (fun w hw => rPut A85 c85 (putN (u64N m.k) ++ putTx m.rn ++ putTx m.rt) m.ds.length (by omega) (by simp only [List.length_append]; omega) w (rdw (rd_sl (by repeat constructor)) hw)) (fun v H' h => ?_)
      obtain ⟨A91, c91, rfl, rfl⟩ := h
      show VL _ _ _ _ _ (_ :: _)
      refine vl_nil ?_
      refine ⟨fun _ => ⟨_, (by repeat (first | exact .nil | exact sub_self _ | exact sub_skip (sub_self _) | exact sub_skip (sub_skip (sub_self _)) | exact sub_skip (sub_skip (sub_skip (sub_self _))) | (apply Sub.cons; · repeat (first | exact .head | apply Take.tail))))⟩, ?_⟩
      refine vd_val rfl rfl rfl (.some rfl) (val_assign rfl) ?_
      refine vd_nil ?_
      refine vc_seq ?_
      refine vc_seq ?_
      refine vc_region ?_
      refine vl_val rfl (.some rfl) (by first | exact val_fieldAddr Try.runUnderlying44 rfl Try.sizeOf40 rfl | exact val_fieldAddrR Try.runUnderlying44 rfl Try.sizeOf40 rfl) ?_
      refine vl_val rfl (.some rfl) (by first | exact val_fieldAddr Try.runUnderlying40 rfl Try.sizeOf37 rfl | exact val_fieldAddrR Try.runUnderlying40 rfl Try.sizeOf37 rfl) ?_
      refine vl_val rfl (.some rfl) (val_load Try.isAgg37 rfl (by first | exact cell_cells (by repeat constructor) rfl | exact cell_rd (by first | exact rd_sl (by repeat constructor) | exact rd_old (by assumption) rfl) (by first | exact bcells_at (by omega) | exact ucells_at (by omega) | exact icells_at (by omega) | exact tcells_at (by omega) | exact bcells_get (by omega) | exact icells_get (by omega) | exact tcells_get (by omega) | exact ucells_get (by omega)) | exact cell_old (by assumption) (by simp [fps]))) ?_
      refine vl_val rfl (.some rfl) (val_lenSl Try.runUnderlying37 rfl) ?_
      refine vl_val rfl (.some rfl) (val_move rfl) ?_
      refine vl_nil ?_
      refine vc_block ?_
      rw [show putN (u64N m.k) ++ putTx m.rn ++ putTx m.rt ++ putN m.ds.length = putN (u64N m.k) ++ putTx m.rn ++ putTx m.rt ++ putN m.ds.length ++ (m.ds.take 0).flatMap putTx by simp]
      refine vc_loopw (fun q E H => ∃ (i : Nat) (A1 : Option Addr) (c1 : Nat), i ≤ m.ds.length ∧ q = m.ds.length - i ∧ E = [(1, .pointer (some ⟨r1, 0, none⟩)), (3, .slice A1 (putN (u64N m.k) ++ putTx m.rn ++ putTx m.rt ++ putN m.ds.length ++ (m.ds.take i).flatMap putTx).length c1), (94, .slice m.Ad m.ds.length m.cd), (95, .int .i64 (m.ds.length : Nat)), (96, .int .i64 i)] ∧ H = [BY A1 (putN (u64N m.k) ++ putTx m.rn ++ putTx m.rt ++ putN m.ds.length ++ (m.ds.take i).flatMap putTx).length c1 (putN (u64N m.k) ++ putTx m.rn ++ putTx m.rt ++ putN m.ds.length ++ (m.ds.take i).flatMap putTx), cells r1 (recC m) 44]) (m.ds.length) ⟨_, _, _, ⟨0, A91, c91, by omega, rfl, rfl, rfl⟩, (by repeat (first | exact trivial | refine ⟨rfl, ?_⟩ | refine ⟨le_item rfl (by first | rfl | (congr 1; omega) | (simp; done) | (simp; omega)), ?_⟩)), (by repeat constructor)⟩ ?_
      intro q E H hI
      obtain ⟨i, A1, c1, hi, rfl, rfl, rfl⟩ := hI
      refine vc_seq ?_
      refine vc_region ?_
      refine vl_val rfl (.some rfl) (val_lt rfl rfl) ?_
      refine vl_nil ?_
      refine vc_seq ?_
      refine vc_cond rfl (fun hc3 => ?_) (fun hc3 => ?_)
      · (try replace hc3 := of_decide_eq_true hc3)
        refine vc_skip ?_
        refine vc_seq ?_
        refine vc_block ?_
        refine vc_seq ?_
        refine vc_region ?_
        refine vl_val rfl (.some rfl) (val_indexAddr Try.runUnderlying37 Try.sizeOf9 rfl rfl (vs := tcS m.ds) (rd_old hR.ds rfl) (by omega) (by omega) (by rw [tcS_length, Int.toNat_natCast]; omega)) ?_
        refine vl_val rfl (.some rfl) (val_load Try.isAgg9 rfl (cell_rd (rd_old hR.ds rfl) (tcS_at (by omega)))) ?_
        refine vl_val rfl (.some rfl) (val_assign rfl) ?_
        refine vl_nil ?_
        refine vc_region ?_
        refine vl_val rfl (.some rfl) (val_move rfl) ?_
        refine vl_val rfl (.some rfl) (val_move rfl) ?_
        have hq := hB.ds _ (getD_inL [] (l := m.ds) (i := i) (by omega))
        have htk := tk_le hpd (i := i) hi
        refine vl_call (C := []) rfl rfl (.some rfl) Try.call104 rfl .nil (fun w hw => rText A1 c1 (putN (u64N m.k) ++ putTx m.rn ++ putTx m.rt ++ putN m.ds.length ++ (m.ds.take i).flatMap putTx) (by simp only [List.length_append]; omega) (m.ds.getD i []) (by omega) w (rdw (rd_sl (by repeat constructor)) hw)) (fun v H' h => ?_)
        obtain ⟨A102, c102, rfl, rfl⟩ := h
        show VL _ _ _ _ _ (_ :: _)
        rw [List.append_assoc (putN (u64N m.k) ++ putTx m.rn ++ putTx m.rt ++ putN m.ds.length), ← flat_tk [] putTx (show i < m.ds.length by omega)]
        refine vl_val rfl (.some rfl) (val_assign rfl) ?_
        refine vl_nil ?_
        refine vc_region ?_
        refine vl_val rfl (.some rfl) (val_add rfl rfl (by first | exact w_i64 (by omega) (by omega) | rfl)) ?_
        refine vl_val rfl (.some rfl) (val_move rfl) ?_
        refine vl_nil ?_
        exact ⟨(m.ds.length - (i + 1)), _, _, _, by omega, (by repeat (first | exact trivial | refine ⟨rfl, ?_⟩ | refine ⟨le_item rfl (by first | rfl | (congr 1; omega) | (simp; done) | (simp; omega)), ?_⟩)), (by repeat constructor), ⟨i + 1, A102, c102, by omega, rfl, rfl, rfl⟩⟩
      · (try replace hc3 := of_decide_eq_false hc3)
        obtain rfl : i = m.ds.length := by omega
        rw [List.take_length]
        refine vc_exit ?_
        refine vc_seq ?_
        refine vc_region ?_
        refine vl_val rfl (.some rfl) (val_move rfl) ?_
        refine vl_val rfl (.some rfl) (by first | exact val_fieldAddr Try.runUnderlying44 rfl Try.sizeOf40 rfl | exact val_fieldAddrR Try.runUnderlying44 rfl Try.sizeOf40 rfl) ?_
        refine vl_val rfl (.some rfl) (by first | exact val_fieldAddr Try.runUnderlying40 rfl Try.sizeOf38 rfl | exact val_fieldAddrR Try.runUnderlying40 rfl Try.sizeOf38 rfl) ?_
        refine vl_val rfl (.some rfl) (val_load Try.isAgg38 rfl (by first | exact cell_cells (by repeat constructor) rfl | exact cell_rd (by first | exact rd_sl (by repeat constructor) | exact rd_old (by assumption) rfl) (by first | exact bcells_at (by omega) | exact ucells_at (by omega) | exact icells_at (by omega) | exact tcells_at (by omega) | exact bcells_get (by omega) | exact icells_get (by omega) | exact tcells_get (by omega) | exact ucells_get (by omega)) | exact cell_old (by assumption) (by simp [fps]))) ?_
        refine vl_val rfl (.some rfl) (val_lenSl Try.runUnderlying38 rfl) ?_
        refine vl_val rfl (.some rfl) (val_convInt Try.runUnderlying3 Try.runUnderlying23 rfl (w_u64 (by omega) (by omega))) ?_
        refine vl_call (C := []) rfl rfl (.some rfl) Try.call54 rfl .nil (fun w hw => rPut A1 c1 (putN (u64N m.k) ++ putTx m.rn ++ putTx m.rt ++ putN m.ds.length ++ m.ds.flatMap putTx) m.ms.length (by omega) (by simp only [List.length_append]; omega) w (rdw (rd_sl (by repeat constructor)) hw)) (fun v H' h => ?_)
        obtain ⟨A110, c110, rfl, rfl⟩ := h
        show VL _ _ _ _ _ (_ :: _)
        refine vl_val rfl (.some rfl) (val_assign rfl) ?_
        refine vl_nil ?_
        refine vc_seq ?_
        refine vc_region ?_
        refine vl_val rfl (.some rfl) (by first | exact val_fieldAddr Try.runUnderlying44 rfl Try.sizeOf40 rfl | exact val_fieldAddrR Try.runUnderlying44 rfl Try.sizeOf40 rfl) ?_
        refine vl_val rfl (.some rfl) (by first | exact val_fieldAddr Try.runUnderlying40 rfl Try.sizeOf38 rfl | exact val_fieldAddrR Try.runUnderlying40 rfl Try.sizeOf38 rfl) ?_
        refine vl_val rfl (.some rfl) (val_load Try.isAgg38 rfl (by first | exact cell_cells (by repeat constructor) rfl | exact cell_rd (by first | exact rd_sl (by repeat constructor) | exact rd_old (by assumption) rfl) (by first | exact bcells_at (by omega) | exact ucells_at (by omega) | exact icells_at (by omega) | exact tcells_at (by omega) | exact bcells_get (by omega) | exact icells_get (by omega) | exact tcells_get (by omega) | exact ucells_get (by omega)) | exact cell_old (by assumption) (by simp [fps]))) ?_
        refine vl_val rfl (.some rfl) (val_lenSl Try.runUnderlying38 rfl) ?_
        refine vl_val rfl (.some rfl) (val_move rfl) ?_
        refine vl_nil ?_
        refine vc_block ?_
        rw [show putN (u64N m.k) ++ putTx m.rn ++ putTx m.rt ++ putN m.ds.length ++ m.ds.flatMap putTx ++ putN m.ms.length = putN (u64N m.k) ++ putTx m.rn ++ putTx m.rt ++ putN m.ds.length ++ m.ds.flatMap putTx ++ putN m.ms.length ++ (m.ms.take 0).flatMap putMq by simp]
        refine vc_loopw (fun q E H => ∃ (i : Nat) (A1 : Option Addr) (c1 : Nat), i ≤ m.ms.length ∧ q = m.ms.length - i ∧ E = [(1, .pointer (some ⟨r1, 0, none⟩)), (3, .slice A1 (putN (u64N m.k) ++ putTx m.rn ++ putTx m.rt ++ putN m.ds.length ++ m.ds.flatMap putTx ++ putN m.ms.length ++ (m.ms.take i).flatMap putMq).length c1), (113, .slice m.Am m.ms.length m.cm), (114, .int .i64 (m.ms.length : Nat)), (115, .int .i64 i)] ∧ H = [BY A1 (putN (u64N m.k) ++ putTx m.rn ++ putTx m.rt ++ putN m.ds.length ++ m.ds.flatMap putTx ++ putN m.ms.length ++ (m.ms.take i).flatMap putMq).length c1 (putN (u64N m.k) ++ putTx m.rn ++ putTx m.rt ++ putN m.ds.length ++ m.ds.flatMap putTx ++ putN m.ms.length ++ (m.ms.take i).flatMap putMq), cells r1 (recC m) 44]) (m.ms.length) ⟨_, _, _, ⟨0, A110, c110, by omega, rfl, rfl, rfl⟩, (by repeat (first | exact trivial | refine ⟨rfl, ?_⟩ | refine ⟨le_item rfl (by first | rfl | (congr 1; omega) | (simp; done) | (simp; omega)), ?_⟩)), (by repeat constructor)⟩ ?_
        intro q E H hI
        obtain ⟨i, A1, c1, hi, rfl, rfl, rfl⟩ := hI
        refine vc_seq ?_
        refine vc_region ?_
        refine vl_val rfl (.some rfl) (val_lt rfl rfl) ?_
        refine vl_nil ?_
        refine vc_seq ?_
        refine vc_cond rfl (fun hc4 => ?_) (fun hc4 => ?_)
        · (try replace hc4 := of_decide_eq_true hc4)
          refine vc_skip ?_
          refine vc_seq ?_
          refine vc_block ?_
          refine vc_seq ?_
          refine vc_region ?_
          refine vl_val rfl (.some rfl) (val_indexAddr Try.runUnderlying38 Try.sizeOf104 rfl rfl (vs := m.ms.flatMap meaV) (rd_old hR.ms rfl) (by omega) (by omega) (by rw [meaC_len, Int.toNat_natCast]; omega)) ?_
          refine vl_val rfl (.some rfl) (val_loadAgg Try.isAgg104 Try.sizeOf104 rfl (cells_rd (us := meaV (m.ms.getD i (0, []))) (rd_old hR.ms rfl) (meaC_at rfl (by omega))) rfl) ?_
          refine vl_alloc rfl rfl (.some rfl) Try.zeroValue104 (fun r9 => ?_)
          first | refine vl_store rfl rfl .none rfl rfl Try.sizeOf104 rfl (by repeat constructor) (by first | decide | exact Nat.le_refl _ | exact Nat.le_of_ble_eq_true rfl | (simp; omega)) ?_ | refine vl_storeSl rfl rfl .none rfl rfl Try.sizeOf104 rfl (by simp [Value.cells]) (by repeat constructor) (by first | decide | (simp [Value.cells]; omega)) ?_
          refine vl_nil ?_
          refine vc_drawsS [0, 1, 2, 3, 5, 6, 8] [] [0, 1, 2, 3, 5, 6, 4, 7, 8] [cells r9 (meaV (m.ms.getD i (0, []))) 104] (by repeat constructor) rfl (by kernel_rfl) (fun _ _ _ h => h) ?_
          refine vd_val rfl rfl rfl (.some rfl) (val_move rfl) ?_
          refine vd_val rfl rfl rfl (.some rfl) (by first | exact val_fieldAddr Try.runUnderlying104 rfl Try.sizeOf3 rfl | exact val_fieldAddrR Try.runUnderlying104 rfl Try.sizeOf3 rfl) ?_
          refine vd_val rfl rfl rfl (.some rfl) (val_load Try.isAgg3 rfl (by first | exact cell_cells (by repeat constructor) rfl | exact cell_rd (by first | exact rd_sl (by repeat constructor) | exact rd_old (by assumption) rfl) (by first | exact bcells_at (by omega) | exact ucells_at (by omega) | exact icells_at (by omega) | exact tcells_at (by omega) | exact bcells_get (by omega) | exact icells_get (by omega) | exact tcells_get (by omega) | exact ucells_get (by omega)) | exact cell_old (by assumption) (by simp [fps]))) ?_
          refine vd_val rfl rfl rfl (.some rfl) (val_convInt Try.runUnderlying3 Try.runUnderlying23 rfl (w_u64N (m.ms.getD i (0, [])).1)) ?_
          refine vd_val rfl rfl rfl (.some rfl) (by first | exact val_fieldAddr Try.runUnderlying104 rfl Try.sizeOf9 rfl | exact val_fieldAddrR Try.runUnderlying104 rfl Try.sizeOf9 rfl) ?_
          refine vd_val rfl rfl rfl (.some rfl) (val_load Try.isAgg9 rfl (by first | exact cell_cells (by repeat constructor) rfl | exact cell_rd (by first | exact rd_sl (by repeat constructor) | exact rd_old (by assumption) rfl) (by first | exact bcells_at (by omega) | exact ucells_at (by omega) | exact icells_at (by omega) | exact tcells_at (by omega) | exact bcells_get (by omega) | exact icells_get (by omega) | exact tcells_get (by omega) | exact ucells_get (by omega)) | exact cell_old (by assumption) (by simp [fps]))) ?_
          refine vd_op rfl rfl ?_
          have hq := hB.ms _ (getD_inL (0, []) (l := m.ms) (i := i) (by omega))
          have htk := tk_le hpm (i := i) hi
          refine vl_call (C := []) rfl rfl (.some rfl) Try.call54 rfl .nil (fun w hw => rPut A1 c1 (putN (u64N m.k) ++ putTx m.rn ++ putTx m.rt ++ putN m.ds.length ++ m.ds.flatMap putTx ++ putN m.ms.length ++ (m.ms.take i).flatMap putMq) (u64N (m.ms.getD i (0, [])).1) (u64N_lt _) (by simp only [List.length_append]; omega) w (rdw (rd_sl (by repeat constructor)) hw)) (fun v H' h => ?_)
          obtain ⟨A123, c123, rfl, rfl⟩ := h
          show VL _ _ _ _ _ (_ :: _)
          refine vl_nil ?_
          refine ⟨fun _ => ⟨_, (by repeat (first | exact .nil | exact sub_self _ | exact sub_skip (sub_self _) | exact sub_skip (sub_skip (sub_self _)) | exact sub_skip (sub_skip (sub_skip (sub_self _))) | (apply Sub.cons; · repeat (first | exact .head | apply Take.tail))))⟩, ?_⟩
          refine vd_op rfl rfl ?_
          have hq2 := putN_len (u64N (m.ms.getD i (0, [])).1)
          refine vl_call (C := []) rfl rfl (.some rfl) Try.call104 rfl .nil (fun w hw => rText A123 c123 (putN (u64N m.k) ++ putTx m.rn ++ putTx m.rt ++ putN m.ds.length ++ m.ds.flatMap putTx ++ putN m.ms.length ++ (m.ms.take i).flatMap putMq ++ putN (u64N (m.ms.getD i (0, [])).1)) (by simp only [List.length_append]; omega) (m.ms.getD i (0, [])).2 (by omega) w (rdw (rd_sl (by repeat constructor)) hw)) (fun v H' h => ?_)
          obtain ⟨A126, c126, rfl, rfl⟩ := h
          show VL _ _ _ _ _ (_ :: _)
          rw [List.append_assoc (putN (u64N m.k) ++ putTx m.rn ++ putTx m.rt ++ putN m.ds.length ++ m.ds.flatMap putTx ++ putN m.ms.length ++ (m.ms.take i).flatMap putMq), show putN (u64N (m.ms.getD i (0, [])).1) ++ putTx (m.ms.getD i (0, [])).2 = putMq (m.ms.getD i (0, [])) from rfl, List.append_assoc (putN (u64N m.k) ++ putTx m.rn ++ putTx m.rt ++ putN m.ds.length ++ m.ds.flatMap putTx ++ putN m.ms.length), ← flat_tk (0, []) putMq (show i < m.ms.length by omega)]
          refine vl_nil ?_
          refine ⟨fun _ => ⟨_, (by repeat (first | exact .nil | exact sub_self _ | exact sub_skip (sub_self _) | exact sub_skip (sub_skip (sub_self _)) | exact sub_skip (sub_skip (sub_skip (sub_self _))) | (apply Sub.cons; · repeat (first | exact .head | apply Take.tail))))⟩, ?_⟩
          refine vd_val rfl rfl rfl (.some rfl) (val_assign rfl) ?_
          refine vd_nil ?_
          refine vc_region ?_
          refine vl_val rfl (.some rfl) (val_add rfl rfl (by first | exact w_i64 (by omega) (by omega) | rfl)) ?_
          refine vl_val rfl (.some rfl) (val_move rfl) ?_
          refine vl_nil ?_
          exact ⟨(m.ms.length - (i + 1)), _, _, _, by omega, (by repeat (first | exact trivial | refine ⟨rfl, ?_⟩ | refine ⟨le_item rfl (by first | rfl | (congr 1; omega) | (simp; done) | (simp; omega)), ?_⟩)), (by repeat constructor), ⟨i + 1, A126, c126, by omega, rfl, rfl, rfl⟩⟩
        · (try replace hc4 := of_decide_eq_false hc4)
          obtain rfl : i = m.ms.length := by omega
          rw [List.take_length, show putN (u64N m.k) ++ putTx m.rn ++ putTx m.rt ++ putN m.ds.length ++ m.ds.flatMap putTx ++ putN m.ms.length ++ m.ms.flatMap putMq = recB (recOf m) by rw [← recB_2 (x := recOf m) hck]; show _ = putN (u64N m.k) ++ _; unfold putR; simp only [List.append_assoc]]
          refine vc_exit ?_
          refine vc_seq ?_
          refine vc_region ?_
          refine vl_val rfl (.some rfl) (val_move rfl) ?_
          refine vl_val rfl (.some rfl) (val_assign rfl) ?_
          refine vl_nil ?_
          refine vc_ret ?_
          refine ⟨_, [BY A1 (recB (recOf m)).length c1 (recB (recOf m))], _, res1 Try.results57 rfl, (by repeat constructor), ?_⟩
          exact ⟨A1, c1, rfl, rfl⟩
    · (try replace hc2 := of_decide_eq_false hc2)
      have hck : (recOf m).k = 3 := by rcases good_k hg with h | h | h; exact absurd h hc0; exact absurd h hc2; exact h
      have hgt := goodB_rows (good_3 hg hck)
      have hg200 := hgt.1
      have hnm := hB.nm
      have hp1 := putTx_len m.nm
      have hp3 := putN_len m.rs.length
      have hpr : ∀ q ∈ m.rs, (putTx (encV q.2.2)).length ≤ 1000 := fun q h => by have := putTx_len (encV q.2.2); have := encV_len q.2.2; have := hgt.2 q h; omega
      refine vc_seq ?_
      refine vc_drawsS [0, 1, 2, 4, 5, 6, 7, 9] [] [0, 1, 2, 4, 5, 6, 7, 3, 8, 9] [cells r1 (recC m) 44] (by repeat constructor) rfl (by kernel_rfl) (fun _ _ _ h => h) ?_
      refine vd_val rfl rfl rfl (.some rfl) (val_move rfl) ?_
      refine vd_val rfl rfl rfl (.some rfl) (by first | exact val_fieldAddr Try.runUnderlying44 rfl Try.sizeOf9 rfl | exact val_fieldAddrR Try.runUnderlying44 rfl Try.sizeOf9 rfl) ?_
      refine vd_val rfl rfl rfl (.some rfl) (val_load Try.isAgg9 rfl (by first | exact cell_cells (by repeat constructor) rfl | exact cell_rd (by first | exact rd_sl (by repeat constructor) | exact rd_old (by assumption) rfl) (by first | exact bcells_at (by omega) | exact ucells_at (by omega) | exact icells_at (by omega) | exact tcells_at (by omega) | exact bcells_get (by omega) | exact icells_get (by omega) | exact tcells_get (by omega) | exact ucells_get (by omega)) | exact cell_old (by assumption) (by simp [fps]))) ?_
      refine vd_val rfl rfl rfl (.some rfl) (by first | exact val_fieldAddr Try.runUnderlying44 rfl Try.sizeOf41 rfl | exact val_fieldAddrR Try.runUnderlying44 rfl Try.sizeOf41 rfl) ?_
      refine vd_val rfl rfl rfl (.some rfl) (val_load Try.isAgg41 rfl (by first | exact cell_cells (by repeat constructor) rfl | exact cell_rd (by first | exact rd_sl (by repeat constructor) | exact rd_old (by assumption) rfl) (by first | exact bcells_at (by omega) | exact ucells_at (by omega) | exact icells_at (by omega) | exact tcells_at (by omega) | exact bcells_get (by omega) | exact icells_get (by omega) | exact tcells_get (by omega) | exact ucells_get (by omega)) | exact cell_old (by assumption) (by simp [fps]))) ?_
      refine vd_val rfl rfl rfl (.some rfl) (val_lenSl Try.runUnderlying41 rfl) ?_
      refine vd_val rfl rfl rfl (.some rfl) (val_convInt Try.runUnderlying3 Try.runUnderlying23 rfl (w_u64 (by omega) (by omega))) ?_
      refine vd_op rfl rfl ?_
      refine vl_call (C := []) rfl rfl (.some rfl) Try.call104 rfl .nil (fun w hw => rText A16 c16 (putN (u64N m.k)) (by omega) m.nm (by omega) w (rdw (rd_sl (by repeat constructor)) hw)) (fun v H' h => ?_)
      obtain ⟨A22, c22, rfl, rfl⟩ := h
      show VL _ _ _ _ _ (_ :: _)
      refine vl_nil ?_
      refine ⟨fun _ => ⟨_, (by repeat (first | exact .nil | exact sub_self _ | exact sub_skip (sub_self _) | exact sub_skip (sub_skip (sub_self _)) | exact sub_skip (sub_skip (sub_skip (sub_self _))) | (apply Sub.cons; · repeat (first | exact .head | apply Take.tail))))⟩, ?_⟩
      refine vd_op rfl rfl ?_
      refine vl_call (C := []) rfl rfl (.some rfl) Try.call54 rfl .nil (fun w hw => rPut A22 c22 (putN (u64N m.k) ++ putTx m.nm) m.rs.length (by omega) (by simp only [List.length_append]; omega) w (rdw (rd_sl (by repeat constructor)) hw)) (fun v H' h => ?_)
      obtain ⟨A27, c27, rfl, rfl⟩ := h
      show VL _ _ _ _ _ (_ :: _)
      refine vl_nil ?_
      refine ⟨fun _ => ⟨_, (by repeat (first | exact .nil | exact sub_self _ | exact sub_skip (sub_self _) | exact sub_skip (sub_skip (sub_self _)) | exact sub_skip (sub_skip (sub_skip (sub_self _))) | (apply Sub.cons; · repeat (first | exact .head | apply Take.tail))))⟩, ?_⟩
      refine vd_val rfl rfl rfl (.some rfl) (val_assign rfl) ?_
      refine vd_nil ?_
      refine vc_seq ?_
      refine vc_region ?_
      refine vl_val rfl (.some rfl) (by first | exact val_fieldAddr Try.runUnderlying44 rfl Try.sizeOf41 rfl | exact val_fieldAddrR Try.runUnderlying44 rfl Try.sizeOf41 rfl) ?_
      refine vl_val rfl (.some rfl) (val_load Try.isAgg41 rfl (by first | exact cell_cells (by repeat constructor) rfl | exact cell_rd (by first | exact rd_sl (by repeat constructor) | exact rd_old (by assumption) rfl) (by first | exact bcells_at (by omega) | exact ucells_at (by omega) | exact icells_at (by omega) | exact tcells_at (by omega) | exact bcells_get (by omega) | exact icells_get (by omega) | exact tcells_get (by omega) | exact ucells_get (by omega)) | exact cell_old (by assumption) (by simp [fps]))) ?_
      refine vl_val rfl (.some rfl) (val_lenSl Try.runUnderlying41 rfl) ?_
      refine vl_val rfl (.some rfl) (val_move rfl) ?_
      refine vl_nil ?_
      refine vc_block ?_
      rw [show putN (u64N m.k) ++ putTx m.nm ++ putN m.rs.length = putN (u64N m.k) ++ putTx m.nm ++ putN m.rs.length ++ (m.rs.take 0).flatMap (fun q => putTx (encV q.2.2)) by simp]
      refine vc_loopw (fun q E H => ∃ (i : Nat) (A1 : Option Addr) (c1 : Nat), i ≤ m.rs.length ∧ q = m.rs.length - i ∧ E = [(1, .pointer (some ⟨r1, 0, none⟩)), (3, .slice A1 (putN (u64N m.k) ++ putTx m.nm ++ putN m.rs.length ++ (m.rs.take i).flatMap (fun q => putTx (encV q.2.2))).length c1), (29, .slice m.Ar m.rs.length m.cr), (30, .int .i64 (m.rs.length : Nat)), (31, .int .i64 i)] ∧ H = [BY A1 (putN (u64N m.k) ++ putTx m.nm ++ putN m.rs.length ++ (m.rs.take i).flatMap (fun q => putTx (encV q.2.2))).length c1 (putN (u64N m.k) ++ putTx m.nm ++ putN m.rs.length ++ (m.rs.take i).flatMap (fun q => putTx (encV q.2.2))), cells r1 (recC m) 44]) (m.rs.length) ⟨_, _, _, ⟨0, A27, c27, by omega, rfl, rfl, rfl⟩, (by repeat (first | exact trivial | refine ⟨rfl, ?_⟩ | refine ⟨le_item rfl (by first | rfl | (congr 1; omega) | (simp; done) | (simp; omega)), ?_⟩)), (by repeat constructor)⟩ ?_
      intro q E H hI
      obtain ⟨i, A1, c1, hi, rfl, rfl, rfl⟩ := hI
      refine vc_seq ?_
      refine vc_region ?_
      refine vl_val rfl (.some rfl) (val_lt rfl rfl) ?_
      refine vl_nil ?_
      refine vc_seq ?_
      refine vc_cond rfl (fun hc5 => ?_) (fun hc5 => ?_)
      · (try replace hc5 := of_decide_eq_true hc5)
        refine vc_skip ?_
        refine vc_seq ?_
        refine vc_block ?_
        refine vc_seq ?_
        refine vc_region ?_
        refine vl_val rfl (.some rfl) (val_indexAddr Try.runUnderlying41 Try.sizeOf105 rfl rfl (vs := m.rs.flatMap rowV) (rd_old hR.rs rfl) (by omega) (by omega) (by rw [rowC_len, Int.toNat_natCast]; omega)) ?_
        refine vl_val rfl (.some rfl) (val_load Try.isAgg105 rfl (cell_rd (rd_old hR.rs rfl) (rowC_at (i := i) (by omega)))) ?_
        refine vl_val rfl (.some rfl) (val_assign rfl) ?_
        refine vl_nil ?_
        refine vc_seq ?_
        refine vc_region ?_
        refine vl_val rfl (.some rfl) (val_move rfl) ?_
        have hrow := hR.row _ (row_in (l := m.rs) (i := i) (by omega))
        have hq := hgt.2 _ (row_in (l := m.rs) (i := i) (by omega))
        have htk := tk_le hpr (i := i) hi
        have hel := encV_len (m.rs.getD i rw0).2.2
        refine vl_call (C := []) rfl rfl (.some rfl) Try.call105 rfl .nil (fun w hw => xBytes (m.rs.getD i rw0).1 (m.rs.getD i rw0).2.1 (m.rs.getD i rw0).2.2 (by omega) hrow.2 w (rdw (rd_old hrow.1 rfl) hw)) (fun v H' h => ?_)
        obtain ⟨A36, c36, rfl, rfl⟩ := h
        show VL _ _ _ _ _ (_ :: _)
        refine vl_val rfl (.some rfl) (val_assign rfl) ?_
        refine vl_nil ?_
        refine vc_region ?_
        refine vl_val rfl (.some rfl) (val_move rfl) ?_
        refine vl_val rfl (.some rfl) (val_move rfl) ?_
        refine vl_val rfl (.some rfl) (val_lenSl Try.runUnderlying22 rfl) ?_
        refine vl_val rfl (.some rfl) (val_convInt Try.runUnderlying3 Try.runUnderlying23 rfl (w_u64 (by omega) (by omega))) ?_
        refine vl_call (C := []) rfl rfl (.some rfl) Try.call54 rfl .nil (fun w hw => rPut A1 c1 (putN (u64N m.k) ++ putTx m.nm ++ putN m.rs.length ++ (m.rs.take i).flatMap (fun q => putTx (encV q.2.2))) (encV (m.rs.getD i rw0).2.2).length (by omega) (by simp only [List.length_append]; omega) w (rdw (rd_sl (by repeat constructor)) hw)) (fun v H' h => ?_)
        obtain ⟨A41, c41, rfl, rfl⟩ := h
        show VL _ _ _ _ _ (_ :: _)
        refine vl_val rfl (.some rfl) (val_move rfl) ?_
        refine vl_append (us := bcells (encV (m.rs.getD i rw0).2.2)) sT22 rfl rfl (.some rfl) rfl rfl (rd_sl (by repeat constructor)) (by rw [bcells_length]; omega) (one_b _) (by simp only [List.length_append]; have := putN_len (encV (m.rs.getD i rw0).2.2).length; omega) (by simp only [List.length_append]; have := putN_len (encV (m.rs.getD i rw0).2.2).length; omega) (by repeat constructor) (fun A43 k43 => ?_)
        rw [bcells_app, ← List.length_append, List.append_assoc (putN (u64N m.k) ++ putTx m.nm ++ putN m.rs.length ++ (m.rs.take i).flatMap (fun q => putTx (encV q.2.2))), show putN (encV (m.rs.getD i rw0).2.2).length ++ encV (m.rs.getD i rw0).2.2 = putTx (encV (m.rs.getD i rw0).2.2) from rfl, List.append_assoc (putN (u64N m.k) ++ putTx m.nm ++ putN m.rs.length), ← flat_tk rw0 (fun q : Rw => putTx (encV q.2.2)) (show i < m.rs.length by omega)]
        refine vl_val rfl (.some rfl) (val_assign rfl) ?_
        refine vl_nil ?_
        refine vc_region ?_
        refine vl_val rfl (.some rfl) (val_add rfl rfl (by first | exact w_i64 (by omega) (by omega) | rfl)) ?_
        refine vl_val rfl (.some rfl) (val_move rfl) ?_
        refine vl_nil ?_
        exact ⟨(m.rs.length - (i + 1)), _, _, _, by omega, (by repeat (first | exact trivial | refine ⟨rfl, ?_⟩ | refine ⟨le_item rfl (by first | rfl | (congr 1; omega) | (simp; done) | (simp; omega)), ?_⟩)), (by repeat constructor), ⟨i + 1, A43, k43, by omega, rfl, rfl, rfl⟩⟩
      · (try replace hc5 := of_decide_eq_false hc5)
        obtain rfl : i = m.rs.length := by omega
        rw [List.take_length, show putN (u64N m.k) ++ putTx m.nm ++ putN m.rs.length ++ m.rs.flatMap (fun q => putTx (encV q.2.2)) = recB (recOf m) by rw [← recB_3 (x := recOf m) hck]; show _ = putN (u64N m.k) ++ _; unfold putB; rw [rows_flat, List.length_map]; simp only [List.append_assoc]]
        refine vc_exit ?_
        refine vc_seq ?_
        refine vc_region ?_
        refine vl_val rfl (.some rfl) (val_move rfl) ?_
        refine vl_val rfl (.some rfl) (val_assign rfl) ?_
        refine vl_nil ?_
        refine vc_ret ?_
        refine ⟨_, [BY A1 (recB (recOf m)).length c1 (recB (recOf m))], _, res1 Try.results57 rfl, (by repeat constructor), ?_⟩
        exact ⟨A1, c1, rfl, rfl⟩
set_option maxRecDepth 20000 in
theorem rBytesR (m : RecM) (hL : RecL m) (hB : goodRec (recOf m) → RecB m) (w : World) (hR : RecR w m) : Fn Try.prog 23 [recA m] [] (ret fun v H' => ∃ A' c', v = .tuple #[.slice A' (bytL (recOf m)).length c', .int .i64 (bytE (recOf m))] ∧ H' = [BY A' (bytL (recOf m)).length c' (bytL (recOf m))]) w := by
  refine fn_enter Try.func23 rfl Try.ntmps23 rfl ?_
  refine vc_seq ?_
  refine vc_region ?_
  refine vl_box rfl rfl (.some rfl) rfl (fun r1 => ?_)
  refine vl_val rfl (.some rfl) (val_assign rfl) ?_
  refine vl_val rfl (.some rfl) (val_assign rfl) ?_
  refine vl_nil ?_
  refine vc_seq ?_
  refine vc_seq ?_
  refine vc_region ?_
  refine vl_val rfl (.some rfl) (val_loadAgg Try.isAgg44 Try.sizeOf44 rfl (by first | exact cells_whole (by repeat constructor) | exact cells_part (by repeat constructor) rfl) rfl) ?_
  refine vl_callV rfl rfl (.some rfl) Try.call28 rfl (fun w hw => rGoodR m hL w (rec_here hR hw)) ?_
  refine vl_val rfl (.some rfl) (val_not rfl) ?_
  refine vl_nil ?_
  refine vc_cond rfl (fun hc0 => ?_) (fun hc0 => ?_)
  · (try replace hc0 := of_decide_eq_true hc0)
    have hg : ¬ goodRec (recOf m) := by simpa using hc0
    refine vc_seq ?_
    refine vc_region ?_
    refine vl_val rfl (.some rfl) (val_assign rfl) ?_
    refine vl_nilSl 5 1 ?_
    refine vl_val rfl (.some rfl) (val_assign rfl) ?_
    refine vl_nil ?_
    refine vc_ret ?_
    refine ⟨_, [BY none 0 0 []], _, res2 Try.results23 rfl rfl, (by repeat constructor), ?_⟩
    obtain ⟨e1, e2⟩ := byt_bad hg
    show ∃ A' c', _ ∧ _
    rw [e1, e2]
    exact ⟨none, 0, rfl, rfl⟩
  · (try replace hc0 := of_decide_eq_false hc0)
    have hg : goodRec (recOf m) := by simpa using hc0
    refine vc_skip ?_
    refine vc_seq ?_
    refine vc_region ?_
    refine vl_val rfl (.some rfl) (val_loadAgg Try.isAgg44 Try.sizeOf44 rfl (by first | exact cells_whole (by repeat constructor) | exact cells_part (by repeat constructor) rfl) rfl) ?_
    refine vl_call (C := []) rfl rfl (.some rfl) Try.call57 rfl .nil (fun w hw => rWrite m hg (hB hg) w (rec_here hR hw)) (fun v H' h => ?_)
    obtain ⟨A9, c9, rfl, rfl⟩ := h
    show VL _ _ _ _ _ (_ :: _)
    refine vl_val rfl (.some rfl) (val_assign rfl) ?_
    refine vl_nil ?_
    refine vc_seq ?_
    refine vc_seq ?_
    refine vc_region ?_
    refine vl_val rfl (.some rfl) (val_move rfl) ?_
    refine vl_val rfl (.some rfl) (val_lenSl Try.runUnderlying22 rfl) ?_
    refine vl_val rfl (.some rfl) (val_gt rfl rfl) ?_
    refine vl_nil ?_
    refine vc_cond rfl (fun hc1 => ?_) (fun hc1 => ?_)
    · (try replace hc1 := of_decide_eq_true hc1)
      refine vc_seq ?_
      refine vc_region ?_
      refine vl_val rfl (.some rfl) (val_assign rfl) ?_
      refine vl_nilSl 5 1 ?_
      refine vl_val rfl (.some rfl) (val_assign rfl) ?_
      refine vl_nil ?_
      refine vc_ret ?_
      refine ⟨_, [BY none 0 0 []], _, res2 Try.results23 rfl rfl, (by repeat constructor), ?_⟩
      obtain ⟨e1, e2⟩ := byt_full hg (by omega)
      show ∃ A' c', _ ∧ _
      rw [e1, e2]
      exact ⟨none, 0, rfl, rfl⟩
    · (try replace hc1 := of_decide_eq_false hc1)
      refine vc_skip ?_
      refine vc_seq ?_
      refine vc_region ?_
      refine vl_val rfl (.some rfl) (val_move rfl) ?_
      refine vl_val rfl (.some rfl) (val_assign rfl) ?_
      refine vl_val rfl (.some rfl) (val_assign rfl) ?_
      refine vl_nil ?_
      refine vc_ret ?_
      refine ⟨_, [BY A9 (recB (recOf m)).length c9 (recB (recOf m))], _, res2 Try.results23 rfl rfl, (by repeat constructor), ?_⟩
      obtain ⟨e1, e2⟩ := byt_ok hg (by omega)
      show ∃ A' c', _ ∧ _
      rw [e1, e2]
      exact ⟨A9, c9, rfl, rfl⟩
set_option maxRecDepth 20000 in
theorem lPlain (m : RecM) (w : World) : FnV Try.prog 24 [recA m] (recA m) w := by
  refine fn_enter Try.func24 rfl Try.ntmps24 rfl ?_
  refine vc_seq ?_
  refine vc_region ?_
  refine vl_box rfl rfl (.some rfl) rfl (fun r1 => ?_)
  refine vl_alloc rfl rfl (.some rfl) Try.zeroValue44 (fun r2 => ?_)
  refine vl_nil ?_
  refine vc_seq ?_
  refine vc_region ?_
  refine vl_val rfl (.some rfl) (by first | exact val_fieldAddr Try.runUnderlying43 rfl Try.sizeOf3 rfl | exact val_fieldAddrR Try.runUnderlying43 rfl Try.sizeOf3 rfl) ?_
  refine vl_val rfl (.some rfl) (val_load Try.isAgg3 rfl (by first | exact cell_cells (by repeat constructor) rfl | exact cell_rd (by first | exact rd_sl (by repeat constructor) | exact rd_old (by assumption) rfl) (by first | exact bcells_at (by omega) | exact ucells_at (by omega) | exact icells_at (by omega) | exact tcells_at (by omega) | exact bcells_get (by omega) | exact icells_get (by omega) | exact tcells_get (by omega) | exact ucells_get (by omega)) | exact cell_old (by assumption) (by simp [fps]))) ?_
  refine vl_val rfl (.some rfl) (by first | exact val_fieldAddr Try.runUnderlying43 rfl Try.sizeOf36 rfl | exact val_fieldAddrR Try.runUnderlying43 rfl Try.sizeOf36 rfl) ?_
  refine vl_val rfl (.some rfl) (val_loadAgg Try.isAgg36 Try.sizeOf36 rfl (cells_part (us := tabC m) (by repeat constructor) rfl) rfl) ?_
  refine vl_val rfl (.some rfl) (by first | exact val_fieldAddr Try.runUnderlying43 rfl Try.sizeOf40 rfl | exact val_fieldAddrR Try.runUnderlying43 rfl Try.sizeOf40 rfl) ?_
  refine vl_val rfl (.some rfl) (val_loadAgg Try.isAgg40 Try.sizeOf40 rfl (cells_part (us := rolC m) (by repeat constructor) rfl) rfl) ?_
  refine vl_val rfl (.some rfl) (by first | exact val_fieldAddr Try.runUnderlying43 rfl Try.sizeOf9 rfl | exact val_fieldAddrR Try.runUnderlying43 rfl Try.sizeOf9 rfl) ?_
  refine vl_val rfl (.some rfl) (val_load Try.isAgg9 rfl (by first | exact cell_cells (by repeat constructor) rfl | exact cell_rd (by first | exact rd_sl (by repeat constructor) | exact rd_old (by assumption) rfl) (by first | exact bcells_at (by omega) | exact ucells_at (by omega) | exact icells_at (by omega) | exact tcells_at (by omega) | exact bcells_get (by omega) | exact icells_get (by omega) | exact tcells_get (by omega) | exact ucells_get (by omega)) | exact cell_old (by assumption) (by simp [fps]))) ?_
  refine vl_val rfl (.some rfl) (by first | exact val_fieldAddr Try.runUnderlying43 rfl Try.sizeOf41 rfl | exact val_fieldAddrR Try.runUnderlying43 rfl Try.sizeOf41 rfl) ?_
  refine vl_val rfl (.some rfl) (val_load Try.isAgg41 rfl (by first | exact cell_cells (by repeat constructor) rfl | exact cell_rd (by first | exact rd_sl (by repeat constructor) | exact rd_old (by assumption) rfl) (by first | exact bcells_at (by omega) | exact ucells_at (by omega) | exact icells_at (by omega) | exact tcells_at (by omega) | exact bcells_get (by omega) | exact icells_get (by omega) | exact tcells_get (by omega) | exact ucells_get (by omega)) | exact cell_old (by assumption) (by simp [fps]))) ?_
  refine vl_val rfl (.some rfl) (val_buildSt (pl := #[(0, 1), (1, 2), (3, 4), (7, 1), (8, 1)]) (cs := (recC m).toArray) Try.runUnderlying44 Try.zeroValue44 (fun w => by kernel_rfl) rfl (by kernel_rfl)) ?_
  first | refine vl_store rfl rfl .none rfl rfl Try.sizeOf44 rfl (by repeat constructor) (by first | decide | exact Nat.le_refl _ | exact Nat.le_of_ble_eq_true rfl | (simp; omega)) ?_ | refine vl_storeSl rfl rfl .none rfl rfl Try.sizeOf44 rfl (by simp [Value.cells]) (by repeat constructor) (by first | decide | (simp [Value.cells]; omega)) ?_
  refine vl_nil ?_
  refine vc_ret ?_
  refine ⟨_, [], _, resC Try.results24 rfl (whole_agg Try.isAgg44 Try.sizeOf44 (cells_whole (by repeat constructor)) rfl), .nil, ?_⟩
  rfl


end Go.Proofs.Ytclnhfdgiaamhaa.K
