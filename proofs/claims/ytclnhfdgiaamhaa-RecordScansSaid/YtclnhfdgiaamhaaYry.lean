/- Walks of the program's functions, printed by a program of this session; Lean checks them. -/
import Derived.Test.YtclnhfdgiaamhaaYrp
namespace Go.Proofs.Ytclnhfdgiaamhaa.K
open Go Go.RowKit Go.Proofs
set_option linter.unusedVariables false
set_option linter.unusedSimpArgs false


abbrev QC (r : Nat) (A : Option Addr) (n c : Nat) (wr : Bool) : Chunk := cells r [.slice A n c, .bool wr] 123
/-! The document's reader: it goes on when it is wrong. -/
def numU (b : Tx) : Nat := ((rNum b).map (·.1)).getD 0
def numB (b : Tx) : Tx := ((rNum b).map (·.2)).getD []
def numW (b : Tx) : Bool := (rNum b).isNone
def cntU (b : Tx) : Nat := if (numB b).length < numU b then 0 else numU b
def cntW (b : Tx) : Bool := numW b || decide ((numB b).length < numU b)
def txS (b : Tx) : Tx := (numB b).take (cntU b)
def txB (b : Tx) : Tx := (numB b).drop (cntU b)
theorem num_ok {b : Tx} (h : numW b = false) : rNum b = some (numU b, numB b) := by
  unfold numW at h
  unfold numU numB
  cases hn : rNum b with
  | none => rw [hn] at h; cases h
  | some p => rfl
theorem num_bad {b : Tx} (h : numW b = true) : rNum b = none := by
  unfold numW at h
  cases hn : rNum b with
  | none => rfl
  | some p => rw [hn] at h; cases h
theorem num_some {b : Tx} {p : Nat × Tx} (h : rNum b = some p) : numU b = p.1 ∧ numB b = p.2 ∧ numW b = false := by unfold numU numB numW; rw [h]; exact ⟨rfl, rfl, rfl⟩
theorem num_none {b : Tx} (h : rNum b = none) : numU b = 0 ∧ numB b = [] ∧ numW b = true := by unfold numU numB numW; rw [h]; exact ⟨rfl, rfl, rfl⟩
theorem numU_lt (b : Tx) : numU b < 18446744073709551616 := by
  cases h : rNum b with
  | none => rw [(num_none h).1]; decide
  | some p => rw [(num_some h).1]; exact (rNum_is h).1
theorem numB_le (b : Tx) : (numB b).length ≤ b.length := by
  cases h : rNum b with
  | none => rw [(num_none h).2.1]; exact Nat.zero_le _
  | some p => rw [(num_some h).2.1]; exact (rNum_is h).2
theorem cntU_le (b : Tx) : cntU b ≤ (numB b).length := by unfold cntU; split <;> omega
theorem cnt_ok {b : Tx} (h : cntW b = false) : rCnt b = some (cntU b, numB b) := by
  unfold cntW at h
  rw [Bool.or_eq_false_iff] at h
  have h2 := of_decide_eq_false h.2
  unfold rCnt cntU
  rw [num_ok h.1, if_neg h2]
  exact if_neg h2
theorem cnt_bad {b : Tx} (h : cntW b = true) : rCnt b = none := by
  unfold cntW at h
  unfold rCnt
  cases hn : rNum b with
  | none => rfl
  | some p =>
    rw [(num_some hn).2.2, Bool.false_or] at h
    have h2 := of_decide_eq_true h
    rw [(num_some hn).1, (num_some hn).2.1] at h2
    exact if_pos h2
theorem tx_ok {b : Tx} (h : cntW b = false) : rTx b = some (txS b, txB b) := by unfold rTx; rw [cnt_ok h]; rfl
theorem tx_bad {b : Tx} (h : cntW b = true) : rTx b = none := by unfold rTx; rw [cnt_bad h]; rfl
theorem txS_le (b : Tx) : (txS b).length + (txB b).length ≤ b.length := by
  have h1 := cntU_le b
  have h2 := numB_le b
  unfold txS txB
  rw [List.length_take, List.length_drop]; omega
theorem Sfx.nil {A : Option Addr} {b : Tx} : Sfx A b none 0 [] := ⟨Nat.le_refl _, Nat.zero_le _, fun w M _ j u hu => by simp [bcells] at hu⟩

set_option maxRecDepth 20000 in
theorem qNum (r : Nat) (A : Option Addr) (c : Nat) (b : Tx) (wr : Bool) (hb : b.length ≤ 1000000000) (hbc : b.length ≤ c) (w : World) (hr : ReadsM w (fps [QC r A b.length c wr]) A (bcells b)) : Fn Try.prog 61 [.pointer (some ⟨r, 0, none⟩)] [QC r A b.length c wr] (ret fun v H' => ∃ A2 c2, v = .int .u64 (numU b : Nat) ∧ Sfx A b A2 c2 (numB b) ∧ H' = [QC r A2 (numB b).length c2 (wr || numW b)]) w := by
  have hbd := getN_bd b
  refine fn_enter Try.func61 rfl Try.ntmps61 rfl ?_
  refine vc_seq ?_
  refine vc_region ?_
  refine vl_val rfl (.some rfl) (val_assign rfl) ?_
  refine vl_nil ?_
  refine vc_seq ?_
  refine vc_region ?_
  refine vl_val rfl (.some rfl) (val_move rfl) ?_
  refine vl_val rfl (.some rfl) (val_nil rfl rfl) ?_
  refine vl_val rfl (.some rfl) (by first | exact val_fieldAddr Try.runUnderlying123 rfl Try.sizeOf22 rfl | exact val_fieldAddrR Try.runUnderlying123 rfl Try.sizeOf22 rfl) ?_
  refine vl_val rfl (.some rfl) (val_load Try.isAgg22 rfl (by first | exact cell_cells (by repeat constructor) rfl | exact cell_rd (by first | exact rd_sl (by repeat constructor) | exact rd_old (by assumption) rfl) (by first | exact bcells_at (by omega) | exact ucells_at (by omega) | exact icells_at (by omega) | exact tcells_at (by omega) | exact bcells_get (by omega) | exact icells_get (by omega) | exact tcells_get (by omega) | exact ucells_get (by omega)) | exact cell_old (by assumption) (by simp [fps]))) ?_
  refine vl_callV rfl rfl (.some rfl) Try.call110 rfl (fun w' hw => rGet A c b (by omega) w' (rdw (rd_oldM hr) hw)) ?_
  refine vl_val rfl (.some rfl) (val_move rfl) ?_
  refine vl_val rfl (.some rfl) (val_extract rfl rfl) ?_
  refine vl_val rfl (.some rfl) (val_extract rfl rfl) ?_
  refine vl_val rfl (.some rfl) (val_assign rfl) ?_
  refine vl_val rfl (.some rfl) (val_assign rfl) ?_
  refine vl_nil ?_
  refine vc_seq ?_
  refine vc_seq ?_
  refine vc_region ?_
  refine vl_val rfl (.some rfl) (val_move rfl) ?_
  refine vl_val rfl (.some rfl) (val_eq rfl rfl) ?_
  refine vl_nil ?_
  refine vc_cond rfl (fun hc0 => ?_) (fun hc0 => ?_)
  · (try replace hc0 := of_decide_eq_true hc0)
    refine vc_seq ?_
    refine vc_region ?_
    refine vl_val rfl (.some rfl) (val_move rfl) ?_
    refine vl_val rfl (.some rfl) (val_nil rfl rfl) ?_
    refine vl_val rfl (.some rfl) (by first | exact val_fieldAddr Try.runUnderlying123 rfl Try.sizeOf4 rfl | exact val_fieldAddrR Try.runUnderlying123 rfl Try.sizeOf4 rfl) ?_
    first | refine vl_store rfl rfl .none rfl rfl Try.sizeOf4 rfl (by repeat constructor) (by first | decide | exact Nat.le_refl _ | exact Nat.le_of_ble_eq_true rfl | (simp; omega)) ?_ | refine vl_storeSl rfl rfl .none rfl rfl Try.sizeOf4 rfl (by simp [Value.cells]) (by repeat constructor) (by first | decide | (simp [Value.cells]; omega)) ?_
    refine vl_nil ?_
    refine vc_seq ?_
    refine vc_region ?_
    refine vl_val rfl (.some rfl) (val_move rfl) ?_
    refine vl_val rfl (.some rfl) (val_nil rfl rfl) ?_
    refine vl_val rfl (.some rfl) (by first | exact val_fieldAddr Try.runUnderlying123 rfl Try.sizeOf22 rfl | exact val_fieldAddrR Try.runUnderlying123 rfl Try.sizeOf22 rfl) ?_
    first | refine vl_store rfl rfl .none rfl rfl Try.sizeOf22 rfl (by repeat constructor) (by first | decide | exact Nat.le_refl _ | exact Nat.le_of_ble_eq_true rfl | (simp; omega)) ?_ | refine vl_storeSl rfl rfl .none rfl rfl Try.sizeOf22 rfl (by simp [Value.cells]) (by repeat constructor) (by first | decide | (simp [Value.cells]; omega)) ?_
    refine vl_nil ?_
    refine vc_seq ?_
    refine vc_region ?_
    refine vl_val rfl (.some rfl) (val_assign rfl) ?_
    refine vl_nil ?_
    refine vc_ret ?_
    first
      | (have hn : rNum b = none := by unfold rNum; exact if_pos (by omega)
         obtain ⟨e1, e2, e3⟩ := num_none hn
         refine ⟨_, [QC r none 0 0 true], _, res1 Try.results61 rfl, (by repeat constructor), ?_⟩
         rw [e1, e2, e3, Bool.or_true]
         exact ⟨none, 0, rfl, Sfx.nil, rfl⟩)
      | (have hn : rNum b = some ((getN b).1, b.drop (getN b).2) := by unfold rNum; exact if_neg (by omega)
         obtain ⟨e1, e2, e3⟩ := num_some hn
         rw [Int.toNat_natCast, show b.length - (getN b).2 = (b.drop (getN b).2).length from List.length_drop.symm]
         refine ⟨_, [QC r (cutA A c (getN b).2 1) (b.drop (getN b).2).length (c - (getN b).2) wr], _, res1 Try.results61 rfl, (by repeat constructor), ?_⟩
         rw [e1, e2, e3, Bool.or_false]
         exact ⟨_, _, rfl, Sfx.cut hbc, rfl⟩)
  · (try replace hc0 := of_decide_eq_false hc0)
    refine vc_skip ?_
    refine vc_seq ?_
    refine vc_region ?_
    refine vl_val rfl (.some rfl) (val_move rfl) ?_
    refine vl_val rfl (.some rfl) (val_move rfl) ?_
    refine vl_val rfl (.some rfl) (val_nil rfl rfl) ?_
    refine vl_val rfl (.some rfl) (by first | exact val_fieldAddr Try.runUnderlying123 rfl Try.sizeOf22 rfl | exact val_fieldAddrR Try.runUnderlying123 rfl Try.sizeOf22 rfl) ?_
    refine vl_val rfl (.some rfl) (val_load Try.isAgg22 rfl (by first | exact cell_cells (by repeat constructor) rfl | exact cell_rd (by first | exact rd_sl (by repeat constructor) | exact rd_old (by assumption) rfl) (by first | exact bcells_at (by omega) | exact ucells_at (by omega) | exact icells_at (by omega) | exact tcells_at (by omega) | exact bcells_get (by omega) | exact icells_get (by omega) | exact tcells_get (by omega) | exact ucells_get (by omega)) | exact cell_old (by assumption) (by simp [fps]))) ?_
    refine vl_val rfl (.some rfl) (val_move rfl) ?_
    refine vl_val rfl (.some rfl) (val_cutFrom Try.runUnderlying22 Try.sizeOf5 rfl rfl (by omega) (by omega)) ?_
    refine vl_val rfl (.some rfl) (val_nil rfl rfl) ?_
    refine vl_val rfl (.some rfl) (by first | exact val_fieldAddr Try.runUnderlying123 rfl Try.sizeOf22 rfl | exact val_fieldAddrR Try.runUnderlying123 rfl Try.sizeOf22 rfl) ?_
    first | refine vl_store rfl rfl .none rfl rfl Try.sizeOf22 rfl (by repeat constructor) (by first | decide | exact Nat.le_refl _ | exact Nat.le_of_ble_eq_true rfl | (simp; omega)) ?_ | refine vl_storeSl rfl rfl .none rfl rfl Try.sizeOf22 rfl (by simp [Value.cells]) (by repeat constructor) (by first | decide | (simp [Value.cells]; omega)) ?_
    refine vl_nil ?_
    refine vc_seq ?_
    refine vc_region ?_
    refine vl_val rfl (.some rfl) (val_move rfl) ?_
    refine vl_val rfl (.some rfl) (val_assign rfl) ?_
    refine vl_nil ?_
    refine vc_ret ?_
    first
      | (have hn : rNum b = none := by unfold rNum; exact if_pos (by omega)
         obtain ⟨e1, e2, e3⟩ := num_none hn
         refine ⟨_, [QC r none 0 0 true], _, res1 Try.results61 rfl, (by repeat constructor), ?_⟩
         rw [e1, e2, e3, Bool.or_true]
         exact ⟨none, 0, rfl, Sfx.nil, rfl⟩)
      | (have hn : rNum b = some ((getN b).1, b.drop (getN b).2) := by unfold rNum; exact if_neg (by omega)
         obtain ⟨e1, e2, e3⟩ := num_some hn
         rw [Int.toNat_natCast, show b.length - (getN b).2 = (b.drop (getN b).2).length from List.length_drop.symm]
         refine ⟨_, [QC r (cutA A c (getN b).2 1) (b.drop (getN b).2).length (c - (getN b).2) wr], _, res1 Try.results61 rfl, (by repeat constructor), ?_⟩
         rw [e1, e2, e3, Bool.or_false]
         exact ⟨_, _, rfl, Sfx.cut hbc, rfl⟩)
set_option maxRecDepth 20000 in
theorem qCnt (r : Nat) (A : Option Addr) (c : Nat) (b : Tx) (wr : Bool) (hb : b.length ≤ 1000000000) (hbc : b.length ≤ c) (w : World) (hr : ReadsM w (fps [QC r A b.length c wr]) A (bcells b)) : Fn Try.prog 63 [.pointer (some ⟨r, 0, none⟩)] [QC r A b.length c wr] (ret fun v H' => ∃ A2 c2, v = .int .i64 (cntU b : Nat) ∧ Sfx A b A2 c2 (numB b) ∧ H' = [QC r A2 (numB b).length c2 (wr || cntW b)]) w := by
  have h1 := numU_lt b
  have h2 := numB_le b
  refine fn_enter Try.func63 rfl Try.ntmps63 rfl ?_
  refine vc_seq ?_
  refine vc_region ?_
  refine vl_val rfl (.some rfl) (val_assign rfl) ?_
  refine vl_nil ?_
  refine vc_seq ?_
  refine vc_region ?_
  refine vl_val rfl (.some rfl) (val_move rfl) ?_
  refine vl_call (C := [QC r A (b).length c wr]) rfl rfl (.some rfl) Try.call61 rfl (by repeat constructor) (fun w' hw => qNum r A c (b) wr (by omega) hbc w' (readsM_old (hr) (by repeat constructor) hw)) (fun v H' h => ?_)
  obtain ⟨A1, c1, rfl, hS1, rfl⟩ := h
  show VL _ _ _ _ _ (_ :: _)
  refine vl_val rfl (.some rfl) (val_assign rfl) ?_
  refine vl_nil ?_
  refine vc_seq ?_
  refine vc_seq ?_
  refine vc_region ?_
  refine vl_val rfl (.some rfl) (val_move rfl) ?_
  refine vl_val rfl (.some rfl) (val_move rfl) ?_
  refine vl_val rfl (.some rfl) (val_nil rfl rfl) ?_
  refine vl_val rfl (.some rfl) (by first | exact val_fieldAddr Try.runUnderlying123 rfl Try.sizeOf22 rfl | exact val_fieldAddrR Try.runUnderlying123 rfl Try.sizeOf22 rfl) ?_
  refine vl_val rfl (.some rfl) (val_load Try.isAgg22 rfl (by first | exact cell_cells (by repeat constructor) rfl | exact cell_rd (by first | exact rd_sl (by repeat constructor) | exact rd_old (by assumption) rfl) (by first | exact bcells_at (by omega) | exact ucells_at (by omega) | exact icells_at (by omega) | exact tcells_at (by omega) | exact bcells_get (by omega) | exact icells_get (by omega) | exact tcells_get (by omega) | exact ucells_get (by omega)) | exact cell_old (by assumption) (by simp [fps]))) ?_
  refine vl_val rfl (.some rfl) (val_lenSl Try.runUnderlying22 rfl) ?_
  refine vl_val rfl (.some rfl) (val_convInt Try.runUnderlying3 Try.runUnderlying23 rfl (by first | exact w_u64 (by omega) (by omega) | rfl)) ?_
  refine vl_val rfl (.some rfl) (val_gt rfl rfl) ?_
  refine vl_nil ?_
  refine vc_cond rfl (fun hc0 => ?_) (fun hc0 => ?_)
  · (try replace hc0 := of_decide_eq_true hc0)
    refine vc_seq ?_
    refine vc_region ?_
    refine vl_val rfl (.some rfl) (val_move rfl) ?_
    refine vl_val rfl (.some rfl) (val_nil rfl rfl) ?_
    refine vl_val rfl (.some rfl) (by first | exact val_fieldAddr Try.runUnderlying123 rfl Try.sizeOf4 rfl | exact val_fieldAddrR Try.runUnderlying123 rfl Try.sizeOf4 rfl) ?_
    first | refine vl_store rfl rfl .none rfl rfl Try.sizeOf4 rfl (by repeat constructor) (by first | decide | exact Nat.le_refl _ | exact Nat.le_of_ble_eq_true rfl | (simp; omega)) ?_ | refine vl_storeSl rfl rfl .none rfl rfl Try.sizeOf4 rfl (by simp [Value.cells]) (by repeat constructor) (by first | decide | (simp [Value.cells]; omega)) ?_
    refine vl_nil ?_
    refine vc_seq ?_
    refine vc_region ?_
    refine vl_val rfl (.some rfl) (val_assign rfl) ?_
    refine vl_nil ?_
    refine vc_ret ?_
    first
      | (have e1 : cntU b = 0 := if_pos (by omega)
         have e2 : cntW b = true := by unfold cntW; rw [decide_eq_true (by omega), Bool.or_true]
         refine ⟨_, [QC r A1 (numB b).length c1 true], _, res1 Try.results63 rfl, (by repeat constructor), ?_⟩
         rw [e1, e2, Bool.or_true]
         exact ⟨A1, c1, rfl, hS1, rfl⟩)
      | (have e1 : cntU b = numU b := if_neg (by omega)
         have e2 : cntW b = numW b := by unfold cntW; rw [decide_eq_false (by omega), Bool.or_false]
         refine ⟨_, [QC r A1 (numB b).length c1 (wr || numW b)], _, res1 Try.results63 rfl, (by repeat constructor), ?_⟩
         rw [e1, e2]
         exact ⟨A1, c1, rfl, hS1, rfl⟩)
  · (try replace hc0 := of_decide_eq_false hc0)
    refine vc_skip ?_
    refine vc_seq ?_
    refine vc_region ?_
    refine vl_val rfl (.some rfl) (val_move rfl) ?_
    refine vl_val rfl (.some rfl) (val_convInt Try.runUnderlying23 Try.runUnderlying3 rfl (by first | exact w_i64 (by omega) (by omega) | rfl)) ?_
    refine vl_val rfl (.some rfl) (val_assign rfl) ?_
    refine vl_nil ?_
    refine vc_ret ?_
    first
      | (have e1 : cntU b = 0 := if_pos (by omega)
         have e2 : cntW b = true := by unfold cntW; rw [decide_eq_true (by omega), Bool.or_true]
         refine ⟨_, [QC r A1 (numB b).length c1 true], _, res1 Try.results63 rfl, (by repeat constructor), ?_⟩
         rw [e1, e2, Bool.or_true]
         exact ⟨A1, c1, rfl, hS1, rfl⟩)
      | (have e1 : cntU b = numU b := if_neg (by omega)
         have e2 : cntW b = numW b := by unfold cntW; rw [decide_eq_false (by omega), Bool.or_false]
         refine ⟨_, [QC r A1 (numB b).length c1 (wr || numW b)], _, res1 Try.results63 rfl, (by repeat constructor), ?_⟩
         rw [e1, e2]
         exact ⟨A1, c1, rfl, hS1, rfl⟩)
set_option maxRecDepth 20000 in
theorem qTxt (r : Nat) (A : Option Addr) (c : Nat) (b : Tx) (wr : Bool) (hb : b.length ≤ 1000000000) (hbc : b.length ≤ c) (w : World) (hr : ReadsM w (fps [QC r A b.length c wr]) A (bcells b)) : Fn Try.prog 62 [.pointer (some ⟨r, 0, none⟩)] [QC r A b.length c wr] (ret fun v H' => ∃ A2 c2, v = .string (sL (txS b)) ∧ Sfx A b A2 c2 (txB b) ∧ H' = [QC r A2 (txB b).length c2 (wr || cntW b)]) w := by
  have h1 := cntU_le b
  have h2 := numB_le b
  refine fn_enter Try.func62 rfl Try.ntmps62 rfl ?_
  refine vc_seq ?_
  refine vc_region ?_
  refine vl_val rfl (.some rfl) (val_assign rfl) ?_
  refine vl_nil ?_
  refine vc_seq ?_
  refine vc_region ?_
  refine vl_val rfl (.some rfl) (val_move rfl) ?_
  refine vl_call (C := [QC r A (b).length c wr]) rfl rfl (.some rfl) Try.call63 rfl (by repeat constructor) (fun w' hw => qCnt r A c (b) wr (by omega) hbc w' (readsM_old (hr) (by repeat constructor) hw)) (fun v H' h => ?_)
  obtain ⟨A1, c1, rfl, hS1, rfl⟩ := h
  show VL _ _ _ _ _ (_ :: _)
  have hc1 := hS1.cap
  refine vl_val rfl (.some rfl) (val_assign rfl) ?_
  refine vl_nil ?_
  refine vc_seq ?_
  refine vc_region ?_
  refine vl_val rfl (.some rfl) (val_move rfl) ?_
  refine vl_val rfl (.some rfl) (val_nil rfl rfl) ?_
  refine vl_val rfl (.some rfl) (by first | exact val_fieldAddr Try.runUnderlying123 rfl Try.sizeOf22 rfl | exact val_fieldAddrR Try.runUnderlying123 rfl Try.sizeOf22 rfl) ?_
  refine vl_val rfl (.some rfl) (val_load Try.isAgg22 rfl (by first | exact cell_cells (by repeat constructor) rfl | exact cell_rd (by first | exact rd_sl (by repeat constructor) | exact rd_old (by assumption) rfl) (by first | exact bcells_at (by omega) | exact ucells_at (by omega) | exact icells_at (by omega) | exact tcells_at (by omega) | exact bcells_get (by omega) | exact icells_get (by omega) | exact tcells_get (by omega) | exact ucells_get (by omega)) | exact cell_old (by assumption) (by simp [fps]))) ?_
  refine vl_val rfl (.some rfl) (val_move rfl) ?_
  refine vl_val rfl (.some rfl) (val_cutTo Try.runUnderlying22 Try.sizeOf5 rfl rfl (by omega) (by omega)) ?_
  rw [Int.toNat_natCast]
  refine vl_val rfl (.some rfl) (val_bytesToStr Try.runUnderlying22 Try.runUnderlying5 Try.runUnderlying9 rfl (rd_oldM (readsM_takeB (hS1.rd _ _ hr) (cntU b))) (by rw [List.length_take]; omega)) ?_
  refine vl_val rfl (.some rfl) (val_assign rfl) ?_
  refine vl_nil ?_
  refine vc_seq ?_
  refine vc_region ?_
  refine vl_val rfl (.some rfl) (val_move rfl) ?_
  refine vl_val rfl (.some rfl) (val_move rfl) ?_
  refine vl_val rfl (.some rfl) (val_nil rfl rfl) ?_
  refine vl_val rfl (.some rfl) (by first | exact val_fieldAddr Try.runUnderlying123 rfl Try.sizeOf22 rfl | exact val_fieldAddrR Try.runUnderlying123 rfl Try.sizeOf22 rfl) ?_
  refine vl_val rfl (.some rfl) (val_load Try.isAgg22 rfl (by first | exact cell_cells (by repeat constructor) rfl | exact cell_rd (by first | exact rd_sl (by repeat constructor) | exact rd_old (by assumption) rfl) (by first | exact bcells_at (by omega) | exact ucells_at (by omega) | exact icells_at (by omega) | exact tcells_at (by omega) | exact bcells_get (by omega) | exact icells_get (by omega) | exact tcells_get (by omega) | exact ucells_get (by omega)) | exact cell_old (by assumption) (by simp [fps]))) ?_
  refine vl_val rfl (.some rfl) (val_move rfl) ?_
  refine vl_val rfl (.some rfl) (val_cutFrom Try.runUnderlying22 Try.sizeOf5 rfl rfl (by omega) (by omega)) ?_
  refine vl_val rfl (.some rfl) (val_nil rfl rfl) ?_
  refine vl_val rfl (.some rfl) (by first | exact val_fieldAddr Try.runUnderlying123 rfl Try.sizeOf22 rfl | exact val_fieldAddrR Try.runUnderlying123 rfl Try.sizeOf22 rfl) ?_
  first | refine vl_store rfl rfl .none rfl rfl Try.sizeOf22 rfl (by repeat constructor) (by first | decide | exact Nat.le_refl _ | exact Nat.le_of_ble_eq_true rfl | (simp; omega)) ?_ | refine vl_storeSl rfl rfl .none rfl rfl Try.sizeOf22 rfl (by simp [Value.cells]) (by repeat constructor) (by first | decide | (simp [Value.cells]; omega)) ?_
  refine vl_nil ?_
  refine vc_seq ?_
  refine vc_region ?_
  refine vl_val rfl (.some rfl) (val_move rfl) ?_
  refine vl_val rfl (.some rfl) (val_assign rfl) ?_
  refine vl_nil ?_
  refine vc_ret ?_
  rw [Int.toNat_natCast, show (numB b).length - cntU b = (txB b).length from List.length_drop.symm]
  refine ⟨_, [QC r (cutA A1 c1 (cntU b) 1) (txB b).length (c1 - cntU b) (wr || cntW b)], _, res1 Try.results62 rfl, (by repeat constructor), ?_⟩
  exact ⟨_, _, rfl, hS1.trans (Sfx.cut hS1.cap), rfl⟩




/-! The document's loading: wrong or not, it goes on. -/
attribute [local irreducible] numU numB numW cntU cntW txS txB
abbrev tabM (b : Tx) (A7 : Option Addr) (c7 : Nat) (cs : List Cq) : RecM := ⟨1, txS (numB b), A7, c7, cs, [], [], none, 0, [], none, 0, [], [], none, 0, []⟩
abbrev rolM (b : Tx) (A7 : Option Addr) (c7 : Nat) (ds : List Tx) (A8 : Option Addr) (c8 : Nat) (ms : List Mq) : RecM := ⟨2, [], none, 0, [], txS (numB b), txS (txB (numB b)), A7, c7, ds, A8, c8, ms, [], none, 0, []⟩
abbrev batM (b : Tx) (A7 : Option Addr) (c7 : Nat) (rs : List Rw) : RecM := ⟨3, [], none, 0, [], [], [], none, 0, [], none, 0, [], txS (numB b), A7, c7, rs⟩
theorem load_no {b : Tx} (h : numW b = false) (h2 : rPart (numU b) (numB b) = none) : loadRec b = none := loadRec_2 (num_ok h) h2
theorem load_nw {b : Tx} (h : numW b = true) : loadRec b = none := loadRec_1 (num_bad h)
def TabI (b : Tx) (i : Nat) (cs : List Cq) (bb : Tx) : Prop := numW b = false ∧ numU b = 1 ∧ cntW (numB b) = false ∧ cntW (txB (numB b)) = false ∧ ManyI rCol (cntU (txB (numB b))) (numB (txB (numB b))) i cs bb
theorem or_f {a b : Bool} (h : (a || b) = false) : a = false ∧ b = false := by cases a <;> cases b <;> simp_all
theorem or_t {a b : Bool} (h : (a || b) = true) (ha : a = false) : b = true := by cases a <;> simp_all
theorem tab_0 {b : Tx} (hk : numU b = 1) (h : ((numW b || cntW (numB b)) || cntW (txB (numB b))) = false) : TabI b 0 [] (numB (txB (numB b))) := by
  obtain ⟨h1, h2⟩ := or_f h
  obtain ⟨h3, h4⟩ := or_f h1
  exact ⟨h3, hk, h4, h2, many_i0⟩
theorem tab_no {b : Tx} (hk : numU b = 1) (h : ((numW b || cntW (numB b)) || cntW (txB (numB b))) = true) : loadRec b = none := by
  by_cases h1 : numW b = true
  · exact load_nw h1
  · have h1 : numW b = false := by simpa using h1
    refine load_no h1 ?_
    rw [hk]
    by_cases h2 : cntW (numB b) = true
    · exact ptab1 (tx_bad h2)
    · have h2 : cntW (numB b) = false := by simpa using h2
      exact ptab2 (tx_ok h2) (cnt_bad (or_t h (by rw [h1, h2]; rfl)))
theorem tab_s {b : Tx} {i : Nat} {cs : List Cq} {bb : Tx} (h : TabI b i cs bb) (hi : i < (cntU (txB (numB b)))) (h1 : cntW bb = false) (h2 : numW (txB bb) = false) : TabI b (i + 1) (cs ++ [(txS bb, i64N (numU (txB bb)))]) (numB (txB bb)) :=
  ⟨h.1, h.2.1, h.2.2.1, h.2.2.2.1, many_is h.2.2.2.2 hi (rCol_3 (tx_ok h1) (num_ok h2))⟩
theorem tab_b {b : Tx} {i : Nat} {cs : List Cq} {bb : Tx} (h : TabI b i cs bb) (hi : i < (cntU (txB (numB b)))) (h1 : ((false || cntW bb) || numW (txB bb)) = true) : loadRec b = none := by
  refine load_no h.1 ?_
  rw [h.2.1, ptab (tx_ok h.2.2.1) (cnt_ok h.2.2.2.1)]
  rw [many_in h.2.2.2.2 hi (by
    by_cases h2 : cntW bb = true
    · exact rCol_1 (tx_bad h2)
    · have h2 : cntW bb = false := by simpa using h2
      exact rCol_2 (tx_ok h2) (num_bad (or_t h1 (by rw [h2]; rfl))))]
  rfl
theorem tab_e {b : Tx} {i : Nat} {cs : List Cq} {bb : Tx} {A7 : Option Addr} {c7 : Nat} (h : TabI b i cs bb) (hi : i = (cntU (txB (numB b)))) : numW b = false ∧ rPart (numU b) (numB b) = some (recOf (tabM b A7 c7 cs), bb) := by
  refine ⟨h.1, ?_⟩
  rw [h.2.1, ptab (tx_ok h.2.2.1) (cnt_ok h.2.2.2.1), many_ie h.2.2.2.2 hi]
  rfl
def RolA (b : Tx) : Prop := numW b = false ∧ numU b = 2 ∧ cntW (numB b) = false ∧ cntW (txB (numB b)) = false ∧ cntW (txB (txB (numB b))) = false
theorem rol_no {b : Tx} (hk : numU b = 2) (h : (((numW b || cntW (numB b)) || cntW (txB (numB b))) || cntW (txB (txB (numB b)))) = true) : loadRec b = none := by
  by_cases h1 : numW b = true
  · exact load_nw h1
  · have h1 : numW b = false := by simpa using h1
    refine load_no h1 ?_
    rw [hk]
    by_cases h2 : cntW (numB b) = true
    · exact prol1 (tx_bad h2)
    · have h2 : cntW (numB b) = false := by simpa using h2
      by_cases h3 : cntW (txB (numB b)) = true
      · exact prol2 (tx_ok h2) (tx_bad h3)
      · have h3 : cntW (txB (numB b)) = false := by simpa using h3
        exact prol3 (tx_ok h2) (tx_ok h3) (cnt_bad (or_t h (by rw [h1, h2, h3]; rfl)))
def RolI (b : Tx) (i : Nat) (ds : List Tx) (bb : Tx) : Prop := RolA b ∧ ManyI rTx (cntU (txB (txB (numB b)))) (numB (txB (txB (numB b)))) i ds bb
theorem rol_0 {b : Tx} (hk : numU b = 2) (h : (((numW b || cntW (numB b)) || cntW (txB (numB b))) || cntW (txB (txB (numB b)))) = false) : RolI b 0 [] (numB (txB (txB (numB b)))) := by
  obtain ⟨h1, h2⟩ := or_f h
  obtain ⟨h3, h4⟩ := or_f h1
  obtain ⟨h5, h6⟩ := or_f h3
  exact ⟨⟨h5, hk, h6, h4, h2⟩, many_i0⟩
theorem rol_s {b : Tx} {i : Nat} {ds : List Tx} {bb : Tx} (h : RolI b i ds bb) (hi : i < (cntU (txB (txB (numB b))))) (h1 : cntW bb = false) : RolI b (i + 1) (ds ++ [txS bb]) (txB bb) := ⟨h.1, many_is h.2 hi (tx_ok h1)⟩
theorem rol_b {b : Tx} {i : Nat} {ds : List Tx} {bb : Tx} (h : RolI b i ds bb) (hi : i < (cntU (txB (txB (numB b))))) (h1 : cntW bb = true) : loadRec b = none := by
  obtain ⟨a1, a2, a3, a4, a5⟩ := h.1
  refine load_no a1 ?_
  rw [a2]
  exact prol4 (tx_ok a3) (tx_ok a4) (cnt_ok a5) (many_in h.2 hi (tx_bad h1))
def RolF (b : Tx) (ds : List Tx) (b0 : Tx) : Prop := RolA b ∧ rMany rTx (cntU (txB (txB (numB b)))) (numB (txB (txB (numB b)))) = some (ds, b0)
theorem rol_e {b : Tx} {i : Nat} {ds : List Tx} {bb : Tx} (h : RolI b i ds bb) (hi : i = (cntU (txB (txB (numB b))))) : RolF b ds bb := ⟨h.1, many_ie h.2 hi⟩
theorem rol_p {b : Tx} {ds : List Tx} {b0 : Tx} (h : RolF b ds b0) : rPart (numU b) (numB b) = (rCnt b0).bind fun e => (rMany rMea e.1 e.2).map fun m => (⟨2, t0, ⟨txS (numB b), txS (txB (numB b)), ds, m.1⟩, [], []⟩, m.2) := by
  obtain ⟨a1, a2, a3, a4, a5⟩ := h.1
  rw [a2]
  exact prol5 (tx_ok a3) (tx_ok a4) (cnt_ok a5) h.2
def RolJ (b : Tx) (ds : List Tx) (b0 : Tx) (i : Nat) (ms : List Mq) (bb : Tx) : Prop := RolF b ds b0 ∧ cntW b0 = false ∧ ManyI rMea (cntU b0) (numB b0) i ms bb
theorem rolj_no {b : Tx} {ds : List Tx} {b0 : Tx} (h : RolF b ds b0) (h1 : cntW b0 = true) : loadRec b = none := load_no h.1.1 (by rw [rol_p h, cnt_bad h1]; rfl)
theorem rolj_p {b : Tx} {ds : List Tx} {b0 : Tx} (h : RolF b ds b0) (h1 : cntW b0 = false) : rPart (numU b) (numB b) = (rMany rMea (cntU b0) (numB b0)).map fun m => (⟨2, t0, ⟨txS (numB b), txS (txB (numB b)), ds, m.1⟩, [], []⟩, m.2) := by rw [rol_p h, cnt_ok h1]; rfl
theorem rolj_s {b : Tx} {ds : List Tx} {b0 : Tx} {i : Nat} {ms : List Mq} {bb : Tx} (h : RolJ b ds b0 i ms bb) (hi : i < cntU b0) (h1 : numW bb = false) (h2 : cntW (numB bb) = false) : RolJ b ds b0 (i + 1) (ms ++ [(i64N (numU bb), txS (numB bb))]) (txB (numB bb)) :=
  ⟨h.1, h.2.1, many_is h.2.2 hi (rMea_3 (num_ok h1) (tx_ok h2))⟩
theorem rolj_b {b : Tx} {ds : List Tx} {b0 : Tx} {i : Nat} {ms : List Mq} {bb : Tx} (h : RolJ b ds b0 i ms bb) (hi : i < cntU b0) (h1 : ((false || numW bb) || cntW (numB bb)) = true) : loadRec b = none := by
  refine load_no h.1.1.1 ?_
  rw [rolj_p h.1 h.2.1, many_in h.2.2 hi (by
    by_cases h2 : numW bb = true
    · exact rMea_1 (num_bad h2)
    · have h2 : numW bb = false := by simpa using h2
      exact rMea_2 (num_ok h2) (tx_bad (or_t h1 (by rw [h2]; rfl))))]
  rfl
theorem rolj_e {b : Tx} {ds : List Tx} {b0 : Tx} {i : Nat} {ms : List Mq} {bb : Tx} {A7 A8 : Option Addr} {c7 c8 : Nat} (h : RolJ b ds b0 i ms bb) (hi : i = cntU b0) : numW b = false ∧ rPart (numU b) (numB b) = some (recOf (rolM b A7 c7 ds A8 c8 ms), bb) := by
  refine ⟨h.1.1.1, ?_⟩
  rw [rolj_p h.1 h.2.1, many_ie h.2.2 hi]
  rfl
def BatI (b : Tx) (i : Nat) (rs : List (List Vk)) (bb : Tx) : Prop := numW b = false ∧ numU b = 3 ∧ cntW (numB b) = false ∧ cntW (txB (numB b)) = false ∧ ManyI rRow (cntU (txB (numB b))) (numB (txB (numB b))) i rs bb
theorem bat_0 {b : Tx} (hk : numU b = 3) (h : ((numW b || cntW (numB b)) || cntW (txB (numB b))) = false) : BatI b 0 [] (numB (txB (numB b))) := by
  obtain ⟨h1, h2⟩ := or_f h
  obtain ⟨h3, h4⟩ := or_f h1
  exact ⟨h3, hk, h4, h2, many_i0⟩
theorem bat_no {b : Tx} (hk : numU b = 3) (h : ((numW b || cntW (numB b)) || cntW (txB (numB b))) = true) : loadRec b = none := by
  by_cases h1 : numW b = true
  · exact load_nw h1
  · have h1 : numW b = false := by simpa using h1
    refine load_no h1 ?_
    rw [hk]
    by_cases h2 : cntW (numB b) = true
    · exact pbat1 (tx_bad h2)
    · have h2 : cntW (numB b) = false := by simpa using h2
      exact pbat2 (tx_ok h2) (cnt_bad (or_t h (by rw [h1, h2]; rfl)))
theorem bat_r {b : Tx} {i : Nat} {rs : List (List Vk)} {bb : Tx} (h : BatI b i rs bb) (hi : i < (cntU (txB (numB b)))) (h1 : rRow bb = none) : loadRec b = none := by
  refine load_no h.1 ?_
  rw [h.2.1, pbat (tx_ok h.2.2.1) (cnt_ok h.2.2.2.1), many_in h.2.2.2.2 hi h1]
  rfl
theorem bat_b {b : Tx} {i : Nat} {rs : List (List Vk)} {bb : Tx} (h : BatI b i rs bb) (hi : i < (cntU (txB (numB b)))) (h1 : loadV (txS bb) = none) : loadRec b = none := bat_r h hi (by
  by_cases h2 : cntW bb = true
  · exact rRow_1 (tx_bad h2)
  · exact rRow_2 (tx_ok (by simpa using h2)) h1)
theorem bat_s {b : Tx} {i : Nat} {rs : List (List Vk)} {bb : Tx} (h : BatI b i rs bb) (hi : i < (cntU (txB (numB b)))) (h1 : loadE9 (txS bb) = 0) (h2 : (false || cntW bb) = false) : BatI b (i + 1) (rs ++ [loadL9 (txS bb)]) (txB bb) := by
  obtain ⟨h3, _⟩ | ⟨_, l, hl⟩ := load_cases (txS bb)
  · exact absurd h1 h3
  · rw [(load9_some hl).1]
    exact ⟨h.1, h.2.1, h.2.2.1, h.2.2.2.1, many_is h.2.2.2.2 hi (rRow_3 (tx_ok (or_f h2).2) hl)⟩
theorem bat_e {b : Tx} {i : Nat} {rs : List Rw} {bb : Tx} {A7 : Option Addr} {c7 : Nat} (h : BatI b i (rs.map fun q => q.2.2) bb) (hi : i = (cntU (txB (numB b)))) : numW b = false ∧ rPart (numU b) (numB b) = some (recOf (batM b A7 c7 rs), bb) := by
  refine ⟨h.1, ?_⟩
  rw [h.2.1, pbat (tx_ok h.2.2.1) (cnt_ok h.2.2.2.1), many_ie h.2.2.2.2 hi]
  rfl
theorem load9_wv (b : Tx) : ∀ v ∈ loadL9 b, WV v := by
  cases h : loadV b with
  | none => rw [(load9_none h).1]; simp
  | some l => rw [(load9_some h).1]; exact load_wv h

set_option maxRecDepth 20000 in
set_option maxHeartbeats 4000000 in
theorem qLoad (A : Option Addr) (c : Nat) (b : Tx) (hb : b.length ≤ 1000000) (hbc : b.length ≤ c) (w : World) (hr : Reads w A (bcells b)) : Fn Try.prog 26 [.slice A b.length c] [] (ldRet b) w := by
  have y1 := numB_le b
  have y2 := txS_le (numB b)
  have y3 := numB_le (txB (numB b))
  have y4 := cntU_le (txB (numB b))
  have y5 := txS_le (txB (numB b))
  have y6 := numB_le (txB (txB (numB b)))
  have y7 := cntU_le (txB (txB (numB b)))
  have y8 := numU_lt b
  refine fn_enter Try.func26 rfl Try.ntmps26 rfl ?_
  refine vc_seq ?_
  refine vc_region ?_
  refine vl_alloc rfl rfl (.some rfl) Try.zeroValue44 (fun r2 => ?_)
  refine vl_val rfl (.some rfl) (val_assign rfl) ?_
  refine vl_nil ?_
  refine vc_seq ?_
  refine vc_region ?_
  refine vl_val rfl (.some rfl) (val_move rfl) ?_
  refine vl_val rfl (.some rfl) (val_buildSt (pl := #[(0, 1), (1, 1)]) (cs := #[.slice A b.length c, .bool false]) Try.runUnderlying123 Try.zeroValue123 (fun w => by kernel_rfl) rfl rfl) ?_
  refine vl_box rfl rfl (.some rfl) rfl (fun r20 => ?_)
  refine vl_val rfl (.some rfl) (val_assign rfl) ?_
  refine vl_nil ?_
  refine vc_seq ?_
  refine vc_region ?_
  refine vl_alloc rfl rfl (.some rfl) Try.zeroValue44 (fun r5 => ?_)
  refine vl_nil ?_
  refine vc_seq ?_
  refine vc_region ?_
  refine vl_val rfl (.some rfl) (val_move rfl) ?_
  refine vl_call (C := [QC r20 A b.length c false]) rfl rfl (.some rfl) Try.call61 rfl (by repeat constructor) (fun w' hw => qNum r20 A c b false (by omega) hbc w' (readsM_old (Reads.m hr) (by repeat constructor) hw)) (fun v H' h => ?_)
  obtain ⟨A1, c1, rfl, hS1, rfl⟩ := h
  show VL _ _ _ _ _ (_ :: _)
  rw [Bool.false_or]
  refine vl_val rfl (.some rfl) (val_assign rfl) ?_
  refine vl_nil ?_
  refine vc_seq ?_
  refine vc_seq ?_
  refine vc_region ?_
  refine vl_val rfl (.some rfl) (val_move rfl) ?_
  refine vl_val rfl (.some rfl) (val_lt rfl rfl) ?_
  refine vl_val rfl (.some rfl) (val_move rfl) ?_
  refine vl_split (t := 25) rfl (fun hg25 => ?_) (fun hg25 => ?_)
  · (try replace hg25 := of_decide_eq_true hg25)
    refine vl_off rfl rfl rfl rfl (.some rfl) ?_
    refine vl_off rfl rfl rfl rfl (.some rfl) ?_
    refine vl_val rfl (.some rfl) (val_pick rfl rfl) ?_
    refine vl_nil ?_
    refine vc_cond rfl (fun _ => ?_) (fun h => by cases h)
    refine vc_seq ?_
    refine vc_region ?_
    refine vl_val rfl (.some rfl) (val_buildSt (pl := #[(0, 1), (1, 2), (3, 4), (7, 1), (8, 1)]) (cs := (recC rec0M).toArray) Try.runUnderlying44 Try.zeroValue44 (fun w => by kernel_rfl) rfl (by kernel_rfl)) ?_
    first | refine vl_store rfl rfl .none rfl rfl Try.sizeOf44 rfl (by repeat constructor) (by first | decide | exact Nat.le_refl _ | exact Nat.le_of_ble_eq_true rfl | (simp; omega)) ?_ | refine vl_storeSl rfl rfl .none rfl rfl Try.sizeOf44 rfl (by simp [Value.cells]) (by repeat constructor) (by first | decide | (simp [Value.cells]; omega)) ?_
    refine vl_val rfl (.some rfl) (val_assign rfl) ?_
    refine vl_nil ?_
    refine vc_ret ?_
    refine ⟨_, [], _, resC2 Try.results26 rfl (whole_agg Try.isAgg44 Try.sizeOf44 (cells_whole (by repeat constructor)) rfl) rfl, (by repeat constructor), ?_⟩
    obtain ⟨e1, e2⟩ := ld_none (b := b) (by
      rcases hwr : numW b with _ | _
      · exact load_no hwr (pno (by omega) (by omega) (by omega))
      · exact load_nw hwr)
    exact ⟨rec0M, [], by rw [e2]; rfl, e1.symm, recD_0, rfl⟩
  · (try replace hg25 := of_decide_eq_false hg25)
    refine vl_on rfl rfl rfl rfl ?_
    refine vl_val rfl (.some rfl) (val_move rfl) ?_
    refine vl_on rfl rfl rfl rfl ?_
    refine vl_val rfl (.some rfl) (val_gt rfl rfl) ?_
    refine vl_val rfl (.some rfl) (val_pick rfl rfl) ?_
    refine vl_nil ?_
    refine vc_cond rfl (fun hc0 => ?_) (fun hc0 => ?_)
    · (try replace hc0 := of_decide_eq_true hc0)
      refine vc_seq ?_
      refine vc_region ?_
      refine vl_val rfl (.some rfl) (val_buildSt (pl := #[(0, 1), (1, 2), (3, 4), (7, 1), (8, 1)]) (cs := (recC rec0M).toArray) Try.runUnderlying44 Try.zeroValue44 (fun w => by kernel_rfl) rfl (by kernel_rfl)) ?_
      first | refine vl_store rfl rfl .none rfl rfl Try.sizeOf44 rfl (by repeat constructor) (by first | decide | exact Nat.le_refl _ | exact Nat.le_of_ble_eq_true rfl | (simp; omega)) ?_ | refine vl_storeSl rfl rfl .none rfl rfl Try.sizeOf44 rfl (by simp [Value.cells]) (by repeat constructor) (by first | decide | (simp [Value.cells]; omega)) ?_
      refine vl_val rfl (.some rfl) (val_assign rfl) ?_
      refine vl_nil ?_
      refine vc_ret ?_
      refine ⟨_, [], _, resC2 Try.results26 rfl (whole_agg Try.isAgg44 Try.sizeOf44 (cells_whole (by repeat constructor)) rfl) rfl, (by repeat constructor), ?_⟩
      obtain ⟨e1, e2⟩ := ld_none (b := b) (by
        rcases hwr : numW b with _ | _
        · exact load_no hwr (pno (by omega) (by omega) (by omega))
        · exact load_nw hwr)
      exact ⟨rec0M, [], by rw [e2]; rfl, e1.symm, recD_0, rfl⟩
    · (try replace hc0 := of_decide_eq_false hc0)
      refine vc_skip ?_
      refine vc_seq ?_
      refine vc_region ?_
      refine vl_val rfl (.some rfl) (val_move rfl) ?_
      refine vl_val rfl (.some rfl) (val_convInt Try.runUnderlying23 Try.runUnderlying3 rfl (by first | exact w_i64 (by omega) (by omega) | rfl)) ?_
      refine vl_val rfl (.some rfl) (by first | exact val_fieldAddr Try.runUnderlying44 rfl Try.sizeOf3 rfl | exact val_fieldAddrR Try.runUnderlying44 rfl Try.sizeOf3 rfl) ?_
      first | refine vl_store rfl rfl .none rfl rfl Try.sizeOf3 rfl (by repeat constructor) (by first | decide | exact Nat.le_refl _ | exact Nat.le_of_ble_eq_true rfl | (simp; omega)) ?_ | refine vl_storeSl rfl rfl .none rfl rfl Try.sizeOf3 rfl (by simp [Value.cells]) (by repeat constructor) (by first | decide | (simp [Value.cells]; omega)) ?_
      refine vl_nil ?_
      refine vc_cut (fun E H => ∃ E0 H0 F, Env.le E0 E ∧ Sub H0 H F ∧ (fun E H => ∃ (m : RecM) (wr : Bool) (A2 : Option Addr) (c2 : Nat) (bb : Tx) (L : List Chunk), bb.length ≤ b.length ∧ (wr = false → numW b = false ∧ rPart (numU b) (numB b) = some (recOf m, bb)) ∧ (wr = true → loadRec b = none) ∧ RecD L m ∧ E = [(0, .slice A b.length c), (2, .pointer (some ⟨r2, 0, none⟩)), (4, .pointer (some ⟨r20, 0, none⟩)), (5, .pointer (some ⟨r5, 0, none⟩))] ∧ H = [QC r20 A2 bb.length c2 wr, cells r5 (recC m) 44, cells r2 (recC rec0M) 44, big L]) E0 H0) ?_ (fun E H h => ?_)
      ·
        refine vc_seq ?_
        refine vc_region ?_
        refine vl_val rfl (.some rfl) (by first | exact val_fieldAddr Try.runUnderlying44 rfl Try.sizeOf3 rfl | exact val_fieldAddrR Try.runUnderlying44 rfl Try.sizeOf3 rfl) ?_
        refine vl_val rfl (.some rfl) (val_load Try.isAgg3 rfl (by first | exact cell_cells (by repeat constructor) rfl | exact cell_rd (by first | exact rd_sl (by repeat constructor) | exact rd_old (by assumption) rfl) (by first | exact bcells_at (by omega) | exact ucells_at (by omega) | exact icells_at (by omega) | exact tcells_at (by omega) | exact bcells_get (by omega) | exact icells_get (by omega) | exact tcells_get (by omega) | exact ucells_get (by omega)) | exact cell_old (by assumption) (by simp [fps]))) ?_
        refine vl_nil ?_
        refine vc_block ?_
        refine vc_seq ?_
        refine vc_region ?_
        refine vl_val rfl (.some rfl) (val_eq rfl rfl) ?_
        refine vl_val rfl (.some rfl) (val_assign rfl) ?_
        refine vl_nil ?_
        refine vc_cond rfl (fun hc1 => ?_) (fun hc1 => ?_)
        · (try replace hc1 := of_decide_eq_true hc1)
          have hk1 : numU b = 1 := by omega
          rw [show ((numU b : Nat) : Int) = 1 by omega]
          refine vc_seq ?_
          refine vc_region ?_
          refine vl_val rfl (.some rfl) (val_move rfl) ?_
          refine vl_call (C := [QC r20 A1 ((numB b)).length c1 (numW b)]) rfl rfl (.some rfl) Try.call62 rfl (by repeat constructor) (fun w' hw => qTxt r20 A1 c1 ((numB b)) (numW b) (by omega) (hS1).cap w' (readsM_old ((hS1).rd _ _ (Reads.m hr)) (by repeat constructor) hw)) (fun v H' h => ?_)
          obtain ⟨A3, c3, rfl, hS3, rfl⟩ := h
          show VL _ _ _ _ _ (_ :: _)
          refine vl_val rfl (.some rfl) (by first | exact val_fieldAddr Try.runUnderlying44 rfl Try.sizeOf36 rfl | exact val_fieldAddrR Try.runUnderlying44 rfl Try.sizeOf36 rfl) ?_
          refine vl_val rfl (.some rfl) (by first | exact val_fieldAddr Try.runUnderlying36 rfl Try.sizeOf9 rfl | exact val_fieldAddrR Try.runUnderlying36 rfl Try.sizeOf9 rfl) ?_
          first | refine vl_store rfl rfl .none rfl rfl Try.sizeOf9 rfl (by repeat constructor) (by first | decide | exact Nat.le_refl _ | exact Nat.le_of_ble_eq_true rfl | (simp; omega)) ?_ | refine vl_storeSl rfl rfl .none rfl rfl Try.sizeOf9 rfl (by simp [Value.cells]) (by repeat constructor) (by first | decide | (simp [Value.cells]; omega)) ?_
          refine vl_nil ?_
          refine vc_seq ?_
          refine vc_region ?_
          refine vl_val rfl (.some rfl) (val_move rfl) ?_
          refine vl_call (C := [QC r20 A3 ((txB (numB b))).length c3 ((numW b || cntW (numB b)))]) rfl rfl (.some rfl) Try.call63 rfl (by repeat constructor) (fun w' hw => qCnt r20 A3 c3 ((txB (numB b))) ((numW b || cntW (numB b))) (by omega) ((hS1.trans hS3)).cap w' (readsM_old (((hS1.trans hS3)).rd _ _ (Reads.m hr)) (by repeat constructor) hw)) (fun v H' h => ?_)
          obtain ⟨A4, c4, rfl, hS4, rfl⟩ := h
          show VL _ _ _ _ _ (_ :: _)
          refine vl_val rfl (.some rfl) (val_assign rfl) ?_
          refine vl_nil ?_
          refine vc_seq ?_
          refine vc_region ?_
          refine vl_val rfl (.some rfl) (val_assign rfl) ?_
          refine vl_nil ?_
          refine vc_block ?_
          refine vc_nilSl 96 2 ?_
          refine vc_loopw (fun q E H => ∃ (i : Nat) (A2 : Option Addr) (c2 : Nat) (bb : Tx) (wr : Bool) (cs : List Cq) (A7 : Option Addr) (c7 : Nat), cs.length = i ∧ i ≤ (cntU (txB (numB b))) ∧ q = (cntU (txB (numB b))) - i ∧ Sfx A b A2 c2 bb ∧ (wr = false → TabI b i cs bb) ∧ (wr = true → loadRec b = none) ∧ E = [(0, .slice A b.length c), (2, .pointer (some ⟨r2, 0, none⟩)), (4, .pointer (some ⟨r20, 0, none⟩)), (5, .pointer (some ⟨r5, 0, none⟩)), (7, .int .i64 ((cntU (txB (numB b))) : Nat)), (8, .int .i64 i)] ∧ H = [QC r20 A2 bb.length c2 wr, cells r5 (recC (tabM b A7 c7 cs)) 44, sl A7 cs.length c7 96 2 (cs.flatMap colV), cells r2 (recC rec0M) 44]) ((cntU (txB (numB b)))) ⟨_, _, _, ⟨0, A4, c4, (numB (txB (numB b))), ((numW b || cntW (numB b)) || cntW (txB (numB b))), [], none, 0, rfl, by omega, rfl, (hS1.trans hS3).trans hS4, tab_0 hk1, tab_no hk1, rfl, rfl⟩, (by repeat (first | exact trivial | refine ⟨rfl, ?_⟩ | refine ⟨le_item rfl (by first | rfl | (congr 1; omega) | (simp; done) | (simp; omega)), ?_⟩)), (by repeat constructor)⟩ ?_
          intro q E H hI
          obtain ⟨i, A2, c2, bb, wr, cs, A7, c7, hci, hip, rfl, hS2, hT, hF, rfl, rfl⟩ := hI
          have hlb := hS2.len
          refine vc_seq ?_
          refine vc_seq ?_
          refine vc_region ?_
          refine vl_val rfl (.some rfl) (val_move rfl) ?_
          refine vl_val rfl (.some rfl) (val_move rfl) ?_
          refine vl_val rfl (.some rfl) (val_lt rfl rfl) ?_
          refine vl_val rfl (.some rfl) (val_move rfl) ?_
          refine vl_split (t := 81) rfl (fun hg81 => ?_) (fun hg81 => ?_)
          · (try replace hg81 := of_decide_eq_true hg81)
            refine vl_on rfl rfl rfl rfl ?_
            refine vl_val rfl (.some rfl) (val_move rfl) ?_
            refine vl_on rfl rfl rfl rfl ?_
            refine vl_val rfl (.some rfl) (val_nil rfl rfl) ?_
            refine vl_on rfl rfl rfl rfl ?_
            refine vl_val rfl (.some rfl) (by first | exact val_fieldAddr Try.runUnderlying123 rfl Try.sizeOf4 rfl | exact val_fieldAddrR Try.runUnderlying123 rfl Try.sizeOf4 rfl) ?_
            refine vl_on rfl rfl rfl rfl ?_
            refine vl_val rfl (.some rfl) (val_load Try.isAgg4 rfl (by first | exact cell_cells (by repeat constructor) rfl | exact cell_rd (by first | exact rd_sl (by repeat constructor) | exact rd_old (by assumption) rfl) (by first | exact bcells_at (by omega) | exact ucells_at (by omega) | exact icells_at (by omega) | exact tcells_at (by omega) | exact bcells_get (by omega) | exact icells_get (by omega) | exact tcells_get (by omega) | exact ucells_get (by omega)) | exact cell_old (by assumption) (by simp [fps]))) ?_
            refine vl_on rfl rfl rfl rfl ?_
            refine vl_val rfl (.some rfl) (val_not rfl) ?_
            refine vl_val rfl (.some rfl) (val_pick rfl rfl) ?_
            refine vl_nil ?_
            refine vc_cond rfl (fun hc2 => ?_) (fun hc2 => ?_)
            · (try replace hc2 := of_decide_eq_true hc2)
              obtain rfl : wr = false := by simpa using hc2
              have hT0 := hT rfl
              have hx1 := txS_le bb
              have hx2 := numB_le (txB bb)
              have hx3 := numB_le bb
              have hx4 := txS_le (numB bb)
              refine vc_skip ?_
              refine vc_seq ?_
              refine vc_block ?_
              refine vc_seq ?_
              refine vc_region ?_
              refine vl_val rfl (.some rfl) (val_move rfl) ?_
              refine vl_call (C := [QC r20 A2 (bb).length c2 (false)]) rfl rfl (.some rfl) Try.call62 rfl (by repeat constructor) (fun w' hw => qTxt r20 A2 c2 (bb) (false) (by omega) (hS2).cap w' (readsM_old ((hS2).rd _ _ (Reads.m hr)) (by repeat constructor) hw)) (fun v H' h => ?_)
              obtain ⟨A5, c5, rfl, hS5, rfl⟩ := h
              show VL _ _ _ _ _ (_ :: _)
              refine vl_val rfl (.some rfl) (val_assign rfl) ?_
              refine vl_nil ?_
              refine vc_drawsS [0, 1, 2, 3, 4, 6, 7, 11] [12] [0, 1, 2, 3, 4, 5, 6, 7, 8, 9, 10, 11, 12] [cells r5 (recC (tabM b A7 c7 cs)) 44] (by repeat constructor) rfl (by kernel_rfl) (fun _ _ _ h => h) ?_
              refine vd_val rfl rfl rfl (.some rfl) (by first | exact val_fieldAddr Try.runUnderlying44 rfl Try.sizeOf36 rfl | exact val_fieldAddrR Try.runUnderlying44 rfl Try.sizeOf36 rfl) ?_
              refine vd_val rfl rfl rfl (.some rfl) (by first | exact val_fieldAddr Try.runUnderlying36 rfl Try.sizeOf34 rfl | exact val_fieldAddrR Try.runUnderlying36 rfl Try.sizeOf34 rfl) ?_
              refine vd_val rfl rfl rfl (.some rfl) (val_load Try.isAgg34 rfl (by first | exact cell_cells (by repeat constructor) rfl | exact cell_rd (by first | exact rd_sl (by repeat constructor) | exact rd_old (by assumption) rfl) (by first | exact bcells_at (by omega) | exact ucells_at (by omega) | exact icells_at (by omega) | exact tcells_at (by omega) | exact bcells_get (by omega) | exact icells_get (by omega) | exact tcells_get (by omega) | exact ucells_get (by omega)) | exact cell_old (by assumption) (by simp [fps]))) ?_
              refine vd_val rfl rfl rfl (.some rfl) (val_move rfl) ?_
              refine vd_val rfl rfl rfl (.some rfl) (val_move rfl) ?_
              refine vd_op rfl rfl ?_
              refine vl_call (C := [QC r20 A5 ((txB bb)).length c5 ((false || cntW bb))]) rfl rfl (.some rfl) Try.call61 rfl (by repeat constructor) (fun w' hw => qNum r20 A5 c5 ((txB bb)) ((false || cntW bb)) (by omega) ((hS2.trans hS5)).cap w' (readsM_old (((hS2.trans hS5)).rd _ _ (Reads.m hr)) (by repeat constructor) hw)) (fun v H' h => ?_)
              obtain ⟨A6, c6, rfl, hS6, rfl⟩ := h
              show VL _ _ _ _ _ (_ :: _)
              refine vl_nil ?_
              refine ⟨fun _ => ⟨_, (by repeat (first | exact .nil | exact sub_self _ | exact sub_skip (sub_self _) | exact sub_skip (sub_skip (sub_self _)) | exact sub_skip (sub_skip (sub_skip (sub_self _))) | (apply Sub.cons; · repeat (first | exact .head | apply Take.tail))))⟩, ?_⟩
              refine vd_val rfl rfl rfl (.some rfl) (val_convInt Try.runUnderlying23 Try.runUnderlying3 rfl (w_i64N (numU_lt _))) ?_
              refine vd_val rfl rfl rfl (.some rfl) (val_buildSt (pl := #[(0, 1), (1, 1)]) (cs := (colV (txS bb, i64N (numU (txB bb)))).toArray) Try.runUnderlying96 Try.zeroValue96 (fun w => by kernel_rfl) rfl rfl) ?_
              refine vd_op rfl rfl ?_
              refine vl_lit sT34 rfl rfl (.some rfl) rfl rfl rfl (by decide) (by decide) rfl rfl (fun r100 => ?_)
              refine vl_nil ?_
              refine ⟨fun _ => ⟨_, (by repeat (first | exact .nil | exact sub_self _ | exact sub_skip (sub_self _) | exact sub_skip (sub_skip (sub_self _)) | exact sub_skip (sub_skip (sub_skip (sub_self _))) | (apply Sub.cons; · repeat (first | exact .head | apply Take.tail))))⟩, ?_⟩
              refine vd_op rfl rfl ?_
              have hml : (tabM b A7 c7 cs).cs.length = cs.length := rfl
              refine vl_append (vs := cs.flatMap colV) (us := colV (txS bb, i64N (numU (txB bb)))) sT34 rfl rfl (.some rfl) rfl rfl (rd_sl (by repeat constructor)) rfl rfl (by omega) (by omega) (by repeat constructor) (fun A101 k101 => ?_)
              rw [show cs.flatMap colV ++ colV (txS bb, i64N (numU (txB bb))) = (cs ++ [(txS bb, i64N (numU (txB bb)))]).flatMap colV by simp, show cs.length + 1 = (cs ++ [(txS bb, i64N (numU (txB bb)))]).length by simp]
              refine vl_nil ?_
              refine ⟨fun _ => ⟨_, (by repeat (first | exact .nil | exact sub_self _ | exact sub_skip (sub_self _) | exact sub_skip (sub_skip (sub_self _)) | exact sub_skip (sub_skip (sub_skip (sub_self _))) | (apply Sub.cons; · repeat (first | exact .head | apply Take.tail))))⟩, ?_⟩
              refine vd_op rfl rfl ?_
              refine vl_val rfl (.some rfl) (by first | exact val_fieldAddr Try.runUnderlying44 rfl Try.sizeOf36 rfl | exact val_fieldAddrR Try.runUnderlying44 rfl Try.sizeOf36 rfl) ?_
              refine vl_nil ?_
              refine ⟨fun _ => ⟨_, (by repeat (first | exact .nil | exact sub_self _ | exact sub_skip (sub_self _) | exact sub_skip (sub_skip (sub_self _)) | exact sub_skip (sub_skip (sub_skip (sub_self _))) | (apply Sub.cons; · repeat (first | exact .head | apply Take.tail))))⟩, ?_⟩
              refine vd_val rfl rfl rfl (.some rfl) (by first | exact val_fieldAddr Try.runUnderlying36 rfl Try.sizeOf34 rfl | exact val_fieldAddrR Try.runUnderlying36 rfl Try.sizeOf34 rfl) ?_
              refine vd_op rfl rfl ?_
              first | refine vl_store rfl rfl .none rfl rfl Try.sizeOf34 rfl (by repeat constructor) (by first | decide | exact Nat.le_refl _ | exact Nat.le_of_ble_eq_true rfl | (simp; omega)) ?_ | refine vl_storeSl rfl rfl .none rfl rfl Try.sizeOf34 rfl (by simp [Value.cells]) (by repeat constructor) (by first | decide | (simp [Value.cells]; omega)) ?_
              refine vl_nil ?_
              refine ⟨fun h => (by cases h), ?_⟩
              refine vd_nil ?_
              refine vc_region ?_
              refine vl_val rfl (.some rfl) (val_move rfl) ?_
              refine vl_val rfl (.some rfl) (val_add rfl rfl (by first | exact w_i64 (by omega) (by omega) | rfl)) ?_
              refine vl_val rfl (.some rfl) (val_assign rfl) ?_
              refine vl_nil ?_
              exact ⟨((cntU (txB (numB b))) - (i + 1)), _, _, _, by omega, (by repeat (first | exact trivial | refine ⟨rfl, ?_⟩ | refine ⟨le_item rfl (by first | rfl | (congr 1; omega) | (simp; done) | (simp; omega)), ?_⟩)), (by repeat constructor), ⟨i + 1, A6, c6, numB (txB bb), _, cs ++ [(txS bb, i64N (numU (txB bb)))], A101, k101, by simp [hci], by omega, rfl, (hS2.trans hS5).trans hS6, (fun h => tab_s hT0 (by omega) (or_f (or_f h).1).2 (or_f h).2), tab_b hT0 (by omega), rfl, rfl⟩⟩
            · (try replace hc2 := of_decide_eq_false hc2)
              obtain rfl : wr = true := by simpa using hc2
              refine vc_eqv (Eqv.trans (Eqv.perm (Sub.perm (C := [sl A7 cs.length c7 96 2 (cs.flatMap colV)]) (by repeat constructor))) (eqv_big [sl A7 cs.length c7 96 2 (cs.flatMap colV)] _).symm) ?_
              refine vc_exit ?_
              first
                | exact ⟨_, _, _, (by repeat (first | exact trivial | refine ⟨rfl, ?_⟩ | refine ⟨le_item rfl (by first | rfl | (congr 1; omega) | (simp; done) | (simp; omega)), ?_⟩)), (by repeat constructor), ⟨tabM b A7 c7 cs, _, A2, c2, bb, _, hlb, (fun h => tab_e (hT h) hi2), hF, fun w hk => ⟨reads_chunkR hk (List.Mem.head _), (reads_nilR (by rfl)), (reads_nilR (by rfl)), (reads_nilR (by rfl)), fun q hq => by cases hq⟩, rfl, rfl⟩⟩
                | exact ⟨_, _, _, (by repeat (first | exact trivial | refine ⟨rfl, ?_⟩ | refine ⟨le_item rfl (by first | rfl | (congr 1; omega) | (simp; done) | (simp; omega)), ?_⟩)), (by repeat constructor), ⟨tabM b A7 c7 cs, _, A2, c2, bb, _, hlb, (fun h => Bool.noConfusion h), hF, fun w hk => ⟨reads_chunkR hk (List.Mem.head _), (reads_nilR (by rfl)), (reads_nilR (by rfl)), (reads_nilR (by rfl)), fun q hq => by cases hq⟩, rfl, rfl⟩⟩
                | exact ⟨_, _, _, (by repeat (first | exact trivial | refine ⟨rfl, ?_⟩ | refine ⟨le_item rfl (by first | rfl | (congr 1; omega) | (simp; done) | (simp; omega)), ?_⟩)), (by repeat constructor), ⟨rolM b A7 c7 ds A8 c8 ms, _, A2, c2, bb, _, hlb, (fun h => rolj_e (hT h) hi2), hF, fun w hk => ⟨(reads_nilR (by rfl)), reads_chunkR hk (List.Mem.head _), reads_chunkR hk (List.Mem.tail _ (List.Mem.head _)), (reads_nilR (by rfl)), fun q hq => by cases hq⟩, rfl, rfl⟩⟩
                | exact ⟨_, _, _, (by repeat (first | exact trivial | refine ⟨rfl, ?_⟩ | refine ⟨le_item rfl (by first | rfl | (congr 1; omega) | (simp; done) | (simp; omega)), ?_⟩)), (by repeat constructor), ⟨rolM b A7 c7 ds A8 c8 ms, _, A2, c2, bb, _, hlb, (fun h => Bool.noConfusion h), hF, fun w hk => ⟨(reads_nilR (by rfl)), reads_chunkR hk (List.Mem.head _), reads_chunkR hk (List.Mem.tail _ (List.Mem.head _)), (reads_nilR (by rfl)), fun q hq => by cases hq⟩, rfl, rfl⟩⟩
                | exact ⟨_, _, _, (by repeat (first | exact trivial | refine ⟨rfl, ?_⟩ | refine ⟨le_item rfl (by first | rfl | (congr 1; omega) | (simp; done) | (simp; omega)), ?_⟩)), (by repeat constructor), ⟨batM b A7 c7 rs, _, A2, c2, bb, _, hlb, (fun h => bat_e (hT h) hi2), hF, fun w hk => ⟨(reads_nilR (by rfl)), (reads_nilR (by rfl)), (reads_nilR (by rfl)), reads_chunkR hk (List.Mem.head _), fun q hq => ⟨reads_chunkR (hk (big L) (List.Mem.tail _ (List.Mem.head _))) (hL q hq).1, (hL q hq).2⟩⟩, rfl, rfl⟩⟩
                | exact ⟨_, _, _, (by repeat (first | exact trivial | refine ⟨rfl, ?_⟩ | refine ⟨le_item rfl (by first | rfl | (congr 1; omega) | (simp; done) | (simp; omega)), ?_⟩)), (by repeat constructor), ⟨batM b A7 c7 rs, _, A2, c2, bb, _, hlb, (fun h => Bool.noConfusion h), hF, fun w hk => ⟨(reads_nilR (by rfl)), (reads_nilR (by rfl)), (reads_nilR (by rfl)), reads_chunkR hk (List.Mem.head _), fun q hq => ⟨reads_chunkR (hk (big L) (List.Mem.tail _ (List.Mem.head _))) (hL q hq).1, (hL q hq).2⟩⟩, rfl, rfl⟩⟩
          · (try replace hg81 := of_decide_eq_false hg81)
            refine vl_off rfl rfl rfl rfl (.some rfl) ?_
            refine vl_off rfl rfl rfl rfl (.some rfl) ?_
            refine vl_off rfl rfl rfl rfl (.some rfl) ?_
            refine vl_off rfl rfl rfl rfl (.some rfl) ?_
            refine vl_off rfl rfl rfl rfl (.some rfl) ?_
            refine vl_val rfl (.some rfl) (val_pick rfl rfl) ?_
            refine vl_nil ?_
            refine vc_cond rfl (fun h => by cases h) (fun _ => ?_)
            have hi2 : i = (cntU (txB (numB b))) := by omega
            refine vc_eqv (Eqv.trans (Eqv.perm (Sub.perm (C := [sl A7 cs.length c7 96 2 (cs.flatMap colV)]) (by repeat constructor))) (eqv_big [sl A7 cs.length c7 96 2 (cs.flatMap colV)] _).symm) ?_
            refine vc_exit ?_
            first
              | exact ⟨_, _, _, (by repeat (first | exact trivial | refine ⟨rfl, ?_⟩ | refine ⟨le_item rfl (by first | rfl | (congr 1; omega) | (simp; done) | (simp; omega)), ?_⟩)), (by repeat constructor), ⟨tabM b A7 c7 cs, _, A2, c2, bb, _, hlb, (fun h => tab_e (hT h) hi2), hF, fun w hk => ⟨reads_chunkR hk (List.Mem.head _), (reads_nilR (by rfl)), (reads_nilR (by rfl)), (reads_nilR (by rfl)), fun q hq => by cases hq⟩, rfl, rfl⟩⟩
              | exact ⟨_, _, _, (by repeat (first | exact trivial | refine ⟨rfl, ?_⟩ | refine ⟨le_item rfl (by first | rfl | (congr 1; omega) | (simp; done) | (simp; omega)), ?_⟩)), (by repeat constructor), ⟨tabM b A7 c7 cs, _, A2, c2, bb, _, hlb, (fun h => Bool.noConfusion h), hF, fun w hk => ⟨reads_chunkR hk (List.Mem.head _), (reads_nilR (by rfl)), (reads_nilR (by rfl)), (reads_nilR (by rfl)), fun q hq => by cases hq⟩, rfl, rfl⟩⟩
              | exact ⟨_, _, _, (by repeat (first | exact trivial | refine ⟨rfl, ?_⟩ | refine ⟨le_item rfl (by first | rfl | (congr 1; omega) | (simp; done) | (simp; omega)), ?_⟩)), (by repeat constructor), ⟨rolM b A7 c7 ds A8 c8 ms, _, A2, c2, bb, _, hlb, (fun h => rolj_e (hT h) hi2), hF, fun w hk => ⟨(reads_nilR (by rfl)), reads_chunkR hk (List.Mem.head _), reads_chunkR hk (List.Mem.tail _ (List.Mem.head _)), (reads_nilR (by rfl)), fun q hq => by cases hq⟩, rfl, rfl⟩⟩
              | exact ⟨_, _, _, (by repeat (first | exact trivial | refine ⟨rfl, ?_⟩ | refine ⟨le_item rfl (by first | rfl | (congr 1; omega) | (simp; done) | (simp; omega)), ?_⟩)), (by repeat constructor), ⟨rolM b A7 c7 ds A8 c8 ms, _, A2, c2, bb, _, hlb, (fun h => Bool.noConfusion h), hF, fun w hk => ⟨(reads_nilR (by rfl)), reads_chunkR hk (List.Mem.head _), reads_chunkR hk (List.Mem.tail _ (List.Mem.head _)), (reads_nilR (by rfl)), fun q hq => by cases hq⟩, rfl, rfl⟩⟩
              | exact ⟨_, _, _, (by repeat (first | exact trivial | refine ⟨rfl, ?_⟩ | refine ⟨le_item rfl (by first | rfl | (congr 1; omega) | (simp; done) | (simp; omega)), ?_⟩)), (by repeat constructor), ⟨batM b A7 c7 rs, _, A2, c2, bb, _, hlb, (fun h => bat_e (hT h) hi2), hF, fun w hk => ⟨(reads_nilR (by rfl)), (reads_nilR (by rfl)), (reads_nilR (by rfl)), reads_chunkR hk (List.Mem.head _), fun q hq => ⟨reads_chunkR (hk (big L) (List.Mem.tail _ (List.Mem.head _))) (hL q hq).1, (hL q hq).2⟩⟩, rfl, rfl⟩⟩
              | exact ⟨_, _, _, (by repeat (first | exact trivial | refine ⟨rfl, ?_⟩ | refine ⟨le_item rfl (by first | rfl | (congr 1; omega) | (simp; done) | (simp; omega)), ?_⟩)), (by repeat constructor), ⟨batM b A7 c7 rs, _, A2, c2, bb, _, hlb, (fun h => Bool.noConfusion h), hF, fun w hk => ⟨(reads_nilR (by rfl)), (reads_nilR (by rfl)), (reads_nilR (by rfl)), reads_chunkR hk (List.Mem.head _), fun q hq => ⟨reads_chunkR (hk (big L) (List.Mem.tail _ (List.Mem.head _))) (hL q hq).1, (hL q hq).2⟩⟩, rfl, rfl⟩⟩
        · (try replace hc1 := of_decide_eq_false hc1)
          refine vc_seq ?_
          refine vc_region ?_
          refine vl_val rfl (.some rfl) (val_eq rfl rfl) ?_
          refine vl_val rfl (.some rfl) (val_assign rfl) ?_
          refine vl_nil ?_
          refine vc_cond rfl (fun hc3 => ?_) (fun hc3 => ?_)
          · (try replace hc3 := of_decide_eq_true hc3)
            have hk2 : numU b = 2 := by omega
            rw [show ((numU b : Nat) : Int) = 2 by omega]
            refine vc_seq ?_
            refine vc_region ?_
            refine vl_val rfl (.some rfl) (val_move rfl) ?_
            refine vl_call (C := [QC r20 A1 ((numB b)).length c1 (numW b)]) rfl rfl (.some rfl) Try.call62 rfl (by repeat constructor) (fun w' hw => qTxt r20 A1 c1 ((numB b)) (numW b) (by omega) (hS1).cap w' (readsM_old ((hS1).rd _ _ (Reads.m hr)) (by repeat constructor) hw)) (fun v H' h => ?_)
            obtain ⟨A3, c3, rfl, hS3, rfl⟩ := h
            show VL _ _ _ _ _ (_ :: _)
            refine vl_val rfl (.some rfl) (by first | exact val_fieldAddr Try.runUnderlying44 rfl Try.sizeOf40 rfl | exact val_fieldAddrR Try.runUnderlying44 rfl Try.sizeOf40 rfl) ?_
            refine vl_val rfl (.some rfl) (by first | exact val_fieldAddr Try.runUnderlying40 rfl Try.sizeOf9 rfl | exact val_fieldAddrR Try.runUnderlying40 rfl Try.sizeOf9 rfl) ?_
            first | refine vl_store rfl rfl .none rfl rfl Try.sizeOf9 rfl (by repeat constructor) (by first | decide | exact Nat.le_refl _ | exact Nat.le_of_ble_eq_true rfl | (simp; omega)) ?_ | refine vl_storeSl rfl rfl .none rfl rfl Try.sizeOf9 rfl (by simp [Value.cells]) (by repeat constructor) (by first | decide | (simp [Value.cells]; omega)) ?_
            refine vl_nil ?_
            refine vc_seq ?_
            refine vc_region ?_
            refine vl_val rfl (.some rfl) (val_move rfl) ?_
            refine vl_call (C := [QC r20 A3 ((txB (numB b))).length c3 ((numW b || cntW (numB b)))]) rfl rfl (.some rfl) Try.call62 rfl (by repeat constructor) (fun w' hw => qTxt r20 A3 c3 ((txB (numB b))) ((numW b || cntW (numB b))) (by omega) ((hS1.trans hS3)).cap w' (readsM_old (((hS1.trans hS3)).rd _ _ (Reads.m hr)) (by repeat constructor) hw)) (fun v H' h => ?_)
            obtain ⟨A4, c4, rfl, hS4, rfl⟩ := h
            show VL _ _ _ _ _ (_ :: _)
            refine vl_val rfl (.some rfl) (by first | exact val_fieldAddr Try.runUnderlying44 rfl Try.sizeOf40 rfl | exact val_fieldAddrR Try.runUnderlying44 rfl Try.sizeOf40 rfl) ?_
            refine vl_val rfl (.some rfl) (by first | exact val_fieldAddr Try.runUnderlying40 rfl Try.sizeOf9 rfl | exact val_fieldAddrR Try.runUnderlying40 rfl Try.sizeOf9 rfl) ?_
            first | refine vl_store rfl rfl .none rfl rfl Try.sizeOf9 rfl (by repeat constructor) (by first | decide | exact Nat.le_refl _ | exact Nat.le_of_ble_eq_true rfl | (simp; omega)) ?_ | refine vl_storeSl rfl rfl .none rfl rfl Try.sizeOf9 rfl (by simp [Value.cells]) (by repeat constructor) (by first | decide | (simp [Value.cells]; omega)) ?_
            refine vl_nil ?_
            refine vc_seq ?_
            refine vc_region ?_
            refine vl_val rfl (.some rfl) (val_move rfl) ?_
            refine vl_call (C := [QC r20 A4 ((txB (txB (numB b)))).length c4 (((numW b || cntW (numB b)) || cntW (txB (numB b))))]) rfl rfl (.some rfl) Try.call63 rfl (by repeat constructor) (fun w' hw => qCnt r20 A4 c4 ((txB (txB (numB b)))) (((numW b || cntW (numB b)) || cntW (txB (numB b)))) (by omega) (((hS1.trans hS3).trans hS4)).cap w' (readsM_old ((((hS1.trans hS3).trans hS4)).rd _ _ (Reads.m hr)) (by repeat constructor) hw)) (fun v H' h => ?_)
            obtain ⟨A5, c5, rfl, hS5, rfl⟩ := h
            show VL _ _ _ _ _ (_ :: _)
            refine vl_val rfl (.some rfl) (val_assign rfl) ?_
            refine vl_nil ?_
            refine vc_cut (fun E H => ∃ E0 H0 F, Env.le E0 E ∧ Sub H0 H F ∧ (fun E H => ∃ (wr : Bool) (A2 : Option Addr) (c2 : Nat) (b0 : Tx) (ds : List Tx) (A7 : Option Addr) (c7 : Nat), Sfx A b A2 c2 b0 ∧ (wr = false → RolF b ds b0) ∧ (wr = true → loadRec b = none) ∧ E = [(0, .slice A b.length c), (2, .pointer (some ⟨r2, 0, none⟩)), (4, .pointer (some ⟨r20, 0, none⟩)), (5, .pointer (some ⟨r5, 0, none⟩))] ∧ H = [QC r20 A2 b0.length c2 wr, cells r5 (recC (rolM b A7 c7 ds none 0 [])) 44, sl A7 ds.length c7 9 1 (tcS ds), cells r2 (recC rec0M) 44]) E0 H0) ?_ (fun E H h => ?_)
            ·
              refine vc_seq ?_
              refine vc_region ?_
              refine vl_val rfl (.some rfl) (val_assign rfl) ?_
              refine vl_nil ?_
              refine vc_block ?_
              refine vc_nilSl 9 1 ?_
              refine vc_loopw (fun q E H => ∃ (i : Nat) (A2 : Option Addr) (c2 : Nat) (bb : Tx) (wr : Bool) (ds : List Tx) (A7 : Option Addr) (c7 : Nat), ds.length = i ∧ i ≤ (cntU (txB (txB (numB b)))) ∧ q = (cntU (txB (txB (numB b)))) - i ∧ Sfx A b A2 c2 bb ∧ (wr = false → RolI b i ds bb) ∧ (wr = true → loadRec b = none) ∧ E = [(0, .slice A b.length c), (2, .pointer (some ⟨r2, 0, none⟩)), (4, .pointer (some ⟨r20, 0, none⟩)), (5, .pointer (some ⟨r5, 0, none⟩)), (10, .int .i64 ((cntU (txB (txB (numB b)))) : Nat)), (11, .int .i64 i)] ∧ H = [QC r20 A2 bb.length c2 wr, cells r5 (recC (rolM b A7 c7 ds none 0 [])) 44, sl A7 ds.length c7 9 1 (tcS ds), cells r2 (recC rec0M) 44]) ((cntU (txB (txB (numB b))))) ⟨_, _, _, ⟨0, A5, c5, (numB (txB (txB (numB b)))), (((numW b || cntW (numB b)) || cntW (txB (numB b))) || cntW (txB (txB (numB b)))), [], none, 0, rfl, by omega, rfl, ((hS1.trans hS3).trans hS4).trans hS5, rol_0 hk2, rol_no hk2, rfl, rfl⟩, (by repeat (first | exact trivial | refine ⟨rfl, ?_⟩ | refine ⟨le_item rfl (by first | rfl | (congr 1; omega) | (simp; done) | (simp; omega)), ?_⟩)), (by repeat constructor)⟩ ?_
              intro q E H hI
              obtain ⟨i, A2, c2, bb, wr, ds, A7, c7, hci, hip, rfl, hS2, hT, hF, rfl, rfl⟩ := hI
              have hlb := hS2.len
              refine vc_seq ?_
              refine vc_seq ?_
              refine vc_region ?_
              refine vl_val rfl (.some rfl) (val_move rfl) ?_
              refine vl_val rfl (.some rfl) (val_move rfl) ?_
              refine vl_val rfl (.some rfl) (val_lt rfl rfl) ?_
              refine vl_val rfl (.some rfl) (val_move rfl) ?_
              refine vl_split (t := 119) rfl (fun hg119 => ?_) (fun hg119 => ?_)
              · (try replace hg119 := of_decide_eq_true hg119)
                refine vl_on rfl rfl rfl rfl ?_
                refine vl_val rfl (.some rfl) (val_move rfl) ?_
                refine vl_on rfl rfl rfl rfl ?_
                refine vl_val rfl (.some rfl) (val_nil rfl rfl) ?_
                refine vl_on rfl rfl rfl rfl ?_
                refine vl_val rfl (.some rfl) (by first | exact val_fieldAddr Try.runUnderlying123 rfl Try.sizeOf4 rfl | exact val_fieldAddrR Try.runUnderlying123 rfl Try.sizeOf4 rfl) ?_
                refine vl_on rfl rfl rfl rfl ?_
                refine vl_val rfl (.some rfl) (val_load Try.isAgg4 rfl (by first | exact cell_cells (by repeat constructor) rfl | exact cell_rd (by first | exact rd_sl (by repeat constructor) | exact rd_old (by assumption) rfl) (by first | exact bcells_at (by omega) | exact ucells_at (by omega) | exact icells_at (by omega) | exact tcells_at (by omega) | exact bcells_get (by omega) | exact icells_get (by omega) | exact tcells_get (by omega) | exact ucells_get (by omega)) | exact cell_old (by assumption) (by simp [fps]))) ?_
                refine vl_on rfl rfl rfl rfl ?_
                refine vl_val rfl (.some rfl) (val_not rfl) ?_
                refine vl_val rfl (.some rfl) (val_pick rfl rfl) ?_
                refine vl_nil ?_
                refine vc_cond rfl (fun hc4 => ?_) (fun hc4 => ?_)
                · (try replace hc4 := of_decide_eq_true hc4)
                  obtain rfl : wr = false := by simpa using hc4
                  have hT0 := hT rfl
                  have hx1 := txS_le bb
                  have hx2 := numB_le (txB bb)
                  have hx3 := numB_le bb
                  have hx4 := txS_le (numB bb)
                  refine vc_skip ?_
                  refine vc_seq ?_
                  refine vc_block ?_
                  refine vc_drawsS [0, 1, 2, 3, 8] [9] [0, 1, 2, 3, 4, 5, 6, 7, 8, 9] [cells r5 (recC (rolM b A7 c7 ds none 0 [])) 44] (by repeat constructor) rfl (by kernel_rfl) (fun _ _ _ h => h) ?_
                  refine vd_val rfl rfl rfl (.some rfl) (by first | exact val_fieldAddr Try.runUnderlying44 rfl Try.sizeOf40 rfl | exact val_fieldAddrR Try.runUnderlying44 rfl Try.sizeOf40 rfl) ?_
                  refine vd_val rfl rfl rfl (.some rfl) (by first | exact val_fieldAddr Try.runUnderlying40 rfl Try.sizeOf37 rfl | exact val_fieldAddrR Try.runUnderlying40 rfl Try.sizeOf37 rfl) ?_
                  refine vd_val rfl rfl rfl (.some rfl) (val_load Try.isAgg37 rfl (by first | exact cell_cells (by repeat constructor) rfl | exact cell_rd (by first | exact rd_sl (by repeat constructor) | exact rd_old (by assumption) rfl) (by first | exact bcells_at (by omega) | exact ucells_at (by omega) | exact icells_at (by omega) | exact tcells_at (by omega) | exact bcells_get (by omega) | exact icells_get (by omega) | exact tcells_get (by omega) | exact ucells_get (by omega)) | exact cell_old (by assumption) (by simp [fps]))) ?_
                  refine vd_val rfl rfl rfl (.some rfl) (val_move rfl) ?_
                  refine vd_op rfl rfl ?_
                  refine vl_call (C := [QC r20 A2 (bb).length c2 (false)]) rfl rfl (.some rfl) Try.call62 rfl (by repeat constructor) (fun w' hw => qTxt r20 A2 c2 (bb) (false) (by omega) (hS2).cap w' (readsM_old ((hS2).rd _ _ (Reads.m hr)) (by repeat constructor) hw)) (fun v H' h => ?_)
                  obtain ⟨A6, c6, rfl, hS6, rfl⟩ := h
                  show VL _ _ _ _ _ (_ :: _)
                  refine vl_nil ?_
                  refine ⟨fun _ => ⟨_, (by repeat (first | exact .nil | exact sub_self _ | exact sub_skip (sub_self _) | exact sub_skip (sub_skip (sub_self _)) | exact sub_skip (sub_skip (sub_skip (sub_self _))) | (apply Sub.cons; · repeat (first | exact .head | apply Take.tail))))⟩, ?_⟩
                  refine vd_op rfl rfl ?_
                  refine vl_lit sT37 rfl rfl (.some rfl) rfl rfl rfl (by decide) (by decide) rfl (flat_one rfl) (fun r133 => ?_)
                  refine vl_nil ?_
                  refine ⟨fun _ => ⟨_, (by repeat (first | exact .nil | exact sub_self _ | exact sub_skip (sub_self _) | exact sub_skip (sub_skip (sub_self _)) | exact sub_skip (sub_skip (sub_skip (sub_self _))) | (apply Sub.cons; · repeat (first | exact .head | apply Take.tail))))⟩, ?_⟩
                  refine vd_op rfl rfl ?_
                  have hml : (rolM b A7 c7 ds none 0 []).ds.length = ds.length := rfl
                  refine vl_append (vs := tcS ds) (us := tcS [txS bb]) sT37 rfl rfl (.some rfl) rfl rfl (rd_sl (by repeat constructor)) rfl rfl (by omega) (by omega) (by repeat constructor) (fun A134 k134 => ?_)
                  rw [show tcS ds ++ tcS [txS bb] = tcS (ds ++ [txS bb]) by simp [tcS], show ds.length + 1 = (ds ++ [txS bb]).length by simp]
                  refine vl_nil ?_
                  refine ⟨fun _ => ⟨_, (by repeat (first | exact .nil | exact sub_self _ | exact sub_skip (sub_self _) | exact sub_skip (sub_skip (sub_self _)) | exact sub_skip (sub_skip (sub_skip (sub_self _))) | (apply Sub.cons; · repeat (first | exact .head | apply Take.tail))))⟩, ?_⟩
                  refine vd_op rfl rfl ?_
                  refine vl_val rfl (.some rfl) (by first | exact val_fieldAddr Try.runUnderlying44 rfl Try.sizeOf40 rfl | exact val_fieldAddrR Try.runUnderlying44 rfl Try.sizeOf40 rfl) ?_
                  refine vl_nil ?_
                  refine ⟨fun _ => ⟨_, (by repeat (first | exact .nil | exact sub_self _ | exact sub_skip (sub_self _) | exact sub_skip (sub_skip (sub_self _)) | exact sub_skip (sub_skip (sub_skip (sub_self _))) | (apply Sub.cons; · repeat (first | exact .head | apply Take.tail))))⟩, ?_⟩
                  refine vd_val rfl rfl rfl (.some rfl) (by first | exact val_fieldAddr Try.runUnderlying40 rfl Try.sizeOf37 rfl | exact val_fieldAddrR Try.runUnderlying40 rfl Try.sizeOf37 rfl) ?_
                  refine vd_op rfl rfl ?_
                  first | refine vl_store rfl rfl .none rfl rfl Try.sizeOf37 rfl (by repeat constructor) (by first | decide | exact Nat.le_refl _ | exact Nat.le_of_ble_eq_true rfl | (simp; omega)) ?_ | refine vl_storeSl rfl rfl .none rfl rfl Try.sizeOf37 rfl (by simp [Value.cells]) (by repeat constructor) (by first | decide | (simp [Value.cells]; omega)) ?_
                  refine vl_nil ?_
                  refine ⟨fun h => (by cases h), ?_⟩
                  refine vd_nil ?_
                  refine vc_region ?_
                  refine vl_val rfl (.some rfl) (val_move rfl) ?_
                  refine vl_val rfl (.some rfl) (val_add rfl rfl (by first | exact w_i64 (by omega) (by omega) | rfl)) ?_
                  refine vl_val rfl (.some rfl) (val_assign rfl) ?_
                  refine vl_nil ?_
                  exact ⟨((cntU (txB (txB (numB b)))) - (i + 1)), _, _, _, by omega, (by repeat (first | exact trivial | refine ⟨rfl, ?_⟩ | refine ⟨le_item rfl (by first | rfl | (congr 1; omega) | (simp; done) | (simp; omega)), ?_⟩)), (by repeat constructor), ⟨i + 1, A6, c6, txB bb, _, ds ++ [txS bb], A134, k134, by simp [hci], by omega, rfl, hS2.trans hS6, (fun h => rol_s hT0 (by omega) (or_f h).2), (fun h => rol_b hT0 (by omega) (or_t h rfl)), rfl, rfl⟩⟩
                · (try replace hc4 := of_decide_eq_false hc4)
                  obtain rfl : wr = true := by simpa using hc4
                  refine vc_exit ?_
                  first
                    | exact ⟨_, _, _, (by repeat (first | exact trivial | refine ⟨rfl, ?_⟩ | refine ⟨le_item rfl (by first | rfl | (congr 1; omega) | (simp; done) | (simp; omega)), ?_⟩)), (by repeat constructor), ⟨_, A2, c2, bb, ds, A7, c7, hS2, (fun h => rol_e (hT h) hi2), hF, rfl, rfl⟩⟩
                    | exact ⟨_, _, _, (by repeat (first | exact trivial | refine ⟨rfl, ?_⟩ | refine ⟨le_item rfl (by first | rfl | (congr 1; omega) | (simp; done) | (simp; omega)), ?_⟩)), (by repeat constructor), ⟨_, A2, c2, bb, ds, A7, c7, hS2, (fun h => Bool.noConfusion h), hF, rfl, rfl⟩⟩
              · (try replace hg119 := of_decide_eq_false hg119)
                refine vl_off rfl rfl rfl rfl (.some rfl) ?_
                refine vl_off rfl rfl rfl rfl (.some rfl) ?_
                refine vl_off rfl rfl rfl rfl (.some rfl) ?_
                refine vl_off rfl rfl rfl rfl (.some rfl) ?_
                refine vl_off rfl rfl rfl rfl (.some rfl) ?_
                refine vl_val rfl (.some rfl) (val_pick rfl rfl) ?_
                refine vl_nil ?_
                refine vc_cond rfl (fun h => by cases h) (fun _ => ?_)
                have hi2 : i = (cntU (txB (txB (numB b)))) := by omega
                refine vc_exit ?_
                first
                  | exact ⟨_, _, _, (by repeat (first | exact trivial | refine ⟨rfl, ?_⟩ | refine ⟨le_item rfl (by first | rfl | (congr 1; omega) | (simp; done) | (simp; omega)), ?_⟩)), (by repeat constructor), ⟨_, A2, c2, bb, ds, A7, c7, hS2, (fun h => rol_e (hT h) hi2), hF, rfl, rfl⟩⟩
                  | exact ⟨_, _, _, (by repeat (first | exact trivial | refine ⟨rfl, ?_⟩ | refine ⟨le_item rfl (by first | rfl | (congr 1; omega) | (simp; done) | (simp; omega)), ?_⟩)), (by repeat constructor), ⟨_, A2, c2, bb, ds, A7, c7, hS2, (fun h => Bool.noConfusion h), hF, rfl, rfl⟩⟩
            · obtain ⟨E0, H0, F, hE0, hH0, hJ⟩ := h
              obtain ⟨wr, A2, c2, b0, ds, A7, c7, hS2, hT, hF, rfl, rfl⟩ := hJ
              have z1 := hS2.len
              have z2 := numB_le b0
              have z3 := cntU_le b0
              refine vc_weak hE0 hH0 ?_
              refine vc_seq ?_
              refine vc_region ?_
              refine vl_val rfl (.some rfl) (val_move rfl) ?_
              refine vl_call (C := [QC r20 A2 (b0).length c2 (wr)]) rfl rfl (.some rfl) Try.call63 rfl (by repeat constructor) (fun w' hw => qCnt r20 A2 c2 (b0) (wr) (by omega) (hS2).cap w' (readsM_old ((hS2).rd _ _ (Reads.m hr)) (by repeat constructor) hw)) (fun v H' h => ?_)
              obtain ⟨A6, c6, rfl, hS6, rfl⟩ := h
              show VL _ _ _ _ _ (_ :: _)
              refine vl_val rfl (.some rfl) (val_assign rfl) ?_
              refine vl_nil ?_
              refine vc_seq ?_
              refine vc_region ?_
              refine vl_val rfl (.some rfl) (val_assign rfl) ?_
              refine vl_nil ?_
              refine vc_block ?_
              refine vc_nilSl 104 2 ?_
              refine vc_loopw (fun q E H => ∃ (i : Nat) (A2 : Option Addr) (c2 : Nat) (bb : Tx) (wr : Bool) (ms : List Mq) (A8 : Option Addr) (c8 : Nat), ms.length = i ∧ i ≤ (cntU b0) ∧ q = (cntU b0) - i ∧ Sfx A b A2 c2 bb ∧ (wr = false → RolJ b ds b0 i ms bb) ∧ (wr = true → loadRec b = none) ∧ E = [(0, .slice A b.length c), (2, .pointer (some ⟨r2, 0, none⟩)), (4, .pointer (some ⟨r20, 0, none⟩)), (5, .pointer (some ⟨r5, 0, none⟩)), (10, .int .i64 (cntU b0 : Nat)), (12, .int .i64 i)] ∧ H = [QC r20 A2 bb.length c2 wr, cells r5 (recC (rolM b A7 c7 ds A8 c8 ms)) 44, sl A8 ms.length c8 104 2 (ms.flatMap meaV), sl A7 ds.length c7 9 1 (tcS ds), cells r2 (recC rec0M) 44]) ((cntU b0)) ⟨_, _, _, ⟨0, A6, c6, numB b0, (wr || cntW b0), [], none, 0, rfl, by omega, rfl, hS2.trans hS6, (fun h => ⟨hT (or_f h).1, (or_f h).2, many_i0⟩), (fun h => by
                cases hwr : wr with
                | true => exact hF hwr
                | false => exact rolj_no (hT hwr) (or_t h hwr)), rfl, rfl⟩, (by repeat (first | exact trivial | refine ⟨rfl, ?_⟩ | refine ⟨le_item rfl (by first | rfl | (congr 1; omega) | (simp; done) | (simp; omega)), ?_⟩)), (by repeat constructor)⟩ ?_
              intro q E H hI
              obtain ⟨i, A2, c2, bb, wr, ms, A8, c8, hci, hip, rfl, hS2, hT, hF, rfl, rfl⟩ := hI
              have hlb := hS2.len
              refine vc_seq ?_
              refine vc_seq ?_
              refine vc_region ?_
              refine vl_val rfl (.some rfl) (val_move rfl) ?_
              refine vl_val rfl (.some rfl) (val_move rfl) ?_
              refine vl_val rfl (.some rfl) (val_lt rfl rfl) ?_
              refine vl_val rfl (.some rfl) (val_move rfl) ?_
              refine vl_split (t := 142) rfl (fun hg142 => ?_) (fun hg142 => ?_)
              · (try replace hg142 := of_decide_eq_true hg142)
                refine vl_on rfl rfl rfl rfl ?_
                refine vl_val rfl (.some rfl) (val_move rfl) ?_
                refine vl_on rfl rfl rfl rfl ?_
                refine vl_val rfl (.some rfl) (val_nil rfl rfl) ?_
                refine vl_on rfl rfl rfl rfl ?_
                refine vl_val rfl (.some rfl) (by first | exact val_fieldAddr Try.runUnderlying123 rfl Try.sizeOf4 rfl | exact val_fieldAddrR Try.runUnderlying123 rfl Try.sizeOf4 rfl) ?_
                refine vl_on rfl rfl rfl rfl ?_
                refine vl_val rfl (.some rfl) (val_load Try.isAgg4 rfl (by first | exact cell_cells (by repeat constructor) rfl | exact cell_rd (by first | exact rd_sl (by repeat constructor) | exact rd_old (by assumption) rfl) (by first | exact bcells_at (by omega) | exact ucells_at (by omega) | exact icells_at (by omega) | exact tcells_at (by omega) | exact bcells_get (by omega) | exact icells_get (by omega) | exact tcells_get (by omega) | exact ucells_get (by omega)) | exact cell_old (by assumption) (by simp [fps]))) ?_
                refine vl_on rfl rfl rfl rfl ?_
                refine vl_val rfl (.some rfl) (val_not rfl) ?_
                refine vl_val rfl (.some rfl) (val_pick rfl rfl) ?_
                refine vl_nil ?_
                refine vc_cond rfl (fun hc5 => ?_) (fun hc5 => ?_)
                · (try replace hc5 := of_decide_eq_true hc5)
                  obtain rfl : wr = false := by simpa using hc5
                  have hT0 := hT rfl
                  have hx1 := txS_le bb
                  have hx2 := numB_le (txB bb)
                  have hx3 := numB_le bb
                  have hx4 := txS_le (numB bb)
                  refine vc_skip ?_
                  refine vc_seq ?_
                  refine vc_block ?_
                  refine vc_seq ?_
                  refine vc_region ?_
                  refine vl_val rfl (.some rfl) (val_move rfl) ?_
                  refine vl_call (C := [QC r20 A2 (bb).length c2 (false)]) rfl rfl (.some rfl) Try.call61 rfl (by repeat constructor) (fun w' hw => qNum r20 A2 c2 (bb) (false) (by omega) (hS2).cap w' (readsM_old ((hS2).rd _ _ (Reads.m hr)) (by repeat constructor) hw)) (fun v H' h => ?_)
                  obtain ⟨A9, c9, rfl, hS9, rfl⟩ := h
                  show VL _ _ _ _ _ (_ :: _)
                  refine vl_val rfl (.some rfl) (val_convInt Try.runUnderlying23 Try.runUnderlying3 rfl (w_i64N (numU_lt _))) ?_
                  refine vl_val rfl (.some rfl) (val_assign rfl) ?_
                  refine vl_nil ?_
                  refine vc_drawsS [0, 1, 2, 3, 4, 6, 10] [11] [0, 1, 2, 3, 4, 5, 6, 7, 8, 9, 10, 11] [cells r5 (recC (rolM b A7 c7 ds A8 c8 ms)) 44] (by repeat constructor) rfl (by kernel_rfl) (fun _ _ _ h => h) ?_
                  refine vd_val rfl rfl rfl (.some rfl) (by first | exact val_fieldAddr Try.runUnderlying44 rfl Try.sizeOf40 rfl | exact val_fieldAddrR Try.runUnderlying44 rfl Try.sizeOf40 rfl) ?_
                  refine vd_val rfl rfl rfl (.some rfl) (by first | exact val_fieldAddr Try.runUnderlying40 rfl Try.sizeOf38 rfl | exact val_fieldAddrR Try.runUnderlying40 rfl Try.sizeOf38 rfl) ?_
                  refine vd_val rfl rfl rfl (.some rfl) (val_load Try.isAgg38 rfl (by first | exact cell_cells (by repeat constructor) rfl | exact cell_rd (by first | exact rd_sl (by repeat constructor) | exact rd_old (by assumption) rfl) (by first | exact bcells_at (by omega) | exact ucells_at (by omega) | exact icells_at (by omega) | exact tcells_at (by omega) | exact bcells_get (by omega) | exact icells_get (by omega) | exact tcells_get (by omega) | exact ucells_get (by omega)) | exact cell_old (by assumption) (by simp [fps]))) ?_
                  refine vd_val rfl rfl rfl (.some rfl) (val_move rfl) ?_
                  refine vd_val rfl rfl rfl (.some rfl) (val_move rfl) ?_
                  refine vd_op rfl rfl ?_
                  refine vl_call (C := [QC r20 A9 ((numB bb)).length c9 ((false || numW bb))]) rfl rfl (.some rfl) Try.call62 rfl (by repeat constructor) (fun w' hw => qTxt r20 A9 c9 ((numB bb)) ((false || numW bb)) (by omega) ((hS2.trans hS9)).cap w' (readsM_old (((hS2.trans hS9)).rd _ _ (Reads.m hr)) (by repeat constructor) hw)) (fun v H' h => ?_)
                  obtain ⟨A10, c10, rfl, hS10, rfl⟩ := h
                  show VL _ _ _ _ _ (_ :: _)
                  refine vl_nil ?_
                  refine ⟨fun _ => ⟨_, (by repeat (first | exact .nil | exact sub_self _ | exact sub_skip (sub_self _) | exact sub_skip (sub_skip (sub_self _)) | exact sub_skip (sub_skip (sub_skip (sub_self _))) | (apply Sub.cons; · repeat (first | exact .head | apply Take.tail))))⟩, ?_⟩
                  refine vd_val rfl rfl rfl (.some rfl) (val_buildSt (pl := #[(0, 1), (1, 1)]) (cs := (meaV (i64N (numU bb), txS (numB bb))).toArray) Try.runUnderlying104 Try.zeroValue104 (fun w => by kernel_rfl) rfl rfl) ?_
                  refine vd_op rfl rfl ?_
                  refine vl_lit sT38 rfl rfl (.some rfl) rfl rfl rfl (by decide) (by decide) rfl rfl (fun r161 => ?_)
                  refine vl_nil ?_
                  refine ⟨fun _ => ⟨_, (by repeat (first | exact .nil | exact sub_self _ | exact sub_skip (sub_self _) | exact sub_skip (sub_skip (sub_self _)) | exact sub_skip (sub_skip (sub_skip (sub_self _))) | (apply Sub.cons; · repeat (first | exact .head | apply Take.tail))))⟩, ?_⟩
                  refine vd_op rfl rfl ?_
                  have hml : (rolM b A7 c7 ds A8 c8 ms).ms.length = ms.length := rfl
                  refine vl_append (vs := ms.flatMap meaV) (us := meaV (i64N (numU bb), txS (numB bb))) sT38 rfl rfl (.some rfl) rfl rfl (rd_sl (by repeat constructor)) rfl rfl (by omega) (by omega) (by repeat constructor) (fun A162 k162 => ?_)
                  rw [show ms.flatMap meaV ++ meaV (i64N (numU bb), txS (numB bb)) = (ms ++ [(i64N (numU bb), txS (numB bb))]).flatMap meaV by simp, show ms.length + 1 = (ms ++ [(i64N (numU bb), txS (numB bb))]).length by simp]
                  refine vl_nil ?_
                  refine ⟨fun _ => ⟨_, (by repeat (first | exact .nil | exact sub_self _ | exact sub_skip (sub_self _) | exact sub_skip (sub_skip (sub_self _)) | exact sub_skip (sub_skip (sub_skip (sub_self _))) | (apply Sub.cons; · repeat (first | exact .head | apply Take.tail))))⟩, ?_⟩
                  refine vd_op rfl rfl ?_
                  refine vl_val rfl (.some rfl) (by first | exact val_fieldAddr Try.runUnderlying44 rfl Try.sizeOf40 rfl | exact val_fieldAddrR Try.runUnderlying44 rfl Try.sizeOf40 rfl) ?_
                  refine vl_nil ?_
                  refine ⟨fun _ => ⟨_, (by repeat (first | exact .nil | exact sub_self _ | exact sub_skip (sub_self _) | exact sub_skip (sub_skip (sub_self _)) | exact sub_skip (sub_skip (sub_skip (sub_self _))) | (apply Sub.cons; · repeat (first | exact .head | apply Take.tail))))⟩, ?_⟩
                  refine vd_val rfl rfl rfl (.some rfl) (by first | exact val_fieldAddr Try.runUnderlying40 rfl Try.sizeOf38 rfl | exact val_fieldAddrR Try.runUnderlying40 rfl Try.sizeOf38 rfl) ?_
                  refine vd_op rfl rfl ?_
                  first | refine vl_store rfl rfl .none rfl rfl Try.sizeOf38 rfl (by repeat constructor) (by first | decide | exact Nat.le_refl _ | exact Nat.le_of_ble_eq_true rfl | (simp; omega)) ?_ | refine vl_storeSl rfl rfl .none rfl rfl Try.sizeOf38 rfl (by simp [Value.cells]) (by repeat constructor) (by first | decide | (simp [Value.cells]; omega)) ?_
                  refine vl_nil ?_
                  refine ⟨fun h => (by cases h), ?_⟩
                  refine vd_nil ?_
                  refine vc_region ?_
                  refine vl_val rfl (.some rfl) (val_move rfl) ?_
                  refine vl_val rfl (.some rfl) (val_add rfl rfl (by first | exact w_i64 (by omega) (by omega) | rfl)) ?_
                  refine vl_val rfl (.some rfl) (val_assign rfl) ?_
                  refine vl_nil ?_
                  exact ⟨(cntU b0 - (i + 1)), _, _, _, by omega, (by repeat (first | exact trivial | refine ⟨rfl, ?_⟩ | refine ⟨le_item rfl (by first | rfl | (congr 1; omega) | (simp; done) | (simp; omega)), ?_⟩)), (by repeat constructor), ⟨i + 1, A10, c10, txB (numB bb), _, ms ++ [(i64N (numU bb), txS (numB bb))], A162, k162, by simp [hci], by omega, rfl, (hS2.trans hS9).trans hS10, (fun h => rolj_s hT0 (by omega) (or_f (or_f h).1).2 (or_f h).2), rolj_b hT0 (by omega), rfl, rfl⟩⟩
                · (try replace hc5 := of_decide_eq_false hc5)
                  obtain rfl : wr = true := by simpa using hc5
                  refine vc_eqv (Eqv.trans (Eqv.perm (Sub.perm (C := [sl A7 ds.length c7 9 1 (tcS ds), sl A8 ms.length c8 104 2 (ms.flatMap meaV)]) (by repeat constructor))) (eqv_big [sl A7 ds.length c7 9 1 (tcS ds), sl A8 ms.length c8 104 2 (ms.flatMap meaV)] _).symm) ?_
                  refine vc_exit ?_
                  first
                    | exact ⟨_, _, _, (by repeat (first | exact trivial | refine ⟨rfl, ?_⟩ | refine ⟨le_item rfl (by first | rfl | (congr 1; omega) | (simp; done) | (simp; omega)), ?_⟩)), (by repeat constructor), ⟨tabM b A7 c7 cs, _, A2, c2, bb, _, hlb, (fun h => tab_e (hT h) hi2), hF, fun w hk => ⟨reads_chunkR hk (List.Mem.head _), (reads_nilR (by rfl)), (reads_nilR (by rfl)), (reads_nilR (by rfl)), fun q hq => by cases hq⟩, rfl, rfl⟩⟩
                    | exact ⟨_, _, _, (by repeat (first | exact trivial | refine ⟨rfl, ?_⟩ | refine ⟨le_item rfl (by first | rfl | (congr 1; omega) | (simp; done) | (simp; omega)), ?_⟩)), (by repeat constructor), ⟨tabM b A7 c7 cs, _, A2, c2, bb, _, hlb, (fun h => Bool.noConfusion h), hF, fun w hk => ⟨reads_chunkR hk (List.Mem.head _), (reads_nilR (by rfl)), (reads_nilR (by rfl)), (reads_nilR (by rfl)), fun q hq => by cases hq⟩, rfl, rfl⟩⟩
                    | exact ⟨_, _, _, (by repeat (first | exact trivial | refine ⟨rfl, ?_⟩ | refine ⟨le_item rfl (by first | rfl | (congr 1; omega) | (simp; done) | (simp; omega)), ?_⟩)), (by repeat constructor), ⟨rolM b A7 c7 ds A8 c8 ms, _, A2, c2, bb, _, hlb, (fun h => rolj_e (hT h) hi2), hF, fun w hk => ⟨(reads_nilR (by rfl)), reads_chunkR hk (List.Mem.head _), reads_chunkR hk (List.Mem.tail _ (List.Mem.head _)), (reads_nilR (by rfl)), fun q hq => by cases hq⟩, rfl, rfl⟩⟩
                    | exact ⟨_, _, _, (by repeat (first | exact trivial | refine ⟨rfl, ?_⟩ | refine ⟨le_item rfl (by first | rfl | (congr 1; omega) | (simp; done) | (simp; omega)), ?_⟩)), (by repeat constructor), ⟨rolM b A7 c7 ds A8 c8 ms, _, A2, c2, bb, _, hlb, (fun h => Bool.noConfusion h), hF, fun w hk => ⟨(reads_nilR (by rfl)), reads_chunkR hk (List.Mem.head _), reads_chunkR hk (List.Mem.tail _ (List.Mem.head _)), (reads_nilR (by rfl)), fun q hq => by cases hq⟩, rfl, rfl⟩⟩
                    | exact ⟨_, _, _, (by repeat (first | exact trivial | refine ⟨rfl, ?_⟩ | refine ⟨le_item rfl (by first | rfl | (congr 1; omega) | (simp; done) | (simp; omega)), ?_⟩)), (by repeat constructor), ⟨batM b A7 c7 rs, _, A2, c2, bb, _, hlb, (fun h => bat_e (hT h) hi2), hF, fun w hk => ⟨(reads_nilR (by rfl)), (reads_nilR (by rfl)), (reads_nilR (by rfl)), reads_chunkR hk (List.Mem.head _), fun q hq => ⟨reads_chunkR (hk (big L) (List.Mem.tail _ (List.Mem.head _))) (hL q hq).1, (hL q hq).2⟩⟩, rfl, rfl⟩⟩
                    | exact ⟨_, _, _, (by repeat (first | exact trivial | refine ⟨rfl, ?_⟩ | refine ⟨le_item rfl (by first | rfl | (congr 1; omega) | (simp; done) | (simp; omega)), ?_⟩)), (by repeat constructor), ⟨batM b A7 c7 rs, _, A2, c2, bb, _, hlb, (fun h => Bool.noConfusion h), hF, fun w hk => ⟨(reads_nilR (by rfl)), (reads_nilR (by rfl)), (reads_nilR (by rfl)), reads_chunkR hk (List.Mem.head _), fun q hq => ⟨reads_chunkR (hk (big L) (List.Mem.tail _ (List.Mem.head _))) (hL q hq).1, (hL q hq).2⟩⟩, rfl, rfl⟩⟩
              · (try replace hg142 := of_decide_eq_false hg142)
                refine vl_off rfl rfl rfl rfl (.some rfl) ?_
                refine vl_off rfl rfl rfl rfl (.some rfl) ?_
                refine vl_off rfl rfl rfl rfl (.some rfl) ?_
                refine vl_off rfl rfl rfl rfl (.some rfl) ?_
                refine vl_off rfl rfl rfl rfl (.some rfl) ?_
                refine vl_val rfl (.some rfl) (val_pick rfl rfl) ?_
                refine vl_nil ?_
                refine vc_cond rfl (fun h => by cases h) (fun _ => ?_)
                have hi2 : i = cntU b0 := by omega
                refine vc_eqv (Eqv.trans (Eqv.perm (Sub.perm (C := [sl A7 ds.length c7 9 1 (tcS ds), sl A8 ms.length c8 104 2 (ms.flatMap meaV)]) (by repeat constructor))) (eqv_big [sl A7 ds.length c7 9 1 (tcS ds), sl A8 ms.length c8 104 2 (ms.flatMap meaV)] _).symm) ?_
                refine vc_exit ?_
                first
                  | exact ⟨_, _, _, (by repeat (first | exact trivial | refine ⟨rfl, ?_⟩ | refine ⟨le_item rfl (by first | rfl | (congr 1; omega) | (simp; done) | (simp; omega)), ?_⟩)), (by repeat constructor), ⟨tabM b A7 c7 cs, _, A2, c2, bb, _, hlb, (fun h => tab_e (hT h) hi2), hF, fun w hk => ⟨reads_chunkR hk (List.Mem.head _), (reads_nilR (by rfl)), (reads_nilR (by rfl)), (reads_nilR (by rfl)), fun q hq => by cases hq⟩, rfl, rfl⟩⟩
                  | exact ⟨_, _, _, (by repeat (first | exact trivial | refine ⟨rfl, ?_⟩ | refine ⟨le_item rfl (by first | rfl | (congr 1; omega) | (simp; done) | (simp; omega)), ?_⟩)), (by repeat constructor), ⟨tabM b A7 c7 cs, _, A2, c2, bb, _, hlb, (fun h => Bool.noConfusion h), hF, fun w hk => ⟨reads_chunkR hk (List.Mem.head _), (reads_nilR (by rfl)), (reads_nilR (by rfl)), (reads_nilR (by rfl)), fun q hq => by cases hq⟩, rfl, rfl⟩⟩
                  | exact ⟨_, _, _, (by repeat (first | exact trivial | refine ⟨rfl, ?_⟩ | refine ⟨le_item rfl (by first | rfl | (congr 1; omega) | (simp; done) | (simp; omega)), ?_⟩)), (by repeat constructor), ⟨rolM b A7 c7 ds A8 c8 ms, _, A2, c2, bb, _, hlb, (fun h => rolj_e (hT h) hi2), hF, fun w hk => ⟨(reads_nilR (by rfl)), reads_chunkR hk (List.Mem.head _), reads_chunkR hk (List.Mem.tail _ (List.Mem.head _)), (reads_nilR (by rfl)), fun q hq => by cases hq⟩, rfl, rfl⟩⟩
                  | exact ⟨_, _, _, (by repeat (first | exact trivial | refine ⟨rfl, ?_⟩ | refine ⟨le_item rfl (by first | rfl | (congr 1; omega) | (simp; done) | (simp; omega)), ?_⟩)), (by repeat constructor), ⟨rolM b A7 c7 ds A8 c8 ms, _, A2, c2, bb, _, hlb, (fun h => Bool.noConfusion h), hF, fun w hk => ⟨(reads_nilR (by rfl)), reads_chunkR hk (List.Mem.head _), reads_chunkR hk (List.Mem.tail _ (List.Mem.head _)), (reads_nilR (by rfl)), fun q hq => by cases hq⟩, rfl, rfl⟩⟩
                  | exact ⟨_, _, _, (by repeat (first | exact trivial | refine ⟨rfl, ?_⟩ | refine ⟨le_item rfl (by first | rfl | (congr 1; omega) | (simp; done) | (simp; omega)), ?_⟩)), (by repeat constructor), ⟨batM b A7 c7 rs, _, A2, c2, bb, _, hlb, (fun h => bat_e (hT h) hi2), hF, fun w hk => ⟨(reads_nilR (by rfl)), (reads_nilR (by rfl)), (reads_nilR (by rfl)), reads_chunkR hk (List.Mem.head _), fun q hq => ⟨reads_chunkR (hk (big L) (List.Mem.tail _ (List.Mem.head _))) (hL q hq).1, (hL q hq).2⟩⟩, rfl, rfl⟩⟩
                  | exact ⟨_, _, _, (by repeat (first | exact trivial | refine ⟨rfl, ?_⟩ | refine ⟨le_item rfl (by first | rfl | (congr 1; omega) | (simp; done) | (simp; omega)), ?_⟩)), (by repeat constructor), ⟨batM b A7 c7 rs, _, A2, c2, bb, _, hlb, (fun h => Bool.noConfusion h), hF, fun w hk => ⟨(reads_nilR (by rfl)), (reads_nilR (by rfl)), (reads_nilR (by rfl)), reads_chunkR hk (List.Mem.head _), fun q hq => ⟨reads_chunkR (hk (big L) (List.Mem.tail _ (List.Mem.head _))) (hL q hq).1, (hL q hq).2⟩⟩, rfl, rfl⟩⟩
          · (try replace hc3 := of_decide_eq_false hc3)
            have hk3 : numU b = 3 := by omega
            rw [show ((numU b : Nat) : Int) = 3 by omega]
            refine vc_seq ?_
            refine vc_region ?_
            refine vl_val rfl (.some rfl) (val_move rfl) ?_
            refine vl_call (C := [QC r20 A1 ((numB b)).length c1 (numW b)]) rfl rfl (.some rfl) Try.call62 rfl (by repeat constructor) (fun w' hw => qTxt r20 A1 c1 ((numB b)) (numW b) (by omega) (hS1).cap w' (readsM_old ((hS1).rd _ _ (Reads.m hr)) (by repeat constructor) hw)) (fun v H' h => ?_)
            obtain ⟨A3, c3, rfl, hS3, rfl⟩ := h
            show VL _ _ _ _ _ (_ :: _)
            refine vl_val rfl (.some rfl) (by first | exact val_fieldAddr Try.runUnderlying44 rfl Try.sizeOf9 rfl | exact val_fieldAddrR Try.runUnderlying44 rfl Try.sizeOf9 rfl) ?_
            first | refine vl_store rfl rfl .none rfl rfl Try.sizeOf9 rfl (by repeat constructor) (by first | decide | exact Nat.le_refl _ | exact Nat.le_of_ble_eq_true rfl | (simp; omega)) ?_ | refine vl_storeSl rfl rfl .none rfl rfl Try.sizeOf9 rfl (by simp [Value.cells]) (by repeat constructor) (by first | decide | (simp [Value.cells]; omega)) ?_
            refine vl_nil ?_
            refine vc_seq ?_
            refine vc_region ?_
            refine vl_val rfl (.some rfl) (val_move rfl) ?_
            refine vl_call (C := [QC r20 A3 ((txB (numB b))).length c3 ((numW b || cntW (numB b)))]) rfl rfl (.some rfl) Try.call63 rfl (by repeat constructor) (fun w' hw => qCnt r20 A3 c3 ((txB (numB b))) ((numW b || cntW (numB b))) (by omega) ((hS1.trans hS3)).cap w' (readsM_old (((hS1.trans hS3)).rd _ _ (Reads.m hr)) (by repeat constructor) hw)) (fun v H' h => ?_)
            obtain ⟨A4, c4, rfl, hS4, rfl⟩ := h
            show VL _ _ _ _ _ (_ :: _)
            refine vl_val rfl (.some rfl) (val_assign rfl) ?_
            refine vl_nil ?_
            refine vc_seq ?_
            refine vc_region ?_
            refine vl_val rfl (.some rfl) (val_assign rfl) ?_
            refine vl_nil ?_
            refine vc_block ?_
            refine vc_eqv (eqv_big [] _).symm ?_
            refine vc_nilSl 105 1 ?_
            refine vc_loopw (fun q E H => ∃ (i : Nat) (A2 : Option Addr) (c2 : Nat) (bb : Tx) (wr : Bool) (rs : List Rw) (A7 : Option Addr) (c7 : Nat) (L : List Chunk), rs.length = i ∧ i ≤ (cntU (txB (numB b))) ∧ q = (cntU (txB (numB b))) - i ∧ Sfx A b A2 c2 bb ∧ (wr = false → BatI b i (rs.map fun q => q.2.2) bb) ∧ (wr = true → loadRec b = none) ∧ (∀ q ∈ rs, DS q.1 q.2.1 q.2.2 ∈ L ∧ ∀ p ∈ q.2.2, WV p) ∧ E = [(0, .slice A b.length c), (2, .pointer (some ⟨r2, 0, none⟩)), (4, .pointer (some ⟨r20, 0, none⟩)), (5, .pointer (some ⟨r5, 0, none⟩)), (14, .int .i64 ((cntU (txB (numB b))) : Nat)), (15, .int .i64 i)] ∧ H = [QC r20 A2 bb.length c2 wr, cells r5 (recC (batM b A7 c7 rs)) 44, sl A7 rs.length c7 105 1 (rs.flatMap rowV), big L, cells r2 (recC rec0M) 44]) ((cntU (txB (numB b)))) ⟨_, _, _, ⟨0, A4, c4, (numB (txB (numB b))), ((numW b || cntW (numB b)) || cntW (txB (numB b))), [], none, 0, [], rfl, by omega, rfl, (hS1.trans hS3).trans hS4, bat_0 hk3, bat_no hk3, (fun q hq => by cases hq), rfl, rfl⟩, (by repeat (first | exact trivial | refine ⟨rfl, ?_⟩ | refine ⟨le_item rfl (by first | rfl | (congr 1; omega) | (simp; done) | (simp; omega)), ?_⟩)), (by repeat constructor)⟩ ?_
            intro q E H hI
            obtain ⟨i, A2, c2, bb, wr, rs, A7, c7, L, hci, hip, rfl, hS2, hT, hF, hL, rfl, rfl⟩ := hI
            have hlb := hS2.len
            refine vc_seq ?_
            refine vc_seq ?_
            refine vc_region ?_
            refine vl_val rfl (.some rfl) (val_move rfl) ?_
            refine vl_val rfl (.some rfl) (val_move rfl) ?_
            refine vl_val rfl (.some rfl) (val_lt rfl rfl) ?_
            refine vl_val rfl (.some rfl) (val_move rfl) ?_
            refine vl_split (t := 43) rfl (fun hg43 => ?_) (fun hg43 => ?_)
            · (try replace hg43 := of_decide_eq_true hg43)
              refine vl_on rfl rfl rfl rfl ?_
              refine vl_val rfl (.some rfl) (val_move rfl) ?_
              refine vl_on rfl rfl rfl rfl ?_
              refine vl_val rfl (.some rfl) (val_nil rfl rfl) ?_
              refine vl_on rfl rfl rfl rfl ?_
              refine vl_val rfl (.some rfl) (by first | exact val_fieldAddr Try.runUnderlying123 rfl Try.sizeOf4 rfl | exact val_fieldAddrR Try.runUnderlying123 rfl Try.sizeOf4 rfl) ?_
              refine vl_on rfl rfl rfl rfl ?_
              refine vl_val rfl (.some rfl) (val_load Try.isAgg4 rfl (by first | exact cell_cells (by repeat constructor) rfl | exact cell_rd (by first | exact rd_sl (by repeat constructor) | exact rd_old (by assumption) rfl) (by first | exact bcells_at (by omega) | exact ucells_at (by omega) | exact icells_at (by omega) | exact tcells_at (by omega) | exact bcells_get (by omega) | exact icells_get (by omega) | exact tcells_get (by omega) | exact ucells_get (by omega)) | exact cell_old (by assumption) (by simp [fps]))) ?_
              refine vl_on rfl rfl rfl rfl ?_
              refine vl_val rfl (.some rfl) (val_not rfl) ?_
              refine vl_val rfl (.some rfl) (val_pick rfl rfl) ?_
              refine vl_nil ?_
              refine vc_cond rfl (fun hc6 => ?_) (fun hc6 => ?_)
              · (try replace hc6 := of_decide_eq_true hc6)
                obtain rfl : wr = false := by simpa using hc6
                have hT0 := hT rfl
                have hx1 := txS_le bb
                have hx2 := numB_le (txB bb)
                have hx3 := numB_le bb
                have hx4 := txS_le (numB bb)
                refine vc_skip ?_
                refine vc_seq ?_
                refine vc_block ?_
                refine vc_seq ?_
                refine vc_region ?_
                refine vl_val rfl (.some rfl) (val_move rfl) ?_
                refine vl_call (C := [QC r20 A2 (bb).length c2 (false)]) rfl rfl (.some rfl) Try.call62 rfl (by repeat constructor) (fun w' hw => qTxt r20 A2 c2 (bb) (false) (by omega) (hS2).cap w' (readsM_old ((hS2).rd _ _ (Reads.m hr)) (by repeat constructor) hw)) (fun v H' h => ?_)
                obtain ⟨A5, c5, rfl, hS5, rfl⟩ := h
                show VL _ _ _ _ _ (_ :: _)
                refine vl_strBytes rfl rfl (.some rfl) Try.underlying9 Try.underlying22 Try.underlying5 rfl (fun r97 c97 h97 => ?_)
                rw [sL_list, sL_size]
                rw [sL_size] at h97
                refine vl_call (C := []) rfl rfl (.some rfl) Try.call64 rfl .nil (fun w' hw => xLoad (some ⟨r97, 0, none⟩) c97 (txS bb) (by omega) h97 w' (rdw (rd_ro (by repeat constructor)) hw)) (fun v H' h => ?_)
                obtain ⟨A56, c56, rfl, rfl⟩ := h
                show VL _ _ _ _ _ (_ :: _)
                refine vl_val rfl (.some rfl) (val_move rfl) ?_
                refine vl_val rfl (.some rfl) (val_extract rfl rfl) ?_
                refine vl_val rfl (.some rfl) (val_extract rfl rfl) ?_
                refine vl_val rfl (.some rfl) (val_assign rfl) ?_
                refine vl_val rfl (.some rfl) (val_assign rfl) ?_
                refine vl_nil ?_
                refine vc_seq ?_
                refine vc_seq ?_
                refine vc_region ?_
                refine vl_val rfl (.some rfl) (val_move rfl) ?_
                refine vl_val rfl (.some rfl) (val_ne rfl rfl) ?_
                refine vl_nil ?_
                refine vc_cond rfl (fun hc7 => ?_) (fun hc7 => ?_)
                · (try replace hc7 := of_decide_eq_true hc7)
                  have hv0 : loadV (txS bb) = none := (load_cases (txS bb)).elim (fun h => h.2) (fun h => absurd h.1 (by omega))
                  refine vc_eqv (Eqv.trans (Eqv.perm (Sub.perm (C := [DS A56 c56 (loadL9 (txS bb)), big L]) (by repeat constructor))) (eqv_big_push L (DS A56 c56 (loadL9 (txS bb))) _)) ?_
                  refine vc_region ?_
                  refine vl_val rfl (.some rfl) (val_move rfl) ?_
                  refine vl_val rfl (.some rfl) (val_nil rfl rfl) ?_
                  refine vl_val rfl (.some rfl) (by first | exact val_fieldAddr Try.runUnderlying123 rfl Try.sizeOf4 rfl | exact val_fieldAddrR Try.runUnderlying123 rfl Try.sizeOf4 rfl) ?_
                  first | refine vl_store rfl rfl .none rfl rfl Try.sizeOf4 rfl (by repeat constructor) (by first | decide | exact Nat.le_refl _ | exact Nat.le_of_ble_eq_true rfl | (simp; omega)) ?_ | refine vl_storeSl rfl rfl .none rfl rfl Try.sizeOf4 rfl (by simp [Value.cells]) (by repeat constructor) (by first | decide | (simp [Value.cells]; omega)) ?_
                  refine vl_nil ?_
                  refine vc_region ?_
                  refine vl_val rfl (.some rfl) (by first | exact val_fieldAddr Try.runUnderlying44 rfl Try.sizeOf41 rfl | exact val_fieldAddrR Try.runUnderlying44 rfl Try.sizeOf41 rfl) ?_
                  refine vl_val rfl (.some rfl) (val_load Try.isAgg41 rfl (by first | exact cell_cells (by repeat constructor) rfl | exact cell_rd (by first | exact rd_sl (by repeat constructor) | exact rd_old (by assumption) rfl) (by first | exact bcells_at (by omega) | exact ucells_at (by omega) | exact icells_at (by omega) | exact tcells_at (by omega) | exact bcells_get (by omega) | exact icells_get (by omega) | exact tcells_get (by omega) | exact ucells_get (by omega)) | exact cell_old (by assumption) (by simp [fps]))) ?_
                  refine vl_val rfl (.some rfl) (val_move rfl) ?_
                  refine vl_lit sT41 rfl rfl (.some rfl) rfl rfl rfl (by decide) (by decide) rfl (flat_one rfl) (fun r67 => ?_)
                  have hml : (batM b A7 c7 rs).rs.length = rs.length := rfl
                  refine vl_append (vs := rs.flatMap rowV) (us := rowV (A56, c56, loadL9 (txS bb))) sT41 rfl rfl (.some rfl) rfl rfl (rd_sl (by repeat constructor)) rfl rfl (by omega) (by omega) (by repeat constructor) (fun A68 k68 => ?_)
                  rw [show rs.flatMap rowV ++ rowV (A56, c56, loadL9 (txS bb)) = (rs ++ [(A56, c56, loadL9 (txS bb))]).flatMap rowV by simp, show rs.length + 1 = (rs ++ [(A56, c56, loadL9 (txS bb))]).length by simp]
                  refine vl_val rfl (.some rfl) (by first | exact val_fieldAddr Try.runUnderlying44 rfl Try.sizeOf41 rfl | exact val_fieldAddrR Try.runUnderlying44 rfl Try.sizeOf41 rfl) ?_
                  first | refine vl_store rfl rfl .none rfl rfl Try.sizeOf41 rfl (by repeat constructor) (by first | decide | exact Nat.le_refl _ | exact Nat.le_of_ble_eq_true rfl | (simp; omega)) ?_ | refine vl_storeSl rfl rfl .none rfl rfl Try.sizeOf41 rfl (by simp [Value.cells]) (by repeat constructor) (by first | decide | (simp [Value.cells]; omega)) ?_
                  refine vl_nil ?_
                  refine vc_region ?_
                  refine vl_val rfl (.some rfl) (val_move rfl) ?_
                  refine vl_val rfl (.some rfl) (val_add rfl rfl (by first | exact w_i64 (by omega) (by omega) | rfl)) ?_
                  refine vl_val rfl (.some rfl) (val_assign rfl) ?_
                  refine vl_nil ?_
                  first
                    | exact ⟨((cntU (txB (numB b))) - (i + 1)), _, _, _, by omega, (by repeat (first | exact trivial | refine ⟨rfl, ?_⟩ | refine ⟨le_item rfl (by first | rfl | (congr 1; omega) | (simp; done) | (simp; omega)), ?_⟩)), (by repeat constructor), ⟨i + 1, A5, c5, txB bb, _, rs ++ [(A56, c56, loadL9 (txS bb))], A68, k68, L ++ [DS A56 c56 (loadL9 (txS bb))], by simp [hci], by omega, rfl, hS2.trans hS5, (fun h => Bool.noConfusion h), (fun _ => bat_b hT0 (by omega) hv0), (fun q hq => (List.mem_append.1 hq).elim (fun h => ⟨List.mem_append_left _ (hL q h).1, (hL q h).2⟩) (fun h => by rw [List.mem_singleton.1 h]; exact ⟨List.mem_append_right _ (List.Mem.head _), load9_wv _⟩)), rfl, rfl⟩⟩
                    | exact ⟨((cntU (txB (numB b))) - (i + 1)), _, _, _, by omega, (by repeat (first | exact trivial | refine ⟨rfl, ?_⟩ | refine ⟨le_item rfl (by first | rfl | (congr 1; omega) | (simp; done) | (simp; omega)), ?_⟩)), (by repeat constructor), ⟨i + 1, A5, c5, txB bb, _, rs ++ [(A56, c56, loadL9 (txS bb))], A68, k68, L ++ [DS A56 c56 (loadL9 (txS bb))], by simp [hci], by omega, rfl, hS2.trans hS5, (fun h => (List.map_append (f := fun q : Rw => q.2.2) (l₁ := rs) (l₂ := [(A56, c56, loadL9 (txS bb))])).symm ▸ bat_s hT0 (by omega) hv1 h), (fun h => bat_r hT0 (by omega) (rRow_1 (tx_bad (or_t h rfl)))), (fun q hq => (List.mem_append.1 hq).elim (fun h => ⟨List.mem_append_left _ (hL q h).1, (hL q h).2⟩) (fun h => by rw [List.mem_singleton.1 h]; exact ⟨List.mem_append_right _ (List.Mem.head _), load9_wv _⟩)), rfl, rfl⟩⟩
                · (try replace hc7 := of_decide_eq_false hc7)
                  have hv1 : loadE9 (txS bb) = 0 := by omega
                  refine vc_eqv (Eqv.trans (Eqv.perm (Sub.perm (C := [DS A56 c56 (loadL9 (txS bb)), big L]) (by repeat constructor))) (eqv_big_push L (DS A56 c56 (loadL9 (txS bb))) _)) ?_
                  refine vc_skip ?_
                  refine vc_region ?_
                  refine vl_val rfl (.some rfl) (by first | exact val_fieldAddr Try.runUnderlying44 rfl Try.sizeOf41 rfl | exact val_fieldAddrR Try.runUnderlying44 rfl Try.sizeOf41 rfl) ?_
                  refine vl_val rfl (.some rfl) (val_load Try.isAgg41 rfl (by first | exact cell_cells (by repeat constructor) rfl | exact cell_rd (by first | exact rd_sl (by repeat constructor) | exact rd_old (by assumption) rfl) (by first | exact bcells_at (by omega) | exact ucells_at (by omega) | exact icells_at (by omega) | exact tcells_at (by omega) | exact bcells_get (by omega) | exact icells_get (by omega) | exact tcells_get (by omega) | exact ucells_get (by omega)) | exact cell_old (by assumption) (by simp [fps]))) ?_
                  refine vl_val rfl (.some rfl) (val_move rfl) ?_
                  refine vl_lit sT41 rfl rfl (.some rfl) rfl rfl rfl (by decide) (by decide) rfl (flat_one rfl) (fun r67 => ?_)
                  have hml : (batM b A7 c7 rs).rs.length = rs.length := rfl
                  refine vl_append (vs := rs.flatMap rowV) (us := rowV (A56, c56, loadL9 (txS bb))) sT41 rfl rfl (.some rfl) rfl rfl (rd_sl (by repeat constructor)) rfl rfl (by omega) (by omega) (by repeat constructor) (fun A68 k68 => ?_)
                  rw [show rs.flatMap rowV ++ rowV (A56, c56, loadL9 (txS bb)) = (rs ++ [(A56, c56, loadL9 (txS bb))]).flatMap rowV by simp, show rs.length + 1 = (rs ++ [(A56, c56, loadL9 (txS bb))]).length by simp]
                  refine vl_val rfl (.some rfl) (by first | exact val_fieldAddr Try.runUnderlying44 rfl Try.sizeOf41 rfl | exact val_fieldAddrR Try.runUnderlying44 rfl Try.sizeOf41 rfl) ?_
                  first | refine vl_store rfl rfl .none rfl rfl Try.sizeOf41 rfl (by repeat constructor) (by first | decide | exact Nat.le_refl _ | exact Nat.le_of_ble_eq_true rfl | (simp; omega)) ?_ | refine vl_storeSl rfl rfl .none rfl rfl Try.sizeOf41 rfl (by simp [Value.cells]) (by repeat constructor) (by first | decide | (simp [Value.cells]; omega)) ?_
                  refine vl_nil ?_
                  refine vc_region ?_
                  refine vl_val rfl (.some rfl) (val_move rfl) ?_
                  refine vl_val rfl (.some rfl) (val_add rfl rfl (by first | exact w_i64 (by omega) (by omega) | rfl)) ?_
                  refine vl_val rfl (.some rfl) (val_assign rfl) ?_
                  refine vl_nil ?_
                  first
                    | exact ⟨((cntU (txB (numB b))) - (i + 1)), _, _, _, by omega, (by repeat (first | exact trivial | refine ⟨rfl, ?_⟩ | refine ⟨le_item rfl (by first | rfl | (congr 1; omega) | (simp; done) | (simp; omega)), ?_⟩)), (by repeat constructor), ⟨i + 1, A5, c5, txB bb, _, rs ++ [(A56, c56, loadL9 (txS bb))], A68, k68, L ++ [DS A56 c56 (loadL9 (txS bb))], by simp [hci], by omega, rfl, hS2.trans hS5, (fun h => Bool.noConfusion h), (fun _ => bat_b hT0 (by omega) hv0), (fun q hq => (List.mem_append.1 hq).elim (fun h => ⟨List.mem_append_left _ (hL q h).1, (hL q h).2⟩) (fun h => by rw [List.mem_singleton.1 h]; exact ⟨List.mem_append_right _ (List.Mem.head _), load9_wv _⟩)), rfl, rfl⟩⟩
                    | exact ⟨((cntU (txB (numB b))) - (i + 1)), _, _, _, by omega, (by repeat (first | exact trivial | refine ⟨rfl, ?_⟩ | refine ⟨le_item rfl (by first | rfl | (congr 1; omega) | (simp; done) | (simp; omega)), ?_⟩)), (by repeat constructor), ⟨i + 1, A5, c5, txB bb, _, rs ++ [(A56, c56, loadL9 (txS bb))], A68, k68, L ++ [DS A56 c56 (loadL9 (txS bb))], by simp [hci], by omega, rfl, hS2.trans hS5, (fun h => (List.map_append (f := fun q : Rw => q.2.2) (l₁ := rs) (l₂ := [(A56, c56, loadL9 (txS bb))])).symm ▸ bat_s hT0 (by omega) hv1 h), (fun h => bat_r hT0 (by omega) (rRow_1 (tx_bad (or_t h rfl)))), (fun q hq => (List.mem_append.1 hq).elim (fun h => ⟨List.mem_append_left _ (hL q h).1, (hL q h).2⟩) (fun h => by rw [List.mem_singleton.1 h]; exact ⟨List.mem_append_right _ (List.Mem.head _), load9_wv _⟩)), rfl, rfl⟩⟩
              · (try replace hc6 := of_decide_eq_false hc6)
                obtain rfl : wr = true := by simpa using hc6
                refine vc_eqv (Eqv.trans (Eqv.perm (Sub.perm (C := [sl A7 rs.length c7 105 1 (rs.flatMap rowV), big L]) (by repeat constructor))) (eqv_big [sl A7 rs.length c7 105 1 (rs.flatMap rowV), big L] _).symm) ?_
                refine vc_exit ?_
                first
                  | exact ⟨_, _, _, (by repeat (first | exact trivial | refine ⟨rfl, ?_⟩ | refine ⟨le_item rfl (by first | rfl | (congr 1; omega) | (simp; done) | (simp; omega)), ?_⟩)), (by repeat constructor), ⟨tabM b A7 c7 cs, _, A2, c2, bb, _, hlb, (fun h => tab_e (hT h) hi2), hF, fun w hk => ⟨reads_chunkR hk (List.Mem.head _), (reads_nilR (by rfl)), (reads_nilR (by rfl)), (reads_nilR (by rfl)), fun q hq => by cases hq⟩, rfl, rfl⟩⟩
                  | exact ⟨_, _, _, (by repeat (first | exact trivial | refine ⟨rfl, ?_⟩ | refine ⟨le_item rfl (by first | rfl | (congr 1; omega) | (simp; done) | (simp; omega)), ?_⟩)), (by repeat constructor), ⟨tabM b A7 c7 cs, _, A2, c2, bb, _, hlb, (fun h => Bool.noConfusion h), hF, fun w hk => ⟨reads_chunkR hk (List.Mem.head _), (reads_nilR (by rfl)), (reads_nilR (by rfl)), (reads_nilR (by rfl)), fun q hq => by cases hq⟩, rfl, rfl⟩⟩
                  | exact ⟨_, _, _, (by repeat (first | exact trivial | refine ⟨rfl, ?_⟩ | refine ⟨le_item rfl (by first | rfl | (congr 1; omega) | (simp; done) | (simp; omega)), ?_⟩)), (by repeat constructor), ⟨rolM b A7 c7 ds A8 c8 ms, _, A2, c2, bb, _, hlb, (fun h => rolj_e (hT h) hi2), hF, fun w hk => ⟨(reads_nilR (by rfl)), reads_chunkR hk (List.Mem.head _), reads_chunkR hk (List.Mem.tail _ (List.Mem.head _)), (reads_nilR (by rfl)), fun q hq => by cases hq⟩, rfl, rfl⟩⟩
                  | exact ⟨_, _, _, (by repeat (first | exact trivial | refine ⟨rfl, ?_⟩ | refine ⟨le_item rfl (by first | rfl | (congr 1; omega) | (simp; done) | (simp; omega)), ?_⟩)), (by repeat constructor), ⟨rolM b A7 c7 ds A8 c8 ms, _, A2, c2, bb, _, hlb, (fun h => Bool.noConfusion h), hF, fun w hk => ⟨(reads_nilR (by rfl)), reads_chunkR hk (List.Mem.head _), reads_chunkR hk (List.Mem.tail _ (List.Mem.head _)), (reads_nilR (by rfl)), fun q hq => by cases hq⟩, rfl, rfl⟩⟩
                  | exact ⟨_, _, _, (by repeat (first | exact trivial | refine ⟨rfl, ?_⟩ | refine ⟨le_item rfl (by first | rfl | (congr 1; omega) | (simp; done) | (simp; omega)), ?_⟩)), (by repeat constructor), ⟨batM b A7 c7 rs, _, A2, c2, bb, _, hlb, (fun h => bat_e (hT h) hi2), hF, fun w hk => ⟨(reads_nilR (by rfl)), (reads_nilR (by rfl)), (reads_nilR (by rfl)), reads_chunkR hk (List.Mem.head _), fun q hq => ⟨reads_chunkR (hk (big L) (List.Mem.tail _ (List.Mem.head _))) (hL q hq).1, (hL q hq).2⟩⟩, rfl, rfl⟩⟩
                  | exact ⟨_, _, _, (by repeat (first | exact trivial | refine ⟨rfl, ?_⟩ | refine ⟨le_item rfl (by first | rfl | (congr 1; omega) | (simp; done) | (simp; omega)), ?_⟩)), (by repeat constructor), ⟨batM b A7 c7 rs, _, A2, c2, bb, _, hlb, (fun h => Bool.noConfusion h), hF, fun w hk => ⟨(reads_nilR (by rfl)), (reads_nilR (by rfl)), (reads_nilR (by rfl)), reads_chunkR hk (List.Mem.head _), fun q hq => ⟨reads_chunkR (hk (big L) (List.Mem.tail _ (List.Mem.head _))) (hL q hq).1, (hL q hq).2⟩⟩, rfl, rfl⟩⟩
            · (try replace hg43 := of_decide_eq_false hg43)
              refine vl_off rfl rfl rfl rfl (.some rfl) ?_
              refine vl_off rfl rfl rfl rfl (.some rfl) ?_
              refine vl_off rfl rfl rfl rfl (.some rfl) ?_
              refine vl_off rfl rfl rfl rfl (.some rfl) ?_
              refine vl_off rfl rfl rfl rfl (.some rfl) ?_
              refine vl_val rfl (.some rfl) (val_pick rfl rfl) ?_
              refine vl_nil ?_
              refine vc_cond rfl (fun h => by cases h) (fun _ => ?_)
              have hi2 : i = (cntU (txB (numB b))) := by omega
              refine vc_eqv (Eqv.trans (Eqv.perm (Sub.perm (C := [sl A7 rs.length c7 105 1 (rs.flatMap rowV), big L]) (by repeat constructor))) (eqv_big [sl A7 rs.length c7 105 1 (rs.flatMap rowV), big L] _).symm) ?_
              refine vc_exit ?_
              first
                | exact ⟨_, _, _, (by repeat (first | exact trivial | refine ⟨rfl, ?_⟩ | refine ⟨le_item rfl (by first | rfl | (congr 1; omega) | (simp; done) | (simp; omega)), ?_⟩)), (by repeat constructor), ⟨tabM b A7 c7 cs, _, A2, c2, bb, _, hlb, (fun h => tab_e (hT h) hi2), hF, fun w hk => ⟨reads_chunkR hk (List.Mem.head _), (reads_nilR (by rfl)), (reads_nilR (by rfl)), (reads_nilR (by rfl)), fun q hq => by cases hq⟩, rfl, rfl⟩⟩
                | exact ⟨_, _, _, (by repeat (first | exact trivial | refine ⟨rfl, ?_⟩ | refine ⟨le_item rfl (by first | rfl | (congr 1; omega) | (simp; done) | (simp; omega)), ?_⟩)), (by repeat constructor), ⟨tabM b A7 c7 cs, _, A2, c2, bb, _, hlb, (fun h => Bool.noConfusion h), hF, fun w hk => ⟨reads_chunkR hk (List.Mem.head _), (reads_nilR (by rfl)), (reads_nilR (by rfl)), (reads_nilR (by rfl)), fun q hq => by cases hq⟩, rfl, rfl⟩⟩
                | exact ⟨_, _, _, (by repeat (first | exact trivial | refine ⟨rfl, ?_⟩ | refine ⟨le_item rfl (by first | rfl | (congr 1; omega) | (simp; done) | (simp; omega)), ?_⟩)), (by repeat constructor), ⟨rolM b A7 c7 ds A8 c8 ms, _, A2, c2, bb, _, hlb, (fun h => rolj_e (hT h) hi2), hF, fun w hk => ⟨(reads_nilR (by rfl)), reads_chunkR hk (List.Mem.head _), reads_chunkR hk (List.Mem.tail _ (List.Mem.head _)), (reads_nilR (by rfl)), fun q hq => by cases hq⟩, rfl, rfl⟩⟩
                | exact ⟨_, _, _, (by repeat (first | exact trivial | refine ⟨rfl, ?_⟩ | refine ⟨le_item rfl (by first | rfl | (congr 1; omega) | (simp; done) | (simp; omega)), ?_⟩)), (by repeat constructor), ⟨rolM b A7 c7 ds A8 c8 ms, _, A2, c2, bb, _, hlb, (fun h => Bool.noConfusion h), hF, fun w hk => ⟨(reads_nilR (by rfl)), reads_chunkR hk (List.Mem.head _), reads_chunkR hk (List.Mem.tail _ (List.Mem.head _)), (reads_nilR (by rfl)), fun q hq => by cases hq⟩, rfl, rfl⟩⟩
                | exact ⟨_, _, _, (by repeat (first | exact trivial | refine ⟨rfl, ?_⟩ | refine ⟨le_item rfl (by first | rfl | (congr 1; omega) | (simp; done) | (simp; omega)), ?_⟩)), (by repeat constructor), ⟨batM b A7 c7 rs, _, A2, c2, bb, _, hlb, (fun h => bat_e (hT h) hi2), hF, fun w hk => ⟨(reads_nilR (by rfl)), (reads_nilR (by rfl)), (reads_nilR (by rfl)), reads_chunkR hk (List.Mem.head _), fun q hq => ⟨reads_chunkR (hk (big L) (List.Mem.tail _ (List.Mem.head _))) (hL q hq).1, (hL q hq).2⟩⟩, rfl, rfl⟩⟩
                | exact ⟨_, _, _, (by repeat (first | exact trivial | refine ⟨rfl, ?_⟩ | refine ⟨le_item rfl (by first | rfl | (congr 1; omega) | (simp; done) | (simp; omega)), ?_⟩)), (by repeat constructor), ⟨batM b A7 c7 rs, _, A2, c2, bb, _, hlb, (fun h => Bool.noConfusion h), hF, fun w hk => ⟨(reads_nilR (by rfl)), (reads_nilR (by rfl)), (reads_nilR (by rfl)), reads_chunkR hk (List.Mem.head _), fun q hq => ⟨reads_chunkR (hk (big L) (List.Mem.tail _ (List.Mem.head _))) (hL q hq).1, (hL q hq).2⟩⟩, rfl, rfl⟩⟩
      · obtain ⟨E0, H0, F, hE0, hH0, hJ⟩ := h
        obtain ⟨m, wr, A2, c2, bb, L, hbl, hT, hF, hD, rfl, rfl⟩ := hJ
        refine vc_weak hE0 hH0 ?_
        refine vc_seq ?_
        refine vc_seq ?_
        refine vc_region ?_
        refine vl_val rfl (.some rfl) (val_move rfl) ?_
        refine vl_val rfl (.some rfl) (val_nil rfl rfl) ?_
        refine vl_val rfl (.some rfl) (by first | exact val_fieldAddr Try.runUnderlying123 rfl Try.sizeOf4 rfl | exact val_fieldAddrR Try.runUnderlying123 rfl Try.sizeOf4 rfl) ?_
        refine vl_val rfl (.some rfl) (val_load Try.isAgg4 rfl (by first | exact cell_cells (by repeat constructor) rfl | exact cell_rd (by first | exact rd_sl (by repeat constructor) | exact rd_old (by assumption) rfl) (by first | exact bcells_at (by omega) | exact ucells_at (by omega) | exact icells_at (by omega) | exact tcells_at (by omega) | exact bcells_get (by omega) | exact icells_get (by omega) | exact tcells_get (by omega) | exact ucells_get (by omega)) | exact cell_old (by assumption) (by simp [fps]))) ?_
        refine vl_val rfl (.some rfl) (val_move rfl) ?_
        refine vl_split (t := 169) rfl (fun hg169 => ?_) (fun hg169 => ?_)
        · (try replace hg169 := of_decide_eq_true hg169)
          refine vl_off rfl rfl rfl rfl (.some rfl) ?_
          refine vl_off rfl rfl rfl rfl (.some rfl) ?_
          refine vl_off rfl rfl rfl rfl (.some rfl) ?_
          refine vl_off rfl rfl rfl rfl (.some rfl) ?_
          refine vl_off rfl rfl rfl rfl (.some rfl) ?_
          refine vl_off rfl rfl rfl rfl (.some rfl) ?_
          refine vl_val rfl (.some rfl) (val_pick rfl rfl) ?_
          refine vl_val rfl (.some rfl) (val_move rfl) ?_
          refine vl_off rfl rfl rfl rfl (.some rfl) ?_
          refine vl_off rfl rfl rfl rfl (.some rfl) ?_
          refine vl_off rfl rfl rfl rfl (.some rfl) ?_
          refine vl_val rfl (.some rfl) (val_pick rfl rfl) ?_
          refine vl_val rfl (.some rfl) (val_move rfl) ?_
          refine vl_off rfl rfl rfl rfl (.some rfl) ?_
          refine vl_off rfl rfl rfl rfl (.some rfl) ?_
          refine vl_off rfl rfl rfl rfl (.some rfl) ?_
          refine vl_val rfl (.some rfl) (val_pick rfl rfl) ?_
          refine vl_nil ?_
          refine vc_cond rfl (fun _ => ?_) (fun h => by cases h)
          refine vc_seq ?_
          refine vc_region ?_
          refine vl_val rfl (.some rfl) (val_buildSt (pl := #[(0, 1), (1, 2), (3, 4), (7, 1), (8, 1)]) (cs := (recC rec0M).toArray) Try.runUnderlying44 Try.zeroValue44 (fun w => by kernel_rfl) rfl (by kernel_rfl)) ?_
          first | refine vl_store rfl rfl .none rfl rfl Try.sizeOf44 rfl (by repeat constructor) (by first | decide | exact Nat.le_refl _ | exact Nat.le_of_ble_eq_true rfl | (simp; omega)) ?_ | refine vl_storeSl rfl rfl .none rfl rfl Try.sizeOf44 rfl (by simp [Value.cells]) (by repeat constructor) (by first | decide | (simp [Value.cells]; omega)) ?_
          refine vl_val rfl (.some rfl) (val_assign rfl) ?_
          refine vl_nil ?_
          refine vc_ret ?_
          refine ⟨_, [], _, resC2 Try.results26 rfl (whole_agg Try.isAgg44 Try.sizeOf44 (cells_whole (by repeat constructor)) rfl) rfl, (by repeat constructor), ?_⟩
          obtain ⟨e1, e2⟩ := ld_none (b := b) (by
            rcases hwr : wr with _ | _
            · obtain ⟨hn, hp⟩ := hT hwr
              rw [loadRec_3 (num_ok hn) hp]
              exact if_neg (fun hh => by
                obtain ⟨h7, h8, h9⟩ := hh
                first
                | omega
                | exact absurd (hg169.symm.trans hwr) (by decide)
                | (simp [h8] at hg182))
            · exact hF hwr)
          exact ⟨rec0M, [], by rw [e2]; rfl, e1.symm, recD_0, rfl⟩
        · (try replace hg169 := of_decide_eq_false hg169)
          refine vl_on rfl rfl rfl rfl ?_
          refine vl_val rfl (.some rfl) (val_move rfl) ?_
          refine vl_on rfl rfl rfl rfl ?_
          refine vl_val rfl (.some rfl) (val_nil rfl rfl) ?_
          refine vl_on rfl rfl rfl rfl ?_
          refine vl_val rfl (.some rfl) (by first | exact val_fieldAddr Try.runUnderlying123 rfl Try.sizeOf22 rfl | exact val_fieldAddrR Try.runUnderlying123 rfl Try.sizeOf22 rfl) ?_
          refine vl_on rfl rfl rfl rfl ?_
          refine vl_val rfl (.some rfl) (val_load Try.isAgg22 rfl (by first | exact cell_cells (by repeat constructor) rfl | exact cell_rd (by first | exact rd_sl (by repeat constructor) | exact rd_old (by assumption) rfl) (by first | exact bcells_at (by omega) | exact ucells_at (by omega) | exact icells_at (by omega) | exact tcells_at (by omega) | exact bcells_get (by omega) | exact icells_get (by omega) | exact tcells_get (by omega) | exact ucells_get (by omega)) | exact cell_old (by assumption) (by simp [fps]))) ?_
          refine vl_on rfl rfl rfl rfl ?_
          refine vl_val rfl (.some rfl) (val_lenSl Try.runUnderlying22 rfl) ?_
          refine vl_on rfl rfl rfl rfl ?_
          refine vl_val rfl (.some rfl) (val_gt rfl rfl) ?_
          refine vl_val rfl (.some rfl) (val_pick rfl rfl) ?_
          refine vl_val rfl (.some rfl) (val_move rfl) ?_
          refine vl_split (t := 177) rfl (fun hg177 => ?_) (fun hg177 => ?_)
          · (try replace hg177 := of_decide_eq_true hg177)
            refine vl_off rfl rfl rfl rfl (.some rfl) ?_
            refine vl_off rfl rfl rfl rfl (.some rfl) ?_
            refine vl_off rfl rfl rfl rfl (.some rfl) ?_
            refine vl_val rfl (.some rfl) (val_pick rfl rfl) ?_
            refine vl_val rfl (.some rfl) (val_move rfl) ?_
            refine vl_off rfl rfl rfl rfl (.some rfl) ?_
            refine vl_off rfl rfl rfl rfl (.some rfl) ?_
            refine vl_off rfl rfl rfl rfl (.some rfl) ?_
            refine vl_val rfl (.some rfl) (val_pick rfl rfl) ?_
            refine vl_nil ?_
            refine vc_cond rfl (fun _ => ?_) (fun h => by cases h)
            refine vc_seq ?_
            refine vc_region ?_
            refine vl_val rfl (.some rfl) (val_buildSt (pl := #[(0, 1), (1, 2), (3, 4), (7, 1), (8, 1)]) (cs := (recC rec0M).toArray) Try.runUnderlying44 Try.zeroValue44 (fun w => by kernel_rfl) rfl (by kernel_rfl)) ?_
            first | refine vl_store rfl rfl .none rfl rfl Try.sizeOf44 rfl (by repeat constructor) (by first | decide | exact Nat.le_refl _ | exact Nat.le_of_ble_eq_true rfl | (simp; omega)) ?_ | refine vl_storeSl rfl rfl .none rfl rfl Try.sizeOf44 rfl (by simp [Value.cells]) (by repeat constructor) (by first | decide | (simp [Value.cells]; omega)) ?_
            refine vl_val rfl (.some rfl) (val_assign rfl) ?_
            refine vl_nil ?_
            refine vc_ret ?_
            refine ⟨_, [], _, resC2 Try.results26 rfl (whole_agg Try.isAgg44 Try.sizeOf44 (cells_whole (by repeat constructor)) rfl) rfl, (by repeat constructor), ?_⟩
            obtain ⟨e1, e2⟩ := ld_none (b := b) (by
              rcases hwr : wr with _ | _
              · obtain ⟨hn, hp⟩ := hT hwr
                rw [loadRec_3 (num_ok hn) hp]
                exact if_neg (fun hh => by
                  obtain ⟨h7, h8, h9⟩ := hh
                  first
                  | omega
                  | exact absurd (hg169.symm.trans hwr) (by decide)
                  | (simp [h8] at hg182))
              · exact hF hwr)
            exact ⟨rec0M, [], by rw [e2]; rfl, e1.symm, recD_0, rfl⟩
          · (try replace hg177 := of_decide_eq_false hg177)
            refine vl_on rfl rfl rfl rfl ?_
            refine vl_val rfl (.some rfl) (val_loadAgg Try.isAgg44 Try.sizeOf44 rfl (by first | exact cells_whole (by repeat constructor) | exact cells_part (by repeat constructor) rfl) rfl) ?_
            refine vl_on rfl rfl rfl rfl ?_
            obtain ⟨hn, hp⟩ := hT (by simpa using hg169)
            obtain ⟨_, _, hpl, _⟩ := part_is hp
            refine vl_callV rfl rfl (.some rfl) Try.call28 rfl (fun w' hw => rGoodR m (PL.recL hpl (by omega)) w' (hD w' (hw.chunk (big L) (In.mem (by repeat constructor))))) ?_
            refine vl_on rfl rfl rfl rfl ?_
            refine vl_val rfl (.some rfl) (val_not rfl) ?_
            refine vl_val rfl (.some rfl) (val_pick rfl rfl) ?_
            refine vl_val rfl (.some rfl) (val_move rfl) ?_
            refine vl_split (t := 182) rfl (fun hg182 => ?_) (fun hg182 => ?_)
            · (try replace hg182 := of_decide_eq_true hg182)
              refine vl_off rfl rfl rfl rfl (.some rfl) ?_
              refine vl_off rfl rfl rfl rfl (.some rfl) ?_
              refine vl_off rfl rfl rfl rfl (.some rfl) ?_
              refine vl_val rfl (.some rfl) (val_pick rfl rfl) ?_
              refine vl_nil ?_
              refine vc_cond rfl (fun _ => ?_) (fun h => by cases h)
              refine vc_seq ?_
              refine vc_region ?_
              refine vl_val rfl (.some rfl) (val_buildSt (pl := #[(0, 1), (1, 2), (3, 4), (7, 1), (8, 1)]) (cs := (recC rec0M).toArray) Try.runUnderlying44 Try.zeroValue44 (fun w => by kernel_rfl) rfl (by kernel_rfl)) ?_
              first | refine vl_store rfl rfl .none rfl rfl Try.sizeOf44 rfl (by repeat constructor) (by first | decide | exact Nat.le_refl _ | exact Nat.le_of_ble_eq_true rfl | (simp; omega)) ?_ | refine vl_storeSl rfl rfl .none rfl rfl Try.sizeOf44 rfl (by simp [Value.cells]) (by repeat constructor) (by first | decide | (simp [Value.cells]; omega)) ?_
              refine vl_val rfl (.some rfl) (val_assign rfl) ?_
              refine vl_nil ?_
              refine vc_ret ?_
              refine ⟨_, [], _, resC2 Try.results26 rfl (whole_agg Try.isAgg44 Try.sizeOf44 (cells_whole (by repeat constructor)) rfl) rfl, (by repeat constructor), ?_⟩
              obtain ⟨e1, e2⟩ := ld_none (b := b) (by
                rcases hwr : wr with _ | _
                · obtain ⟨hn, hp⟩ := hT hwr
                  rw [loadRec_3 (num_ok hn) hp]
                  exact if_neg (fun hh => by
                    obtain ⟨h7, h8, h9⟩ := hh
                    first
                    | omega
                    | exact absurd (hg169.symm.trans hwr) (by decide)
                    | (simp [h8] at hg182))
                · exact hF hwr)
              exact ⟨rec0M, [], by rw [e2]; rfl, e1.symm, recD_0, rfl⟩
            · (try replace hg182 := of_decide_eq_false hg182)
              refine vl_on rfl rfl rfl rfl ?_
              refine vl_val rfl (.some rfl) (val_move rfl) ?_
              refine vl_on rfl rfl rfl rfl ?_
              refine vl_val rfl (.some rfl) (val_lenSl Try.runUnderlying22 rfl) ?_
              refine vl_on rfl rfl rfl rfl ?_
              refine vl_val rfl (.some rfl) (val_gt rfl rfl) ?_
              refine vl_val rfl (.some rfl) (val_pick rfl rfl) ?_
              refine vl_nil ?_
              refine vc_cond rfl (fun hc8 => ?_) (fun hc8 => ?_)
              · (try replace hc8 := of_decide_eq_true hc8)
                refine vc_seq ?_
                refine vc_region ?_
                refine vl_val rfl (.some rfl) (val_buildSt (pl := #[(0, 1), (1, 2), (3, 4), (7, 1), (8, 1)]) (cs := (recC rec0M).toArray) Try.runUnderlying44 Try.zeroValue44 (fun w => by kernel_rfl) rfl (by kernel_rfl)) ?_
                first | refine vl_store rfl rfl .none rfl rfl Try.sizeOf44 rfl (by repeat constructor) (by first | decide | exact Nat.le_refl _ | exact Nat.le_of_ble_eq_true rfl | (simp; omega)) ?_ | refine vl_storeSl rfl rfl .none rfl rfl Try.sizeOf44 rfl (by simp [Value.cells]) (by repeat constructor) (by first | decide | (simp [Value.cells]; omega)) ?_
                refine vl_val rfl (.some rfl) (val_assign rfl) ?_
                refine vl_nil ?_
                refine vc_ret ?_
                refine ⟨_, [], _, resC2 Try.results26 rfl (whole_agg Try.isAgg44 Try.sizeOf44 (cells_whole (by repeat constructor)) rfl) rfl, (by repeat constructor), ?_⟩
                obtain ⟨e1, e2⟩ := ld_none (b := b) (by
                  rcases hwr : wr with _ | _
                  · obtain ⟨hn, hp⟩ := hT hwr
                    rw [loadRec_3 (num_ok hn) hp]
                    exact if_neg (fun hh => by
                      obtain ⟨h7, h8, h9⟩ := hh
                      first
                      | omega
                      | exact absurd (hg169.symm.trans hwr) (by decide)
                      | (simp [h8] at hg182))
                  · exact hF hwr)
                exact ⟨rec0M, [], by rw [e2]; rfl, e1.symm, recD_0, rfl⟩
              · (try replace hc8 := of_decide_eq_false hc8)
                refine vc_skip ?_
                refine vc_seq ?_
                refine vc_region ?_
                refine vl_val rfl (.some rfl) (val_loadAgg Try.isAgg44 Try.sizeOf44 rfl (by first | exact cells_whole (by repeat constructor) | exact cells_part (by repeat constructor) rfl) rfl) ?_
                first | refine vl_store rfl rfl .none rfl rfl Try.sizeOf44 rfl (by repeat constructor) (by first | decide | exact Nat.le_refl _ | exact Nat.le_of_ble_eq_true rfl | (simp; omega)) ?_ | refine vl_storeSl rfl rfl .none rfl rfl Try.sizeOf44 rfl (by simp [Value.cells]) (by repeat constructor) (by first | decide | (simp [Value.cells]; omega)) ?_
                refine vl_val rfl (.some rfl) (val_assign rfl) ?_
                refine vl_nil ?_
                refine vc_ret ?_
                refine ⟨_, [big L], _, resC2 Try.results26 rfl (whole_agg Try.isAgg44 Try.sizeOf44 (cells_whole (by repeat constructor)) rfl) rfl, (by repeat constructor), ?_⟩
                obtain ⟨hn, hp⟩ := hT (by simpa using hg169)
                obtain ⟨e1, e2⟩ := ld_some (b := b) (x := recOf m) (by
                  rw [loadRec_3 (num_ok hn) hp]
                  exact if_pos ⟨by omega, by simpa using hg182, by omega⟩)
                exact ⟨m, [big L], by rw [e2]; rfl, e1.symm, recD_big hD, rfl⟩




/-! What is read was written so. -/
theorem rNum_inv {b : Tx} {p : Nat × Tx} (h : rNum b = some p) : p.1 < 18446744073709551616 ∧ b = putN p.1 ++ p.2 := by
  refine ⟨(rNum_is h).1, ?_⟩
  unfold rNum at h
  split at h
  · cases h
  · rename_i h0
    cases h
    exact put_get h0
theorem rCnt_inv {b : Tx} {p : Nat × Tx} (h : rCnt b = some p) : p.1 < 18446744073709551616 ∧ p.1 ≤ p.2.length ∧ b = putN p.1 ++ p.2 := by
  unfold rCnt at h
  cases h1 : rNum b with
  | none => rw [h1] at h; cases h
  | some q =>
    rw [h1] at h
    have h : (if q.2.length < q.1 then none else some q) = some p := h
    split at h
    · cases h
    · cases h
      exact ⟨(rNum_inv h1).1, by omega, (rNum_inv h1).2⟩
theorem rTx_inv {b : Tx} {p : Tx × Tx} (h : rTx b = some p) : b = putTx p.1 ++ p.2 := by
  unfold rTx at h
  cases h1 : rCnt b with
  | none => rw [h1] at h; cases h
  | some q =>
    rw [h1] at h
    cases h
    obtain ⟨_, h2, h3⟩ := rCnt_inv h1
    show b = (putN (q.2.take q.1).length ++ q.2.take q.1) ++ q.2.drop q.1
    rw [List.length_take, Nat.min_eq_left h2, List.append_assoc, List.take_append_drop]
    exact h3
theorem u64_i64 {u : Nat} (h : u < 18446744073709551616) : u64N (i64N u) = u := by
  unfold u64N i64N; split <;> omega
theorem rCol_inv (b : Tx) (x : Cq) (b2 : Tx) (h : rCol b = some (x, b2)) : b = putCq x ++ b2 := by
  unfold rCol at h
  cases h1 : rTx b with
  | none => rw [h1] at h; cases h
  | some p =>
    rw [h1] at h
    have h : (rNum p.2).map (fun q => ((p.1, i64N q.1), q.2)) = some (x, b2) := h
    cases h2 : rNum p.2 with
    | none => rw [h2] at h; cases h
    | some q =>
      rw [h2] at h
      cases h
      obtain ⟨g1, g2⟩ := rNum_inv h2
      show b = (putTx p.1 ++ putN (u64N (i64N q.1))) ++ q.2
      rw [u64_i64 g1, List.append_assoc, ← g2]
      exact rTx_inv h1
theorem rMea_inv (b : Tx) (x : Mq) (b2 : Tx) (h : rMea b = some (x, b2)) : b = putMq x ++ b2 := by
  unfold rMea at h
  cases h1 : rNum b with
  | none => rw [h1] at h; cases h
  | some p =>
    rw [h1] at h
    have h : (rTx p.2).map (fun q => ((i64N p.1, q.1), q.2)) = some (x, b2) := h
    cases h2 : rTx p.2 with
    | none => rw [h2] at h; cases h
    | some q =>
      rw [h2] at h
      cases h
      obtain ⟨g1, g2⟩ := rNum_inv h1
      show b = (putN (u64N (i64N p.1)) ++ putTx q.1) ++ q.2
      rw [u64_i64 g1, List.append_assoc, ← rTx_inv h2]
      exact g2
theorem many_inv : ∀ (q c : Nat) (b : Tx) (l : List Vk), manyV q c b = some l → b = l.flatMap putV ∧ l.length = c ∧ ∀ v ∈ l, goodV v = true := by
  intro q
  induction q with
  | zero =>
    intro c b l h
    cases c with
    | zero =>
      unfold manyV at h
      split at h
      · rename_i h0
        cases h
        exact ⟨List.length_eq_zero_iff.1 h0, rfl, by simp⟩
      · cases h
    | succ c => cases h
  | succ q ih =>
    intro c b l h
    cases c with
    | zero =>
      unfold manyV at h
      split at h
      · rename_i h0
        cases h
        exact ⟨List.length_eq_zero_iff.1 h0, rfl, by simp⟩
      · cases h
    | succ c =>
      have h : (match oneV b with | none => none | some (v, r) => (manyV q c r).map (v :: ·)) = some l := h
      cases h1 : oneV b with
      | none => rw [h1] at h; cases h
      | some p =>
        obtain ⟨v, r⟩ := p
        rw [h1] at h
        have h : (manyV q c r).map (v :: ·) = some l := h
        cases h2 : manyV q c r with
        | none => rw [h2] at h; cases h
        | some l2 =>
          rw [h2] at h
          cases h
          obtain ⟨_, g1, g2⟩ := one_is h1
          obtain ⟨i1, i2, i3⟩ := ih c r l2 h2
          refine ⟨by rw [List.flatMap_cons, ← i1]; exact g2, by simp [i2], fun u hu => ?_⟩
          rcases List.mem_cons.1 hu with rfl | hu
          · exact g1
          · exact i3 u hu
theorem load_inv {b : Tx} {l : List Vk} (h : loadV b = some l) : encV l = b := by
  unfold loadV at h
  split at h
  · cases h
  · rename_i h0
    obtain ⟨h1, h2, h3⟩ := many_inv _ _ _ _ h
    rw [enc_clean h3, ← h1, h2]
    exact (put_get h0).symm
theorem rRow_inv (b : Tx) (x : List Vk) (b2 : Tx) (h : rRow b = some (x, b2)) : b = putTx (encV x) ++ b2 := by
  unfold rRow at h
  cases h1 : rTx b with
  | none => rw [h1] at h; cases h
  | some p =>
    rw [h1] at h
    have h : (loadV p.1).map (fun l => (l, p.2)) = some (x, b2) := h
    cases h2 : loadV p.1 with
    | none => rw [h2] at h; cases h
    | some l =>
      rw [h2] at h
      cases h
      rw [load_inv h2]
      exact rTx_inv h1
theorem rMany_inv {α : Type} {f : Tx → Option (α × Tx)} {p : α → Tx} (hf : ∀ b x b2, f b = some (x, b2) → b = p x ++ b2) : ∀ (n : Nat) (b : Tx) (l : List α) (b2 : Tx), rMany f n b = some (l, b2) → b = l.flatMap p ++ b2 ∧ l.length = n
  | 0, b, l, b2, h => by cases h; exact ⟨rfl, rfl⟩
  | n + 1, b, l, b2, h => by
    have h : ((f b).bind fun p => (rMany f n p.2).map fun q => (p.1 :: q.1, q.2)) = some (l, b2) := h
    cases h1 : f b with
    | none => rw [h1] at h; cases h
    | some p =>
      rw [h1] at h
      have h : (rMany f n p.2).map (fun q => (p.1 :: q.1, q.2)) = some (l, b2) := h
      cases h2 : rMany f n p.2 with
      | none => rw [h2] at h; cases h
      | some q =>
        rw [h2] at h
        cases h
        obtain ⟨i1, i2⟩ := rMany_inv hf n p.2 q.1 q.2 h2
        refine ⟨?_, by simp [i2]⟩
        rw [List.flatMap_cons, List.append_assoc, ← i1]
        exact hf b p.1 p.2 h1
theorem rPart_inv {k : Nat} {b : Tx} {x : Rec} {b2 : Tx} (h : rPart k b = some (x, b2)) : x.k.toNat = k ∧ b = partB x ++ b2 := by
  by_cases k1 : k = 1
  · subst k1
    cases h1 : rTx b with
    | none => rw [ptab1 h1] at h; cases h
    | some p =>
      cases h2 : rCnt p.2 with
      | none => rw [ptab2 h1 h2] at h; cases h
      | some q =>
        rw [ptab h1 h2] at h
        cases h3 : rMany rCol q.1 q.2 with
        | none => rw [h3] at h; cases h
        | some s =>
          rw [h3] at h
          cases h
          obtain ⟨i1, i2⟩ := rMany_inv rCol_inv _ _ _ _ h3
          refine ⟨rfl, ?_⟩
          show b = (putTx p.1 ++ putN s.1.length ++ s.1.flatMap putCq) ++ s.2
          rw [i2, List.append_assoc, List.append_assoc, ← i1, ← (rCnt_inv h2).2.2]
          exact rTx_inv h1
  · by_cases k2 : k = 2
    · subst k2
      cases h1 : rTx b with
      | none => rw [prol1 h1] at h; cases h
      | some p =>
        cases h2 : rTx p.2 with
        | none => rw [prol2 h1 h2] at h; cases h
        | some q =>
          cases h3 : rCnt q.2 with
          | none => rw [prol3 h1 h2 h3] at h; cases h
          | some c =>
            cases h4 : rMany rTx c.1 c.2 with
            | none => rw [prol4 h1 h2 h3 h4] at h; cases h
            | some d =>
              rw [prol5 h1 h2 h3 (ds := d.1) (b4 := d.2) h4] at h
              cases h5 : rCnt d.2 with
              | none => rw [h5] at h; cases h
              | some e =>
                rw [h5] at h
                have h : (rMany rMea e.1 e.2).map (fun m => ((⟨2, t0, ⟨p.1, q.1, d.1, m.1⟩, [], []⟩ : Rec), m.2)) = some (x, b2) := h
                cases h6 : rMany rMea e.1 e.2 with
                | none => rw [h6] at h; cases h
                | some m =>
                  rw [h6] at h
                  cases h
                  obtain ⟨i1, i2⟩ := rMany_inv (p := putTx) (fun b x b2 h => rTx_inv h) _ _ _ _ h4
                  obtain ⟨j1, j2⟩ := rMany_inv rMea_inv _ _ _ _ h6
                  refine ⟨rfl, ?_⟩
                  show b = (putTx p.1 ++ putTx q.1 ++ putN d.1.length ++ d.1.flatMap putTx ++ putN m.1.length ++ m.1.flatMap putMq) ++ m.2
                  simp only [List.append_assoc]
                  rw [i2, j2, ← j1, ← (rCnt_inv h5).2.2, ← i1, ← (rCnt_inv h3).2.2, ← rTx_inv h2]
                  exact rTx_inv h1
    · by_cases k3 : k = 3
      · subst k3
        cases h1 : rTx b with
        | none => rw [pbat1 h1] at h; cases h
        | some p =>
          cases h2 : rCnt p.2 with
          | none => rw [pbat2 h1 h2] at h; cases h
          | some q =>
            rw [pbat h1 h2] at h
            cases h3 : rMany rRow q.1 q.2 with
            | none => rw [h3] at h; cases h
            | some s =>
              rw [h3] at h
              cases h
              obtain ⟨i1, i2⟩ := rMany_inv (p := fun r => putTx (encV r)) rRow_inv _ _ _ _ h3
              refine ⟨rfl, ?_⟩
              show b = (putTx p.1 ++ putN s.1.length ++ s.1.flatMap fun r => putTx (encV r)) ++ s.2
              rw [i2, List.append_assoc, List.append_assoc, ← i1, ← (rCnt_inv h2).2.2]
              exact rTx_inv h1
      · rw [pno k1 k2 k3] at h; cases h
theorem rec_inv {b : Tx} {x : Rec} (h : loadRec b = some x) : recB x = b := by
  cases h1 : rNum b with
  | none => rw [loadRec_1 h1] at h; cases h
  | some p =>
    cases h2 : rPart p.1 p.2 with
    | none => rw [loadRec_2 h1 h2] at h; cases h
    | some q =>
      obtain ⟨y, b2⟩ := q
      rw [loadRec_3 h1 h2] at h
      split at h
      · rename_i hh
        cases h
        obtain ⟨i1, i2⟩ := rPart_inv h2
        have hb2 : b2 = [] := List.length_eq_zero_iff.1 hh.1
        rw [hb2, List.append_nil] at i2
        unfold recB
        rw [i1, ← i2]
        exact (rNum_inv h1).2.symm
      · cases h
end Go.Proofs.Ytclnhfdgiaamhaa.K
