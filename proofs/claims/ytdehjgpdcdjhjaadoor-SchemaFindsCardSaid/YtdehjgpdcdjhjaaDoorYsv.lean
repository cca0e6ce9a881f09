/- Walks of the program's functions, printed by a program of this session; Lean checks them. -/
import Derived.Test.YtdehjgpdcdjhjaaDoorYsr
namespace Go.Proofs.YtdehjgpdcdjhjaaDoor.K
open Go Go.RowKit Go.Proofs
set_option linter.unusedVariables false
set_option linter.unusedSimpArgs false


set_option maxRecDepth 20000 in
set_option maxHeartbeats 2000000 in
theorem xFinds (A : Option Addr) (n c : Nat) (l : List Tq) (hn : l.length = n) (hn2 : n < 9223372036854775808) (s : ByteArray) (rn rt : ByteArray) (Ad : Option Addr) (nd cd : Nat) (Am : Option Addr) (nm cm : Nat) (ms : List Mq) (hnm : ms.length = nm) (hmb : nm < 9223372036854775808) (v : Mq) (w : World) (hr : Reads w A (l.flatMap tabV)) (hrm : Reads w Am (ms.flatMap meaV)) : FnV Tryd.prog 7 [.slice A n c, .string s, .agg #[.string rn, .string rt, .slice Ad nd cd, .slice Am nm cm, .int .i64 v.1, .string (sL v.2)]] (.bool true) w := by
  obtain ⟨qs, qa, qn, qc, qb, hq⟩ : ∃ qs qa qn qc qb, findR l s = .tuple #[.agg #[.string qs, .slice qa qn qc], .bool qb] := ⟨_, _, _, _, _, rfl⟩
  refine fn_enter Tryd.func7 rfl Tryd.ntmps7 rfl ?_
  refine vc_seq ?_
  refine vc_region ?_
  refine vl_box rfl rfl (.some rfl) rfl (fun r5 => ?_)
  refine vl_val rfl (.some rfl) (val_assign rfl) ?_
  refine vl_nil ?_
  refine vc_seq ?_
  refine vc_region ?_
  refine vl_val rfl (.some rfl) (val_move rfl) ?_
  refine vl_val rfl (.some rfl) (val_move rfl) ?_
  refine vl_callV (v := .tuple #[.agg #[.string qs, .slice qa qn qc], .bool qb]) rfl rfl (.some rfl) Tryd.call19 rfl (fun w hw => by rw [← hq]; exact xFindT A n c l hn hn2 s w (rdw (rd_old hr rfl) hw)) ?_
  refine vl_val rfl (.some rfl) (val_move rfl) ?_
  refine vl_val rfl (.some rfl) (val_extract rfl rfl) ?_
  refine vl_val rfl (.some rfl) (val_extract rfl rfl) ?_
  refine vl_alloc rfl rfl (.some rfl) Tryd.zeroValue26 (fun r7 => ?_)
  first | refine vl_store rfl rfl .none rfl rfl Tryd.sizeOf26 rfl (by repeat (first | exact .head | apply In.tail | apply Take.tail | apply Upd.tail)) (by first | decide | exact Nat.le_refl _ | exact Nat.le_of_ble_eq_true rfl | (simp; omega)) ?_ | refine vl_storeSl rfl rfl .none rfl rfl Tryd.sizeOf26 rfl (by simp [Value.cells]) (by repeat (first | exact .head | apply In.tail | apply Take.tail | apply Upd.tail)) (by first | decide | (simp [Value.cells]; omega)) ?_
  refine vl_val rfl (.some rfl) (val_assign rfl) ?_
  refine vl_nil ?_
  refine vc_seq ?_
  refine vc_region ?_
  refine vl_val rfl (.some rfl) (val_move rfl) ?_
  refine vl_val rfl (.some rfl) (val_move rfl) ?_
  refine vl_callV (v := .tuple #[.agg #[.string qs, .slice qa qn qc], .bool qb]) rfl rfl (.some rfl) Tryd.call20 rfl (fun w hw => by rw [← hq]; exact rFindT A n c l hn hn2 s w (rdw (rd_old hr rfl) hw)) ?_
  refine vl_val rfl (.some rfl) (val_move rfl) ?_
  refine vl_val rfl (.some rfl) (val_extract rfl rfl) ?_
  refine vl_val rfl (.some rfl) (val_extract rfl rfl) ?_
  refine vl_alloc rfl rfl (.some rfl) Tryd.zeroValue26 (fun r9 => ?_)
  first | refine vl_store rfl rfl .none rfl rfl Tryd.sizeOf26 rfl (by repeat (first | exact .head | apply In.tail | apply Take.tail | apply Upd.tail)) (by first | decide | exact Nat.le_refl _ | exact Nat.le_of_ble_eq_true rfl | (simp; omega)) ?_ | refine vl_storeSl rfl rfl .none rfl rfl Tryd.sizeOf26 rfl (by simp [Value.cells]) (by repeat (first | exact .head | apply In.tail | apply Take.tail | apply Upd.tail)) (by first | decide | (simp [Value.cells]; omega)) ?_
  refine vl_val rfl (.some rfl) (val_assign rfl) ?_
  refine vl_nil ?_
  refine vc_seq ?_
  refine vc_drawsS [0, 1, 2, 3, 4, 5, 6, 7, 8, 9, 10, 11, 12, 13, 14, 15, 16, 17, 18, 19, 20, 21, 22, 23, 25, 26, 27, 28, 30, 31, 32, 34, 35] [] [0, 1, 2, 3, 4, 5, 6, 7, 8, 9, 10, 11, 12, 13, 14, 15, 16, 17, 18, 19, 20, 21, 22, 23, 25, 26, 27, 28, 24, 29, 30, 31, 32, 33, 34, 35] [cells r9 [.string qs, .slice qa qn qc] 26, cells r7 [.string qs, .slice qa qn qc] 26, cells r5 [.string rn, .string rt, .slice Ad nd cd, .slice Am nm cm, .int .i64 v.1, .string (sL v.2)] 48] (by repeat (first | exact .nil | (apply Sub.cons; · repeat (first | exact .head | apply Take.tail)))) rfl (by kernel_rfl) (fun _ _ _ h => h) ?_
  refine vd_val rfl rfl rfl (.some rfl) (by first | exact val_fieldAddr Tryd.runUnderlying26 rfl Tryd.sizeOf9 rfl | exact val_fieldAddrR Tryd.runUnderlying26 rfl Tryd.sizeOf9 rfl) ?_
  refine vd_val rfl rfl rfl (.some rfl) (val_load Tryd.isAgg9 rfl (by first | exact cell_cells (by repeat (first | exact .head | apply In.tail | apply Take.tail | apply Upd.tail)) rfl | exact cell_rd (rd_sl (by repeat (first | exact .head | apply In.tail | apply Take.tail | apply Upd.tail))) (by first | exact bcells_at (by omega) | exact ucells_at (by omega) | exact icells_at (by omega) | exact tcells_at (by omega) | exact bcells_get (by omega) | exact icells_get (by omega) | exact tcells_get (by omega) | exact ucells_get (by omega)) | exact cell_rd (rd_old (by assumption) rfl) (by first | exact bcells_at (by omega) | exact ucells_at (by omega) | exact icells_at (by omega) | exact tcells_at (by omega) | exact bcells_get (by omega) | exact icells_get (by omega) | exact tcells_get (by omega) | exact ucells_get (by omega)) | exact cell_old (by assumption) (by simp [fps]))) ?_
  refine vd_val rfl rfl rfl (.some rfl) (by first | exact val_fieldAddr Tryd.runUnderlying26 rfl Tryd.sizeOf9 rfl | exact val_fieldAddrR Tryd.runUnderlying26 rfl Tryd.sizeOf9 rfl) ?_
  refine vd_val rfl rfl rfl (.some rfl) (val_load Tryd.isAgg9 rfl (by first | exact cell_cells (by repeat (first | exact .head | apply In.tail | apply Take.tail | apply Upd.tail)) rfl | exact cell_rd (rd_sl (by repeat (first | exact .head | apply In.tail | apply Take.tail | apply Upd.tail))) (by first | exact bcells_at (by omega) | exact ucells_at (by omega) | exact icells_at (by omega) | exact tcells_at (by omega) | exact bcells_get (by omega) | exact icells_get (by omega) | exact tcells_get (by omega) | exact ucells_get (by omega)) | exact cell_rd (rd_old (by assumption) rfl) (by first | exact bcells_at (by omega) | exact ucells_at (by omega) | exact icells_at (by omega) | exact tcells_at (by omega) | exact bcells_get (by omega) | exact icells_get (by omega) | exact tcells_get (by omega) | exact ucells_get (by omega)) | exact cell_old (by assumption) (by simp [fps]))) ?_
  refine vd_val rfl rfl rfl (.some rfl) (val_seqt rfl rfl (rfl)) ?_
  refine vd_val rfl rfl rfl (.some rfl) (val_move rfl) ?_
  refine vd_on rfl rfl rfl rfl rfl rfl (.some rfl) (by first | exact val_fieldAddr Tryd.runUnderlying26 rfl Tryd.sizeOf24 rfl | exact val_fieldAddrR Tryd.runUnderlying26 rfl Tryd.sizeOf24 rfl) ?_
  refine vd_on rfl rfl rfl rfl rfl rfl (.some rfl) (val_load Tryd.isAgg24 rfl (by first | exact cell_cells (by repeat (first | exact .head | apply In.tail | apply Take.tail | apply Upd.tail)) rfl | exact cell_rd (rd_sl (by repeat (first | exact .head | apply In.tail | apply Take.tail | apply Upd.tail))) (by first | exact bcells_at (by omega) | exact ucells_at (by omega) | exact icells_at (by omega) | exact tcells_at (by omega) | exact bcells_get (by omega) | exact icells_get (by omega) | exact tcells_get (by omega) | exact ucells_get (by omega)) | exact cell_rd (rd_old (by assumption) rfl) (by first | exact bcells_at (by omega) | exact ucells_at (by omega) | exact icells_at (by omega) | exact tcells_at (by omega) | exact bcells_get (by omega) | exact icells_get (by omega) | exact tcells_get (by omega) | exact ucells_get (by omega)) | exact cell_old (by assumption) (by simp [fps]))) ?_
  refine vd_on rfl rfl rfl rfl rfl rfl (.some rfl) (val_lenSl Tryd.runUnderlying24 rfl) ?_
  refine vd_on rfl rfl rfl rfl rfl rfl (.some rfl) (by first | exact val_fieldAddr Tryd.runUnderlying26 rfl Tryd.sizeOf24 rfl | exact val_fieldAddrR Tryd.runUnderlying26 rfl Tryd.sizeOf24 rfl) ?_
  refine vd_on rfl rfl rfl rfl rfl rfl (.some rfl) (val_load Tryd.isAgg24 rfl (by first | exact cell_cells (by repeat (first | exact .head | apply In.tail | apply Take.tail | apply Upd.tail)) rfl | exact cell_rd (rd_sl (by repeat (first | exact .head | apply In.tail | apply Take.tail | apply Upd.tail))) (by first | exact bcells_at (by omega) | exact ucells_at (by omega) | exact icells_at (by omega) | exact tcells_at (by omega) | exact bcells_get (by omega) | exact icells_get (by omega) | exact tcells_get (by omega) | exact ucells_get (by omega)) | exact cell_rd (rd_old (by assumption) rfl) (by first | exact bcells_at (by omega) | exact ucells_at (by omega) | exact icells_at (by omega) | exact tcells_at (by omega) | exact bcells_get (by omega) | exact icells_get (by omega) | exact tcells_get (by omega) | exact ucells_get (by omega)) | exact cell_old (by assumption) (by simp [fps]))) ?_
  refine vd_on rfl rfl rfl rfl rfl rfl (.some rfl) (val_lenSl Tryd.runUnderlying24 rfl) ?_
  refine vd_on rfl rfl rfl rfl rfl rfl (.some rfl) (val_eqt rfl rfl (rfl)) ?_
  refine vd_val rfl rfl rfl (.some rfl) (val_pick rfl rfl) ?_
  refine vd_val rfl rfl rfl (.some rfl) (val_move rfl) ?_
  refine vd_on rfl rfl rfl rfl rfl rfl (.some rfl) (val_move rfl) ?_
  refine vd_on rfl rfl rfl rfl rfl rfl (.some rfl) (val_move rfl) ?_
  refine vd_on rfl rfl rfl rfl rfl rfl (.some rfl) (val_beqt Tryd.underlying4 rfl rfl (rfl)) ?_
  refine vd_val rfl rfl rfl (.some rfl) (val_pick rfl rfl) ?_
  refine vd_val rfl rfl rfl (.some rfl) (val_move rfl) ?_
  refine vd_on rfl rfl rfl rfl rfl rfl (.some rfl) (by first | exact val_fieldAddr Tryd.runUnderlying48 rfl Tryd.sizeOf30 rfl | exact val_fieldAddrR Tryd.runUnderlying48 rfl Tryd.sizeOf30 rfl) ?_
  refine vd_on rfl rfl rfl rfl rfl rfl (.some rfl) (val_loadAgg Tryd.isAgg30 Tryd.sizeOf30 rfl (cells_part (us := [.string rn, .string rt, .slice Ad nd cd, .slice Am nm cm]) (by repeat (first | exact .head | apply In.tail | apply Take.tail | apply Upd.tail)) rfl) rfl) ?_
  refine vd_on rfl rfl rfl rfl rfl rfl (.some rfl) (by first | exact val_fieldAddr Tryd.runUnderlying48 rfl Tryd.sizeOf43 rfl | exact val_fieldAddrR Tryd.runUnderlying48 rfl Tryd.sizeOf43 rfl) ?_
  refine vd_on rfl rfl rfl rfl rfl rfl (.some rfl) (val_loadAgg Tryd.isAgg43 Tryd.sizeOf43 rfl (cells_part (us := [.int .i64 v.1, .string (sL v.2)]) (by repeat (first | exact .head | apply In.tail | apply Take.tail | apply Upd.tail)) rfl) rfl) ?_
  refine vd_on rfl rfl rfl rfl rfl rfl (.some rfl) (by first | exact val_fieldAddr Tryd.runUnderlying48 rfl Tryd.sizeOf30 rfl | exact val_fieldAddrR Tryd.runUnderlying48 rfl Tryd.sizeOf30 rfl) ?_
  refine vd_on rfl rfl rfl rfl rfl rfl (.some rfl) (val_loadAgg Tryd.isAgg30 Tryd.sizeOf30 rfl (cells_part (us := [.string rn, .string rt, .slice Ad nd cd, .slice Am nm cm]) (by repeat (first | exact .head | apply In.tail | apply Take.tail | apply Upd.tail)) rfl) rfl) ?_
  refine vd_on rfl rfl rfl rfl rfl rfl (.some rfl) (by first | exact val_fieldAddr Tryd.runUnderlying48 rfl Tryd.sizeOf43 rfl | exact val_fieldAddrR Tryd.runUnderlying48 rfl Tryd.sizeOf43 rfl) ?_
  refine vd_on rfl rfl rfl rfl rfl rfl (.some rfl) (val_loadAgg Tryd.isAgg43 Tryd.sizeOf43 rfl (cells_part (us := [.int .i64 v.1, .string (sL v.2)]) (by repeat (first | exact .head | apply In.tail | apply Take.tail | apply Upd.tail)) rfl) rfl) ?_
  refine vd_op rfl rfl ?_
  refine vl_on rfl rfl rfl rfl ?_
  refine vl_callV rfl rfl (.some rfl) Tryd.call18 rfl (fun w hw => sHas rn rt Ad nd cd Am nm cm ms hnm hmb v w (rdw (rd_old hrm rfl) hw)) ?_
  refine vl_nil ?_
  refine ⟨fun _ => ⟨_, (by repeat (first | exact .nil | exact sub_self _ | exact sub_skip (sub_self _) | exact sub_skip (sub_skip (sub_self _)) | exact sub_skip (sub_skip (sub_skip (sub_self _))) | (apply Sub.cons; · repeat (first | exact .head | apply Take.tail))))⟩, ?_⟩
  refine vd_op rfl rfl ?_
  refine vl_on rfl rfl rfl rfl ?_
  refine vl_callV rfl rfl (.some rfl) Tryd.call21 rfl (fun w hw => rHas rn rt Ad nd cd Am nm cm ms hnm hmb v w (rdw (rd_old hrm rfl) hw)) ?_
  refine vl_nil ?_
  refine ⟨fun _ => ⟨_, (by repeat (first | exact .nil | exact sub_self _ | exact sub_skip (sub_self _) | exact sub_skip (sub_skip (sub_self _)) | exact sub_skip (sub_skip (sub_skip (sub_self _))) | (apply Sub.cons; · repeat (first | exact .head | apply Take.tail))))⟩, ?_⟩
  refine vd_on rfl rfl rfl rfl rfl rfl (.some rfl) (val_beqt Tryd.underlying4 rfl rfl (rfl)) ?_
  refine vd_val rfl rfl rfl (.some rfl) (val_pick rfl rfl) ?_
  refine vd_val rfl rfl rfl (.some rfl) (val_move rfl) ?_
  refine vd_op rfl rfl ?_
  refine vl_on rfl rfl rfl rfl ?_
  refine vl_callV rfl rfl (.some rfl) Tryd.call8 rfl (fun w hw => xLives w) ?_
  refine vl_nil ?_
  refine ⟨fun _ => ⟨_, (by repeat (first | exact .nil | exact sub_self _ | exact sub_skip (sub_self _) | exact sub_skip (sub_skip (sub_self _)) | exact sub_skip (sub_skip (sub_skip (sub_self _))) | (apply Sub.cons; · repeat (first | exact .head | apply Take.tail))))⟩, ?_⟩
  refine vd_val rfl rfl rfl (.some rfl) (val_pick rfl rfl) ?_
  refine vd_val rfl rfl rfl (.some rfl) (val_assign rfl) ?_
  refine vd_nil ?_
  refine vc_ret ?_
  refine ⟨_, [], _, res1 Tryd.results7 rfl, .nil, ?_⟩
  rfl

abbrev colW (p : ByteArray × Int × Unit) : List Value := [.string p.1] ++ ([.int .i64 p.2.1] ++ [])
def colOf (p : ByteArray × Int × Unit) : Cq := (p.1.data.toList, p.2.1)
theorem colW_flat (l : List (ByteArray × Int × Unit)) : (l.map colOf).flatMap colV = l.flatMap colW := by
  rw [List.flatMap_map]
  refine congrArg (fun f => List.flatMap f l) (funext fun p => ?_)
  show [Value.string (sL p.1.data.toList), Value.int .i64 p.2.1] = _
  rw [sL_eta]; rfl
abbrev meaW (p : Int × ByteArray × Unit) : List Value := [.int .i64 p.1] ++ ([.string p.2.1] ++ [])
def meaOf (p : Int × ByteArray × Unit) : Mq := (p.1, p.2.1.data.toList)
theorem meaW_flat (l : List (Int × ByteArray × Unit)) : (l.map meaOf).flatMap meaV = l.flatMap meaW := by
  rw [List.flatMap_map]
  refine congrArg (fun f => List.flatMap f l) (funext fun p => ?_)
  show [Value.int .i64 p.1, Value.string (sL p.2.1.data.toList)] = _
  rw [sL_eta]; rfl
theorem txt_flat (l : List ByteArray) : tcS (l.map fun s => s.data.toList) = scells l := by
  unfold tcS scells
  rw [List.map_map]
  refine congrArg (fun f => List.map f l) (funext fun s => ?_)
  show Value.string (sL s.data.toList) = _
  rw [sL_eta]
theorem max_lt : maxLen < 9223372036854775808 := by decide
theorem len_b {s : ByteArray} (h : s.size ≤ maxLen) : s.data.toList.length < 9223372036854775808 := by
  have hl : s.data.toList.length = s.size := Array.length_toList
  have := max_lt
  omega

abbrev tabW (p : ByteArray × Sl (ByteArray × Int × Unit) × Unit) : List Value := [.string p.1] ++ ([.slice p.2.1.A p.2.1.l.length p.2.1.c] ++ [])
def tabOf (p : ByteArray × Sl (ByteArray × Int × Unit) × Unit) : Tq := (p.1, p.2.1.A, p.2.1.l.length, p.2.1.c)
theorem tabW_flat (l : List (ByteArray × Sl (ByteArray × Int × Unit) × Unit)) : (l.map tabOf).flatMap tabV = l.flatMap tabW := by
  rw [List.flatMap_map]
  rfl
theorem law_SchemaFinds (A : Option Addr) (c : Nat) (l : List (ByteArray × Sl (ByteArray × Int × Unit) × Unit)) (s : ByteArray) (rn rt : ByteArray) (Ad : Option Addr) (cd : Nat) (ds : List ByteArray) (Am : Option Addr) (cm : Nat) (ms : List (Int × ByteArray × Unit)) (k : Int) (m : ByteArray) (w : World)
    (g2 : Reads w A (l.flatMap tabW)) (g3 : l.length ≤ c) (g4 : c ≤ maxLen) (g5 : ∀ a ∈ l, a.1.size ≤ maxLen ∧ (Reads w a.2.1.A (a.2.1.l.flatMap colW) ∧ a.2.1.l.length ≤ a.2.1.c ∧ a.2.1.c ≤ maxLen ∧ ∀ b ∈ a.2.1.l, b.1.size ≤ maxLen ∧ (-9223372036854775808 ≤ b.2.1 ∧ b.2.1 < 9223372036854775808) ∧ True) ∧ True) (g1 : s.size ≤ maxLen)
    (g6 : rn.size ≤ maxLen) (g7 : rt.size ≤ maxLen) (g8 : Reads w Ad (scells ds)) (g9 : ds.length ≤ cd) (g10 : cd ≤ maxLen) (g11 : ∀ a ∈ ds, a.size ≤ maxLen) (g12 : Reads w Am (ms.flatMap meaW)) (g13 : ms.length ≤ cm) (g14 : cm ≤ maxLen) (g15 : ∀ a ∈ ms, (-9223372036854775808 ≤ a.1 ∧ a.1 < 9223372036854775808) ∧ a.2.1.size ≤ maxLen ∧ True) (g16 : -9223372036854775808 ≤ k ∧ k < 9223372036854775808) (g17 : m.size ≤ maxLen) :
    FnV Tryd.prog 7 [.slice A l.length c, .string s, .agg #[.string rn, .string rt, .slice Ad ds.length cd, .slice Am ms.length cm, .int .i64 k, .string m]] (.bool true) w := by
  have hm := max_lt
  have h := xFinds A l.length c (l.map tabOf) (by simp) (by omega) s rn rt Ad ds.length cd Am ms.length cm (ms.map meaOf) (by simp) (by omega) (k, m.data.toList) w (by rw [tabW_flat]; exact g2) (by rw [meaW_flat]; exact g12)
  rw [sL_eta] at h
  exact h


end Go.Proofs.YtdehjgpdcdjhjaaDoor.K
