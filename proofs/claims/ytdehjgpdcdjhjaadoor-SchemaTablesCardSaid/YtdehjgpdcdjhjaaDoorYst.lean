/- Walks of the program's functions, printed by a program of this session; Lean checks them. -/
import Derived.Test.YtdehjgpdcdjhjaaDoorYsr
namespace Go.Proofs.YtdehjgpdcdjhjaaDoor.K
open Go Go.RowKit Go.Proofs
set_option linter.unusedVariables false
set_option linter.unusedSimpArgs false


set_option maxRecDepth 20000 in
set_option maxHeartbeats 2000000 in
theorem xTables (tn : List UInt8) (hlb : tn.length < 9223372036854775808) (A : Option Addr) (n c : Nat) (cs : List Cq) (hn : cs.length = n) (hnb : n < 9223372036854775808) (hx : ∀ x ∈ cs, x.1.length < 9223372036854775808) (rn rt : List UInt8) (hlr : rn.length < 9223372036854775808) (Ad : Option Addr) (nd cd : Nat) (ds : List (List UInt8)) (hnd : ds.length = nd) (hdb : nd < 9223372036854775808) (hcd : nd ≤ cd) (Am : Option Addr) (nm cm : Nat) (ms : List Mq) (hnm : ms.length = nm) (hmb : nm < 9223372036854775808) (hcm : nm ≤ cm) (nm0 : List UInt8) (w : World) (hr : Reads w A (cs.flatMap colV)) (hrd : Reads w Ad (tcS ds)) (hrm : Reads w Am (ms.flatMap meaV)) : FnV Tryd.prog 4 [.agg #[.string (sL tn), .slice A n c], .agg #[.string (sL rn), .string (sL rt), .slice Ad nd cd, .slice Am nm cm], .string (sL nm0)] (.bool true) w := by
  refine fn_enter Tryd.func4 rfl Tryd.ntmps4 rfl ?_
  refine vc_seq ?_
  refine vc_region ?_
  refine vl_box rfl rfl (.some rfl) rfl (fun r3 => ?_)
  refine vl_box rfl rfl (.some rfl) rfl (fun r4 => ?_)
  refine vl_val rfl (.some rfl) (val_assign rfl) ?_
  refine vl_nil ?_
  refine vc_seq ?_
  refine vc_seq ?_
  refine vc_region ?_
  refine vl_val rfl (.some rfl) (by first | exact val_fieldAddr Tryd.runUnderlying26 rfl Tryd.sizeOf24 rfl | exact val_fieldAddrR Tryd.runUnderlying26 rfl Tryd.sizeOf24 rfl) ?_
  refine vl_val rfl (.some rfl) (val_load Tryd.isAgg24 rfl (by first | exact cell_cells (by repeat (first | exact .head | apply In.tail | apply Take.tail | apply Upd.tail)) rfl | exact cell_rd (rd_sl (by repeat (first | exact .head | apply In.tail | apply Take.tail | apply Upd.tail))) (by first | exact bcells_at (by omega) | exact ucells_at (by omega) | exact icells_at (by omega) | exact tcells_at (by omega) | exact bcells_get (by omega) | exact icells_get (by omega) | exact tcells_get (by omega) | exact ucells_get (by omega)) | exact cell_rd (rd_old (by assumption) rfl) (by first | exact bcells_at (by omega) | exact ucells_at (by omega) | exact icells_at (by omega) | exact tcells_at (by omega) | exact bcells_get (by omega) | exact icells_get (by omega) | exact tcells_get (by omega) | exact ucells_get (by omega)) | exact cell_old (by assumption) (by simp [fps]))) ?_
  refine vl_val rfl (.some rfl) (val_lenSl Tryd.runUnderlying24 rfl) ?_
  refine vl_val rfl (.some rfl) (val_gt rfl rfl) ?_
  refine vl_val rfl (.some rfl) (val_move rfl) ?_
  refine vl_split (t := 17) rfl (fun hg17 => ?_) (fun hg17 => ?_)
  · (try replace hg17 := of_decide_eq_true hg17)
    refine vl_off rfl rfl rfl rfl (.some rfl) ?_
    refine vl_off rfl rfl rfl rfl (.some rfl) ?_
    refine vl_off rfl rfl rfl rfl (.some rfl) ?_
    refine vl_off rfl rfl rfl rfl (.some rfl) ?_
    refine vl_val rfl (.some rfl) (val_pick rfl rfl) ?_
    refine vl_val rfl (.some rfl) (val_move rfl) ?_
    refine vl_off rfl rfl rfl rfl (.some rfl) ?_
    refine vl_off rfl rfl rfl rfl (.some rfl) ?_
    refine vl_off rfl rfl rfl rfl (.some rfl) ?_
    refine vl_off rfl rfl rfl rfl (.some rfl) ?_
    refine vl_val rfl (.some rfl) (val_pick rfl rfl) ?_
    refine vl_nil ?_
    refine vc_cond rfl (fun _ => ?_) (fun h => by cases h)
    refine vc_seq ?_
    refine vc_region ?_
    refine vl_callV rfl rfl (.some rfl) Tryd.call8 rfl (fun w hw => xLives w) ?_
    refine vl_val rfl (.some rfl) (val_assign rfl) ?_
    refine vl_nil ?_
    refine vc_ret ?_
    refine ⟨_, [], _, res1 Tryd.results4 rfl, .nil, ?_⟩
    rfl
  · (try replace hg17 := of_decide_eq_false hg17)
    refine vl_on rfl rfl rfl rfl ?_
    refine vl_val rfl (.some rfl) (by first | exact val_fieldAddr Tryd.runUnderlying30 rfl Tryd.sizeOf27 rfl | exact val_fieldAddrR Tryd.runUnderlying30 rfl Tryd.sizeOf27 rfl) ?_
    refine vl_on rfl rfl rfl rfl ?_
    refine vl_val rfl (.some rfl) (val_load Tryd.isAgg27 rfl (by first | exact cell_cells (by repeat (first | exact .head | apply In.tail | apply Take.tail | apply Upd.tail)) rfl | exact cell_rd (rd_sl (by repeat (first | exact .head | apply In.tail | apply Take.tail | apply Upd.tail))) (by first | exact bcells_at (by omega) | exact ucells_at (by omega) | exact icells_at (by omega) | exact tcells_at (by omega) | exact bcells_get (by omega) | exact icells_get (by omega) | exact tcells_get (by omega) | exact ucells_get (by omega)) | exact cell_rd (rd_old (by assumption) rfl) (by first | exact bcells_at (by omega) | exact ucells_at (by omega) | exact icells_at (by omega) | exact tcells_at (by omega) | exact bcells_get (by omega) | exact icells_get (by omega) | exact tcells_get (by omega) | exact ucells_get (by omega)) | exact cell_old (by assumption) (by simp [fps]))) ?_
    refine vl_on rfl rfl rfl rfl ?_
    refine vl_val rfl (.some rfl) (val_lenSl Tryd.runUnderlying27 rfl) ?_
    refine vl_on rfl rfl rfl rfl ?_
    refine vl_val rfl (.some rfl) (val_gt rfl rfl) ?_
    refine vl_val rfl (.some rfl) (val_pick rfl rfl) ?_
    refine vl_val rfl (.some rfl) (val_move rfl) ?_
    refine vl_split (t := 23) rfl (fun hg23 => ?_) (fun hg23 => ?_)
    · (try replace hg23 := of_decide_eq_true hg23)
      refine vl_off rfl rfl rfl rfl (.some rfl) ?_
      refine vl_off rfl rfl rfl rfl (.some rfl) ?_
      refine vl_off rfl rfl rfl rfl (.some rfl) ?_
      refine vl_off rfl rfl rfl rfl (.some rfl) ?_
      refine vl_val rfl (.some rfl) (val_pick rfl rfl) ?_
      refine vl_nil ?_
      refine vc_cond rfl (fun _ => ?_) (fun h => by cases h)
      refine vc_seq ?_
      refine vc_region ?_
      refine vl_callV rfl rfl (.some rfl) Tryd.call8 rfl (fun w hw => xLives w) ?_
      refine vl_val rfl (.some rfl) (val_assign rfl) ?_
      refine vl_nil ?_
      refine vc_ret ?_
      refine ⟨_, [], _, res1 Tryd.results4 rfl, .nil, ?_⟩
      rfl
    · (try replace hg23 := of_decide_eq_false hg23)
      refine vl_on rfl rfl rfl rfl ?_
      refine vl_val rfl (.some rfl) (by first | exact val_fieldAddr Tryd.runUnderlying30 rfl Tryd.sizeOf28 rfl | exact val_fieldAddrR Tryd.runUnderlying30 rfl Tryd.sizeOf28 rfl) ?_
      refine vl_on rfl rfl rfl rfl ?_
      refine vl_val rfl (.some rfl) (val_load Tryd.isAgg28 rfl (by first | exact cell_cells (by repeat (first | exact .head | apply In.tail | apply Take.tail | apply Upd.tail)) rfl | exact cell_rd (rd_sl (by repeat (first | exact .head | apply In.tail | apply Take.tail | apply Upd.tail))) (by first | exact bcells_at (by omega) | exact ucells_at (by omega) | exact icells_at (by omega) | exact tcells_at (by omega) | exact bcells_get (by omega) | exact icells_get (by omega) | exact tcells_get (by omega) | exact ucells_get (by omega)) | exact cell_rd (rd_old (by assumption) rfl) (by first | exact bcells_at (by omega) | exact ucells_at (by omega) | exact icells_at (by omega) | exact tcells_at (by omega) | exact bcells_get (by omega) | exact icells_get (by omega) | exact tcells_get (by omega) | exact ucells_get (by omega)) | exact cell_old (by assumption) (by simp [fps]))) ?_
      refine vl_on rfl rfl rfl rfl ?_
      refine vl_val rfl (.some rfl) (val_lenSl Tryd.runUnderlying28 rfl) ?_
      refine vl_on rfl rfl rfl rfl ?_
      refine vl_val rfl (.some rfl) (val_gt rfl rfl) ?_
      refine vl_val rfl (.some rfl) (val_pick rfl rfl) ?_
      refine vl_nil ?_
      refine vc_cond rfl (fun hc0 => ?_) (fun hc0 => ?_)
      · (try replace hc0 := of_decide_eq_true hc0)
        refine vc_seq ?_
        refine vc_region ?_
        refine vl_callV rfl rfl (.some rfl) Tryd.call8 rfl (fun w hw => xLives w) ?_
        refine vl_val rfl (.some rfl) (val_assign rfl) ?_
        refine vl_nil ?_
        refine vc_ret ?_
        refine ⟨_, [], _, res1 Tryd.results4 rfl, .nil, ?_⟩
        rfl
      · (try replace hc0 := of_decide_eq_false hc0)
        refine vc_skip ?_
        refine vc_seq ?_
        refine vc_region ?_
        refine vl_val rfl (.some rfl) (val_loadAgg Tryd.isAgg26 Tryd.sizeOf26 rfl (by first | exact cells_whole (by repeat (first | exact .head | apply In.tail | apply Take.tail | apply Upd.tail)) | exact cells_part (by repeat (first | exact .head | apply In.tail | apply Take.tail | apply Upd.tail)) rfl) rfl) ?_
        refine vl_val rfl (.some rfl) (val_move rfl) ?_
        refine vl_callV rfl rfl (.some rfl) Tryd.call11 rfl (fun w hw => xColumn A n c cs hn (by omega) (sL tn) nm0 w (rdw (rd_old hr rfl) hw)) ?_
        refine vl_val rfl (.some rfl) (val_move rfl) ?_
        refine vl_val rfl (.some rfl) (val_extract rfl rfl) ?_
        refine vl_val rfl (.some rfl) (val_extract rfl rfl) ?_
        refine vl_val rfl (.some rfl) (val_extract rfl rfl) ?_
        refine vl_val rfl (.some rfl) (val_assign rfl) ?_
        refine vl_val rfl (.some rfl) (val_assign rfl) ?_
        refine vl_val rfl (.some rfl) (val_assign rfl) ?_
        refine vl_nil ?_
        refine vc_seq ?_
        refine vc_region ?_
        refine vl_val rfl (.some rfl) (val_loadAgg Tryd.isAgg26 Tryd.sizeOf26 rfl (by first | exact cells_whole (by repeat (first | exact .head | apply In.tail | apply Take.tail | apply Upd.tail)) | exact cells_part (by repeat (first | exact .head | apply In.tail | apply Take.tail | apply Upd.tail)) rfl) rfl) ?_
        refine vl_val rfl (.some rfl) (val_move rfl) ?_
        refine vl_callV rfl rfl (.some rfl) Tryd.call12 rfl (fun w hw => rColumn A n c cs hn (by omega) (sL tn) nm0 w (rdw (rd_old hr rfl) hw)) ?_
        refine vl_val rfl (.some rfl) (val_move rfl) ?_
        refine vl_val rfl (.some rfl) (val_extract rfl rfl) ?_
        refine vl_val rfl (.some rfl) (val_extract rfl rfl) ?_
        refine vl_val rfl (.some rfl) (val_extract rfl rfl) ?_
        refine vl_val rfl (.some rfl) (val_assign rfl) ?_
        refine vl_val rfl (.some rfl) (val_assign rfl) ?_
        refine vl_val rfl (.some rfl) (val_assign rfl) ?_
        refine vl_nil ?_
        refine vc_seq ?_
        refine vc_drawsS [0, 2, 4, 5, 6, 7, 9, 10, 12, 13, 14, 15, 16, 17, 18, 19, 20, 21, 22, 23, 24, 25, 26, 27, 28, 29, 31, 32] [] [0, 2, 1, 3, 4, 5, 6, 7, 9, 10, 8, 11, 12, 13, 14, 15, 16, 17, 18, 19, 20, 21, 22, 23, 24, 25, 26, 27, 28, 29, 30, 31, 32] [cells r3 [.string (sL tn), .slice A n c] 26, cells r4 [.string (sL rn), .string (sL rt), .slice Ad nd cd, .slice Am nm cm] 30] (by repeat (first | exact .nil | (apply Sub.cons; · repeat (first | exact .head | apply Take.tail)))) rfl (by kernel_rfl) (fun _ _ _ h => h) ?_
        refine vd_val rfl rfl rfl (.some rfl) (val_loadAgg Tryd.isAgg26 Tryd.sizeOf26 rfl (by first | exact cells_whole (by repeat (first | exact .head | apply In.tail | apply Take.tail | apply Upd.tail)) | exact cells_part (by repeat (first | exact .head | apply In.tail | apply Take.tail | apply Upd.tail)) rfl) rfl) ?_
        refine vd_val rfl rfl rfl (.some rfl) (val_loadAgg Tryd.isAgg26 Tryd.sizeOf26 rfl (by first | exact cells_whole (by repeat (first | exact .head | apply In.tail | apply Take.tail | apply Upd.tail)) | exact cells_part (by repeat (first | exact .head | apply In.tail | apply Take.tail | apply Upd.tail)) rfl) rfl) ?_
        refine vd_op rfl rfl ?_
        refine vl_callV rfl rfl (.some rfl) Tryd.call13 rfl (fun w hw => xTable tn hlb A n c cs hn (by omega) hx w (rdw (rd_old hr rfl) hw)) ?_
        refine vl_nil ?_
        refine ⟨fun _ => ⟨_, (by repeat (first | exact .nil | exact sub_self _ | exact sub_skip (sub_self _) | exact sub_skip (sub_skip (sub_self _)) | exact sub_skip (sub_skip (sub_skip (sub_self _))) | (apply Sub.cons; · repeat (first | exact .head | apply Take.tail))))⟩, ?_⟩
        refine vd_op rfl rfl ?_
        refine vl_callV rfl rfl (.some rfl) Tryd.call14 rfl (fun w hw => rTable tn hlb A n c cs hn (by omega) hx w (rdw (rd_old hr rfl) hw)) ?_
        refine vl_nil ?_
        refine ⟨fun _ => ⟨_, (by repeat (first | exact .nil | exact sub_self _ | exact sub_skip (sub_self _) | exact sub_skip (sub_skip (sub_self _)) | exact sub_skip (sub_skip (sub_skip (sub_self _))) | (apply Sub.cons; · repeat (first | exact .head | apply Take.tail))))⟩, ?_⟩
        refine vd_val rfl rfl rfl (.some rfl) (val_eqt rfl rfl (rfl)) ?_
        refine vd_val rfl rfl rfl (.some rfl) (val_move rfl) ?_
        refine vd_on rfl rfl rfl rfl rfl rfl (.some rfl) (val_loadAgg Tryd.isAgg30 Tryd.sizeOf30 rfl (by first | exact cells_whole (by repeat (first | exact .head | apply In.tail | apply Take.tail | apply Upd.tail)) | exact cells_part (by repeat (first | exact .head | apply In.tail | apply Take.tail | apply Upd.tail)) rfl) rfl) ?_
        refine vd_on rfl rfl rfl rfl rfl rfl (.some rfl) (val_loadAgg Tryd.isAgg26 Tryd.sizeOf26 rfl (by first | exact cells_whole (by repeat (first | exact .head | apply In.tail | apply Take.tail | apply Upd.tail)) | exact cells_part (by repeat (first | exact .head | apply In.tail | apply Take.tail | apply Upd.tail)) rfl) rfl) ?_
        refine vd_on rfl rfl rfl rfl rfl rfl (.some rfl) (val_loadAgg Tryd.isAgg30 Tryd.sizeOf30 rfl (by first | exact cells_whole (by repeat (first | exact .head | apply In.tail | apply Take.tail | apply Upd.tail)) | exact cells_part (by repeat (first | exact .head | apply In.tail | apply Take.tail | apply Upd.tail)) rfl) rfl) ?_
        refine vd_on rfl rfl rfl rfl rfl rfl (.some rfl) (val_loadAgg Tryd.isAgg26 Tryd.sizeOf26 rfl (by first | exact cells_whole (by repeat (first | exact .head | apply In.tail | apply Take.tail | apply Upd.tail)) | exact cells_part (by repeat (first | exact .head | apply In.tail | apply Take.tail | apply Upd.tail)) rfl) rfl) ?_
        refine vd_op rfl rfl ?_
        refine vl_on rfl rfl rfl rfl ?_
        refine vl_callV rfl rfl (.some rfl) Tryd.call15 rfl (fun w hw => xRollup rn rt hlr Ad nd cd ds hnd hdb hcd Am nm cm ms hnm hmb hcm tn A n c cs hn hnb w (rdw (rd_old hrd rfl) hw) (rdw (rd_old hrm rfl) hw) (rdw (rd_old hr rfl) hw)) ?_
        refine vl_nil ?_
        refine ⟨fun _ => ⟨_, (by repeat (first | exact .nil | exact sub_self _ | exact sub_skip (sub_self _) | exact sub_skip (sub_skip (sub_self _)) | exact sub_skip (sub_skip (sub_skip (sub_self _))) | (apply Sub.cons; · repeat (first | exact .head | apply Take.tail))))⟩, ?_⟩
        refine vd_op rfl rfl ?_
        refine vl_on rfl rfl rfl rfl ?_
        refine vl_callV rfl rfl (.some rfl) Tryd.call16 rfl (fun w hw => rRollup rn rt hlr Ad nd cd ds hnd hdb Am nm cm ms hnm hmb tn A n c cs hn hnb w (rdw (rd_old hrd rfl) hw) (rdw (rd_old hrm rfl) hw) (rdw (rd_old hr rfl) hw)) ?_
        refine vl_nil ?_
        refine ⟨fun _ => ⟨_, (by repeat (first | exact .nil | exact sub_self _ | exact sub_skip (sub_self _) | exact sub_skip (sub_skip (sub_self _)) | exact sub_skip (sub_skip (sub_skip (sub_self _))) | (apply Sub.cons; · repeat (first | exact .head | apply Take.tail))))⟩, ?_⟩
        refine vd_on rfl rfl rfl rfl rfl rfl (.some rfl) (val_eqt rfl rfl (rfl)) ?_
        refine vd_val rfl rfl rfl (.some rfl) (val_pick rfl rfl) ?_
        refine vd_val rfl rfl rfl (.some rfl) (val_move rfl) ?_
        refine vd_on rfl rfl rfl rfl rfl rfl (.some rfl) (val_move rfl) ?_
        refine vd_on rfl rfl rfl rfl rfl rfl (.some rfl) (val_move rfl) ?_
        refine vd_on rfl rfl rfl rfl rfl rfl (.some rfl) (val_eqt rfl rfl (rfl)) ?_
        refine vd_val rfl rfl rfl (.some rfl) (val_pick rfl rfl) ?_
        refine vd_val rfl rfl rfl (.some rfl) (val_move rfl) ?_
        refine vd_on rfl rfl rfl rfl rfl rfl (.some rfl) (val_move rfl) ?_
        refine vd_on rfl rfl rfl rfl rfl rfl (.some rfl) (val_move rfl) ?_
        refine vd_on rfl rfl rfl rfl rfl rfl (.some rfl) (val_eqt rfl rfl (rfl)) ?_
        refine vd_val rfl rfl rfl (.some rfl) (val_pick rfl rfl) ?_
        refine vd_val rfl rfl rfl (.some rfl) (val_move rfl) ?_
        refine vd_on rfl rfl rfl rfl rfl rfl (.some rfl) (val_move rfl) ?_
        refine vd_on rfl rfl rfl rfl rfl rfl (.some rfl) (val_move rfl) ?_
        refine vd_on rfl rfl rfl rfl rfl rfl (.some rfl) (val_beqt Tryd.underlying4 rfl rfl (rfl)) ?_
        refine vd_val rfl rfl rfl (.some rfl) (val_pick rfl rfl) ?_
        refine vd_val rfl rfl rfl (.some rfl) (val_move rfl) ?_
        refine vd_op rfl rfl ?_
        refine vl_on rfl rfl rfl rfl ?_
        refine vl_callV rfl rfl (.some rfl) Tryd.call8 rfl (fun w hw => xLives w) ?_
        refine vl_nil ?_
        refine ⟨fun _ => ⟨_, (by repeat (first | exact .nil | exact sub_self _ | exact sub_skip (sub_self _) | exact sub_skip (sub_skip (sub_self _)) | exact sub_skip (sub_skip (sub_skip (sub_self _))) | (apply Sub.cons; · repeat (first | exact .head | apply Take.tail))))⟩, ?_⟩
        refine vd_val rfl rfl rfl (.some rfl) (val_pick rfl rfl) ?_
        refine vd_val rfl rfl rfl (.some rfl) (val_assign rfl) ?_
        refine vd_nil ?_
        refine vc_ret ?_
        refine ⟨_, [], _, res1 Tryd.results4 rfl, .nil, ?_⟩
        rfl

abbrev colW (p : ByteArray × Int × Unit) : List Value := [.string p.1] ++ ([.int .i64 p.2.1] ++ [])
def colOf (p : ByteArray × Int × Unit) : Cq := (p.1.data.toList, p.2.1)
theorem colW_flat (l : List (ByteArray × Int × Unit)) : (l.map colOf).flatMap colV = l.flatMap colW := by
  rw [List.flatMap_map]
  refine congrArg (fun f => List.flatMap f l) (funext fun p => ?_)
  show [Value.string (sL p.1.data.toList), Value.int .i64 p.2.1] = _
  rw [sL_eta]; rfl
abbrev meaW (p : Int × ByteArray × Unit) : List Value := [.int .i64 p.1] ++ ([.string p.2.1] ++ [])
def meaOf (p : Int × ByteArray × Unit) : Mq := (p.1, p.2.1.data.toList)
theorem meaW_flat (l : List (Int × ByteArray × Unit)) : (l.map meaOf).flatMap meaV = l.flatMap meaW := by
  rw [List.flatMap_map]
  refine congrArg (fun f => List.flatMap f l) (funext fun p => ?_)
  show [Value.int .i64 p.1, Value.string (sL p.2.1.data.toList)] = _
  rw [sL_eta]; rfl
theorem txt_flat (l : List ByteArray) : tcS (l.map fun s => s.data.toList) = scells l := by
  unfold tcS scells
  rw [List.map_map]
  refine congrArg (fun f => List.map f l) (funext fun s => ?_)
  show Value.string (sL s.data.toList) = _
  rw [sL_eta]
theorem max_lt : maxLen < 9223372036854775808 := by decide
theorem len_b {s : ByteArray} (h : s.size ≤ maxLen) : s.data.toList.length < 9223372036854775808 := by
  have hl : s.data.toList.length = s.size := Array.length_toList
  have := max_lt
  omega

theorem law_SchemaTables (tn : ByteArray) (A : Option Addr) (c : Nat) (l : List (ByteArray × Int × Unit)) (rn rt : ByteArray) (Ad : Option Addr) (cd : Nat) (ds : List ByteArray) (Am : Option Addr) (cm : Nat) (ms : List (Int × ByteArray × Unit)) (nm0 : ByteArray) (w : World)
    (g1 : tn.size ≤ maxLen) (g2 : Reads w A (l.flatMap colW)) (g3 : l.length ≤ c) (g4 : c ≤ maxLen) (g5 : ∀ a ∈ l, a.1.size ≤ maxLen ∧ (-9223372036854775808 ≤ a.2.1 ∧ a.2.1 < 9223372036854775808) ∧ True)
    (g6 : rn.size ≤ maxLen) (g7 : rt.size ≤ maxLen) (g8 : Reads w Ad (scells ds)) (g9 : ds.length ≤ cd) (g10 : cd ≤ maxLen) (g11 : ∀ a ∈ ds, a.size ≤ maxLen) (g12 : Reads w Am (ms.flatMap meaW)) (g13 : ms.length ≤ cm) (g14 : cm ≤ maxLen) (g15 : ∀ a ∈ ms, (-9223372036854775808 ≤ a.1 ∧ a.1 < 9223372036854775808) ∧ a.2.1.size ≤ maxLen ∧ True) (g16 : nm0.size ≤ maxLen) :
    FnV Tryd.prog 4 [.agg #[.string tn, .slice A l.length c], .agg #[.string rn, .string rt, .slice Ad ds.length cd, .slice Am ms.length cm], .string nm0] (.bool true) w := by
  have hm := max_lt
  have h := xTables tn.data.toList (len_b g1) A l.length c (l.map colOf) (by simp) (by omega) (fun x hx => by
    obtain ⟨a, ha, rfl⟩ := List.mem_map.1 hx
    exact len_b (g5 a ha).1) rn.data.toList rt.data.toList (len_b g6) Ad ds.length cd (ds.map fun s => s.data.toList) (by simp) (by omega) g9 Am ms.length cm (ms.map meaOf) (by simp) (by omega) g13 nm0.data.toList w (by rw [colW_flat]; exact g2) (by rw [txt_flat]; exact g8) (by rw [meaW_flat]; exact g12)
  rw [sL_eta, sL_eta, sL_eta, sL_eta] at h
  exact h


end Go.Proofs.YtdehjgpdcdjhjaaDoor.K
