/- Walks of the program's functions, printed by a program of this session; Lean checks them. -/
import Derived.Test.YtdehjgpdcdjhjaaDoorYsn
namespace Go.Proofs.YtdehjgpdcdjhjaaDoor.K
open Go Go.RowKit Go.Proofs
set_option linter.unusedVariables false
set_option linter.unusedSimpArgs false


theorem all_of {α : Type} (d : α) {P : α → Prop} {l : List α} (h : ∀ j, j < l.length → P (l.getD j d)) : ∀ x ∈ l, P x := fun x hx => by
  obtain ⟨i, hi, rfl⟩ := List.mem_iff_getElem.1 hx
  have := h i hi
  simpa [List.getD, hi] using this
theorem not_all {α : Type} (d : α) {P : α → Prop} {l : List α} {j : Nat} (hj : j < l.length) (h : ¬ P (l.getD j d)) : ¬ ∀ x ∈ l, P x := fun hc => h (hc _ (by simp [List.getD, hj]))
theorem fst_getD (cs : List Cq) (j : Nat) : (cs.map fstQ).getD j [] = (cs.getD j ([], 0)).1 := by
  rcases Nat.lt_or_ge j cs.length with h | h
  · simp [List.getD, h]
  · simp [List.getD, h]
theorem names_all {cs : List Cq} (h : ∀ j, j < cs.length → nameP (cs.getD j ([], 0)).1) : ∀ x ∈ cs.map fstQ, nameP x := all_of [] (fun j hj => by rw [fst_getD]; exact h j (by simpa using hj))
theorem names_not {cs : List Cq} {j : Nat} (hj : j < cs.length) (h : ¬ nameP (cs.getD j ([], 0)).1) : ¬ ∀ x ∈ cs.map fstQ, nameP x := not_all [] (j := j) (by simpa using hj) (by rw [fst_getD]; exact h)
theorem getD_in {α : Type} (d : α) {l : List α} {k i : Nat} (hk : k < i) (hi : i ≤ l.length) : l.getD k d ∈ l.take i := by
  rw [List.mem_take_iff_getElem]
  exact ⟨k, by omega, by simp [List.getD, show k < l.length by omega]⟩
theorem not_in {α : Type} (d : α) {l : List α} {i : Nat} {v : α} (hi : i ≤ l.length) (h : ∀ j, j < i → l.getD j d ≠ v) : v ∉ l.take i := fun hm => by
  rw [List.mem_take_iff_getElem] at hm
  obtain ⟨j, hj, e⟩ := hm
  exact h j (by omega) (by simp [List.getD, show j < l.length by omega, e])
section tab
variable {nm : List UInt8} {cs : List Cq}
theorem tab_1 (h1 : ¬ nameP nm) : tabE nm cs = 3 := by unfold tabE; rw [decide_eq_false h1]; rfl
theorem tab_2 (h1 : nameP nm) (h2 : ¬ ∀ x ∈ cs.map fstQ, nameP x) : tabE nm cs = 3 := by unfold tabE; rw [decide_eq_true h1, decide_eq_false h2]; rfl
theorem tab_3 (h1 : nameP nm) (h2 : ∀ x ∈ cs.map fstQ, nameP x) (h3 : ¬ (1 ≤ (cs.length : Int) ∧ (cs.length : Int) ≤ 8)) : tabE nm cs = 2 := by unfold tabE; rw [decide_eq_true h1, decide_eq_true h2, decide_eq_false h3]; rfl
theorem tab_4 (h1 : nameP nm) (h2 : ∀ x ∈ cs.map fstQ, nameP x) (h3 : 1 ≤ (cs.length : Int) ∧ (cs.length : Int) ≤ 8) (h4 : ¬ ∀ x ∈ cs, 1 ≤ x.2 ∧ x.2 ≤ 4) : tabE nm cs = 2 := by unfold tabE; rw [decide_eq_true h1, decide_eq_true h2, decide_eq_true h3, decide_eq_false h4]; rfl
theorem tab_5 (h1 : nameP nm) (h2 : ∀ x ∈ cs.map fstQ, nameP x) (h3 : 1 ≤ (cs.length : Int) ∧ (cs.length : Int) ≤ 8) (h4 : ∀ x ∈ cs, 1 ≤ x.2 ∧ x.2 ≤ 4) (h5 : ¬ (cs.map fstQ).Nodup) : tabE nm cs = 5 := by unfold tabE; rw [decide_eq_true h1, decide_eq_true h2, decide_eq_true h3, decide_eq_true h4, decide_eq_false h5]; rfl
theorem tab_0 (h1 : nameP nm) (h2 : ∀ x ∈ cs.map fstQ, nameP x) (h3 : 1 ≤ (cs.length : Int) ∧ (cs.length : Int) ≤ 8) (h4 : ∀ x ∈ cs, 1 ≤ x.2 ∧ x.2 ≤ 4) (h5 : (cs.map fstQ).Nodup) : tabE nm cs = 0 := by unfold tabE; rw [decide_eq_true h1, decide_eq_true h2, decide_eq_true h3, decide_eq_true h4, decide_eq_true h5]; rfl
end tab
section rol
variable {rn rt : List UInt8} {ds : List (List UInt8)} {ms : List Mq} {tn : List UInt8} {cs : List Cq}
theorem rol_1 (h1 : ¬ nameP rn) : rolE rn rt ds ms tn cs = 3 := by unfold rolE; rw [decide_eq_false h1]; rfl
theorem rol_2 (h1 : nameP rn) (h2 : ¬ rt = tn) : rolE rn rt ds ms tn cs = 14 := by unfold rolE; rw [decide_eq_true h1, decide_eq_false h2]; rfl
theorem rol_3 (h1 : nameP rn) (h2 : rt = tn) (h3 : ¬ (ds.length ≤ 8 ∧ ms.length ≤ 16)) : rolE rn rt ds ms tn cs = 2 := by unfold rolE; rw [decide_eq_true h1, decide_eq_true h2, decide_eq_false h3]; rfl
theorem rol_4 (h1 : nameP rn) (h2 : rt = tn) (h3 : ds.length ≤ 8 ∧ ms.length ≤ 16) (h4 : ¬ ∀ x ∈ ms, 1 ≤ x.1 ∧ x.1 ≤ 7) : rolE rn rt ds ms tn cs = 2 := by unfold rolE; rw [decide_eq_true h1, decide_eq_true h2, decide_eq_true h3, decide_eq_false h4]; rfl
theorem rol_5 (h1 : nameP rn) (h2 : rt = tn) (h3 : ds.length ≤ 8 ∧ ms.length ≤ 16) (h4 : ∀ x ∈ ms, 1 ≤ x.1 ∧ x.1 ≤ 7) (h5 : ¬ ∀ x ∈ ds, colB cs x = true) : rolE rn rt ds ms tn cs = 13 := by unfold rolE; rw [decide_eq_true h1, decide_eq_true h2, decide_eq_true h3, decide_eq_true h4, decide_eq_false h5]; rfl
theorem rol_6 (h1 : nameP rn) (h2 : rt = tn) (h3 : ds.length ≤ 8 ∧ ms.length ≤ 16) (h4 : ∀ x ∈ ms, 1 ≤ x.1 ∧ x.1 ≤ 7) (h5 : ∀ x ∈ ds, colB cs x = true) (h6 : ¬ ∀ x ∈ ms, colB cs x.2 = true) : rolE rn rt ds ms tn cs = 13 := by unfold rolE; rw [decide_eq_true h1, decide_eq_true h2, decide_eq_true h3, decide_eq_true h4, decide_eq_true h5, decide_eq_false h6]; rfl
theorem rol_7 (h1 : nameP rn) (h2 : rt = tn) (h3 : ds.length ≤ 8 ∧ ms.length ≤ 16) (h4 : ∀ x ∈ ms, 1 ≤ x.1 ∧ x.1 ≤ 7) (h5 : ∀ x ∈ ds, colB cs x = true) (h6 : ∀ x ∈ ms, colB cs x.2 = true) (h7 : ¬ ds.Nodup) : rolE rn rt ds ms tn cs = 5 := by unfold rolE; rw [decide_eq_true h1, decide_eq_true h2, decide_eq_true h3, decide_eq_true h4, decide_eq_true h5, decide_eq_true h6, decide_eq_false h7]; rfl
theorem rol_8 (h1 : nameP rn) (h2 : rt = tn) (h3 : ds.length ≤ 8 ∧ ms.length ≤ 16) (h4 : ∀ x ∈ ms, 1 ≤ x.1 ∧ x.1 ≤ 7) (h5 : ∀ x ∈ ds, colB cs x = true) (h6 : ∀ x ∈ ms, colB cs x.2 = true) (h7 : ds.Nodup) (h8 : ¬ ms.Nodup) : rolE rn rt ds ms tn cs = 5 := by unfold rolE; rw [decide_eq_true h1, decide_eq_true h2, decide_eq_true h3, decide_eq_true h4, decide_eq_true h5, decide_eq_true h6, decide_eq_true h7, decide_eq_false h8]; rfl
theorem rol_9 (h1 : nameP rn) (h2 : rt = tn) (h3 : ds.length ≤ 8 ∧ ms.length ≤ 16) (h4 : ∀ x ∈ ms, 1 ≤ x.1 ∧ x.1 ≤ 7) (h5 : ∀ x ∈ ds, colB cs x = true) (h6 : ∀ x ∈ ms, colB cs x.2 = true) (h7 : ds.Nodup) (h8 : ms.Nodup) (h9 : ¬ ∀ x ∈ ms, fitP x.1 (colK cs x.2)) : rolE rn rt ds ms tn cs = 12 := by unfold rolE; rw [decide_eq_true h1, decide_eq_true h2, decide_eq_true h3, decide_eq_true h4, decide_eq_true h5, decide_eq_true h6, decide_eq_true h7, decide_eq_true h8, decide_eq_false h9]; rfl
theorem rol_0 (h1 : nameP rn) (h2 : rt = tn) (h3 : ds.length ≤ 8 ∧ ms.length ≤ 16) (h4 : ∀ x ∈ ms, 1 ≤ x.1 ∧ x.1 ≤ 7) (h5 : ∀ x ∈ ds, colB cs x = true) (h6 : ∀ x ∈ ms, colB cs x.2 = true) (h7 : ds.Nodup) (h8 : ms.Nodup) (h9 : ∀ x ∈ ms, fitP x.1 (colK cs x.2)) : rolE rn rt ds ms tn cs = 0 := by unfold rolE; rw [decide_eq_true h1, decide_eq_true h2, decide_eq_true h3, decide_eq_true h4, decide_eq_true h5, decide_eq_true h6, decide_eq_true h7, decide_eq_true h8, decide_eq_true h9]; rfl
end rol
/-- A table of a name. -/
abbrev Tq := ByteArray × Option Addr × Nat × Nat
abbrev tabV (q : Tq) : List Value := [.string q.1, .slice q.2.1 q.2.2.1 q.2.2.2]
abbrev tabA (q : Tq) : Value := .agg (tabV q).toArray
abbrev tq0 : Tq := (⟨#[]⟩, none, 0, 0)
def findO (l : List Tq) (s : ByteArray) : Option Tq := l.find? fun q => decide (q.1 = s)
abbrev findR (l : List Tq) (s : ByteArray) : Value := .tuple #[tabA ((findO l s).getD tq0), .bool (findO l s).isSome]
theorem find_yes {l : List Tq} {s : ByteArray} {i : Nat} (hi : i < l.length) (h : (l.getD i tq0).1 = s) (hb : ∀ j, j < i → (l.getD j tq0).1 ≠ s) : findO l s = some (l.getD i tq0) := by
  unfold findO
  rw [List.find?_eq_some_iff_getElem]
  refine ⟨by simpa using h, i, hi, by simp [List.getD, hi], fun j hj => ?_⟩
  have := hb j hj
  simpa [List.getD, show j < l.length by omega] using this
theorem find_not {l : List Tq} {s : ByteArray} (hb : ∀ j, j < l.length → (l.getD j tq0).1 ≠ s) : findO l s = none := by
  unfold findO
  rw [List.find?_eq_none]
  exact all_of tq0 (P := fun x => ¬ decide (x.1 = s) = true) (fun j hj => by simpa using hb j hj)
theorem tabC_len (l : List Tq) : (l.flatMap tabV).length = l.length * 2 := flat_length (f := tabV) (m := 2) (fun _ => rfl) l
theorem tabC_at {l : List Tq} {i : Nat} (h : i < l.length) : ((l.flatMap tabV).drop (Int.toNat (i : Int) * 2)).take 2 = tabV (l.getD i tq0) := by
  rw [Int.toNat_natCast]; exact flat_atM (m := 2) (f := tabV) (fun _ => rfl) tq0 l i h

theorem colC_0 {cs : List Cq} {i : Nat} (h : i < cs.length) : (cs.flatMap colV)[Int.toNat (i : Int) * 2 + 0]? = some (.string (sL (cs.getD i ([], 0)).1)) := by
  have := flat_atM (m := 2) (f := colV) (fun _ => rfl) ([], 0) cs i h
  rw [Int.toNat_natCast]
  have h2 := congrArg (fun l : List Value => l[0]?) this
  simp only [List.getElem?_take, List.getElem?_drop] at h2
  simpa using h2

set_option maxRecDepth 20000 in
theorem rColumn (A : Option Addr) (n c : Nat) (cs : List Cq) (hn : cs.length = n) (hn2 : n < 9223372036854775808) (nm0 : ByteArray) (nm : List UInt8) (w : World) (hr : Reads w A (cs.flatMap colV)) : FnV Tryd.prog 12 [.agg #[.string nm0, .slice A n c], .string (sL nm)] (colT cs nm) w := by
  refine fn_enter Tryd.func12 rfl Tryd.ntmps12 rfl ?_
  refine vc_seq ?_
  refine vc_region ?_
  refine vl_box rfl rfl (.some rfl) rfl (fun r2 => ?_)
  refine vl_val rfl (.some rfl) (val_assign rfl) ?_
  refine vl_val rfl (.some rfl) (val_assign rfl) ?_
  refine vl_val rfl (.some rfl) (val_assign rfl) ?_
  refine vl_nil ?_
  refine vc_seq ?_
  refine vc_seq ?_
  refine vc_region ?_
  refine vl_val rfl (.some rfl) (by first | exact val_fieldAddr Tryd.runUnderlying26 rfl Tryd.sizeOf24 rfl | exact val_fieldAddrR Tryd.runUnderlying26 rfl Tryd.sizeOf24 rfl) ?_
  refine vl_val rfl (.some rfl) (val_load Tryd.isAgg24 rfl (by first | exact cell_cells (by repeat (first | exact .head | apply In.tail | apply Take.tail | apply Upd.tail)) rfl | exact cell_rd (rd_sl (by repeat (first | exact .head | apply In.tail | apply Take.tail | apply Upd.tail))) (by first | exact bcells_at (by omega) | exact ucells_at (by omega) | exact icells_at (by omega) | exact tcells_at (by omega) | exact bcells_get (by omega) | exact icells_get (by omega) | exact tcells_get (by omega) | exact ucells_get (by omega)) | exact cell_rd (rd_old (by assumption) rfl) (by first | exact bcells_at (by omega) | exact ucells_at (by omega) | exact icells_at (by omega) | exact tcells_at (by omega) | exact bcells_get (by omega) | exact icells_get (by omega) | exact tcells_get (by omega) | exact ucells_get (by omega)) | exact cell_old (by assumption) (by simp [fps]))) ?_
  refine vl_val rfl (.some rfl) (val_lenSl Tryd.runUnderlying24 rfl) ?_
  refine vl_val rfl (.some rfl) (val_move rfl) ?_
  refine vl_nil ?_
  refine vc_block ?_
  refine vc_loopw (fun m E H => ∃ i : Nat, i ≤ n ∧ m = n - i ∧ (∀ j, j < i → (cs.getD j ([], 0)).1 ≠ nm) ∧ E = [(1, .string (sL nm)), (10, .slice A n c), (11, .int .i64 n), (12, .int .i64 i)] ∧ H = []) (n) ⟨_, _, _, ⟨0, by omega, rfl, fun j hj => absurd hj (by omega), rfl, rfl⟩, (by repeat (first | exact trivial | refine ⟨rfl, ?_⟩ | refine ⟨le_item rfl (by first | rfl | (congr 1; omega) | (simp; done) | (simp; omega)), ?_⟩)), (by repeat (first | exact .nil | (apply Sub.cons; · repeat (first | exact .head | apply Take.tail))))⟩ ?_
  intro m E H hI
  obtain ⟨i, hi, rfl, hb, rfl, rfl⟩ := hI
  refine vc_seq ?_
  refine vc_region ?_
  refine vl_val rfl (.some rfl) (val_lt rfl rfl) ?_
  refine vl_nil ?_
  refine vc_seq ?_
  refine vc_cond rfl (fun hc0 => ?_) (fun hc0 => ?_)
  · (try replace hc0 := of_decide_eq_true hc0)
    refine vc_skip ?_
    refine vc_seq ?_
    refine vc_block ?_
    refine vc_seq ?_
    refine vc_region ?_
    refine vl_val rfl (.some rfl) (val_move rfl) ?_
    refine vl_val rfl (.some rfl) (val_indexAddr Tryd.runUnderlying24 Tryd.sizeOf41 rfl rfl (vs := cs.flatMap colV) (rd_old hr rfl) (by omega) (by omega) (by rw [colC_len, Int.toNat_natCast]; omega)) ?_
    refine vl_val rfl (.some rfl) (val_loadAgg Tryd.isAgg41 Tryd.sizeOf41 rfl (cells_rd (us := colV (cs.getD i ([], 0))) (rd_old hr rfl) (colC_at rfl (by omega))) rfl) ?_
    refine vl_alloc rfl rfl (.some rfl) Tryd.zeroValue41 (fun r8 => ?_)
    refine vl_val rfl (.some rfl) (val_assign rfl) ?_
    first | refine vl_store rfl rfl .none rfl rfl Tryd.sizeOf41 rfl (by repeat (first | exact .head | apply In.tail | apply Take.tail | apply Upd.tail)) (by first | decide | exact Nat.le_refl _ | exact Nat.le_of_ble_eq_true rfl | (simp; omega)) ?_ | refine vl_storeSl rfl rfl .none rfl rfl Tryd.sizeOf41 rfl (by simp [Value.cells]) (by repeat (first | exact .head | apply In.tail | apply Take.tail | apply Upd.tail)) (by first | decide | (simp [Value.cells]; omega)) ?_
    refine vl_nil ?_
    refine vc_seq ?_
    refine vc_region ?_
    refine vl_val rfl (.some rfl) (by first | exact val_fieldAddr Tryd.runUnderlying41 rfl Tryd.sizeOf9 rfl | exact val_fieldAddrR Tryd.runUnderlying41 rfl Tryd.sizeOf9 rfl) ?_
    refine vl_val rfl (.some rfl) (val_load Tryd.isAgg9 rfl (by first | exact cell_cells (by repeat (first | exact .head | apply In.tail | apply Take.tail | apply Upd.tail)) rfl | exact cell_rd (rd_sl (by repeat (first | exact .head | apply In.tail | apply Take.tail | apply Upd.tail))) (by first | exact bcells_at (by omega) | exact ucells_at (by omega) | exact icells_at (by omega) | exact tcells_at (by omega) | exact bcells_get (by omega) | exact icells_get (by omega) | exact tcells_get (by omega) | exact ucells_get (by omega)) | exact cell_rd (rd_old (by assumption) rfl) (by first | exact bcells_at (by omega) | exact ucells_at (by omega) | exact icells_at (by omega) | exact tcells_at (by omega) | exact bcells_get (by omega) | exact icells_get (by omega) | exact tcells_get (by omega) | exact ucells_get (by omega)) | exact cell_old (by assumption) (by simp [fps]))) ?_
    refine vl_val rfl (.some rfl) (val_move rfl) ?_
    refine vl_val rfl (.some rfl) (val_seq rfl rfl) ?_
    refine vl_nil ?_
    refine vc_cond rfl (fun hc1 => ?_) (fun hc1 => ?_)
    · (try replace hc1 := of_decide_eq_true hc1)
      refine vc_seq ?_
      refine vc_draws [0, 1, 2, 3, 4, 5] [] [0, 1, 2, 3, 4, 5] rfl (by kernel_rfl) (fun _ _ _ h => h) ?_
      refine vd_val rfl rfl rfl (.some rfl) (val_move rfl) ?_
      refine vd_val rfl rfl rfl (.some rfl) (by first | exact val_fieldAddr Tryd.runUnderlying41 rfl Tryd.sizeOf3 rfl | exact val_fieldAddrR Tryd.runUnderlying41 rfl Tryd.sizeOf3 rfl) ?_
      refine vd_val rfl rfl rfl (.some rfl) (val_load Tryd.isAgg3 rfl (by first | exact cell_cells (by repeat (first | exact .head | apply In.tail | apply Take.tail | apply Upd.tail)) rfl | exact cell_rd (rd_sl (by repeat (first | exact .head | apply In.tail | apply Take.tail | apply Upd.tail))) (by first | exact bcells_at (by omega) | exact ucells_at (by omega) | exact icells_at (by omega) | exact tcells_at (by omega) | exact bcells_get (by omega) | exact icells_get (by omega) | exact tcells_get (by omega) | exact ucells_get (by omega)) | exact cell_rd (rd_old (by assumption) rfl) (by first | exact bcells_at (by omega) | exact ucells_at (by omega) | exact icells_at (by omega) | exact tcells_at (by omega) | exact bcells_get (by omega) | exact icells_get (by omega) | exact tcells_get (by omega) | exact ucells_get (by omega)) | exact cell_old (by assumption) (by simp [fps]))) ?_
      refine vd_val rfl rfl rfl (.some rfl) (val_assign rfl) ?_
      refine vd_val rfl rfl rfl (.some rfl) (val_assign rfl) ?_
      refine vd_val rfl rfl rfl (.some rfl) (val_assign rfl) ?_
      refine vd_nil ?_
      refine vc_ret ?_
      refine ⟨_, [], _, res3 Tryd.results12 rfl rfl rfl, .nil, ?_⟩
      rw [col_yes (i := i) (by omega) (sL_inj.1 hc1) hb]
      rfl
    · (try replace hc1 := of_decide_eq_false hc1)
      refine vc_skip ?_
      refine vc_region ?_
      refine vl_val rfl (.some rfl) (val_add rfl rfl (by first | exact w_i64 (by omega) (by omega) | rfl)) ?_
      refine vl_val rfl (.some rfl) (val_move rfl) ?_
      refine vl_nil ?_
      exact ⟨(n - (i + 1)), _, _, _, by omega, (by repeat (first | exact trivial | refine ⟨rfl, ?_⟩ | refine ⟨le_item rfl (by first | rfl | (congr 1; omega) | (simp; done) | (simp; omega)), ?_⟩)), (by repeat (first | exact .nil | (apply Sub.cons; · repeat (first | exact .head | apply Take.tail)))), ⟨i + 1, by omega, rfl, fun j hj => by
        rcases Nat.lt_or_ge j i with h | h
        · exact hb j h
        · obtain rfl : j = i := by omega
          exact fun e => hc1 (by rw [e]), rfl, rfl⟩⟩
  · (try replace hc0 := of_decide_eq_false hc0)
    refine vc_exit ?_
    refine vc_seq ?_
    refine vc_region ?_
    refine vl_val rfl (.some rfl) (val_assign rfl) ?_
    refine vl_val rfl (.some rfl) (val_assign rfl) ?_
    refine vl_val rfl (.some rfl) (val_assign rfl) ?_
    refine vl_nil ?_
    refine vc_ret ?_
    refine ⟨_, [], _, res3 Tryd.results12 rfl rfl rfl, .nil, ?_⟩
    rw [col_not (fun j hj => hb j (by omega))]
    rfl
set_option maxRecDepth 20000 in
theorem xFindT (A : Option Addr) (n c : Nat) (l : List Tq) (hn : l.length = n) (hn2 : n < 9223372036854775808) (s : ByteArray) (w : World) (hr : Reads w A (l.flatMap tabV)) : FnV Tryd.prog 19 [.slice A n c, .string s] (findR l s) w := by
  refine fn_enter Tryd.func19 rfl Tryd.ntmps19 rfl ?_
  refine vc_seq ?_
  refine vc_region ?_
  refine vl_alloc rfl rfl (.some rfl) Tryd.zeroValue26 (fun r4 => ?_)
  refine vl_val rfl (.some rfl) (val_assign rfl) ?_
  refine vl_nil ?_
  refine vc_seq ?_
  refine vc_seq ?_
  refine vc_region ?_
  refine vl_val rfl (.some rfl) (val_move rfl) ?_
  refine vl_val rfl (.some rfl) (val_lenSl Tryd.runUnderlying46 rfl) ?_
  refine vl_val rfl (.some rfl) (val_move rfl) ?_
  refine vl_nil ?_
  refine vc_block ?_
  refine vc_loopw (fun m E H => ∃ i : Nat, i ≤ n ∧ m = n - i ∧ (∀ j, j < i → (l.getD j tq0).1 ≠ s) ∧ E = [(1, .string s), (4, .pointer (some ⟨r4, 0, none⟩)), (8, .slice A n c), (9, .int .i64 n), (10, .int .i64 i)] ∧ H = [cells r4 [.string ⟨#[]⟩, .slice none 0 0] 26]) (n) ⟨_, _, _, ⟨0, by omega, rfl, fun j hj => absurd hj (by omega), rfl, rfl⟩, (by repeat (first | exact trivial | refine ⟨rfl, ?_⟩ | refine ⟨le_item rfl (by first | rfl | (congr 1; omega) | (simp; done) | (simp; omega)), ?_⟩)), (by repeat (first | exact .nil | (apply Sub.cons; · repeat (first | exact .head | apply Take.tail))))⟩ ?_
  intro m E H hI
  obtain ⟨i, hi, rfl, hb, rfl, rfl⟩ := hI
  refine vc_seq ?_
  refine vc_region ?_
  refine vl_val rfl (.some rfl) (val_lt rfl rfl) ?_
  refine vl_nil ?_
  refine vc_seq ?_
  refine vc_cond rfl (fun hc0 => ?_) (fun hc0 => ?_)
  · (try replace hc0 := of_decide_eq_true hc0)
    refine vc_skip ?_
    refine vc_seq ?_
    refine vc_block ?_
    refine vc_seq ?_
    refine vc_region ?_
    refine vl_val rfl (.some rfl) (val_indexAddr Tryd.runUnderlying46 Tryd.sizeOf26 rfl rfl (vs := l.flatMap tabV) (rd_old hr rfl) (by omega) (by omega) (by rw [tabC_len, Int.toNat_natCast]; omega)) ?_
    refine vl_val rfl (.some rfl) (val_loadAgg Tryd.isAgg26 Tryd.sizeOf26 rfl (cells_rd (us := tabV (l.getD i tq0)) (rd_old hr rfl) (tabC_at (by omega))) rfl) ?_
    refine vl_alloc rfl rfl (.some rfl) Tryd.zeroValue26 (fun r7 => ?_)
    first | refine vl_store rfl rfl .none rfl rfl Tryd.sizeOf26 rfl (by repeat (first | exact .head | apply In.tail | apply Take.tail | apply Upd.tail)) (by first | decide | exact Nat.le_refl _ | exact Nat.le_of_ble_eq_true rfl | (simp; omega)) ?_ | refine vl_storeSl rfl rfl .none rfl rfl Tryd.sizeOf26 rfl (by simp [Value.cells]) (by repeat (first | exact .head | apply In.tail | apply Take.tail | apply Upd.tail)) (by first | decide | (simp [Value.cells]; omega)) ?_
    refine vl_nil ?_
    refine vc_seq ?_
    refine vc_region ?_
    refine vl_val rfl (.some rfl) (by first | exact val_fieldAddr Tryd.runUnderlying26 rfl Tryd.sizeOf9 rfl | exact val_fieldAddrR Tryd.runUnderlying26 rfl Tryd.sizeOf9 rfl) ?_
    refine vl_val rfl (.some rfl) (val_load Tryd.isAgg9 rfl (by first | exact cell_cells (by repeat (first | exact .head | apply In.tail | apply Take.tail | apply Upd.tail)) rfl | exact cell_rd (rd_sl (by repeat (first | exact .head | apply In.tail | apply Take.tail | apply Upd.tail))) (by first | exact bcells_at (by omega) | exact ucells_at (by omega) | exact icells_at (by omega) | exact tcells_at (by omega) | exact bcells_get (by omega) | exact icells_get (by omega) | exact tcells_get (by omega) | exact ucells_get (by omega)) | exact cell_rd (rd_old (by assumption) rfl) (by first | exact bcells_at (by omega) | exact ucells_at (by omega) | exact icells_at (by omega) | exact tcells_at (by omega) | exact bcells_get (by omega) | exact icells_get (by omega) | exact tcells_get (by omega) | exact ucells_get (by omega)) | exact cell_old (by assumption) (by simp [fps]))) ?_
    refine vl_val rfl (.some rfl) (val_move rfl) ?_
    refine vl_val rfl (.some rfl) (val_seq rfl rfl) ?_
    refine vl_nil ?_
    refine vc_cond rfl (fun hc1 => ?_) (fun hc1 => ?_)
    · (try replace hc1 := of_decide_eq_true hc1)
      refine vc_seq ?_
      refine vc_region ?_
      refine vl_val rfl (.some rfl) (val_loadAgg Tryd.isAgg26 Tryd.sizeOf26 rfl (by first | exact cells_whole (by repeat (first | exact .head | apply In.tail | apply Take.tail | apply Upd.tail)) | exact cells_part (by repeat (first | exact .head | apply In.tail | apply Take.tail | apply Upd.tail)) rfl) rfl) ?_
      first | refine vl_store rfl rfl .none rfl rfl Tryd.sizeOf26 rfl (by repeat (first | exact .head | apply In.tail | apply Take.tail | apply Upd.tail)) (by first | decide | exact Nat.le_refl _ | exact Nat.le_of_ble_eq_true rfl | (simp; omega)) ?_ | refine vl_storeSl rfl rfl .none rfl rfl Tryd.sizeOf26 rfl (by simp [Value.cells]) (by repeat (first | exact .head | apply In.tail | apply Take.tail | apply Upd.tail)) (by first | decide | (simp [Value.cells]; omega)) ?_
      refine vl_val rfl (.some rfl) (val_assign rfl) ?_
      refine vl_nil ?_
      refine vc_ret ?_
      refine ⟨_, [], _, resC2 Tryd.results19 rfl (whole_agg Tryd.isAgg26 Tryd.sizeOf26 (cells_whole (by repeat (first | exact .head | apply In.tail | apply Take.tail | apply Upd.tail))) rfl) rfl, .nil, ?_⟩
      show _ = findR l s
      unfold findR
      rw [find_yes (i := i) (by omega) hc1 hb]
      rfl
    · (try replace hc1 := of_decide_eq_false hc1)
      refine vc_skip ?_
      refine vc_region ?_
      refine vl_val rfl (.some rfl) (val_add rfl rfl (by first | exact w_i64 (by omega) (by omega) | rfl)) ?_
      refine vl_val rfl (.some rfl) (val_move rfl) ?_
      refine vl_nil ?_
      exact ⟨(n - (i + 1)), _, _, _, by omega, (by repeat (first | exact trivial | refine ⟨rfl, ?_⟩ | refine ⟨le_item rfl (by first | rfl | (congr 1; omega) | (simp; done) | (simp; omega)), ?_⟩)), (by repeat (first | exact .nil | (apply Sub.cons; · repeat (first | exact .head | apply Take.tail)))), ⟨i + 1, by omega, rfl, fun j hj => by
        rcases Nat.lt_or_ge j i with h | h
        · exact hb j h
        · obtain rfl : j = i := by omega
          exact hc1, rfl, rfl⟩⟩
  · (try replace hc0 := of_decide_eq_false hc0)
    refine vc_exit ?_
    refine vc_seq ?_
    refine vc_region ?_
    refine vl_val rfl (.some rfl) (val_buildSt (pl := #[(0, 1), (1, 1)]) (cs := #[.string ⟨#[]⟩, .slice none 0 0]) Tryd.runUnderlying26 Tryd.zeroValue26 (fun w => by kernel_rfl) rfl rfl) ?_
    first | refine vl_store rfl rfl .none rfl rfl Tryd.sizeOf26 rfl (by repeat (first | exact .head | apply In.tail | apply Take.tail | apply Upd.tail)) (by first | decide | exact Nat.le_refl _ | exact Nat.le_of_ble_eq_true rfl | (simp; omega)) ?_ | refine vl_storeSl rfl rfl .none rfl rfl Tryd.sizeOf26 rfl (by simp [Value.cells]) (by repeat (first | exact .head | apply In.tail | apply Take.tail | apply Upd.tail)) (by first | decide | (simp [Value.cells]; omega)) ?_
    refine vl_val rfl (.some rfl) (val_assign rfl) ?_
    refine vl_nil ?_
    refine vc_ret ?_
    refine ⟨_, [], _, resC2 Tryd.results19 rfl (whole_agg Tryd.isAgg26 Tryd.sizeOf26 (cells_whole (by repeat (first | exact .head | apply In.tail | apply Take.tail | apply Upd.tail))) rfl) rfl, .nil, ?_⟩
    show _ = findR l s
    unfold findR
    rw [find_not (fun j hj => hb j (by omega))]
    rfl
set_option maxRecDepth 20000 in
theorem rFindT (A : Option Addr) (n c : Nat) (l : List Tq) (hn : l.length = n) (hn2 : n < 9223372036854775808) (s : ByteArray) (w : World) (hr : Reads w A (l.flatMap tabV)) : FnV Tryd.prog 20 [.slice A n c, .string s] (findR l s) w := by
  refine fn_enter Tryd.func20 rfl Tryd.ntmps20 rfl ?_
  refine vc_seq ?_
  refine vc_region ?_
  refine vl_alloc rfl rfl (.some rfl) Tryd.zeroValue26 (fun r4 => ?_)
  refine vl_val rfl (.some rfl) (val_assign rfl) ?_
  refine vl_nil ?_
  refine vc_seq ?_
  refine vc_seq ?_
  refine vc_region ?_
  refine vl_val rfl (.some rfl) (val_move rfl) ?_
  refine vl_val rfl (.some rfl) (val_lenSl Tryd.runUnderlying46 rfl) ?_
  refine vl_val rfl (.some rfl) (val_move rfl) ?_
  refine vl_nil ?_
  refine vc_block ?_
  refine vc_loopw (fun m E H => ∃ i : Nat, i ≤ n ∧ m = n - i ∧ (∀ j, j < i → (l.getD j tq0).1 ≠ s) ∧ E = [(1, .string s), (4, .pointer (some ⟨r4, 0, none⟩)), (8, .slice A n c), (9, .int .i64 n), (10, .int .i64 i)] ∧ H = [cells r4 [.string ⟨#[]⟩, .slice none 0 0] 26]) (n) ⟨_, _, _, ⟨0, by omega, rfl, fun j hj => absurd hj (by omega), rfl, rfl⟩, (by repeat (first | exact trivial | refine ⟨rfl, ?_⟩ | refine ⟨le_item rfl (by first | rfl | (congr 1; omega) | (simp; done) | (simp; omega)), ?_⟩)), (by repeat (first | exact .nil | (apply Sub.cons; · repeat (first | exact .head | apply Take.tail))))⟩ ?_
  intro m E H hI
  obtain ⟨i, hi, rfl, hb, rfl, rfl⟩ := hI
  refine vc_seq ?_
  refine vc_region ?_
  refine vl_val rfl (.some rfl) (val_lt rfl rfl) ?_
  refine vl_nil ?_
  refine vc_seq ?_
  refine vc_cond rfl (fun hc0 => ?_) (fun hc0 => ?_)
  · (try replace hc0 := of_decide_eq_true hc0)
    refine vc_skip ?_
    refine vc_seq ?_
    refine vc_block ?_
    refine vc_seq ?_
    refine vc_region ?_
    refine vl_val rfl (.some rfl) (val_indexAddr Tryd.runUnderlying46 Tryd.sizeOf26 rfl rfl (vs := l.flatMap tabV) (rd_old hr rfl) (by omega) (by omega) (by rw [tabC_len, Int.toNat_natCast]; omega)) ?_
    refine vl_val rfl (.some rfl) (val_loadAgg Tryd.isAgg26 Tryd.sizeOf26 rfl (cells_rd (us := tabV (l.getD i tq0)) (rd_old hr rfl) (tabC_at (by omega))) rfl) ?_
    refine vl_alloc rfl rfl (.some rfl) Tryd.zeroValue26 (fun r7 => ?_)
    first | refine vl_store rfl rfl .none rfl rfl Tryd.sizeOf26 rfl (by repeat (first | exact .head | apply In.tail | apply Take.tail | apply Upd.tail)) (by first | decide | exact Nat.le_refl _ | exact Nat.le_of_ble_eq_true rfl | (simp; omega)) ?_ | refine vl_storeSl rfl rfl .none rfl rfl Tryd.sizeOf26 rfl (by simp [Value.cells]) (by repeat (first | exact .head | apply In.tail | apply Take.tail | apply Upd.tail)) (by first | decide | (simp [Value.cells]; omega)) ?_
    refine vl_nil ?_
    refine vc_seq ?_
    refine vc_region ?_
    refine vl_val rfl (.some rfl) (by first | exact val_fieldAddr Tryd.runUnderlying26 rfl Tryd.sizeOf9 rfl | exact val_fieldAddrR Tryd.runUnderlying26 rfl Tryd.sizeOf9 rfl) ?_
    refine vl_val rfl (.some rfl) (val_load Tryd.isAgg9 rfl (by first | exact cell_cells (by repeat (first | exact .head | apply In.tail | apply Take.tail | apply Upd.tail)) rfl | exact cell_rd (rd_sl (by repeat (first | exact .head | apply In.tail | apply Take.tail | apply Upd.tail))) (by first | exact bcells_at (by omega) | exact ucells_at (by omega) | exact icells_at (by omega) | exact tcells_at (by omega) | exact bcells_get (by omega) | exact icells_get (by omega) | exact tcells_get (by omega) | exact ucells_get (by omega)) | exact cell_rd (rd_old (by assumption) rfl) (by first | exact bcells_at (by omega) | exact ucells_at (by omega) | exact icells_at (by omega) | exact tcells_at (by omega) | exact bcells_get (by omega) | exact icells_get (by omega) | exact tcells_get (by omega) | exact ucells_get (by omega)) | exact cell_old (by assumption) (by simp [fps]))) ?_
    refine vl_val rfl (.some rfl) (val_move rfl) ?_
    refine vl_val rfl (.some rfl) (val_seq rfl rfl) ?_
    refine vl_nil ?_
    refine vc_cond rfl (fun hc1 => ?_) (fun hc1 => ?_)
    · (try replace hc1 := of_decide_eq_true hc1)
      refine vc_seq ?_
      refine vc_region ?_
      refine vl_val rfl (.some rfl) (val_loadAgg Tryd.isAgg26 Tryd.sizeOf26 rfl (by first | exact cells_whole (by repeat (first | exact .head | apply In.tail | apply Take.tail | apply Upd.tail)) | exact cells_part (by repeat (first | exact .head | apply In.tail | apply Take.tail | apply Upd.tail)) rfl) rfl) ?_
      first | refine vl_store rfl rfl .none rfl rfl Tryd.sizeOf26 rfl (by repeat (first | exact .head | apply In.tail | apply Take.tail | apply Upd.tail)) (by first | decide | exact Nat.le_refl _ | exact Nat.le_of_ble_eq_true rfl | (simp; omega)) ?_ | refine vl_storeSl rfl rfl .none rfl rfl Tryd.sizeOf26 rfl (by simp [Value.cells]) (by repeat (first | exact .head | apply In.tail | apply Take.tail | apply Upd.tail)) (by first | decide | (simp [Value.cells]; omega)) ?_
      refine vl_val rfl (.some rfl) (val_assign rfl) ?_
      refine vl_nil ?_
      refine vc_ret ?_
      refine ⟨_, [], _, resC2 Tryd.results20 rfl (whole_agg Tryd.isAgg26 Tryd.sizeOf26 (cells_whole (by repeat (first | exact .head | apply In.tail | apply Take.tail | apply Upd.tail))) rfl) rfl, .nil, ?_⟩
      show _ = findR l s
      unfold findR
      rw [find_yes (i := i) (by omega) hc1 hb]
      rfl
    · (try replace hc1 := of_decide_eq_false hc1)
      refine vc_skip ?_
      refine vc_region ?_
      refine vl_val rfl (.some rfl) (val_add rfl rfl (by first | exact w_i64 (by omega) (by omega) | rfl)) ?_
      refine vl_val rfl (.some rfl) (val_move rfl) ?_
      refine vl_nil ?_
      exact ⟨(n - (i + 1)), _, _, _, by omega, (by repeat (first | exact trivial | refine ⟨rfl, ?_⟩ | refine ⟨le_item rfl (by first | rfl | (congr 1; omega) | (simp; done) | (simp; omega)), ?_⟩)), (by repeat (first | exact .nil | (apply Sub.cons; · repeat (first | exact .head | apply Take.tail)))), ⟨i + 1, by omega, rfl, fun j hj => by
        rcases Nat.lt_or_ge j i with h | h
        · exact hb j h
        · obtain rfl : j = i := by omega
          exact hc1, rfl, rfl⟩⟩
  · (try replace hc0 := of_decide_eq_false hc0)
    refine vc_exit ?_
    refine vc_seq ?_
    refine vc_region ?_
    refine vl_val rfl (.some rfl) (val_buildSt (pl := #[(0, 1), (1, 1)]) (cs := #[.string ⟨#[]⟩, .slice none 0 0]) Tryd.runUnderlying26 Tryd.zeroValue26 (fun w => by kernel_rfl) rfl rfl) ?_
    first | refine vl_store rfl rfl .none rfl rfl Tryd.sizeOf26 rfl (by repeat (first | exact .head | apply In.tail | apply Take.tail | apply Upd.tail)) (by first | decide | exact Nat.le_refl _ | exact Nat.le_of_ble_eq_true rfl | (simp; omega)) ?_ | refine vl_storeSl rfl rfl .none rfl rfl Tryd.sizeOf26 rfl (by simp [Value.cells]) (by repeat (first | exact .head | apply In.tail | apply Take.tail | apply Upd.tail)) (by first | decide | (simp [Value.cells]; omega)) ?_
    refine vl_val rfl (.some rfl) (val_assign rfl) ?_
    refine vl_nil ?_
    refine vc_ret ?_
    refine ⟨_, [], _, resC2 Tryd.results20 rfl (whole_agg Tryd.isAgg26 Tryd.sizeOf26 (cells_whole (by repeat (first | exact .head | apply In.tail | apply Take.tail | apply Upd.tail))) rfl) rfl, .nil, ?_⟩
    show _ = findR l s
    unfold findR
    rw [find_not (fun j hj => hb j (by omega))]
    rfl
set_option maxRecDepth 20000 in
theorem rHas (rn rt : ByteArray) (Ad : Option Addr) (nd cd : Nat) (A : Option Addr) (n c : Nat) (xs : List Mq) (hn : xs.length = n) (hl : n < 9223372036854775808) (v : Mq) (w : World) (hr : Reads w A (xs.flatMap meaV)) : FnV Tryd.prog 21 [.agg #[.string rn, .string rt, .slice Ad nd cd, .slice A n c], meaA v] (.bool (decide (v ∈ xs))) w := by
  refine fn_enter Tryd.func21 rfl Tryd.ntmps21 rfl ?_
  refine vc_seq ?_
  refine vc_region ?_
  refine vl_box rfl rfl (.some rfl) rfl (fun r2 => ?_)
  refine vl_box rfl rfl (.some rfl) rfl (fun r3 => ?_)
  refine vl_val rfl (.some rfl) (val_assign rfl) ?_
  refine vl_nil ?_
  refine vc_seq ?_
  refine vc_seq ?_
  refine vc_region ?_
  refine vl_val rfl (.some rfl) (by first | exact val_fieldAddr Tryd.runUnderlying30 rfl Tryd.sizeOf28 rfl | exact val_fieldAddrR Tryd.runUnderlying30 rfl Tryd.sizeOf28 rfl) ?_
  refine vl_val rfl (.some rfl) (val_load Tryd.isAgg28 rfl (by first | exact cell_cells (by repeat (first | exact .head | apply In.tail | apply Take.tail | apply Upd.tail)) rfl | exact cell_rd (rd_sl (by repeat (first | exact .head | apply In.tail | apply Take.tail | apply Upd.tail))) (by first | exact bcells_at (by omega) | exact ucells_at (by omega) | exact icells_at (by omega) | exact tcells_at (by omega) | exact bcells_get (by omega) | exact icells_get (by omega) | exact tcells_get (by omega) | exact ucells_get (by omega)) | exact cell_rd (rd_old (by assumption) rfl) (by first | exact bcells_at (by omega) | exact ucells_at (by omega) | exact icells_at (by omega) | exact tcells_at (by omega) | exact bcells_get (by omega) | exact icells_get (by omega) | exact tcells_get (by omega) | exact ucells_get (by omega)) | exact cell_old (by assumption) (by simp [fps]))) ?_
  refine vl_val rfl (.some rfl) (val_lenSl Tryd.runUnderlying28 rfl) ?_
  refine vl_val rfl (.some rfl) (val_move rfl) ?_
  refine vl_nil ?_
  refine vc_block ?_
  refine vc_loopw (fun m E H => ∃ i : Nat, i ≤ n ∧ m = n - i ∧ (∀ j, j < i → xs.getD j (0, []) ≠ v) ∧ E = [(3, .pointer (some ⟨r3, 0, none⟩)), (8, .slice A n c), (9, .int .i64 n), (10, .int .i64 i)] ∧ H = [cells r3 (meaV v) 43]) (n) ⟨_, _, _, ⟨0, by omega, rfl, fun j hj => absurd hj (by omega), rfl, rfl⟩, (by repeat (first | exact trivial | refine ⟨rfl, ?_⟩ | refine ⟨le_item rfl (by first | rfl | (congr 1; omega) | (simp; done) | (simp; omega)), ?_⟩)), (by repeat (first | exact .nil | (apply Sub.cons; · repeat (first | exact .head | apply Take.tail))))⟩ ?_
  intro m E H hI
  obtain ⟨i, hi, rfl, hb, rfl, rfl⟩ := hI
  refine vc_seq ?_
  refine vc_region ?_
  refine vl_val rfl (.some rfl) (val_lt rfl rfl) ?_
  refine vl_nil ?_
  refine vc_seq ?_
  refine vc_cond rfl (fun hc0 => ?_) (fun hc0 => ?_)
  · (try replace hc0 := of_decide_eq_true hc0)
    refine vc_skip ?_
    refine vc_seq ?_
    refine vc_block ?_
    refine vc_seq ?_
    refine vc_region ?_
    refine vl_val rfl (.some rfl) (val_indexAddr Tryd.runUnderlying28 Tryd.sizeOf43 rfl rfl (vs := xs.flatMap meaV) (rd_old hr rfl) (by omega) (by omega) (by rw [meaC_len, Int.toNat_natCast]; omega)) ?_
    refine vl_val rfl (.some rfl) (val_loadAgg Tryd.isAgg43 Tryd.sizeOf43 rfl (cells_rd (us := meaV (xs.getD i (0, []))) (rd_old hr rfl) (meaC_at rfl (by omega))) rfl) ?_
    refine vl_alloc rfl rfl (.some rfl) Tryd.zeroValue43 (fun r6 => ?_)
    first | refine vl_store rfl rfl .none rfl rfl Tryd.sizeOf43 rfl (by repeat (first | exact .head | apply In.tail | apply Take.tail | apply Upd.tail)) (by first | decide | exact Nat.le_refl _ | exact Nat.le_of_ble_eq_true rfl | (simp; omega)) ?_ | refine vl_storeSl rfl rfl .none rfl rfl Tryd.sizeOf43 rfl (by simp [Value.cells]) (by repeat (first | exact .head | apply In.tail | apply Take.tail | apply Upd.tail)) (by first | decide | (simp [Value.cells]; omega)) ?_
    refine vl_nil ?_
    refine vc_seq ?_
    refine vc_region ?_
    refine vl_val rfl (.some rfl) (val_loadAgg Tryd.isAgg43 Tryd.sizeOf43 rfl (by first | exact cells_whole (by repeat (first | exact .head | apply In.tail | apply Take.tail | apply Upd.tail)) | exact cells_part (by repeat (first | exact .head | apply In.tail | apply Take.tail | apply Upd.tail)) rfl) rfl) ?_
    refine vl_val rfl (.some rfl) (val_loadAgg Tryd.isAgg43 Tryd.sizeOf43 rfl (by first | exact cells_whole (by repeat (first | exact .head | apply In.tail | apply Take.tail | apply Upd.tail)) | exact cells_part (by repeat (first | exact .head | apply In.tail | apply Take.tail | apply Upd.tail)) rfl) rfl) ?_
    refine vl_val rfl (.some rfl) (val_opO rfl rfl (fun w => run_eqGuard_agg w _ _ _ _ _ _ (by kernel_rfl)) (bin_agg_eq (mea_equal (xs.getD i (0, [])) v))) ?_
    refine vl_nil ?_
    refine vc_cond rfl (fun hc1 => ?_) (fun hc1 => ?_)
    · (try replace hc1 := of_decide_eq_true hc1)
      refine vc_seq ?_
      refine vc_region ?_
      refine vl_val rfl (.some rfl) (val_assign rfl) ?_
      refine vl_nil ?_
      refine vc_ret ?_
      refine ⟨_, [], _, res1 Tryd.results21 rfl, .nil, ?_⟩
      show Value.bool _ = Value.bool _
      rw [decide_eq_true (p := v ∈ xs) (mem_firstM (0, []) (i := i) (by omega) (by simpa using hc1))]
    · (try replace hc1 := of_decide_eq_false hc1)
      refine vc_skip ?_
      refine vc_region ?_
      refine vl_val rfl (.some rfl) (val_add rfl rfl (by first | exact w_i64 (by omega) (by omega) | rfl)) ?_
      refine vl_val rfl (.some rfl) (val_move rfl) ?_
      refine vl_nil ?_
      exact ⟨(n - (i + 1)), _, _, _, by omega, (by repeat (first | exact trivial | refine ⟨rfl, ?_⟩ | refine ⟨le_item rfl (by first | rfl | (congr 1; omega) | (simp; done) | (simp; omega)), ?_⟩)), (by repeat (first | exact .nil | (apply Sub.cons; · repeat (first | exact .head | apply Take.tail)))), ⟨i + 1, by omega, rfl, fun j hj => by
        rcases Nat.lt_or_ge j i with h | h
        · exact hb j h
        · obtain rfl : j = i := by omega
          simpa using hc1, rfl, rfl⟩⟩
  · (try replace hc0 := of_decide_eq_false hc0)
    refine vc_exit ?_
    refine vc_seq ?_
    refine vc_region ?_
    refine vl_val rfl (.some rfl) (val_assign rfl) ?_
    refine vl_nil ?_
    refine vc_ret ?_
    refine ⟨_, [], _, res1 Tryd.results21 rfl, .nil, ?_⟩
    show Value.bool _ = Value.bool _
    rw [decide_eq_false (p := v ∈ xs) (mem_noneM (0, []) (fun j hj => hb j (by omega)))]
set_option maxRecDepth 20000 in
set_option maxHeartbeats 1000000 in
theorem rTable (nm : List UInt8) (hlb : nm.length < 9223372036854775808) (A : Option Addr) (n c : Nat) (cs : List Cq) (hn : cs.length = n) (hn2 : n < 9223372036854775808) (hx : ∀ x ∈ cs, x.1.length < 9223372036854775808) (w : World) (hr : Reads w A (cs.flatMap colV)) : FnV Tryd.prog 14 [.agg #[.string (sL nm), .slice A n c]] (.int .i64 (tabE nm cs)) w := by
  have hxn : ∀ i, (cs.getD i ([], 0)).1.length < 9223372036854775808 := fun i => by have := nm_lt hx hn i; rwa [fst_getD] at this
  have hxf : ∀ i, (cs.map fstQ).getD i [] = (cs.getD i ([], 0)).1 := fst_getD cs
  have hml : (cs.map fstQ).length = n := by rw [List.length_map]; exact hn
  refine fn_enter Tryd.func14 rfl Tryd.ntmps14 rfl ?_
  refine vc_seq ?_
  refine vc_region ?_
  refine vl_box rfl rfl (.some rfl) rfl (fun r1 => ?_)
  refine vl_val rfl (.some rfl) (val_assign rfl) ?_
  refine vl_nil ?_
  refine vc_seq ?_
  refine vc_seq ?_
  refine vc_region ?_
  refine vl_val rfl (.some rfl) (by first | exact val_fieldAddr Tryd.runUnderlying26 rfl Tryd.sizeOf9 rfl | exact val_fieldAddrR Tryd.runUnderlying26 rfl Tryd.sizeOf9 rfl) ?_
  refine vl_val rfl (.some rfl) (val_load Tryd.isAgg9 rfl (by first | exact cell_cells (by repeat (first | exact .head | apply In.tail | apply Take.tail | apply Upd.tail)) rfl | exact cell_rd (rd_sl (by repeat (first | exact .head | apply In.tail | apply Take.tail | apply Upd.tail))) (by first | exact bcells_at (by omega) | exact ucells_at (by omega) | exact icells_at (by omega) | exact tcells_at (by omega) | exact bcells_get (by omega) | exact icells_get (by omega) | exact tcells_get (by omega) | exact ucells_get (by omega)) | exact cell_rd (rd_old (by assumption) rfl) (by first | exact bcells_at (by omega) | exact ucells_at (by omega) | exact icells_at (by omega) | exact tcells_at (by omega) | exact bcells_get (by omega) | exact icells_get (by omega) | exact tcells_get (by omega) | exact ucells_get (by omega)) | exact cell_old (by assumption) (by simp [fps]))) ?_
  refine vl_callV rfl rfl (.some rfl) Tryd.call10 rfl (fun w hw => rName nm hlb w) ?_
  refine vl_val rfl (.some rfl) (val_not rfl) ?_
  refine vl_nil ?_
  refine vc_cond rfl (fun hc0 => ?_) (fun hc0 => ?_)
  · (try replace hc0 := of_decide_eq_true hc0)
    have h1 : ¬ nameP nm := by simpa using hc0
    refine vc_seq ?_
    refine vc_region ?_
    refine vl_val rfl (.some rfl) (val_assign rfl) ?_
    refine vl_nil ?_
    refine vc_ret ?_
    refine ⟨_, [], _, res1 Tryd.results14 rfl, .nil, ?_⟩
    rw [tab_1 h1]
    rfl
  · (try replace hc0 := of_decide_eq_false hc0)
    have h1 : nameP nm := by simpa using hc0
    refine vc_skip ?_
    refine vc_seq ?_
    refine vc_seq ?_
    refine vc_region ?_
    refine vl_val rfl (.some rfl) (by first | exact val_fieldAddr Tryd.runUnderlying26 rfl Tryd.sizeOf24 rfl | exact val_fieldAddrR Tryd.runUnderlying26 rfl Tryd.sizeOf24 rfl) ?_
    refine vl_val rfl (.some rfl) (val_load Tryd.isAgg24 rfl (by first | exact cell_cells (by repeat (first | exact .head | apply In.tail | apply Take.tail | apply Upd.tail)) rfl | exact cell_rd (rd_sl (by repeat (first | exact .head | apply In.tail | apply Take.tail | apply Upd.tail))) (by first | exact bcells_at (by omega) | exact ucells_at (by omega) | exact icells_at (by omega) | exact tcells_at (by omega) | exact bcells_get (by omega) | exact icells_get (by omega) | exact tcells_get (by omega) | exact ucells_get (by omega)) | exact cell_rd (rd_old (by assumption) rfl) (by first | exact bcells_at (by omega) | exact ucells_at (by omega) | exact icells_at (by omega) | exact tcells_at (by omega) | exact bcells_get (by omega) | exact icells_get (by omega) | exact tcells_get (by omega) | exact ucells_get (by omega)) | exact cell_old (by assumption) (by simp [fps]))) ?_
    refine vl_val rfl (.some rfl) (val_lenSl Tryd.runUnderlying24 rfl) ?_
    refine vl_val rfl (.some rfl) (val_move rfl) ?_
    refine vl_nil ?_
    refine vc_block ?_
    refine vc_loopw (fun m E H => ∃ i : Nat, i ≤ n ∧ m = n - i ∧ (∀ j, j < i → nameP (cs.getD j ([], 0)).1) ∧ E = [(1, .pointer (some ⟨r1, 0, none⟩)), (15, .slice A n c), (16, .int .i64 n), (17, .int .i64 i)] ∧ H = [cells r1 [.string (sL nm), .slice A n c] 26]) (n) ⟨_, _, _, ⟨0, by omega, rfl, fun j hj => absurd hj (by omega), rfl, rfl⟩, (by repeat (first | exact trivial | refine ⟨rfl, ?_⟩ | refine ⟨le_item rfl (by first | rfl | (congr 1; omega) | (simp; done) | (simp; omega)), ?_⟩)), (by repeat (first | exact .nil | (apply Sub.cons; · repeat (first | exact .head | apply Take.tail))))⟩ ?_
    intro m E H hI
    obtain ⟨i, hi, rfl, hna, rfl, rfl⟩ := hI
    refine vc_seq ?_
    refine vc_region ?_
    refine vl_val rfl (.some rfl) (val_lt rfl rfl) ?_
    refine vl_nil ?_
    refine vc_seq ?_
    refine vc_cond rfl (fun hc1 => ?_) (fun hc1 => ?_)
    · (try replace hc1 := of_decide_eq_true hc1)
      refine vc_skip ?_
      refine vc_seq ?_
      refine vc_block ?_
      refine vc_seq ?_
      refine vc_region ?_
      refine vl_val rfl (.some rfl) (val_indexAddr Tryd.runUnderlying24 Tryd.sizeOf41 rfl rfl (vs := cs.flatMap colV) (rd_old hr rfl) (by omega) (by omega) (by rw [colC_len, Int.toNat_natCast]; omega)) ?_
      refine vl_val rfl (.some rfl) (val_loadAgg Tryd.isAgg41 Tryd.sizeOf41 rfl (cells_rd (us := colV (cs.getD i ([], 0))) (rd_old hr rfl) (colC_at rfl (by omega))) rfl) ?_
      refine vl_alloc rfl rfl (.some rfl) Tryd.zeroValue41 (fun r4 => ?_)
      first | refine vl_store rfl rfl .none rfl rfl Tryd.sizeOf41 rfl (by repeat (first | exact .head | apply In.tail | apply Take.tail | apply Upd.tail)) (by first | decide | exact Nat.le_refl _ | exact Nat.le_of_ble_eq_true rfl | (simp; omega)) ?_ | refine vl_storeSl rfl rfl .none rfl rfl Tryd.sizeOf41 rfl (by simp [Value.cells]) (by repeat (first | exact .head | apply In.tail | apply Take.tail | apply Upd.tail)) (by first | decide | (simp [Value.cells]; omega)) ?_
      refine vl_nil ?_
      refine vc_seq ?_
      refine vc_region ?_
      refine vl_val rfl (.some rfl) (by first | exact val_fieldAddr Tryd.runUnderlying41 rfl Tryd.sizeOf9 rfl | exact val_fieldAddrR Tryd.runUnderlying41 rfl Tryd.sizeOf9 rfl) ?_
      refine vl_val rfl (.some rfl) (val_load Tryd.isAgg9 rfl (by first | exact cell_cells (by repeat (first | exact .head | apply In.tail | apply Take.tail | apply Upd.tail)) rfl | exact cell_rd (rd_sl (by repeat (first | exact .head | apply In.tail | apply Take.tail | apply Upd.tail))) (by first | exact bcells_at (by omega) | exact ucells_at (by omega) | exact icells_at (by omega) | exact tcells_at (by omega) | exact bcells_get (by omega) | exact icells_get (by omega) | exact tcells_get (by omega) | exact ucells_get (by omega)) | exact cell_rd (rd_old (by assumption) rfl) (by first | exact bcells_at (by omega) | exact ucells_at (by omega) | exact icells_at (by omega) | exact tcells_at (by omega) | exact bcells_get (by omega) | exact icells_get (by omega) | exact tcells_get (by omega) | exact ucells_get (by omega)) | exact cell_old (by assumption) (by simp [fps]))) ?_
      refine vl_callV rfl rfl (.some rfl) Tryd.call10 rfl (fun w hw => rName (cs.getD i ([], 0)).1 (hxn i) w) ?_
      refine vl_val rfl (.some rfl) (val_not rfl) ?_
      refine vl_nil ?_
      refine vc_cond rfl (fun hc2 => ?_) (fun hc2 => ?_)
      · (try replace hc2 := of_decide_eq_true hc2)
        refine vc_seq ?_
        refine vc_region ?_
        refine vl_val rfl (.some rfl) (val_assign rfl) ?_
        refine vl_nil ?_
        refine vc_ret ?_
        refine ⟨_, [], _, res1 Tryd.results14 rfl, .nil, ?_⟩
        rw [tab_2 h1 (names_not (j := i) (by omega) (by simpa using hc2))]
        rfl
      · (try replace hc2 := of_decide_eq_false hc2)
        refine vc_skip ?_
        refine vc_region ?_
        refine vl_val rfl (.some rfl) (val_add rfl rfl (by first | exact w_i64 (by omega) (by omega) | rfl)) ?_
        refine vl_val rfl (.some rfl) (val_move rfl) ?_
        refine vl_nil ?_
        exact ⟨(n - (i + 1)), _, _, _, by omega, (by repeat (first | exact trivial | refine ⟨rfl, ?_⟩ | refine ⟨le_item rfl (by first | rfl | (congr 1; omega) | (simp; done) | (simp; omega)), ?_⟩)), (by repeat (first | exact .nil | (apply Sub.cons; · repeat (first | exact .head | apply Take.tail)))), ⟨i + 1, by omega, rfl, fun j hj => by
          rcases Nat.lt_or_ge j i with h | h
          · exact hna j h
          · obtain rfl : j = i := by omega
            simpa using hc2, rfl, rfl⟩⟩
    · (try replace hc1 := of_decide_eq_false hc1)
      have hnms : ∀ x ∈ cs.map fstQ, nameP x := names_all (fun j hj => hna j (by omega))
      refine vc_exit ?_
      refine vc_seq ?_
      refine vc_seq ?_
      refine vc_region ?_
      refine vl_val rfl (.some rfl) (by first | exact val_fieldAddr Tryd.runUnderlying26 rfl Tryd.sizeOf24 rfl | exact val_fieldAddrR Tryd.runUnderlying26 rfl Tryd.sizeOf24 rfl) ?_
      refine vl_val rfl (.some rfl) (val_load Tryd.isAgg24 rfl (by first | exact cell_cells (by repeat (first | exact .head | apply In.tail | apply Take.tail | apply Upd.tail)) rfl | exact cell_rd (rd_sl (by repeat (first | exact .head | apply In.tail | apply Take.tail | apply Upd.tail))) (by first | exact bcells_at (by omega) | exact ucells_at (by omega) | exact icells_at (by omega) | exact tcells_at (by omega) | exact bcells_get (by omega) | exact icells_get (by omega) | exact tcells_get (by omega) | exact ucells_get (by omega)) | exact cell_rd (rd_old (by assumption) rfl) (by first | exact bcells_at (by omega) | exact ucells_at (by omega) | exact icells_at (by omega) | exact tcells_at (by omega) | exact bcells_get (by omega) | exact icells_get (by omega) | exact tcells_get (by omega) | exact ucells_get (by omega)) | exact cell_old (by assumption) (by simp [fps]))) ?_
      refine vl_val rfl (.some rfl) (val_lenSl Tryd.runUnderlying24 rfl) ?_
      refine vl_val rfl (.some rfl) (val_lt rfl rfl) ?_
      refine vl_val rfl (.some rfl) (val_move rfl) ?_
      refine vl_split (t := 30) rfl (fun hg30 => ?_) (fun hg30 => ?_)
      · (try replace hg30 := of_decide_eq_true hg30)
        refine vl_off rfl rfl rfl rfl (.some rfl) ?_
        refine vl_off rfl rfl rfl rfl (.some rfl) ?_
        refine vl_off rfl rfl rfl rfl (.some rfl) ?_
        refine vl_off rfl rfl rfl rfl (.some rfl) ?_
        refine vl_val rfl (.some rfl) (val_pick rfl rfl) ?_
        refine vl_nil ?_
        refine vc_cond rfl (fun _ => ?_) (fun h => by cases h)
        refine vc_seq ?_
        refine vc_region ?_
        refine vl_val rfl (.some rfl) (val_assign rfl) ?_
        refine vl_nil ?_
        refine vc_ret ?_
        refine ⟨_, [], _, res1 Tryd.results14 rfl, .nil, ?_⟩
        rw [tab_3 h1 hnms (by omega)]
        rfl
      · (try replace hg30 := of_decide_eq_false hg30)
        refine vl_on rfl rfl rfl rfl ?_
        refine vl_val rfl (.some rfl) (by first | exact val_fieldAddr Tryd.runUnderlying26 rfl Tryd.sizeOf24 rfl | exact val_fieldAddrR Tryd.runUnderlying26 rfl Tryd.sizeOf24 rfl) ?_
        refine vl_on rfl rfl rfl rfl ?_
        refine vl_val rfl (.some rfl) (val_load Tryd.isAgg24 rfl (by first | exact cell_cells (by repeat (first | exact .head | apply In.tail | apply Take.tail | apply Upd.tail)) rfl | exact cell_rd (rd_sl (by repeat (first | exact .head | apply In.tail | apply Take.tail | apply Upd.tail))) (by first | exact bcells_at (by omega) | exact ucells_at (by omega) | exact icells_at (by omega) | exact tcells_at (by omega) | exact bcells_get (by omega) | exact icells_get (by omega) | exact tcells_get (by omega) | exact ucells_get (by omega)) | exact cell_rd (rd_old (by assumption) rfl) (by first | exact bcells_at (by omega) | exact ucells_at (by omega) | exact icells_at (by omega) | exact tcells_at (by omega) | exact bcells_get (by omega) | exact icells_get (by omega) | exact tcells_get (by omega) | exact ucells_get (by omega)) | exact cell_old (by assumption) (by simp [fps]))) ?_
        refine vl_on rfl rfl rfl rfl ?_
        refine vl_val rfl (.some rfl) (val_lenSl Tryd.runUnderlying24 rfl) ?_
        refine vl_on rfl rfl rfl rfl ?_
        refine vl_val rfl (.some rfl) (val_gt rfl rfl) ?_
        refine vl_val rfl (.some rfl) (val_pick rfl rfl) ?_
        refine vl_nil ?_
        refine vc_cond rfl (fun hc3 => ?_) (fun hc3 => ?_)
        · (try replace hc3 := of_decide_eq_true hc3)
          have h3 : ¬ (1 ≤ (cs.length : Int) ∧ (cs.length : Int) ≤ 8) := by omega
          refine vc_seq ?_
          refine vc_region ?_
          refine vl_val rfl (.some rfl) (val_assign rfl) ?_
          refine vl_nil ?_
          refine vc_ret ?_
          refine ⟨_, [], _, res1 Tryd.results14 rfl, .nil, ?_⟩
          rw [tab_3 h1 hnms (by omega)]
          rfl
        · (try replace hc3 := of_decide_eq_false hc3)
          have h3 : 1 ≤ (cs.length : Int) ∧ (cs.length : Int) ≤ 8 := by omega
          refine vc_skip ?_
          refine vc_seq ?_
          refine vc_seq ?_
          refine vc_region ?_
          refine vl_val rfl (.some rfl) (by first | exact val_fieldAddr Tryd.runUnderlying26 rfl Tryd.sizeOf24 rfl | exact val_fieldAddrR Tryd.runUnderlying26 rfl Tryd.sizeOf24 rfl) ?_
          refine vl_val rfl (.some rfl) (val_load Tryd.isAgg24 rfl (by first | exact cell_cells (by repeat (first | exact .head | apply In.tail | apply Take.tail | apply Upd.tail)) rfl | exact cell_rd (rd_sl (by repeat (first | exact .head | apply In.tail | apply Take.tail | apply Upd.tail))) (by first | exact bcells_at (by omega) | exact ucells_at (by omega) | exact icells_at (by omega) | exact tcells_at (by omega) | exact bcells_get (by omega) | exact icells_get (by omega) | exact tcells_get (by omega) | exact ucells_get (by omega)) | exact cell_rd (rd_old (by assumption) rfl) (by first | exact bcells_at (by omega) | exact ucells_at (by omega) | exact icells_at (by omega) | exact tcells_at (by omega) | exact bcells_get (by omega) | exact icells_get (by omega) | exact tcells_get (by omega) | exact ucells_get (by omega)) | exact cell_old (by assumption) (by simp [fps]))) ?_
          refine vl_val rfl (.some rfl) (val_lenSl Tryd.runUnderlying24 rfl) ?_
          refine vl_val rfl (.some rfl) (val_move rfl) ?_
          refine vl_nil ?_
          refine vc_block ?_
          refine vc_loopw (fun m E H => ∃ i : Nat, i ≤ n ∧ m = n - i ∧ (∀ j, j < i → 1 ≤ (cs.getD j ([], 0)).2 ∧ (cs.getD j ([], 0)).2 ≤ 4) ∧ E = [(1, .pointer (some ⟨r1, 0, none⟩)), (37, .slice A n c), (38, .int .i64 n), (39, .int .i64 i)] ∧ H = [cells r1 [.string (sL nm), .slice A n c] 26]) (n) ⟨_, _, _, ⟨0, by omega, rfl, fun j hj => absurd hj (by omega), rfl, rfl⟩, (by repeat (first | exact trivial | refine ⟨rfl, ?_⟩ | refine ⟨le_item rfl (by first | rfl | (congr 1; omega) | (simp; done) | (simp; omega)), ?_⟩)), (by repeat (first | exact .nil | (apply Sub.cons; · repeat (first | exact .head | apply Take.tail))))⟩ ?_
          intro m E H hI
          obtain ⟨i, hi, rfl, hki, rfl, rfl⟩ := hI
          refine vc_seq ?_
          refine vc_region ?_
          refine vl_val rfl (.some rfl) (val_lt rfl rfl) ?_
          refine vl_nil ?_
          refine vc_seq ?_
          refine vc_cond rfl (fun hc4 => ?_) (fun hc4 => ?_)
          · (try replace hc4 := of_decide_eq_true hc4)
            refine vc_skip ?_
            refine vc_seq ?_
            refine vc_block ?_
            refine vc_seq ?_
            refine vc_region ?_
            refine vl_val rfl (.some rfl) (val_indexAddr Tryd.runUnderlying24 Tryd.sizeOf41 rfl rfl (vs := cs.flatMap colV) (rd_old hr rfl) (by omega) (by omega) (by rw [colC_len, Int.toNat_natCast]; omega)) ?_
            refine vl_val rfl (.some rfl) (val_loadAgg Tryd.isAgg41 Tryd.sizeOf41 rfl (cells_rd (us := colV (cs.getD i ([], 0))) (rd_old hr rfl) (colC_at rfl (by omega))) rfl) ?_
            refine vl_alloc rfl rfl (.some rfl) Tryd.zeroValue41 (fun r6 => ?_)
            first | refine vl_store rfl rfl .none rfl rfl Tryd.sizeOf41 rfl (by repeat (first | exact .head | apply In.tail | apply Take.tail | apply Upd.tail)) (by first | decide | exact Nat.le_refl _ | exact Nat.le_of_ble_eq_true rfl | (simp; omega)) ?_ | refine vl_storeSl rfl rfl .none rfl rfl Tryd.sizeOf41 rfl (by simp [Value.cells]) (by repeat (first | exact .head | apply In.tail | apply Take.tail | apply Upd.tail)) (by first | decide | (simp [Value.cells]; omega)) ?_
            refine vl_nil ?_
            refine vc_seq ?_
            refine vc_region ?_
            refine vl_val rfl (.some rfl) (by first | exact val_fieldAddr Tryd.runUnderlying41 rfl Tryd.sizeOf3 rfl | exact val_fieldAddrR Tryd.runUnderlying41 rfl Tryd.sizeOf3 rfl) ?_
            refine vl_val rfl (.some rfl) (val_load Tryd.isAgg3 rfl (by first | exact cell_cells (by repeat (first | exact .head | apply In.tail | apply Take.tail | apply Upd.tail)) rfl | exact cell_rd (rd_sl (by repeat (first | exact .head | apply In.tail | apply Take.tail | apply Upd.tail))) (by first | exact bcells_at (by omega) | exact ucells_at (by omega) | exact icells_at (by omega) | exact tcells_at (by omega) | exact bcells_get (by omega) | exact icells_get (by omega) | exact tcells_get (by omega) | exact ucells_get (by omega)) | exact cell_rd (rd_old (by assumption) rfl) (by first | exact bcells_at (by omega) | exact ucells_at (by omega) | exact icells_at (by omega) | exact tcells_at (by omega) | exact bcells_get (by omega) | exact icells_get (by omega) | exact tcells_get (by omega) | exact ucells_get (by omega)) | exact cell_old (by assumption) (by simp [fps]))) ?_
            refine vl_val rfl (.some rfl) (val_lt rfl rfl) ?_
            refine vl_val rfl (.some rfl) (val_move rfl) ?_
            refine vl_split (t := 46) rfl (fun hg46 => ?_) (fun hg46 => ?_)
            · (try replace hg46 := of_decide_eq_true hg46)
              refine vl_off rfl rfl rfl rfl (.some rfl) ?_
              refine vl_off rfl rfl rfl rfl (.some rfl) ?_
              refine vl_off rfl rfl rfl rfl (.some rfl) ?_
              refine vl_val rfl (.some rfl) (val_pick rfl rfl) ?_
              refine vl_nil ?_
              refine vc_cond rfl (fun _ => ?_) (fun h => by cases h)
              refine vc_seq ?_
              refine vc_region ?_
              refine vl_val rfl (.some rfl) (val_assign rfl) ?_
              refine vl_nil ?_
              refine vc_ret ?_
              refine ⟨_, [], _, res1 Tryd.results14 rfl, .nil, ?_⟩
              rw [tab_4 h1 hnms h3 (not_all ([], 0) (P := fun x : Cq => 1 ≤ x.2 ∧ x.2 ≤ 4) (j := i) (by omega) (by omega))]
              rfl
            · (try replace hg46 := of_decide_eq_false hg46)
              refine vl_on rfl rfl rfl rfl ?_
              refine vl_val rfl (.some rfl) (by first | exact val_fieldAddr Tryd.runUnderlying41 rfl Tryd.sizeOf3 rfl | exact val_fieldAddrR Tryd.runUnderlying41 rfl Tryd.sizeOf3 rfl) ?_
              refine vl_on rfl rfl rfl rfl ?_
              refine vl_val rfl (.some rfl) (val_load Tryd.isAgg3 rfl (by first | exact cell_cells (by repeat (first | exact .head | apply In.tail | apply Take.tail | apply Upd.tail)) rfl | exact cell_rd (rd_sl (by repeat (first | exact .head | apply In.tail | apply Take.tail | apply Upd.tail))) (by first | exact bcells_at (by omega) | exact ucells_at (by omega) | exact icells_at (by omega) | exact tcells_at (by omega) | exact bcells_get (by omega) | exact icells_get (by omega) | exact tcells_get (by omega) | exact ucells_get (by omega)) | exact cell_rd (rd_old (by assumption) rfl) (by first | exact bcells_at (by omega) | exact ucells_at (by omega) | exact icells_at (by omega) | exact tcells_at (by omega) | exact bcells_get (by omega) | exact icells_get (by omega) | exact tcells_get (by omega) | exact ucells_get (by omega)) | exact cell_old (by assumption) (by simp [fps]))) ?_
              refine vl_on rfl rfl rfl rfl ?_
              refine vl_val rfl (.some rfl) (val_gt rfl rfl) ?_
              refine vl_val rfl (.some rfl) (val_pick rfl rfl) ?_
              refine vl_nil ?_
              refine vc_cond rfl (fun hc5 => ?_) (fun hc5 => ?_)
              · (try replace hc5 := of_decide_eq_true hc5)
                refine vc_seq ?_
                refine vc_region ?_
                refine vl_val rfl (.some rfl) (val_assign rfl) ?_
                refine vl_nil ?_
                refine vc_ret ?_
                refine ⟨_, [], _, res1 Tryd.results14 rfl, .nil, ?_⟩
                rw [tab_4 h1 hnms h3 (not_all ([], 0) (P := fun x : Cq => 1 ≤ x.2 ∧ x.2 ≤ 4) (j := i) (by omega) (by omega))]
                rfl
              · (try replace hc5 := of_decide_eq_false hc5)
                refine vc_skip ?_
                refine vc_region ?_
                refine vl_val rfl (.some rfl) (val_add rfl rfl (by first | exact w_i64 (by omega) (by omega) | rfl)) ?_
                refine vl_val rfl (.some rfl) (val_move rfl) ?_
                refine vl_nil ?_
                exact ⟨(n - (i + 1)), _, _, _, by omega, (by repeat (first | exact trivial | refine ⟨rfl, ?_⟩ | refine ⟨le_item rfl (by first | rfl | (congr 1; omega) | (simp; done) | (simp; omega)), ?_⟩)), (by repeat (first | exact .nil | (apply Sub.cons; · repeat (first | exact .head | apply Take.tail)))), ⟨i + 1, by omega, rfl, fun j hj => by
                  rcases Nat.lt_or_ge j i with h | h
                  · exact hki j h
                  · obtain rfl : j = i := by omega
                    omega, rfl, rfl⟩⟩
          · (try replace hc4 := of_decide_eq_false hc4)
            have h4 : ∀ x ∈ cs, 1 ≤ x.2 ∧ x.2 ≤ 4 := all_of ([], 0) (P := fun x : Cq => 1 ≤ x.2 ∧ x.2 ≤ 4) (fun j hj => hki j (by omega))
            refine vc_exit ?_
            refine vc_seq ?_
            refine vc_seq ?_
            refine vc_region ?_
            refine vl_val rfl (.some rfl) (by first | exact val_fieldAddr Tryd.runUnderlying26 rfl Tryd.sizeOf24 rfl | exact val_fieldAddrR Tryd.runUnderlying26 rfl Tryd.sizeOf24 rfl) ?_
            refine vl_val rfl (.some rfl) (val_load Tryd.isAgg24 rfl (by first | exact cell_cells (by repeat (first | exact .head | apply In.tail | apply Take.tail | apply Upd.tail)) rfl | exact cell_rd (rd_sl (by repeat (first | exact .head | apply In.tail | apply Take.tail | apply Upd.tail))) (by first | exact bcells_at (by omega) | exact ucells_at (by omega) | exact icells_at (by omega) | exact tcells_at (by omega) | exact bcells_get (by omega) | exact icells_get (by omega) | exact tcells_get (by omega) | exact ucells_get (by omega)) | exact cell_rd (rd_old (by assumption) rfl) (by first | exact bcells_at (by omega) | exact ucells_at (by omega) | exact icells_at (by omega) | exact tcells_at (by omega) | exact bcells_get (by omega) | exact icells_get (by omega) | exact tcells_get (by omega) | exact ucells_get (by omega)) | exact cell_old (by assumption) (by simp [fps]))) ?_
            refine vl_val rfl (.some rfl) (val_lenSl Tryd.runUnderlying24 rfl) ?_
            refine vl_val rfl (.some rfl) (val_move rfl) ?_
            refine vl_nil ?_
            refine vc_block ?_
            refine vc_loopw (fun m E H => ∃ i : Nat, i ≤ n ∧ m = n - i ∧ (∀ j, j < i → (cs.map fstQ).getD j [] ∉ (cs.map fstQ).take j) ∧ E = [(1, .pointer (some ⟨r1, 0, none⟩)), (53, .slice A n c), (54, .int .i64 n), (55, .int .i64 i)] ∧ H = [cells r1 [.string (sL nm), .slice A n c] 26]) (n) ⟨_, _, _, ⟨0, by omega, rfl, fun j hj => absurd hj (by omega), rfl, rfl⟩, (by repeat (first | exact trivial | refine ⟨rfl, ?_⟩ | refine ⟨le_item rfl (by first | rfl | (congr 1; omega) | (simp; done) | (simp; omega)), ?_⟩)), (by repeat (first | exact .nil | (apply Sub.cons; · repeat (first | exact .head | apply Take.tail))))⟩ ?_
            intro m E H hI
            obtain ⟨i, hi, rfl, hdu, rfl, rfl⟩ := hI
            refine vc_seq ?_
            refine vc_region ?_
            refine vl_val rfl (.some rfl) (val_lt rfl rfl) ?_
            refine vl_nil ?_
            refine vc_seq ?_
            refine vc_cond rfl (fun hc6 => ?_) (fun hc6 => ?_)
            · (try replace hc6 := of_decide_eq_true hc6)
              refine vc_skip ?_
              refine vc_seq ?_
              refine vc_block ?_
              refine vc_seq ?_
              refine vc_region ?_
              refine vl_val rfl (.some rfl) (val_move rfl) ?_
              refine vl_val rfl (.some rfl) (val_indexAddr Tryd.runUnderlying24 Tryd.sizeOf41 rfl rfl (vs := cs.flatMap colV) (rd_old hr rfl) (by omega) (by omega) (by rw [colC_len, Int.toNat_natCast]; omega)) ?_
              refine vl_val rfl (.some rfl) (val_loadAgg Tryd.isAgg41 Tryd.sizeOf41 rfl (cells_rd (us := colV (cs.getD i ([], 0))) (rd_old hr rfl) (colC_at rfl (by omega))) rfl) ?_
              refine vl_alloc rfl rfl (.some rfl) Tryd.zeroValue41 (fun r8 => ?_)
              refine vl_val rfl (.some rfl) (val_assign rfl) ?_
              first | refine vl_store rfl rfl .none rfl rfl Tryd.sizeOf41 rfl (by repeat (first | exact .head | apply In.tail | apply Take.tail | apply Upd.tail)) (by first | decide | exact Nat.le_refl _ | exact Nat.le_of_ble_eq_true rfl | (simp; omega)) ?_ | refine vl_storeSl rfl rfl .none rfl rfl Tryd.sizeOf41 rfl (by simp [Value.cells]) (by repeat (first | exact .head | apply In.tail | apply Take.tail | apply Upd.tail)) (by first | decide | (simp [Value.cells]; omega)) ?_
              refine vl_nil ?_
              refine vc_seq ?_
              refine vc_region ?_
              refine vl_val rfl (.some rfl) (val_assign rfl) ?_
              refine vl_nil ?_
              refine vc_block ?_
              refine vc_loopw (fun m E H => ∃ k : Nat, k ≤ i ∧ m = i - k ∧ (∀ j, j < k → (cs.getD j ([], 0)).1 ≠ (cs.getD i ([], 0)).1) ∧ E = [(1, .pointer (some ⟨r1, 0, none⟩)), (53, .slice A n c), (54, .int .i64 n), (55, .int .i64 i), (7, .int .i64 i), (8, .pointer (some ⟨r8, 0, none⟩)), (9, .int .i64 k)] ∧ H = [cells r8 (colV (cs.getD i ([], 0))) 41, cells r1 [.string (sL nm), .slice A n c] 26]) (i) ⟨_, _, _, ⟨0, by omega, rfl, fun j hj => absurd hj (by omega), rfl, rfl⟩, (by repeat (first | exact trivial | refine ⟨rfl, ?_⟩ | refine ⟨le_item rfl (by first | rfl | (congr 1; omega) | (simp; done) | (simp; omega)), ?_⟩)), (by repeat (first | exact .nil | (apply Sub.cons; · repeat (first | exact .head | apply Take.tail))))⟩ ?_
              intro m E H hI
              obtain ⟨k, hk, rfl, hq2, rfl, rfl⟩ := hI
              refine vc_seq ?_
              refine vc_seq ?_
              refine vc_region ?_
              refine vl_val rfl (.some rfl) (val_move rfl) ?_
              refine vl_val rfl (.some rfl) (val_move rfl) ?_
              refine vl_val rfl (.some rfl) (val_lt rfl rfl) ?_
              refine vl_nil ?_
              refine vc_cond rfl (fun hc7 => ?_) (fun hc7 => ?_)
              · (try replace hc7 := of_decide_eq_true hc7)
                refine vc_skip ?_
                refine vc_seq ?_
                refine vc_block ?_
                refine vc_seq ?_
                refine vc_draws [0, 1, 2, 3, 4, 5, 6, 7, 8] [] [0, 1, 2, 3, 4, 5, 6, 7, 8] rfl (by kernel_rfl) (fun _ _ _ h => h) ?_
                refine vd_val rfl rfl rfl (.some rfl) (by first | exact val_fieldAddr Tryd.runUnderlying26 rfl Tryd.sizeOf24 rfl | exact val_fieldAddrR Tryd.runUnderlying26 rfl Tryd.sizeOf24 rfl) ?_
                refine vd_val rfl rfl rfl (.some rfl) (val_load Tryd.isAgg24 rfl (by first | exact cell_cells (by repeat (first | exact .head | apply In.tail | apply Take.tail | apply Upd.tail)) rfl | exact cell_rd (rd_sl (by repeat (first | exact .head | apply In.tail | apply Take.tail | apply Upd.tail))) (by first | exact bcells_at (by omega) | exact ucells_at (by omega) | exact icells_at (by omega) | exact tcells_at (by omega) | exact bcells_get (by omega) | exact icells_get (by omega) | exact tcells_get (by omega) | exact ucells_get (by omega)) | exact cell_rd (rd_old (by assumption) rfl) (by first | exact bcells_at (by omega) | exact ucells_at (by omega) | exact icells_at (by omega) | exact tcells_at (by omega) | exact bcells_get (by omega) | exact icells_get (by omega) | exact tcells_get (by omega) | exact ucells_get (by omega)) | exact cell_old (by assumption) (by simp [fps]))) ?_
                refine vd_val rfl rfl rfl (.some rfl) (val_move rfl) ?_
                refine vd_val rfl rfl rfl (.some rfl) (val_indexAddr Tryd.runUnderlying24 Tryd.sizeOf41 rfl rfl (vs := cs.flatMap colV) (rd_old hr rfl) (by omega) (by omega) (by rw [colC_len, Int.toNat_natCast]; omega)) ?_
                refine vd_val rfl rfl rfl (.some rfl) (by first | exact val_fieldAddr Tryd.runUnderlying41 rfl Tryd.sizeOf9 rfl | exact val_fieldAddrR Tryd.runUnderlying41 rfl Tryd.sizeOf9 rfl) ?_
                refine vd_val rfl rfl rfl (.some rfl) (val_load Tryd.isAgg9 rfl (cell_rd (rd_old hr rfl) (colC_0 (by omega)))) ?_
                refine vd_val rfl rfl rfl (.some rfl) (by first | exact val_fieldAddr Tryd.runUnderlying41 rfl Tryd.sizeOf9 rfl | exact val_fieldAddrR Tryd.runUnderlying41 rfl Tryd.sizeOf9 rfl) ?_
                refine vd_val rfl rfl rfl (.some rfl) (val_load Tryd.isAgg9 rfl (by first | exact cell_cells (by repeat (first | exact .head | apply In.tail | apply Take.tail | apply Upd.tail)) rfl | exact cell_rd (rd_sl (by repeat (first | exact .head | apply In.tail | apply Take.tail | apply Upd.tail))) (by first | exact bcells_at (by omega) | exact ucells_at (by omega) | exact icells_at (by omega) | exact tcells_at (by omega) | exact bcells_get (by omega) | exact icells_get (by omega) | exact tcells_get (by omega) | exact ucells_get (by omega)) | exact cell_rd (rd_old (by assumption) rfl) (by first | exact bcells_at (by omega) | exact ucells_at (by omega) | exact icells_at (by omega) | exact tcells_at (by omega) | exact bcells_get (by omega) | exact icells_get (by omega) | exact tcells_get (by omega) | exact ucells_get (by omega)) | exact cell_old (by assumption) (by simp [fps]))) ?_
                refine vd_val rfl rfl rfl (.some rfl) (val_seq rfl rfl) ?_
                refine vd_nil ?_
                refine vc_cond rfl (fun hc8 => ?_) (fun hc8 => ?_)
                · (try replace hc8 := of_decide_eq_true hc8)
                  refine vc_seq ?_
                  refine vc_region ?_
                  refine vl_val rfl (.some rfl) (val_assign rfl) ?_
                  refine vl_nil ?_
                  refine vc_ret ?_
                  refine ⟨_, [], _, res1 Tryd.results14 rfl, .nil, ?_⟩
                  rw [tab_5 h1 hnms h3 h4 (nodup_atM [] (i := i) (by omega) (by rw [hxf, ← sL_inj.1 hc8, ← hxf]; exact getD_in [] (by omega) (by omega)))]
                  rfl
                · (try replace hc8 := of_decide_eq_false hc8)
                  refine vc_skip ?_
                  refine vc_region ?_
                  refine vl_val rfl (.some rfl) (val_move rfl) ?_
                  refine vl_val rfl (.some rfl) (val_add rfl rfl (by first | exact w_i64 (by omega) (by omega) | rfl)) ?_
                  refine vl_val rfl (.some rfl) (val_assign rfl) ?_
                  refine vl_nil ?_
                  exact ⟨(i - (k + 1)), _, _, _, by omega, (by repeat (first | exact trivial | refine ⟨rfl, ?_⟩ | refine ⟨le_item rfl (by first | rfl | (congr 1; omega) | (simp; done) | (simp; omega)), ?_⟩)), (by repeat (first | exact .nil | (apply Sub.cons; · repeat (first | exact .head | apply Take.tail)))), ⟨k + 1, by omega, rfl, fun j hj => by
                    rcases Nat.lt_or_ge j k with h | h
                    · exact hq2 j h
                    · obtain rfl : j = k := by omega
                      exact fun e => hc8 (by rw [e]), rfl, rfl⟩⟩
              · (try replace hc7 := of_decide_eq_false hc7)
                refine vc_exit ?_
                refine vc_region ?_
                refine vl_val rfl (.some rfl) (val_add rfl rfl (by first | exact w_i64 (by omega) (by omega) | rfl)) ?_
                refine vl_val rfl (.some rfl) (val_move rfl) ?_
                refine vl_nil ?_
                exact ⟨(n - (i + 1)), _, _, _, by omega, (by repeat (first | exact trivial | refine ⟨rfl, ?_⟩ | refine ⟨le_item rfl (by first | rfl | (congr 1; omega) | (simp; done) | (simp; omega)), ?_⟩)), (by repeat (first | exact .nil | (apply Sub.cons; · repeat (first | exact .head | apply Take.tail)))), ⟨i + 1, by omega, rfl, fun j hj => by
                  rcases Nat.lt_or_ge j i with h | h
                  · exact hdu j h
                  · obtain rfl : j = i := by omega
                    exact not_in [] (by omega) (fun q hq => by rw [hxf, hxf]; exact hq2 q (by omega)), rfl, rfl⟩⟩
            · (try replace hc6 := of_decide_eq_false hc6)
              refine vc_exit ?_
              refine vc_seq ?_
              refine vc_region ?_
              refine vl_val rfl (.some rfl) (val_assign rfl) ?_
              refine vl_nil ?_
              refine vc_ret ?_
              refine ⟨_, [], _, res1 Tryd.results14 rfl, .nil, ?_⟩
              rw [tab_0 h1 hnms h3 h4 (nodup_allM [] (fun j hj => hdu j (by omega)))]
              rfl




theorem reads_tx {w : World} {A : Option Addr} {ws : List (List UInt8)} {X : Cx} {H : List Chunk} (h : Rd X H A (tcS ws)) {i : Nat} (hi : i < ws.length) : Cell X H ((adr A).add (Int.toNat (i : Int) * 1)) (.string (sL (ws.getD i []))) := cell_rd h (tcS_at hi)

set_option maxRecDepth 20000 in
set_option maxHeartbeats 2000000 in
theorem rRollup (rn rt : List UInt8) (hlb : rn.length < 9223372036854775808) (Ad : Option Addr) (nd cd : Nat) (ds : List (List UInt8)) (hnd : ds.length = nd) (hdb : nd < 9223372036854775808) (Am : Option Addr) (nm cm : Nat) (ms : List Mq) (hnm : ms.length = nm) (hmb : nm < 9223372036854775808) (tn : List UInt8) (A : Option Addr) (n c : Nat) (cs : List Cq) (hn : cs.length = n) (hnb : n < 9223372036854775808) (w : World) (hrd : Reads w Ad (tcS ds)) (hrm : Reads w Am (ms.flatMap meaV)) (hr : Reads w A (cs.flatMap colV)) : FnV Tryd.prog 16 [.agg #[.string (sL rn), .string (sL rt), .slice Ad nd cd, .slice Am nm cm], .agg #[.string (sL tn), .slice A n c]] (.int .i64 (rolE rn rt ds ms tn cs)) w := by
  refine fn_enter Tryd.func16 rfl Tryd.ntmps16 rfl ?_
  refine vc_seq ?_
  refine vc_region ?_
  refine vl_box rfl rfl (.some rfl) rfl (fun r2 => ?_)
  refine vl_box rfl rfl (.some rfl) rfl (fun r3 => ?_)
  refine vl_val rfl (.some rfl) (val_assign rfl) ?_
  refine vl_nil ?_
  refine vc_seq ?_
  refine vc_block ?_
  refine vc_seq ?_
  refine vc_region ?_
  refine vl_val rfl (.some rfl) (by first | exact val_fieldAddr Tryd.runUnderlying30 rfl Tryd.sizeOf9 rfl | exact val_fieldAddrR Tryd.runUnderlying30 rfl Tryd.sizeOf9 rfl) ?_
  refine vl_val rfl (.some rfl) (val_load Tryd.isAgg9 rfl (by first | exact cell_cells (by repeat (first | exact .head | apply In.tail | apply Take.tail | apply Upd.tail)) rfl | exact cell_rd (rd_sl (by repeat (first | exact .head | apply In.tail | apply Take.tail | apply Upd.tail))) (by first | exact bcells_at (by omega) | exact ucells_at (by omega) | exact icells_at (by omega) | exact tcells_at (by omega) | exact bcells_get (by omega) | exact icells_get (by omega) | exact tcells_get (by omega) | exact ucells_get (by omega)) | exact cell_rd (rd_old (by assumption) rfl) (by first | exact bcells_at (by omega) | exact ucells_at (by omega) | exact icells_at (by omega) | exact tcells_at (by omega) | exact bcells_get (by omega) | exact icells_get (by omega) | exact tcells_get (by omega) | exact ucells_get (by omega)) | exact cell_old (by assumption) (by simp [fps]))) ?_
  refine vl_callV rfl rfl (.some rfl) Tryd.call10 rfl (fun w hw => rName rn hlb w) ?_
  refine vl_val rfl (.some rfl) (val_not rfl) ?_
  refine vl_val rfl (.some rfl) (val_assign rfl) ?_
  refine vl_nil ?_
  refine vc_cond rfl (fun hc0 => ?_) (fun hc0 => ?_)
  · (try replace hc0 := of_decide_eq_true hc0)
    have h1 : ¬ nameP rn := by simpa using hc0
    refine vc_seq ?_
    refine vc_region ?_
    refine vl_val rfl (.some rfl) (val_assign rfl) ?_
    refine vl_nil ?_
    refine vc_ret ?_
    refine ⟨_, [], _, res1 Tryd.results16 rfl, .nil, ?_⟩
    rw [rol_1 h1]
    rfl
  · (try replace hc0 := of_decide_eq_false hc0)
    have h1 : nameP rn := by simpa using hc0
    refine vc_seq ?_
    refine vc_region ?_
    refine vl_val rfl (.some rfl) (by first | exact val_fieldAddr Tryd.runUnderlying30 rfl Tryd.sizeOf9 rfl | exact val_fieldAddrR Tryd.runUnderlying30 rfl Tryd.sizeOf9 rfl) ?_
    refine vl_val rfl (.some rfl) (val_load Tryd.isAgg9 rfl (by first | exact cell_cells (by repeat (first | exact .head | apply In.tail | apply Take.tail | apply Upd.tail)) rfl | exact cell_rd (rd_sl (by repeat (first | exact .head | apply In.tail | apply Take.tail | apply Upd.tail))) (by first | exact bcells_at (by omega) | exact ucells_at (by omega) | exact icells_at (by omega) | exact tcells_at (by omega) | exact bcells_get (by omega) | exact icells_get (by omega) | exact tcells_get (by omega) | exact ucells_get (by omega)) | exact cell_rd (rd_old (by assumption) rfl) (by first | exact bcells_at (by omega) | exact ucells_at (by omega) | exact icells_at (by omega) | exact tcells_at (by omega) | exact bcells_get (by omega) | exact icells_get (by omega) | exact tcells_get (by omega) | exact ucells_get (by omega)) | exact cell_old (by assumption) (by simp [fps]))) ?_
    refine vl_val rfl (.some rfl) (by first | exact val_fieldAddr Tryd.runUnderlying26 rfl Tryd.sizeOf9 rfl | exact val_fieldAddrR Tryd.runUnderlying26 rfl Tryd.sizeOf9 rfl) ?_
    refine vl_val rfl (.some rfl) (val_load Tryd.isAgg9 rfl (by first | exact cell_cells (by repeat (first | exact .head | apply In.tail | apply Take.tail | apply Upd.tail)) rfl | exact cell_rd (rd_sl (by repeat (first | exact .head | apply In.tail | apply Take.tail | apply Upd.tail))) (by first | exact bcells_at (by omega) | exact ucells_at (by omega) | exact icells_at (by omega) | exact tcells_at (by omega) | exact bcells_get (by omega) | exact icells_get (by omega) | exact tcells_get (by omega) | exact ucells_get (by omega)) | exact cell_rd (rd_old (by assumption) rfl) (by first | exact bcells_at (by omega) | exact ucells_at (by omega) | exact icells_at (by omega) | exact tcells_at (by omega) | exact bcells_get (by omega) | exact icells_get (by omega) | exact tcells_get (by omega) | exact ucells_get (by omega)) | exact cell_old (by assumption) (by simp [fps]))) ?_
    refine vl_val rfl (.some rfl) (val_sne rfl rfl) ?_
    refine vl_val rfl (.some rfl) (val_assign rfl) ?_
    refine vl_nil ?_
    refine vc_cond rfl (fun hc1 => ?_) (fun hc1 => ?_)
    · (try replace hc1 := of_decide_eq_true hc1)
      have h2 : ¬ rt = tn := fun e => (by simpa using hc1 : ¬ sL rt = sL tn) (by rw [e])
      refine vc_seq ?_
      refine vc_region ?_
      refine vl_val rfl (.some rfl) (val_assign rfl) ?_
      refine vl_nil ?_
      refine vc_ret ?_
      refine ⟨_, [], _, res1 Tryd.results16 rfl, .nil, ?_⟩
      rw [rol_2 h1 h2]
      rfl
    · (try replace hc1 := of_decide_eq_false hc1)
      have h2 : rt = tn := sL_inj.1 (by simpa using hc1)
      refine vc_seq ?_
      refine vc_seq ?_
      refine vc_region ?_
      refine vl_val rfl (.some rfl) (by first | exact val_fieldAddr Tryd.runUnderlying30 rfl Tryd.sizeOf27 rfl | exact val_fieldAddrR Tryd.runUnderlying30 rfl Tryd.sizeOf27 rfl) ?_
      refine vl_val rfl (.some rfl) (val_load Tryd.isAgg27 rfl (by first | exact cell_cells (by repeat (first | exact .head | apply In.tail | apply Take.tail | apply Upd.tail)) rfl | exact cell_rd (rd_sl (by repeat (first | exact .head | apply In.tail | apply Take.tail | apply Upd.tail))) (by first | exact bcells_at (by omega) | exact ucells_at (by omega) | exact icells_at (by omega) | exact tcells_at (by omega) | exact bcells_get (by omega) | exact icells_get (by omega) | exact tcells_get (by omega) | exact ucells_get (by omega)) | exact cell_rd (rd_old (by assumption) rfl) (by first | exact bcells_at (by omega) | exact ucells_at (by omega) | exact icells_at (by omega) | exact tcells_at (by omega) | exact bcells_get (by omega) | exact icells_get (by omega) | exact tcells_get (by omega) | exact ucells_get (by omega)) | exact cell_old (by assumption) (by simp [fps]))) ?_
      refine vl_val rfl (.some rfl) (val_lenSl Tryd.runUnderlying27 rfl) ?_
      refine vl_val rfl (.some rfl) (val_gt rfl rfl) ?_
      refine vl_val rfl (.some rfl) (val_assign rfl) ?_
      refine vl_nil ?_
      refine vc_cond rfl (fun hc2 => ?_) (fun hc2 => ?_)
      · (try replace hc2 := of_decide_eq_true hc2)
        refine vc_skip ?_
        refine vc_cond rfl (fun _ => ?_) (fun h => absurd hc2 (of_decide_eq_false h))
        refine vc_seq ?_
        refine vc_region ?_
        refine vl_val rfl (.some rfl) (val_assign rfl) ?_
        refine vl_nil ?_
        refine vc_ret ?_
        refine ⟨_, [], _, res1 Tryd.results16 rfl, .nil, ?_⟩
        rw [rol_3 h1 h2 (by omega)]
        rfl
      · (try replace hc2 := of_decide_eq_false hc2)
        refine vc_region ?_
        refine vl_val rfl (.some rfl) (by first | exact val_fieldAddr Tryd.runUnderlying30 rfl Tryd.sizeOf28 rfl | exact val_fieldAddrR Tryd.runUnderlying30 rfl Tryd.sizeOf28 rfl) ?_
        refine vl_val rfl (.some rfl) (val_load Tryd.isAgg28 rfl (by first | exact cell_cells (by repeat (first | exact .head | apply In.tail | apply Take.tail | apply Upd.tail)) rfl | exact cell_rd (rd_sl (by repeat (first | exact .head | apply In.tail | apply Take.tail | apply Upd.tail))) (by first | exact bcells_at (by omega) | exact ucells_at (by omega) | exact icells_at (by omega) | exact tcells_at (by omega) | exact bcells_get (by omega) | exact icells_get (by omega) | exact tcells_get (by omega) | exact ucells_get (by omega)) | exact cell_rd (rd_old (by assumption) rfl) (by first | exact bcells_at (by omega) | exact ucells_at (by omega) | exact icells_at (by omega) | exact tcells_at (by omega) | exact bcells_get (by omega) | exact icells_get (by omega) | exact tcells_get (by omega) | exact ucells_get (by omega)) | exact cell_old (by assumption) (by simp [fps]))) ?_
        refine vl_val rfl (.some rfl) (val_lenSl Tryd.runUnderlying28 rfl) ?_
        refine vl_val rfl (.some rfl) (val_gt rfl rfl) ?_
        refine vl_val rfl (.some rfl) (val_assign rfl) ?_
        refine vl_nil ?_
        refine vc_cond rfl (fun hc3 => ?_) (fun hc3 => ?_)
        · (try replace hc3 := of_decide_eq_true hc3)
          refine vc_seq ?_
          refine vc_region ?_
          refine vl_val rfl (.some rfl) (val_assign rfl) ?_
          refine vl_nil ?_
          refine vc_ret ?_
          refine ⟨_, [], _, res1 Tryd.results16 rfl, .nil, ?_⟩
          rw [rol_3 h1 h2 (by omega)]
          rfl
        · (try replace hc3 := of_decide_eq_false hc3)
          have h3 : ds.length ≤ 8 ∧ ms.length ≤ 16 := by omega
          refine vc_skip ?_
          refine vc_seq ?_
          refine vc_seq ?_
          refine vc_region ?_
          refine vl_val rfl (.some rfl) (by first | exact val_fieldAddr Tryd.runUnderlying30 rfl Tryd.sizeOf28 rfl | exact val_fieldAddrR Tryd.runUnderlying30 rfl Tryd.sizeOf28 rfl) ?_
          refine vl_val rfl (.some rfl) (val_load Tryd.isAgg28 rfl (by first | exact cell_cells (by repeat (first | exact .head | apply In.tail | apply Take.tail | apply Upd.tail)) rfl | exact cell_rd (rd_sl (by repeat (first | exact .head | apply In.tail | apply Take.tail | apply Upd.tail))) (by first | exact bcells_at (by omega) | exact ucells_at (by omega) | exact icells_at (by omega) | exact tcells_at (by omega) | exact bcells_get (by omega) | exact icells_get (by omega) | exact tcells_get (by omega) | exact ucells_get (by omega)) | exact cell_rd (rd_old (by assumption) rfl) (by first | exact bcells_at (by omega) | exact ucells_at (by omega) | exact icells_at (by omega) | exact tcells_at (by omega) | exact bcells_get (by omega) | exact icells_get (by omega) | exact tcells_get (by omega) | exact ucells_get (by omega)) | exact cell_old (by assumption) (by simp [fps]))) ?_
          refine vl_val rfl (.some rfl) (val_lenSl Tryd.runUnderlying28 rfl) ?_
          refine vl_val rfl (.some rfl) (val_move rfl) ?_
          refine vl_nil ?_
          refine vc_block ?_
          refine vc_loopw (fun m E H => ∃ i : Nat, i ≤ nm ∧ m = nm - i ∧ (∀ j, j < i → 1 ≤ (ms.getD j (0, [])).1 ∧ (ms.getD j (0, [])).1 ≤ 7) ∧ E = [(2, .pointer (some ⟨r2, 0, none⟩)), (3, .pointer (some ⟨r3, 0, none⟩)), (49, .slice Am nm cm), (50, .int .i64 nm), (51, .int .i64 i)] ∧ H = [cells r3 [.string (sL tn), .slice A n c] 26, cells r2 [.string (sL rn), .string (sL rt), .slice Ad nd cd, .slice Am nm cm] 30]) (nm) ⟨_, _, _, ⟨0, by omega, rfl, fun j hj => absurd hj (by omega), rfl, rfl⟩, (by repeat (first | exact trivial | refine ⟨rfl, ?_⟩ | refine ⟨le_item rfl (by first | rfl | (congr 1; omega) | (simp; done) | (simp; omega)), ?_⟩)), (by repeat (first | exact .nil | (apply Sub.cons; · repeat (first | exact .head | apply Take.tail))))⟩ ?_
          intro m E H hI
          obtain ⟨i, hi, rfl, hki, rfl, rfl⟩ := hI
          refine vc_seq ?_
          refine vc_region ?_
          refine vl_val rfl (.some rfl) (val_lt rfl rfl) ?_
          refine vl_nil ?_
          refine vc_seq ?_
          refine vc_cond rfl (fun hc4 => ?_) (fun hc4 => ?_)
          · (try replace hc4 := of_decide_eq_true hc4)
            refine vc_skip ?_
            refine vc_seq ?_
            refine vc_block ?_
            refine vc_seq ?_
            refine vc_region ?_
            refine vl_val rfl (.some rfl) (val_indexAddr Tryd.runUnderlying28 Tryd.sizeOf43 rfl rfl (vs := ms.flatMap meaV) (rd_old hrm rfl) (by omega) (by omega) (by rw [meaC_len, Int.toNat_natCast]; omega)) ?_
            refine vl_val rfl (.some rfl) (val_loadAgg Tryd.isAgg43 Tryd.sizeOf43 rfl (cells_rd (us := meaV (ms.getD i (0, []))) (rd_old hrm rfl) (meaC_at rfl (by omega))) rfl) ?_
            refine vl_alloc rfl rfl (.some rfl) Tryd.zeroValue43 (fun r6 => ?_)
            first | refine vl_store rfl rfl .none rfl rfl Tryd.sizeOf43 rfl (by repeat (first | exact .head | apply In.tail | apply Take.tail | apply Upd.tail)) (by first | decide | exact Nat.le_refl _ | exact Nat.le_of_ble_eq_true rfl | (simp; omega)) ?_ | refine vl_storeSl rfl rfl .none rfl rfl Tryd.sizeOf43 rfl (by simp [Value.cells]) (by repeat (first | exact .head | apply In.tail | apply Take.tail | apply Upd.tail)) (by first | decide | (simp [Value.cells]; omega)) ?_
            refine vl_nil ?_
            refine vc_seq ?_
            refine vc_region ?_
            refine vl_val rfl (.some rfl) (by first | exact val_fieldAddr Tryd.runUnderlying43 rfl Tryd.sizeOf3 rfl | exact val_fieldAddrR Tryd.runUnderlying43 rfl Tryd.sizeOf3 rfl) ?_
            refine vl_val rfl (.some rfl) (val_load Tryd.isAgg3 rfl (by first | exact cell_cells (by repeat (first | exact .head | apply In.tail | apply Take.tail | apply Upd.tail)) rfl | exact cell_rd (rd_sl (by repeat (first | exact .head | apply In.tail | apply Take.tail | apply Upd.tail))) (by first | exact bcells_at (by omega) | exact ucells_at (by omega) | exact icells_at (by omega) | exact tcells_at (by omega) | exact bcells_get (by omega) | exact icells_get (by omega) | exact tcells_get (by omega) | exact ucells_get (by omega)) | exact cell_rd (rd_old (by assumption) rfl) (by first | exact bcells_at (by omega) | exact ucells_at (by omega) | exact icells_at (by omega) | exact tcells_at (by omega) | exact bcells_get (by omega) | exact icells_get (by omega) | exact tcells_get (by omega) | exact ucells_get (by omega)) | exact cell_old (by assumption) (by simp [fps]))) ?_
            refine vl_val rfl (.some rfl) (val_lt rfl rfl) ?_
            refine vl_val rfl (.some rfl) (val_move rfl) ?_
            refine vl_split (t := 58) rfl (fun hg58 => ?_) (fun hg58 => ?_)
            · (try replace hg58 := of_decide_eq_true hg58)
              refine vl_off rfl rfl rfl rfl (.some rfl) ?_
              refine vl_off rfl rfl rfl rfl (.some rfl) ?_
              refine vl_off rfl rfl rfl rfl (.some rfl) ?_
              refine vl_val rfl (.some rfl) (val_pick rfl rfl) ?_
              refine vl_nil ?_
              refine vc_cond rfl (fun _ => ?_) (fun h => by cases h)
              refine vc_seq ?_
              refine vc_region ?_
              refine vl_val rfl (.some rfl) (val_assign rfl) ?_
              refine vl_nil ?_
              refine vc_ret ?_
              refine ⟨_, [], _, res1 Tryd.results16 rfl, .nil, ?_⟩
              rw [rol_4 h1 h2 h3 (not_all (0, []) (P := fun x : Mq => 1 ≤ x.1 ∧ x.1 ≤ 7) (j := i) (by omega) (by omega))]
              rfl
            · (try replace hg58 := of_decide_eq_false hg58)
              refine vl_on rfl rfl rfl rfl ?_
              refine vl_val rfl (.some rfl) (by first | exact val_fieldAddr Tryd.runUnderlying43 rfl Tryd.sizeOf3 rfl | exact val_fieldAddrR Tryd.runUnderlying43 rfl Tryd.sizeOf3 rfl) ?_
              refine vl_on rfl rfl rfl rfl ?_
              refine vl_val rfl (.some rfl) (val_load Tryd.isAgg3 rfl (by first | exact cell_cells (by repeat (first | exact .head | apply In.tail | apply Take.tail | apply Upd.tail)) rfl | exact cell_rd (rd_sl (by repeat (first | exact .head | apply In.tail | apply Take.tail | apply Upd.tail))) (by first | exact bcells_at (by omega) | exact ucells_at (by omega) | exact icells_at (by omega) | exact tcells_at (by omega) | exact bcells_get (by omega) | exact icells_get (by omega) | exact tcells_get (by omega) | exact ucells_get (by omega)) | exact cell_rd (rd_old (by assumption) rfl) (by first | exact bcells_at (by omega) | exact ucells_at (by omega) | exact icells_at (by omega) | exact tcells_at (by omega) | exact bcells_get (by omega) | exact icells_get (by omega) | exact tcells_get (by omega) | exact ucells_get (by omega)) | exact cell_old (by assumption) (by simp [fps]))) ?_
              refine vl_on rfl rfl rfl rfl ?_
              refine vl_val rfl (.some rfl) (val_gt rfl rfl) ?_
              refine vl_val rfl (.some rfl) (val_pick rfl rfl) ?_
              refine vl_nil ?_
              refine vc_cond rfl (fun hc5 => ?_) (fun hc5 => ?_)
              · (try replace hc5 := of_decide_eq_true hc5)
                refine vc_seq ?_
                refine vc_region ?_
                refine vl_val rfl (.some rfl) (val_assign rfl) ?_
                refine vl_nil ?_
                refine vc_ret ?_
                refine ⟨_, [], _, res1 Tryd.results16 rfl, .nil, ?_⟩
                rw [rol_4 h1 h2 h3 (not_all (0, []) (P := fun x : Mq => 1 ≤ x.1 ∧ x.1 ≤ 7) (j := i) (by omega) (by omega))]
                rfl
              · (try replace hc5 := of_decide_eq_false hc5)
                refine vc_skip ?_
                refine vc_region ?_
                refine vl_val rfl (.some rfl) (val_add rfl rfl (by first | exact w_i64 (by omega) (by omega) | rfl)) ?_
                refine vl_val rfl (.some rfl) (val_move rfl) ?_
                refine vl_nil ?_
                exact ⟨(nm - (i + 1)), _, _, _, by omega, (by repeat (first | exact trivial | refine ⟨rfl, ?_⟩ | refine ⟨le_item rfl (by first | rfl | (congr 1; omega) | (simp; done) | (simp; omega)), ?_⟩)), (by repeat (first | exact .nil | (apply Sub.cons; · repeat (first | exact .head | apply Take.tail)))), ⟨i + 1, by omega, rfl, fun j hj => by
                  rcases Nat.lt_or_ge j i with h | h
                  · exact hki j h
                  · obtain rfl : j = i := by omega
                    omega, rfl, rfl⟩⟩
          · (try replace hc4 := of_decide_eq_false hc4)
            have h4 : ∀ x ∈ ms, 1 ≤ x.1 ∧ x.1 ≤ 7 := all_of (0, []) (P := fun x : Mq => 1 ≤ x.1 ∧ x.1 ≤ 7) (fun j hj => hki j (by omega))
            refine vc_exit ?_
            refine vc_seq ?_
            refine vc_seq ?_
            refine vc_region ?_
            refine vl_val rfl (.some rfl) (by first | exact val_fieldAddr Tryd.runUnderlying30 rfl Tryd.sizeOf27 rfl | exact val_fieldAddrR Tryd.runUnderlying30 rfl Tryd.sizeOf27 rfl) ?_
            refine vl_val rfl (.some rfl) (val_load Tryd.isAgg27 rfl (by first | exact cell_cells (by repeat (first | exact .head | apply In.tail | apply Take.tail | apply Upd.tail)) rfl | exact cell_rd (rd_sl (by repeat (first | exact .head | apply In.tail | apply Take.tail | apply Upd.tail))) (by first | exact bcells_at (by omega) | exact ucells_at (by omega) | exact icells_at (by omega) | exact tcells_at (by omega) | exact bcells_get (by omega) | exact icells_get (by omega) | exact tcells_get (by omega) | exact ucells_get (by omega)) | exact cell_rd (rd_old (by assumption) rfl) (by first | exact bcells_at (by omega) | exact ucells_at (by omega) | exact icells_at (by omega) | exact tcells_at (by omega) | exact bcells_get (by omega) | exact icells_get (by omega) | exact tcells_get (by omega) | exact ucells_get (by omega)) | exact cell_old (by assumption) (by simp [fps]))) ?_
            refine vl_val rfl (.some rfl) (val_lenSl Tryd.runUnderlying27 rfl) ?_
            refine vl_val rfl (.some rfl) (val_move rfl) ?_
            refine vl_nil ?_
            refine vc_block ?_
            refine vc_loopw (fun m E H => ∃ i : Nat, i ≤ nd ∧ m = nd - i ∧ (∀ j, j < i → colB cs (ds.getD j []) = true) ∧ E = [(2, .pointer (some ⟨r2, 0, none⟩)), (3, .pointer (some ⟨r3, 0, none⟩)), (65, .slice Ad nd cd), (66, .int .i64 nd), (67, .int .i64 i)] ∧ H = [cells r3 [.string (sL tn), .slice A n c] 26, cells r2 [.string (sL rn), .string (sL rt), .slice Ad nd cd, .slice Am nm cm] 30]) (nd) ⟨_, _, _, ⟨0, by omega, rfl, fun j hj => absurd hj (by omega), rfl, rfl⟩, (by repeat (first | exact trivial | refine ⟨rfl, ?_⟩ | refine ⟨le_item rfl (by first | rfl | (congr 1; omega) | (simp; done) | (simp; omega)), ?_⟩)), (by repeat (first | exact .nil | (apply Sub.cons; · repeat (first | exact .head | apply Take.tail))))⟩ ?_
            intro m E H hI
            obtain ⟨i, hi, rfl, hdc, rfl, rfl⟩ := hI
            refine vc_seq ?_
            refine vc_region ?_
            refine vl_val rfl (.some rfl) (val_lt rfl rfl) ?_
            refine vl_nil ?_
            refine vc_seq ?_
            refine vc_cond rfl (fun hc6 => ?_) (fun hc6 => ?_)
            · (try replace hc6 := of_decide_eq_true hc6)
              refine vc_skip ?_
              refine vc_seq ?_
              refine vc_block ?_
              refine vc_seq ?_
              refine vc_region ?_
              refine vl_val rfl (.some rfl) (val_indexAddr Tryd.runUnderlying27 Tryd.sizeOf9 rfl rfl (vs := tcS ds) (rd_old hrd rfl) (by omega) (by omega) (by rw [tcS_length, Int.toNat_natCast]; omega)) ?_
              refine vl_val rfl (.some rfl) (val_load Tryd.isAgg9 rfl (cell_rd (rd_old hrd rfl) (tcS_at (by omega)))) ?_
              refine vl_val rfl (.some rfl) (val_assign rfl) ?_
              refine vl_nil ?_
              refine vc_seq ?_
              refine vc_region ?_
              refine vl_val rfl (.some rfl) (val_loadAgg Tryd.isAgg26 Tryd.sizeOf26 rfl (by first | exact cells_whole (by repeat (first | exact .head | apply In.tail | apply Take.tail | apply Upd.tail)) | exact cells_part (by repeat (first | exact .head | apply In.tail | apply Take.tail | apply Upd.tail)) rfl) rfl) ?_
              refine vl_val rfl (.some rfl) (val_move rfl) ?_
              refine vl_callV rfl rfl (.some rfl) Tryd.call12 rfl (fun w hw => rColumn A n c cs hn hnb (sL tn) (ds.getD i []) w (rdw (rd_old hr rfl) hw)) ?_
              refine vl_val rfl (.some rfl) (val_move rfl) ?_
              refine vl_val rfl (.some rfl) (val_extract rfl rfl) ?_
              refine vl_val rfl (.some rfl) (val_extract rfl rfl) ?_
              refine vl_val rfl (.some rfl) (val_extract rfl rfl) ?_
              refine vl_val rfl (.some rfl) (val_assign rfl) ?_
              refine vl_val rfl (.some rfl) (val_assign rfl) ?_
              refine vl_val rfl (.some rfl) (val_assign rfl) ?_
              refine vl_nil ?_
              refine vc_seq ?_
              refine vc_region ?_
              refine vl_val rfl (.some rfl) (val_move rfl) ?_
              refine vl_val rfl (.some rfl) (val_not rfl) ?_
              refine vl_nil ?_
              refine vc_cond rfl (fun hc7 => ?_) (fun hc7 => ?_)
              · (try replace hc7 := of_decide_eq_true hc7)
                refine vc_seq ?_
                refine vc_region ?_
                refine vl_val rfl (.some rfl) (val_assign rfl) ?_
                refine vl_nil ?_
                refine vc_ret ?_
                refine ⟨_, [], _, res1 Tryd.results16 rfl, .nil, ?_⟩
                rw [rol_5 h1 h2 h3 h4 (not_all [] (P := fun x : List UInt8 => colB cs x = true) (j := i) (by omega) (by simpa using hc7))]
                rfl
              · (try replace hc7 := of_decide_eq_false hc7)
                refine vc_skip ?_
                refine vc_region ?_
                refine vl_val rfl (.some rfl) (val_add rfl rfl (by first | exact w_i64 (by omega) (by omega) | rfl)) ?_
                refine vl_val rfl (.some rfl) (val_move rfl) ?_
                refine vl_nil ?_
                exact ⟨(nd - (i + 1)), _, _, _, by omega, (by repeat (first | exact trivial | refine ⟨rfl, ?_⟩ | refine ⟨le_item rfl (by first | rfl | (congr 1; omega) | (simp; done) | (simp; omega)), ?_⟩)), (by repeat (first | exact .nil | (apply Sub.cons; · repeat (first | exact .head | apply Take.tail)))), ⟨i + 1, by omega, rfl, fun j hj => by
                  rcases Nat.lt_or_ge j i with h | h
                  · exact hdc j h
                  · obtain rfl : j = i := by omega
                    simpa using hc7, rfl, rfl⟩⟩
            · (try replace hc6 := of_decide_eq_false hc6)
              have h5 : ∀ x ∈ ds, colB cs x = true := all_of [] (P := fun x : List UInt8 => colB cs x = true) (fun j hj => hdc j (by omega))
              refine vc_exit ?_
              refine vc_seq ?_
              refine vc_seq ?_
              refine vc_region ?_
              refine vl_val rfl (.some rfl) (by first | exact val_fieldAddr Tryd.runUnderlying30 rfl Tryd.sizeOf28 rfl | exact val_fieldAddrR Tryd.runUnderlying30 rfl Tryd.sizeOf28 rfl) ?_
              refine vl_val rfl (.some rfl) (val_load Tryd.isAgg28 rfl (by first | exact cell_cells (by repeat (first | exact .head | apply In.tail | apply Take.tail | apply Upd.tail)) rfl | exact cell_rd (rd_sl (by repeat (first | exact .head | apply In.tail | apply Take.tail | apply Upd.tail))) (by first | exact bcells_at (by omega) | exact ucells_at (by omega) | exact icells_at (by omega) | exact tcells_at (by omega) | exact bcells_get (by omega) | exact icells_get (by omega) | exact tcells_get (by omega) | exact ucells_get (by omega)) | exact cell_rd (rd_old (by assumption) rfl) (by first | exact bcells_at (by omega) | exact ucells_at (by omega) | exact icells_at (by omega) | exact tcells_at (by omega) | exact bcells_get (by omega) | exact icells_get (by omega) | exact tcells_get (by omega) | exact ucells_get (by omega)) | exact cell_old (by assumption) (by simp [fps]))) ?_
              refine vl_val rfl (.some rfl) (val_lenSl Tryd.runUnderlying28 rfl) ?_
              refine vl_val rfl (.some rfl) (val_move rfl) ?_
              refine vl_nil ?_
              refine vc_block ?_
              refine vc_loopw (fun m E H => ∃ i : Nat, i ≤ nm ∧ m = nm - i ∧ (∀ j, j < i → colB cs (ms.getD j (0, [])).2 = true) ∧ E = [(2, .pointer (some ⟨r2, 0, none⟩)), (3, .pointer (some ⟨r3, 0, none⟩)), (82, .slice Am nm cm), (83, .int .i64 nm), (84, .int .i64 i)] ∧ H = [cells r3 [.string (sL tn), .slice A n c] 26, cells r2 [.string (sL rn), .string (sL rt), .slice Ad nd cd, .slice Am nm cm] 30]) (nm) ⟨_, _, _, ⟨0, by omega, rfl, fun j hj => absurd hj (by omega), rfl, rfl⟩, (by repeat (first | exact trivial | refine ⟨rfl, ?_⟩ | refine ⟨le_item rfl (by first | rfl | (congr 1; omega) | (simp; done) | (simp; omega)), ?_⟩)), (by repeat (first | exact .nil | (apply Sub.cons; · repeat (first | exact .head | apply Take.tail))))⟩ ?_
              intro m E H hI
              obtain ⟨i, hi, rfl, hmc, rfl, rfl⟩ := hI
              refine vc_seq ?_
              refine vc_region ?_
              refine vl_val rfl (.some rfl) (val_lt rfl rfl) ?_
              refine vl_nil ?_
              refine vc_seq ?_
              refine vc_cond rfl (fun hc8 => ?_) (fun hc8 => ?_)
              · (try replace hc8 := of_decide_eq_true hc8)
                refine vc_skip ?_
                refine vc_seq ?_
                refine vc_block ?_
                refine vc_seq ?_
                refine vc_region ?_
                refine vl_val rfl (.some rfl) (val_indexAddr Tryd.runUnderlying28 Tryd.sizeOf43 rfl rfl (vs := ms.flatMap meaV) (rd_old hrm rfl) (by omega) (by omega) (by rw [meaC_len, Int.toNat_natCast]; omega)) ?_
                refine vl_val rfl (.some rfl) (val_loadAgg Tryd.isAgg43 Tryd.sizeOf43 rfl (cells_rd (us := meaV (ms.getD i (0, []))) (rd_old hrm rfl) (meaC_at rfl (by omega))) rfl) ?_
                refine vl_alloc rfl rfl (.some rfl) Tryd.zeroValue43 (fun r13 => ?_)
                first | refine vl_store rfl rfl .none rfl rfl Tryd.sizeOf43 rfl (by repeat (first | exact .head | apply In.tail | apply Take.tail | apply Upd.tail)) (by first | decide | exact Nat.le_refl _ | exact Nat.le_of_ble_eq_true rfl | (simp; omega)) ?_ | refine vl_storeSl rfl rfl .none rfl rfl Tryd.sizeOf43 rfl (by simp [Value.cells]) (by repeat (first | exact .head | apply In.tail | apply Take.tail | apply Upd.tail)) (by first | decide | (simp [Value.cells]; omega)) ?_
                refine vl_nil ?_
                refine vc_seq ?_
                refine vc_region ?_
                refine vl_val rfl (.some rfl) (val_loadAgg Tryd.isAgg26 Tryd.sizeOf26 rfl (by first | exact cells_whole (by repeat (first | exact .head | apply In.tail | apply Take.tail | apply Upd.tail)) | exact cells_part (by repeat (first | exact .head | apply In.tail | apply Take.tail | apply Upd.tail)) rfl) rfl) ?_
                refine vl_val rfl (.some rfl) (by first | exact val_fieldAddr Tryd.runUnderlying43 rfl Tryd.sizeOf9 rfl | exact val_fieldAddrR Tryd.runUnderlying43 rfl Tryd.sizeOf9 rfl) ?_
                refine vl_val rfl (.some rfl) (val_load Tryd.isAgg9 rfl (by first | exact cell_cells (by repeat (first | exact .head | apply In.tail | apply Take.tail | apply Upd.tail)) rfl | exact cell_rd (rd_sl (by repeat (first | exact .head | apply In.tail | apply Take.tail | apply Upd.tail))) (by first | exact bcells_at (by omega) | exact ucells_at (by omega) | exact icells_at (by omega) | exact tcells_at (by omega) | exact bcells_get (by omega) | exact icells_get (by omega) | exact tcells_get (by omega) | exact ucells_get (by omega)) | exact cell_rd (rd_old (by assumption) rfl) (by first | exact bcells_at (by omega) | exact ucells_at (by omega) | exact icells_at (by omega) | exact tcells_at (by omega) | exact bcells_get (by omega) | exact icells_get (by omega) | exact tcells_get (by omega) | exact ucells_get (by omega)) | exact cell_old (by assumption) (by simp [fps]))) ?_
                refine vl_callV rfl rfl (.some rfl) Tryd.call12 rfl (fun w hw => rColumn A n c cs hn hnb (sL tn) (ms.getD i (0, [])).2 w (rdw (rd_old hr rfl) hw)) ?_
                refine vl_val rfl (.some rfl) (val_move rfl) ?_
                refine vl_val rfl (.some rfl) (val_extract rfl rfl) ?_
                refine vl_val rfl (.some rfl) (val_extract rfl rfl) ?_
                refine vl_val rfl (.some rfl) (val_extract rfl rfl) ?_
                refine vl_val rfl (.some rfl) (val_assign rfl) ?_
                refine vl_val rfl (.some rfl) (val_assign rfl) ?_
                refine vl_val rfl (.some rfl) (val_assign rfl) ?_
                refine vl_nil ?_
                refine vc_seq ?_
                refine vc_region ?_
                refine vl_val rfl (.some rfl) (val_move rfl) ?_
                refine vl_val rfl (.some rfl) (val_not rfl) ?_
                refine vl_nil ?_
                refine vc_cond rfl (fun hc9 => ?_) (fun hc9 => ?_)
                · (try replace hc9 := of_decide_eq_true hc9)
                  refine vc_seq ?_
                  refine vc_region ?_
                  refine vl_val rfl (.some rfl) (val_assign rfl) ?_
                  refine vl_nil ?_
                  refine vc_ret ?_
                  refine ⟨_, [], _, res1 Tryd.results16 rfl, .nil, ?_⟩
                  rw [rol_6 h1 h2 h3 h4 h5 (not_all (0, []) (P := fun x : Mq => colB cs x.2 = true) (j := i) (by omega) (by simpa using hc9))]
                  rfl
                · (try replace hc9 := of_decide_eq_false hc9)
                  refine vc_skip ?_
                  refine vc_region ?_
                  refine vl_val rfl (.some rfl) (val_add rfl rfl (by first | exact w_i64 (by omega) (by omega) | rfl)) ?_
                  refine vl_val rfl (.some rfl) (val_move rfl) ?_
                  refine vl_nil ?_
                  exact ⟨(nm - (i + 1)), _, _, _, by omega, (by repeat (first | exact trivial | refine ⟨rfl, ?_⟩ | refine ⟨le_item rfl (by first | rfl | (congr 1; omega) | (simp; done) | (simp; omega)), ?_⟩)), (by repeat (first | exact .nil | (apply Sub.cons; · repeat (first | exact .head | apply Take.tail)))), ⟨i + 1, by omega, rfl, fun j hj => by
                    rcases Nat.lt_or_ge j i with h | h
                    · exact hmc j h
                    · obtain rfl : j = i := by omega
                      simpa using hc9, rfl, rfl⟩⟩
              · (try replace hc8 := of_decide_eq_false hc8)
                have h6 : ∀ x ∈ ms, colB cs x.2 = true := all_of (0, []) (P := fun x : Mq => colB cs x.2 = true) (fun j hj => hmc j (by omega))
                refine vc_exit ?_
                refine vc_seq ?_
                refine vc_seq ?_
                refine vc_region ?_
                refine vl_val rfl (.some rfl) (by first | exact val_fieldAddr Tryd.runUnderlying30 rfl Tryd.sizeOf27 rfl | exact val_fieldAddrR Tryd.runUnderlying30 rfl Tryd.sizeOf27 rfl) ?_
                refine vl_val rfl (.some rfl) (val_load Tryd.isAgg27 rfl (by first | exact cell_cells (by repeat (first | exact .head | apply In.tail | apply Take.tail | apply Upd.tail)) rfl | exact cell_rd (rd_sl (by repeat (first | exact .head | apply In.tail | apply Take.tail | apply Upd.tail))) (by first | exact bcells_at (by omega) | exact ucells_at (by omega) | exact icells_at (by omega) | exact tcells_at (by omega) | exact bcells_get (by omega) | exact icells_get (by omega) | exact tcells_get (by omega) | exact ucells_get (by omega)) | exact cell_rd (rd_old (by assumption) rfl) (by first | exact bcells_at (by omega) | exact ucells_at (by omega) | exact icells_at (by omega) | exact tcells_at (by omega) | exact bcells_get (by omega) | exact icells_get (by omega) | exact tcells_get (by omega) | exact ucells_get (by omega)) | exact cell_old (by assumption) (by simp [fps]))) ?_
                refine vl_val rfl (.some rfl) (val_lenSl Tryd.runUnderlying27 rfl) ?_
                refine vl_val rfl (.some rfl) (val_move rfl) ?_
                refine vl_nil ?_
                refine vc_block ?_
                refine vc_loopw (fun m E H => ∃ i : Nat, i ≤ nd ∧ m = nd - i ∧ (∀ j, j < i → ds.getD j [] ∉ ds.take j) ∧ E = [(2, .pointer (some ⟨r2, 0, none⟩)), (3, .pointer (some ⟨r3, 0, none⟩)), (100, .slice Ad nd cd), (101, .int .i64 nd), (102, .int .i64 i)] ∧ H = [cells r3 [.string (sL tn), .slice A n c] 26, cells r2 [.string (sL rn), .string (sL rt), .slice Ad nd cd, .slice Am nm cm] 30]) (nd) ⟨_, _, _, ⟨0, by omega, rfl, fun j hj => absurd hj (by omega), rfl, rfl⟩, (by repeat (first | exact trivial | refine ⟨rfl, ?_⟩ | refine ⟨le_item rfl (by first | rfl | (congr 1; omega) | (simp; done) | (simp; omega)), ?_⟩)), (by repeat (first | exact .nil | (apply Sub.cons; · repeat (first | exact .head | apply Take.tail))))⟩ ?_
                intro m E H hI
                obtain ⟨i, hi, rfl, hdu, rfl, rfl⟩ := hI
                refine vc_seq ?_
                refine vc_region ?_
                refine vl_val rfl (.some rfl) (val_lt rfl rfl) ?_
                refine vl_nil ?_
                refine vc_seq ?_
                refine vc_cond rfl (fun hc10 => ?_) (fun hc10 => ?_)
                · (try replace hc10 := of_decide_eq_true hc10)
                  refine vc_skip ?_
                  refine vc_seq ?_
                  refine vc_block ?_
                  refine vc_seq ?_
                  refine vc_region ?_
                  refine vl_val rfl (.some rfl) (val_move rfl) ?_
                  refine vl_val rfl (.some rfl) (val_indexAddr Tryd.runUnderlying27 Tryd.sizeOf9 rfl rfl (vs := tcS ds) (rd_old hrd rfl) (by omega) (by omega) (by rw [tcS_length, Int.toNat_natCast]; omega)) ?_
                  refine vl_val rfl (.some rfl) (val_load Tryd.isAgg9 rfl (cell_rd (rd_old hrd rfl) (tcS_at (by omega)))) ?_
                  refine vl_val rfl (.some rfl) (val_assign rfl) ?_
                  refine vl_val rfl (.some rfl) (val_assign rfl) ?_
                  refine vl_nil ?_
                  refine vc_seq ?_
                  refine vc_region ?_
                  refine vl_val rfl (.some rfl) (val_assign rfl) ?_
                  refine vl_nil ?_
                  refine vc_block ?_
                  refine vc_loopw (fun m E H => ∃ k : Nat, k ≤ i ∧ m = i - k ∧ (∀ j, j < k → ds.getD j [] ≠ ds.getD i []) ∧ E = [(2, .pointer (some ⟨r2, 0, none⟩)), (3, .pointer (some ⟨r3, 0, none⟩)), (100, .slice Ad nd cd), (101, .int .i64 nd), (102, .int .i64 i), (17, .int .i64 i), (18, .string (sL (ds.getD i []))), (19, .int .i64 k)] ∧ H = [cells r3 [.string (sL tn), .slice A n c] 26, cells r2 [.string (sL rn), .string (sL rt), .slice Ad nd cd, .slice Am nm cm] 30]) (i) ⟨_, _, _, ⟨0, by omega, rfl, fun j hj => absurd hj (by omega), rfl, rfl⟩, (by repeat (first | exact trivial | refine ⟨rfl, ?_⟩ | refine ⟨le_item rfl (by first | rfl | (congr 1; omega) | (simp; done) | (simp; omega)), ?_⟩)), (by repeat (first | exact .nil | (apply Sub.cons; · repeat (first | exact .head | apply Take.tail))))⟩ ?_
                  intro m E H hI
                  obtain ⟨k, hk, rfl, hq2, rfl, rfl⟩ := hI
                  refine vc_seq ?_
                  refine vc_seq ?_
                  refine vc_region ?_
                  refine vl_val rfl (.some rfl) (val_move rfl) ?_
                  refine vl_val rfl (.some rfl) (val_move rfl) ?_
                  refine vl_val rfl (.some rfl) (val_lt rfl rfl) ?_
                  refine vl_nil ?_
                  refine vc_cond rfl (fun hc11 => ?_) (fun hc11 => ?_)
                  · (try replace hc11 := of_decide_eq_true hc11)
                    refine vc_skip ?_
                    refine vc_seq ?_
                    refine vc_block ?_
                    refine vc_seq ?_
                    refine vc_region ?_
                    refine vl_val rfl (.some rfl) (by first | exact val_fieldAddr Tryd.runUnderlying30 rfl Tryd.sizeOf27 rfl | exact val_fieldAddrR Tryd.runUnderlying30 rfl Tryd.sizeOf27 rfl) ?_
                    refine vl_val rfl (.some rfl) (val_load Tryd.isAgg27 rfl (by first | exact cell_cells (by repeat (first | exact .head | apply In.tail | apply Take.tail | apply Upd.tail)) rfl | exact cell_rd (rd_sl (by repeat (first | exact .head | apply In.tail | apply Take.tail | apply Upd.tail))) (by first | exact bcells_at (by omega) | exact ucells_at (by omega) | exact icells_at (by omega) | exact tcells_at (by omega) | exact bcells_get (by omega) | exact icells_get (by omega) | exact tcells_get (by omega) | exact ucells_get (by omega)) | exact cell_rd (rd_old (by assumption) rfl) (by first | exact bcells_at (by omega) | exact ucells_at (by omega) | exact icells_at (by omega) | exact tcells_at (by omega) | exact bcells_get (by omega) | exact icells_get (by omega) | exact tcells_get (by omega) | exact ucells_get (by omega)) | exact cell_old (by assumption) (by simp [fps]))) ?_
                    refine vl_val rfl (.some rfl) (val_move rfl) ?_
                    refine vl_val rfl (.some rfl) (val_indexAddr Tryd.runUnderlying27 Tryd.sizeOf9 rfl rfl (vs := tcS ds) (rd_old hrd rfl) (by omega) (by omega) (by rw [tcS_length, Int.toNat_natCast]; omega)) ?_
                    refine vl_val rfl (.some rfl) (val_load Tryd.isAgg9 rfl (cell_rd (rd_old hrd rfl) (tcS_at (by omega)))) ?_
                    refine vl_val rfl (.some rfl) (val_move rfl) ?_
                    refine vl_val rfl (.some rfl) (val_seq rfl rfl) ?_
                    refine vl_nil ?_
                    refine vc_cond rfl (fun hc12 => ?_) (fun hc12 => ?_)
                    · (try replace hc12 := of_decide_eq_true hc12)
                      refine vc_seq ?_
                      refine vc_region ?_
                      refine vl_val rfl (.some rfl) (val_assign rfl) ?_
                      refine vl_nil ?_
                      refine vc_ret ?_
                      refine ⟨_, [], _, res1 Tryd.results16 rfl, .nil, ?_⟩
                      rw [rol_7 h1 h2 h3 h4 h5 h6 (nodup_atM [] (i := i) (by omega) (by rw [← sL_inj.1 hc12]; exact getD_in [] (by omega) (by omega)))]
                      rfl
                    · (try replace hc12 := of_decide_eq_false hc12)
                      refine vc_skip ?_
                      refine vc_region ?_
                      refine vl_val rfl (.some rfl) (val_move rfl) ?_
                      refine vl_val rfl (.some rfl) (val_add rfl rfl (by first | exact w_i64 (by omega) (by omega) | rfl)) ?_
                      refine vl_val rfl (.some rfl) (val_assign rfl) ?_
                      refine vl_nil ?_
                      exact ⟨(i - (k + 1)), _, _, _, by omega, (by repeat (first | exact trivial | refine ⟨rfl, ?_⟩ | refine ⟨le_item rfl (by first | rfl | (congr 1; omega) | (simp; done) | (simp; omega)), ?_⟩)), (by repeat (first | exact .nil | (apply Sub.cons; · repeat (first | exact .head | apply Take.tail)))), ⟨k + 1, by omega, rfl, fun j hj => by
                        rcases Nat.lt_or_ge j k with h | h
                        · exact hq2 j h
                        · obtain rfl : j = k := by omega
                          exact fun e => hc12 (by rw [e]), rfl, rfl⟩⟩
                  · (try replace hc11 := of_decide_eq_false hc11)
                    refine vc_exit ?_
                    refine vc_region ?_
                    refine vl_val rfl (.some rfl) (val_add rfl rfl (by first | exact w_i64 (by omega) (by omega) | rfl)) ?_
                    refine vl_val rfl (.some rfl) (val_move rfl) ?_
                    refine vl_nil ?_
                    exact ⟨(nd - (i + 1)), _, _, _, by omega, (by repeat (first | exact trivial | refine ⟨rfl, ?_⟩ | refine ⟨le_item rfl (by first | rfl | (congr 1; omega) | (simp; done) | (simp; omega)), ?_⟩)), (by repeat (first | exact .nil | (apply Sub.cons; · repeat (first | exact .head | apply Take.tail)))), ⟨i + 1, by omega, rfl, fun j hj => by
                      rcases Nat.lt_or_ge j i with h | h
                      · exact hdu j h
                      · obtain rfl : j = i := by omega
                        exact not_in [] (by omega) (fun q hq => hq2 q (by omega)), rfl, rfl⟩⟩
                · (try replace hc10 := of_decide_eq_false hc10)
                  have h7 : ds.Nodup := nodup_allM [] (fun j hj => hdu j (by omega))
                  refine vc_exit ?_
                  refine vc_seq ?_
                  refine vc_seq ?_
                  refine vc_region ?_
                  refine vl_val rfl (.some rfl) (by first | exact val_fieldAddr Tryd.runUnderlying30 rfl Tryd.sizeOf28 rfl | exact val_fieldAddrR Tryd.runUnderlying30 rfl Tryd.sizeOf28 rfl) ?_
                  refine vl_val rfl (.some rfl) (val_load Tryd.isAgg28 rfl (by first | exact cell_cells (by repeat (first | exact .head | apply In.tail | apply Take.tail | apply Upd.tail)) rfl | exact cell_rd (rd_sl (by repeat (first | exact .head | apply In.tail | apply Take.tail | apply Upd.tail))) (by first | exact bcells_at (by omega) | exact ucells_at (by omega) | exact icells_at (by omega) | exact tcells_at (by omega) | exact bcells_get (by omega) | exact icells_get (by omega) | exact tcells_get (by omega) | exact ucells_get (by omega)) | exact cell_rd (rd_old (by assumption) rfl) (by first | exact bcells_at (by omega) | exact ucells_at (by omega) | exact icells_at (by omega) | exact tcells_at (by omega) | exact bcells_get (by omega) | exact icells_get (by omega) | exact tcells_get (by omega) | exact ucells_get (by omega)) | exact cell_old (by assumption) (by simp [fps]))) ?_
                  refine vl_val rfl (.some rfl) (val_lenSl Tryd.runUnderlying28 rfl) ?_
                  refine vl_val rfl (.some rfl) (val_move rfl) ?_
                  refine vl_nil ?_
                  refine vc_block ?_
                  refine vc_loopw (fun m E H => ∃ i : Nat, i ≤ nm ∧ m = nm - i ∧ (∀ j, j < i → ms.getD j (0, []) ∉ ms.take j) ∧ E = [(2, .pointer (some ⟨r2, 0, none⟩)), (3, .pointer (some ⟨r3, 0, none⟩)), (121, .slice Am nm cm), (122, .int .i64 nm), (123, .int .i64 i)] ∧ H = [cells r3 [.string (sL tn), .slice A n c] 26, cells r2 [.string (sL rn), .string (sL rt), .slice Ad nd cd, .slice Am nm cm] 30]) (nm) ⟨_, _, _, ⟨0, by omega, rfl, fun j hj => absurd hj (by omega), rfl, rfl⟩, (by repeat (first | exact trivial | refine ⟨rfl, ?_⟩ | refine ⟨le_item rfl (by first | rfl | (congr 1; omega) | (simp; done) | (simp; omega)), ?_⟩)), (by repeat (first | exact .nil | (apply Sub.cons; · repeat (first | exact .head | apply Take.tail))))⟩ ?_
                  intro m E H hI
                  obtain ⟨i, hi, rfl, hmu, rfl, rfl⟩ := hI
                  refine vc_seq ?_
                  refine vc_region ?_
                  refine vl_val rfl (.some rfl) (val_lt rfl rfl) ?_
                  refine vl_nil ?_
                  refine vc_seq ?_
                  refine vc_cond rfl (fun hc13 => ?_) (fun hc13 => ?_)
                  · (try replace hc13 := of_decide_eq_true hc13)
                    refine vc_skip ?_
                    refine vc_seq ?_
                    refine vc_block ?_
                    refine vc_seq ?_
                    refine vc_region ?_
                    refine vl_val rfl (.some rfl) (val_move rfl) ?_
                    refine vl_val rfl (.some rfl) (val_indexAddr Tryd.runUnderlying28 Tryd.sizeOf43 rfl rfl (vs := ms.flatMap meaV) (rd_old hrm rfl) (by omega) (by omega) (by rw [meaC_len, Int.toNat_natCast]; omega)) ?_
                    refine vl_val rfl (.some rfl) (val_loadAgg Tryd.isAgg43 Tryd.sizeOf43 rfl (cells_rd (us := meaV (ms.getD i (0, []))) (rd_old hrm rfl) (meaC_at rfl (by omega))) rfl) ?_
                    refine vl_alloc rfl rfl (.some rfl) Tryd.zeroValue43 (fun r21 => ?_)
                    refine vl_val rfl (.some rfl) (val_assign rfl) ?_
                    first | refine vl_store rfl rfl .none rfl rfl Tryd.sizeOf43 rfl (by repeat (first | exact .head | apply In.tail | apply Take.tail | apply Upd.tail)) (by first | decide | exact Nat.le_refl _ | exact Nat.le_of_ble_eq_true rfl | (simp; omega)) ?_ | refine vl_storeSl rfl rfl .none rfl rfl Tryd.sizeOf43 rfl (by simp [Value.cells]) (by repeat (first | exact .head | apply In.tail | apply Take.tail | apply Upd.tail)) (by first | decide | (simp [Value.cells]; omega)) ?_
                    refine vl_nil ?_
                    refine vc_seq ?_
                    refine vc_region ?_
                    refine vl_val rfl (.some rfl) (val_assign rfl) ?_
                    refine vl_nil ?_
                    refine vc_block ?_
                    refine vc_loopw (fun m E H => ∃ k : Nat, k ≤ i ∧ m = i - k ∧ (∀ j, j < k → ms.getD j (0, []) ≠ ms.getD i (0, [])) ∧ E = [(2, .pointer (some ⟨r2, 0, none⟩)), (3, .pointer (some ⟨r3, 0, none⟩)), (121, .slice Am nm cm), (122, .int .i64 nm), (123, .int .i64 i), (20, .int .i64 i), (21, .pointer (some ⟨r21, 0, none⟩)), (22, .int .i64 k)] ∧ H = [cells r21 (meaV (ms.getD i (0, []))) 43, cells r3 [.string (sL tn), .slice A n c] 26, cells r2 [.string (sL rn), .string (sL rt), .slice Ad nd cd, .slice Am nm cm] 30]) (i) ⟨_, _, _, ⟨0, by omega, rfl, fun j hj => absurd hj (by omega), rfl, rfl⟩, (by repeat (first | exact trivial | refine ⟨rfl, ?_⟩ | refine ⟨le_item rfl (by first | rfl | (congr 1; omega) | (simp; done) | (simp; omega)), ?_⟩)), (by repeat (first | exact .nil | (apply Sub.cons; · repeat (first | exact .head | apply Take.tail))))⟩ ?_
                    intro m E H hI
                    obtain ⟨k, hk, rfl, hq2, rfl, rfl⟩ := hI
                    refine vc_seq ?_
                    refine vc_seq ?_
                    refine vc_region ?_
                    refine vl_val rfl (.some rfl) (val_move rfl) ?_
                    refine vl_val rfl (.some rfl) (val_move rfl) ?_
                    refine vl_val rfl (.some rfl) (val_lt rfl rfl) ?_
                    refine vl_nil ?_
                    refine vc_cond rfl (fun hc14 => ?_) (fun hc14 => ?_)
                    · (try replace hc14 := of_decide_eq_true hc14)
                      refine vc_skip ?_
                      refine vc_seq ?_
                      refine vc_block ?_
                      refine vc_seq ?_
                      refine vc_draws [0, 1, 2, 3, 4, 5, 6] [] [0, 1, 2, 3, 4, 5, 6] rfl (by kernel_rfl) (fun _ _ _ h => h) ?_
                      refine vd_val rfl rfl rfl (.some rfl) (by first | exact val_fieldAddr Tryd.runUnderlying30 rfl Tryd.sizeOf28 rfl | exact val_fieldAddrR Tryd.runUnderlying30 rfl Tryd.sizeOf28 rfl) ?_
                      refine vd_val rfl rfl rfl (.some rfl) (val_load Tryd.isAgg28 rfl (by first | exact cell_cells (by repeat (first | exact .head | apply In.tail | apply Take.tail | apply Upd.tail)) rfl | exact cell_rd (rd_sl (by repeat (first | exact .head | apply In.tail | apply Take.tail | apply Upd.tail))) (by first | exact bcells_at (by omega) | exact ucells_at (by omega) | exact icells_at (by omega) | exact tcells_at (by omega) | exact bcells_get (by omega) | exact icells_get (by omega) | exact tcells_get (by omega) | exact ucells_get (by omega)) | exact cell_rd (rd_old (by assumption) rfl) (by first | exact bcells_at (by omega) | exact ucells_at (by omega) | exact icells_at (by omega) | exact tcells_at (by omega) | exact bcells_get (by omega) | exact icells_get (by omega) | exact tcells_get (by omega) | exact ucells_get (by omega)) | exact cell_old (by assumption) (by simp [fps]))) ?_
                      refine vd_val rfl rfl rfl (.some rfl) (val_move rfl) ?_
                      refine vd_val rfl rfl rfl (.some rfl) (val_indexAddr Tryd.runUnderlying28 Tryd.sizeOf43 rfl rfl (vs := ms.flatMap meaV) (rd_old hrm rfl) (by omega) (by omega) (by rw [meaC_len, Int.toNat_natCast]; omega)) ?_
                      refine vd_val rfl rfl rfl (.some rfl) (val_loadAgg Tryd.isAgg43 Tryd.sizeOf43 rfl (cells_rd (us := meaV (ms.getD k (0, []))) (rd_old hrm rfl) (meaC_at rfl (by omega))) rfl) ?_
                      refine vd_val rfl rfl rfl (.some rfl) (val_loadAgg Tryd.isAgg43 Tryd.sizeOf43 rfl (by first | exact cells_whole (by repeat (first | exact .head | apply In.tail | apply Take.tail | apply Upd.tail)) | exact cells_part (by repeat (first | exact .head | apply In.tail | apply Take.tail | apply Upd.tail)) rfl) rfl) ?_
                      refine vd_val rfl rfl rfl (.some rfl) (val_opO rfl rfl (fun w => run_eqGuard_agg w _ _ _ _ _ _ (by kernel_rfl)) (bin_agg_eq (mea_equal (ms.getD k (0, [])) (ms.getD i (0, []))))) ?_
                      refine vd_nil ?_
                      refine vc_cond rfl (fun hc15 => ?_) (fun hc15 => ?_)
                      · (try replace hc15 := of_decide_eq_true hc15)
                        refine vc_seq ?_
                        refine vc_region ?_
                        refine vl_val rfl (.some rfl) (val_assign rfl) ?_
                        refine vl_nil ?_
                        refine vc_ret ?_
                        refine ⟨_, [], _, res1 Tryd.results16 rfl, .nil, ?_⟩
                        rw [rol_8 h1 h2 h3 h4 h5 h6 h7 (nodup_atM (0, []) (i := i) (by omega) (by rw [← (by simpa using hc15 : ms.getD k (0, []) = ms.getD i (0, []))]; exact getD_in (0, []) (by omega) (by omega)))]
                        rfl
                      · (try replace hc15 := of_decide_eq_false hc15)
                        refine vc_skip ?_
                        refine vc_region ?_
                        refine vl_val rfl (.some rfl) (val_move rfl) ?_
                        refine vl_val rfl (.some rfl) (val_add rfl rfl (by first | exact w_i64 (by omega) (by omega) | rfl)) ?_
                        refine vl_val rfl (.some rfl) (val_assign rfl) ?_
                        refine vl_nil ?_
                        exact ⟨(i - (k + 1)), _, _, _, by omega, (by repeat (first | exact trivial | refine ⟨rfl, ?_⟩ | refine ⟨le_item rfl (by first | rfl | (congr 1; omega) | (simp; done) | (simp; omega)), ?_⟩)), (by repeat (first | exact .nil | (apply Sub.cons; · repeat (first | exact .head | apply Take.tail)))), ⟨k + 1, by omega, rfl, fun j hj => by
                          rcases Nat.lt_or_ge j k with h | h
                          · exact hq2 j h
                          · obtain rfl : j = k := by omega
                            simpa using hc15, rfl, rfl⟩⟩
                    · (try replace hc14 := of_decide_eq_false hc14)
                      refine vc_exit ?_
                      refine vc_region ?_
                      refine vl_val rfl (.some rfl) (val_add rfl rfl (by first | exact w_i64 (by omega) (by omega) | rfl)) ?_
                      refine vl_val rfl (.some rfl) (val_move rfl) ?_
                      refine vl_nil ?_
                      exact ⟨(nm - (i + 1)), _, _, _, by omega, (by repeat (first | exact trivial | refine ⟨rfl, ?_⟩ | refine ⟨le_item rfl (by first | rfl | (congr 1; omega) | (simp; done) | (simp; omega)), ?_⟩)), (by repeat (first | exact .nil | (apply Sub.cons; · repeat (first | exact .head | apply Take.tail)))), ⟨i + 1, by omega, rfl, fun j hj => by
                        rcases Nat.lt_or_ge j i with h | h
                        · exact hmu j h
                        · obtain rfl : j = i := by omega
                          exact not_in (0, []) (by omega) (fun q hq => hq2 q (by omega)), rfl, rfl⟩⟩
                  · (try replace hc13 := of_decide_eq_false hc13)
                    have h8 : ms.Nodup := nodup_allM (0, []) (fun j hj => hmu j (by omega))
                    refine vc_exit ?_
                    refine vc_seq ?_
                    refine vc_seq ?_
                    refine vc_region ?_
                    refine vl_val rfl (.some rfl) (by first | exact val_fieldAddr Tryd.runUnderlying30 rfl Tryd.sizeOf28 rfl | exact val_fieldAddrR Tryd.runUnderlying30 rfl Tryd.sizeOf28 rfl) ?_
                    refine vl_val rfl (.some rfl) (val_load Tryd.isAgg28 rfl (by first | exact cell_cells (by repeat (first | exact .head | apply In.tail | apply Take.tail | apply Upd.tail)) rfl | exact cell_rd (rd_sl (by repeat (first | exact .head | apply In.tail | apply Take.tail | apply Upd.tail))) (by first | exact bcells_at (by omega) | exact ucells_at (by omega) | exact icells_at (by omega) | exact tcells_at (by omega) | exact bcells_get (by omega) | exact icells_get (by omega) | exact tcells_get (by omega) | exact ucells_get (by omega)) | exact cell_rd (rd_old (by assumption) rfl) (by first | exact bcells_at (by omega) | exact ucells_at (by omega) | exact icells_at (by omega) | exact tcells_at (by omega) | exact bcells_get (by omega) | exact icells_get (by omega) | exact tcells_get (by omega) | exact ucells_get (by omega)) | exact cell_old (by assumption) (by simp [fps]))) ?_
                    refine vl_val rfl (.some rfl) (val_lenSl Tryd.runUnderlying28 rfl) ?_
                    refine vl_val rfl (.some rfl) (val_move rfl) ?_
                    refine vl_nil ?_
                    refine vc_block ?_
                    refine vc_loopw (fun m E H => ∃ i : Nat, i ≤ nm ∧ m = nm - i ∧ (∀ j, j < i → fitP (ms.getD j (0, [])).1 (colK cs (ms.getD j (0, [])).2)) ∧ E = [(2, .pointer (some ⟨r2, 0, none⟩)), (3, .pointer (some ⟨r3, 0, none⟩)), (142, .slice Am nm cm), (143, .int .i64 nm), (144, .int .i64 i)] ∧ H = [cells r3 [.string (sL tn), .slice A n c] 26, cells r2 [.string (sL rn), .string (sL rt), .slice Ad nd cd, .slice Am nm cm] 30]) (nm) ⟨_, _, _, ⟨0, by omega, rfl, fun j hj => absurd hj (by omega), rfl, rfl⟩, (by repeat (first | exact trivial | refine ⟨rfl, ?_⟩ | refine ⟨le_item rfl (by first | rfl | (congr 1; omega) | (simp; done) | (simp; omega)), ?_⟩)), (by repeat (first | exact .nil | (apply Sub.cons; · repeat (first | exact .head | apply Take.tail))))⟩ ?_
                    intro m E H hI
                    obtain ⟨i, hi, rfl, hft, rfl, rfl⟩ := hI
                    refine vc_seq ?_
                    refine vc_region ?_
                    refine vl_val rfl (.some rfl) (val_lt rfl rfl) ?_
                    refine vl_nil ?_
                    refine vc_seq ?_
                    refine vc_cond rfl (fun hc16 => ?_) (fun hc16 => ?_)
                    · (try replace hc16 := of_decide_eq_true hc16)
                      refine vc_skip ?_
                      refine vc_seq ?_
                      refine vc_block ?_
                      refine vc_seq ?_
                      refine vc_region ?_
                      refine vl_val rfl (.some rfl) (val_indexAddr Tryd.runUnderlying28 Tryd.sizeOf43 rfl rfl (vs := ms.flatMap meaV) (rd_old hrm rfl) (by omega) (by omega) (by rw [meaC_len, Int.toNat_natCast]; omega)) ?_
                      refine vl_val rfl (.some rfl) (val_loadAgg Tryd.isAgg43 Tryd.sizeOf43 rfl (cells_rd (us := meaV (ms.getD i (0, []))) (rd_old hrm rfl) (meaC_at rfl (by omega))) rfl) ?_
                      refine vl_alloc rfl rfl (.some rfl) Tryd.zeroValue43 (fun r24 => ?_)
                      first | refine vl_store rfl rfl .none rfl rfl Tryd.sizeOf43 rfl (by repeat (first | exact .head | apply In.tail | apply Take.tail | apply Upd.tail)) (by first | decide | exact Nat.le_refl _ | exact Nat.le_of_ble_eq_true rfl | (simp; omega)) ?_ | refine vl_storeSl rfl rfl .none rfl rfl Tryd.sizeOf43 rfl (by simp [Value.cells]) (by repeat (first | exact .head | apply In.tail | apply Take.tail | apply Upd.tail)) (by first | decide | (simp [Value.cells]; omega)) ?_
                      refine vl_nil ?_
                      refine vc_seq ?_
                      refine vc_region ?_
                      refine vl_val rfl (.some rfl) (val_loadAgg Tryd.isAgg26 Tryd.sizeOf26 rfl (by first | exact cells_whole (by repeat (first | exact .head | apply In.tail | apply Take.tail | apply Upd.tail)) | exact cells_part (by repeat (first | exact .head | apply In.tail | apply Take.tail | apply Upd.tail)) rfl) rfl) ?_
                      refine vl_val rfl (.some rfl) (by first | exact val_fieldAddr Tryd.runUnderlying43 rfl Tryd.sizeOf9 rfl | exact val_fieldAddrR Tryd.runUnderlying43 rfl Tryd.sizeOf9 rfl) ?_
                      refine vl_val rfl (.some rfl) (val_load Tryd.isAgg9 rfl (by first | exact cell_cells (by repeat (first | exact .head | apply In.tail | apply Take.tail | apply Upd.tail)) rfl | exact cell_rd (rd_sl (by repeat (first | exact .head | apply In.tail | apply Take.tail | apply Upd.tail))) (by first | exact bcells_at (by omega) | exact ucells_at (by omega) | exact icells_at (by omega) | exact tcells_at (by omega) | exact bcells_get (by omega) | exact icells_get (by omega) | exact tcells_get (by omega) | exact ucells_get (by omega)) | exact cell_rd (rd_old (by assumption) rfl) (by first | exact bcells_at (by omega) | exact ucells_at (by omega) | exact icells_at (by omega) | exact tcells_at (by omega) | exact bcells_get (by omega) | exact icells_get (by omega) | exact tcells_get (by omega) | exact ucells_get (by omega)) | exact cell_old (by assumption) (by simp [fps]))) ?_
                      refine vl_callV rfl rfl (.some rfl) Tryd.call12 rfl (fun w hw => rColumn A n c cs hn hnb (sL tn) (ms.getD i (0, [])).2 w (rdw (rd_old hr rfl) hw)) ?_
                      refine vl_val rfl (.some rfl) (val_move rfl) ?_
                      refine vl_val rfl (.some rfl) (val_extract rfl rfl) ?_
                      refine vl_val rfl (.some rfl) (val_extract rfl rfl) ?_
                      refine vl_val rfl (.some rfl) (val_extract rfl rfl) ?_
                      refine vl_val rfl (.some rfl) (val_assign rfl) ?_
                      refine vl_val rfl (.some rfl) (val_assign rfl) ?_
                      refine vl_val rfl (.some rfl) (val_assign rfl) ?_
                      refine vl_nil ?_
                      refine vc_seq ?_
                      refine vc_region ?_
                      refine vl_val rfl (.some rfl) (by first | exact val_fieldAddr Tryd.runUnderlying43 rfl Tryd.sizeOf3 rfl | exact val_fieldAddrR Tryd.runUnderlying43 rfl Tryd.sizeOf3 rfl) ?_
                      refine vl_val rfl (.some rfl) (val_load Tryd.isAgg3 rfl (by first | exact cell_cells (by repeat (first | exact .head | apply In.tail | apply Take.tail | apply Upd.tail)) rfl | exact cell_rd (rd_sl (by repeat (first | exact .head | apply In.tail | apply Take.tail | apply Upd.tail))) (by first | exact bcells_at (by omega) | exact ucells_at (by omega) | exact icells_at (by omega) | exact tcells_at (by omega) | exact bcells_get (by omega) | exact icells_get (by omega) | exact tcells_get (by omega) | exact ucells_get (by omega)) | exact cell_rd (rd_old (by assumption) rfl) (by first | exact bcells_at (by omega) | exact ucells_at (by omega) | exact icells_at (by omega) | exact tcells_at (by omega) | exact bcells_get (by omega) | exact icells_get (by omega) | exact tcells_get (by omega) | exact ucells_get (by omega)) | exact cell_old (by assumption) (by simp [fps]))) ?_
                      refine vl_val rfl (.some rfl) (val_eq rfl rfl) ?_
                      refine vl_val rfl (.some rfl) (val_move rfl) ?_
                      refine vl_split (t := 159) rfl (fun hg159 => ?_) (fun hg159 => ?_)
                      · (try replace hg159 := of_decide_eq_true hg159)
                        refine vl_on rfl rfl rfl rfl ?_
                        refine vl_val rfl (.some rfl) (val_move rfl) ?_
                        refine vl_on rfl rfl rfl rfl ?_
                        refine vl_val rfl (.some rfl) (val_ne rfl rfl) ?_
                        refine vl_val rfl (.some rfl) (val_pick rfl rfl) ?_
                        refine vl_val rfl (.some rfl) (val_move rfl) ?_
                        refine vl_split (t := 163) rfl (fun hg163 => ?_) (fun hg163 => ?_)
                        · (try replace hg163 := of_decide_eq_true hg163)
                          refine vl_off rfl rfl rfl rfl (.some rfl) ?_
                          refine vl_off rfl rfl rfl rfl (.some rfl) ?_
                          refine vl_off rfl rfl rfl rfl (.some rfl) ?_
                          refine vl_off rfl rfl rfl rfl (.some rfl) ?_
                          refine vl_offU rfl rfl rfl rfl (.some rfl) ?_
                          refine vl_offU rfl rfl rfl rfl (.some rfl) ?_
                          refine vl_off rfl rfl rfl rfl (.some rfl) ?_
                          refine vl_off rfl rfl rfl rfl (.some rfl) ?_
                          refine vl_offU rfl rfl rfl rfl (.some rfl) ?_
                          refine vl_offU rfl rfl rfl rfl (.some rfl) ?_
                          refine vl_off rfl rfl rfl rfl (.some rfl) ?_
                          refine vl_val rfl (.some rfl) (val_pick rfl rfl) ?_
                          refine vl_nil ?_
                          refine vc_cond rfl (fun _ => ?_) (fun h => by cases h)
                          refine vc_seq ?_
                          refine vc_region ?_
                          refine vl_val rfl (.some rfl) (val_assign rfl) ?_
                          refine vl_nil ?_
                          refine vc_ret ?_
                          refine ⟨_, [], _, res1 Tryd.results16 rfl, .nil, ?_⟩
                          rw [rol_9 h1 h2 h3 h4 h5 h6 h7 h8 (not_all (0, []) (P := fun x : Mq => fitP x.1 (colK cs x.2)) (j := i) (by omega) (by unfold fitP; omega))]
                          rfl
                        · (try replace hg163 := of_decide_eq_false hg163)
                          refine vl_on rfl rfl rfl rfl ?_
                          refine vl_val rfl (.some rfl) (by first | exact val_fieldAddr Tryd.runUnderlying43 rfl Tryd.sizeOf3 rfl | exact val_fieldAddrR Tryd.runUnderlying43 rfl Tryd.sizeOf3 rfl) ?_
                          refine vl_on rfl rfl rfl rfl ?_
                          refine vl_val rfl (.some rfl) (val_load Tryd.isAgg3 rfl (by first | exact cell_cells (by repeat (first | exact .head | apply In.tail | apply Take.tail | apply Upd.tail)) rfl | exact cell_rd (rd_sl (by repeat (first | exact .head | apply In.tail | apply Take.tail | apply Upd.tail))) (by first | exact bcells_at (by omega) | exact ucells_at (by omega) | exact icells_at (by omega) | exact tcells_at (by omega) | exact bcells_get (by omega) | exact icells_get (by omega) | exact tcells_get (by omega) | exact ucells_get (by omega)) | exact cell_rd (rd_old (by assumption) rfl) (by first | exact bcells_at (by omega) | exact ucells_at (by omega) | exact icells_at (by omega) | exact tcells_at (by omega) | exact bcells_get (by omega) | exact icells_get (by omega) | exact tcells_get (by omega) | exact ucells_get (by omega)) | exact cell_old (by assumption) (by simp [fps]))) ?_
                          refine vl_on rfl rfl rfl rfl ?_
                          refine vl_val rfl (.some rfl) (val_eq rfl rfl) ?_
                          refine vl_on rfl rfl rfl rfl ?_
                          refine vl_val rfl (.some rfl) (val_move rfl) ?_
                          refine vl_split (t := 167) rfl (fun hg167 => ?_) (fun hg167 => ?_)
                          · (try replace hg167 := of_decide_eq_true hg167)
                            refine vl_on rfl rfl rfl rfl ?_
                            refine vl_val rfl (.some rfl) (val_move rfl) ?_
                            refine vl_on rfl rfl rfl rfl ?_
                            refine vl_val rfl (.some rfl) (val_ne rfl rfl) ?_
                            refine vl_on rfl rfl rfl rfl ?_
                            refine vl_val rfl (.some rfl) (val_pick rfl rfl) ?_
                            refine vl_on rfl rfl rfl rfl ?_
                            refine vl_val rfl (.some rfl) (val_move rfl) ?_
                            refine vl_split (t := 171) rfl (fun hg171 => ?_) (fun hg171 => ?_)
                            · (try replace hg171 := of_decide_eq_true hg171)
                              refine vl_on rfl rfl rfl rfl ?_
                              refine vl_val rfl (.some rfl) (val_move rfl) ?_
                              refine vl_on rfl rfl rfl rfl ?_
                              refine vl_val rfl (.some rfl) (val_ne rfl rfl) ?_
                              refine vl_on rfl rfl rfl rfl ?_
                              refine vl_val rfl (.some rfl) (val_pick rfl rfl) ?_
                              refine vl_val rfl (.some rfl) (val_pick rfl rfl) ?_
                              refine vl_nil ?_
                              refine vc_cond rfl (fun hc17 => ?_) (fun hc17 => ?_)
                              · (try replace hc17 := of_decide_eq_true hc17)
                                refine vc_seq ?_
                                refine vc_region ?_
                                refine vl_val rfl (.some rfl) (val_assign rfl) ?_
                                refine vl_nil ?_
                                refine vc_ret ?_
                                refine ⟨_, [], _, res1 Tryd.results16 rfl, .nil, ?_⟩
                                rw [rol_9 h1 h2 h3 h4 h5 h6 h7 h8 (not_all (0, []) (P := fun x : Mq => fitP x.1 (colK cs x.2)) (j := i) (by omega) (by unfold fitP; omega))]
                                rfl
                              · (try replace hc17 := of_decide_eq_false hc17)
                                refine vc_skip ?_
                                refine vc_region ?_
                                refine vl_val rfl (.some rfl) (val_add rfl rfl (by first | exact w_i64 (by omega) (by omega) | rfl)) ?_
                                refine vl_val rfl (.some rfl) (val_move rfl) ?_
                                refine vl_nil ?_
                                exact ⟨(nm - (i + 1)), _, _, _, by omega, (by repeat (first | exact trivial | refine ⟨rfl, ?_⟩ | refine ⟨le_item rfl (by first | rfl | (congr 1; omega) | (simp; done) | (simp; omega)), ?_⟩)), (by repeat (first | exact .nil | (apply Sub.cons; · repeat (first | exact .head | apply Take.tail)))), ⟨i + 1, by omega, rfl, fun j hj => by
                                  rcases Nat.lt_or_ge j i with h | h
                                  · exact hft j h
                                  · obtain rfl : j = i := by omega
                                    unfold fitP; omega, rfl, rfl⟩⟩
                            · (try replace hg171 := of_decide_eq_false hg171)
                              refine vl_off rfl rfl rfl rfl (.some rfl) ?_
                              refine vl_off rfl rfl rfl rfl (.some rfl) ?_
                              refine vl_on rfl rfl rfl rfl ?_
                              refine vl_val rfl (.some rfl) (val_pick rfl rfl) ?_
                              refine vl_val rfl (.some rfl) (val_pick rfl rfl) ?_
                              refine vl_nil ?_
                              refine vc_cond rfl (fun h => by cases h) (fun _ => ?_)
                              refine vc_skip ?_
                              refine vc_region ?_
                              refine vl_val rfl (.some rfl) (val_add rfl rfl (by first | exact w_i64 (by omega) (by omega) | rfl)) ?_
                              refine vl_val rfl (.some rfl) (val_move rfl) ?_
                              refine vl_nil ?_
                              exact ⟨(nm - (i + 1)), _, _, _, by omega, (by repeat (first | exact trivial | refine ⟨rfl, ?_⟩ | refine ⟨le_item rfl (by first | rfl | (congr 1; omega) | (simp; done) | (simp; omega)), ?_⟩)), (by repeat (first | exact .nil | (apply Sub.cons; · repeat (first | exact .head | apply Take.tail)))), ⟨i + 1, by omega, rfl, fun j hj => by
                                rcases Nat.lt_or_ge j i with h | h
                                · exact hft j h
                                · obtain rfl : j = i := by omega
                                  unfold fitP; omega, rfl, rfl⟩⟩
                          · (try replace hg167 := of_decide_eq_false hg167)
                            refine vl_off rfl rfl rfl rfl (.some rfl) ?_
                            refine vl_off rfl rfl rfl rfl (.some rfl) ?_
                            refine vl_on rfl rfl rfl rfl ?_
                            refine vl_val rfl (.some rfl) (val_pick rfl rfl) ?_
                            refine vl_on rfl rfl rfl rfl ?_
                            refine vl_val rfl (.some rfl) (val_move rfl) ?_
                            refine vl_off rfl rfl rfl rfl (.some rfl) ?_
                            refine vl_off rfl rfl rfl rfl (.some rfl) ?_
                            refine vl_on rfl rfl rfl rfl ?_
                            refine vl_val rfl (.some rfl) (val_pick rfl rfl) ?_
                            refine vl_val rfl (.some rfl) (val_pick rfl rfl) ?_
                            refine vl_nil ?_
                            refine vc_cond rfl (fun h => by cases h) (fun _ => ?_)
                            refine vc_skip ?_
                            refine vc_region ?_
                            refine vl_val rfl (.some rfl) (val_add rfl rfl (by first | exact w_i64 (by omega) (by omega) | rfl)) ?_
                            refine vl_val rfl (.some rfl) (val_move rfl) ?_
                            refine vl_nil ?_
                            exact ⟨(nm - (i + 1)), _, _, _, by omega, (by repeat (first | exact trivial | refine ⟨rfl, ?_⟩ | refine ⟨le_item rfl (by first | rfl | (congr 1; omega) | (simp; done) | (simp; omega)), ?_⟩)), (by repeat (first | exact .nil | (apply Sub.cons; · repeat (first | exact .head | apply Take.tail)))), ⟨i + 1, by omega, rfl, fun j hj => by
                              rcases Nat.lt_or_ge j i with h | h
                              · exact hft j h
                              · obtain rfl : j = i := by omega
                                unfold fitP; omega, rfl, rfl⟩⟩
                      · (try replace hg159 := of_decide_eq_false hg159)
                        refine vl_off rfl rfl rfl rfl (.some rfl) ?_
                        refine vl_off rfl rfl rfl rfl (.some rfl) ?_
                        refine vl_val rfl (.some rfl) (val_pick rfl rfl) ?_
                        refine vl_val rfl (.some rfl) (val_move rfl) ?_
                        refine vl_on rfl rfl rfl rfl ?_
                        refine vl_val rfl (.some rfl) (by first | exact val_fieldAddr Tryd.runUnderlying43 rfl Tryd.sizeOf3 rfl | exact val_fieldAddrR Tryd.runUnderlying43 rfl Tryd.sizeOf3 rfl) ?_
                        refine vl_on rfl rfl rfl rfl ?_
                        refine vl_val rfl (.some rfl) (val_load Tryd.isAgg3 rfl (by first | exact cell_cells (by repeat (first | exact .head | apply In.tail | apply Take.tail | apply Upd.tail)) rfl | exact cell_rd (rd_sl (by repeat (first | exact .head | apply In.tail | apply Take.tail | apply Upd.tail))) (by first | exact bcells_at (by omega) | exact ucells_at (by omega) | exact icells_at (by omega) | exact tcells_at (by omega) | exact bcells_get (by omega) | exact icells_get (by omega) | exact tcells_get (by omega) | exact ucells_get (by omega)) | exact cell_rd (rd_old (by assumption) rfl) (by first | exact bcells_at (by omega) | exact ucells_at (by omega) | exact icells_at (by omega) | exact tcells_at (by omega) | exact bcells_get (by omega) | exact icells_get (by omega) | exact tcells_get (by omega) | exact ucells_get (by omega)) | exact cell_old (by assumption) (by simp [fps]))) ?_
                        refine vl_on rfl rfl rfl rfl ?_
                        refine vl_val rfl (.some rfl) (val_eq rfl rfl) ?_
                        refine vl_on rfl rfl rfl rfl ?_
                        refine vl_val rfl (.some rfl) (val_move rfl) ?_
                        refine vl_split (t := 167) rfl (fun hg167 => ?_) (fun hg167 => ?_)
                        · (try replace hg167 := of_decide_eq_true hg167)
                          refine vl_on rfl rfl rfl rfl ?_
                          refine vl_val rfl (.some rfl) (val_move rfl) ?_
                          refine vl_on rfl rfl rfl rfl ?_
                          refine vl_val rfl (.some rfl) (val_ne rfl rfl) ?_
                          refine vl_on rfl rfl rfl rfl ?_
                          refine vl_val rfl (.some rfl) (val_pick rfl rfl) ?_
                          refine vl_on rfl rfl rfl rfl ?_
                          refine vl_val rfl (.some rfl) (val_move rfl) ?_
                          refine vl_split (t := 171) rfl (fun hg171 => ?_) (fun hg171 => ?_)
                          · (try replace hg171 := of_decide_eq_true hg171)
                            refine vl_on rfl rfl rfl rfl ?_
                            refine vl_val rfl (.some rfl) (val_move rfl) ?_
                            refine vl_on rfl rfl rfl rfl ?_
                            refine vl_val rfl (.some rfl) (val_ne rfl rfl) ?_
                            refine vl_on rfl rfl rfl rfl ?_
                            refine vl_val rfl (.some rfl) (val_pick rfl rfl) ?_
                            refine vl_val rfl (.some rfl) (val_pick rfl rfl) ?_
                            refine vl_nil ?_
                            refine vc_cond rfl (fun hc17 => ?_) (fun hc17 => ?_)
                            · (try replace hc17 := of_decide_eq_true hc17)
                              refine vc_seq ?_
                              refine vc_region ?_
                              refine vl_val rfl (.some rfl) (val_assign rfl) ?_
                              refine vl_nil ?_
                              refine vc_ret ?_
                              refine ⟨_, [], _, res1 Tryd.results16 rfl, .nil, ?_⟩
                              rw [rol_9 h1 h2 h3 h4 h5 h6 h7 h8 (not_all (0, []) (P := fun x : Mq => fitP x.1 (colK cs x.2)) (j := i) (by omega) (by unfold fitP; omega))]
                              rfl
                            · (try replace hc17 := of_decide_eq_false hc17)
                              refine vc_skip ?_
                              refine vc_region ?_
                              refine vl_val rfl (.some rfl) (val_add rfl rfl (by first | exact w_i64 (by omega) (by omega) | rfl)) ?_
                              refine vl_val rfl (.some rfl) (val_move rfl) ?_
                              refine vl_nil ?_
                              exact ⟨(nm - (i + 1)), _, _, _, by omega, (by repeat (first | exact trivial | refine ⟨rfl, ?_⟩ | refine ⟨le_item rfl (by first | rfl | (congr 1; omega) | (simp; done) | (simp; omega)), ?_⟩)), (by repeat (first | exact .nil | (apply Sub.cons; · repeat (first | exact .head | apply Take.tail)))), ⟨i + 1, by omega, rfl, fun j hj => by
                                rcases Nat.lt_or_ge j i with h | h
                                · exact hft j h
                                · obtain rfl : j = i := by omega
                                  unfold fitP; omega, rfl, rfl⟩⟩
                          · (try replace hg171 := of_decide_eq_false hg171)
                            refine vl_off rfl rfl rfl rfl (.some rfl) ?_
                            refine vl_off rfl rfl rfl rfl (.some rfl) ?_
                            refine vl_on rfl rfl rfl rfl ?_
                            refine vl_val rfl (.some rfl) (val_pick rfl rfl) ?_
                            refine vl_val rfl (.some rfl) (val_pick rfl rfl) ?_
                            refine vl_nil ?_
                            refine vc_cond rfl (fun h => by cases h) (fun _ => ?_)
                            refine vc_skip ?_
                            refine vc_region ?_
                            refine vl_val rfl (.some rfl) (val_add rfl rfl (by first | exact w_i64 (by omega) (by omega) | rfl)) ?_
                            refine vl_val rfl (.some rfl) (val_move rfl) ?_
                            refine vl_nil ?_
                            exact ⟨(nm - (i + 1)), _, _, _, by omega, (by repeat (first | exact trivial | refine ⟨rfl, ?_⟩ | refine ⟨le_item rfl (by first | rfl | (congr 1; omega) | (simp; done) | (simp; omega)), ?_⟩)), (by repeat (first | exact .nil | (apply Sub.cons; · repeat (first | exact .head | apply Take.tail)))), ⟨i + 1, by omega, rfl, fun j hj => by
                              rcases Nat.lt_or_ge j i with h | h
                              · exact hft j h
                              · obtain rfl : j = i := by omega
                                unfold fitP; omega, rfl, rfl⟩⟩
                        · (try replace hg167 := of_decide_eq_false hg167)
                          refine vl_off rfl rfl rfl rfl (.some rfl) ?_
                          refine vl_off rfl rfl rfl rfl (.some rfl) ?_
                          refine vl_on rfl rfl rfl rfl ?_
                          refine vl_val rfl (.some rfl) (val_pick rfl rfl) ?_
                          refine vl_on rfl rfl rfl rfl ?_
                          refine vl_val rfl (.some rfl) (val_move rfl) ?_
                          refine vl_off rfl rfl rfl rfl (.some rfl) ?_
                          refine vl_off rfl rfl rfl rfl (.some rfl) ?_
                          refine vl_on rfl rfl rfl rfl ?_
                          refine vl_val rfl (.some rfl) (val_pick rfl rfl) ?_
                          refine vl_val rfl (.some rfl) (val_pick rfl rfl) ?_
                          refine vl_nil ?_
                          refine vc_cond rfl (fun h => by cases h) (fun _ => ?_)
                          refine vc_skip ?_
                          refine vc_region ?_
                          refine vl_val rfl (.some rfl) (val_add rfl rfl (by first | exact w_i64 (by omega) (by omega) | rfl)) ?_
                          refine vl_val rfl (.some rfl) (val_move rfl) ?_
                          refine vl_nil ?_
                          exact ⟨(nm - (i + 1)), _, _, _, by omega, (by repeat (first | exact trivial | refine ⟨rfl, ?_⟩ | refine ⟨le_item rfl (by first | rfl | (congr 1; omega) | (simp; done) | (simp; omega)), ?_⟩)), (by repeat (first | exact .nil | (apply Sub.cons; · repeat (first | exact .head | apply Take.tail)))), ⟨i + 1, by omega, rfl, fun j hj => by
                            rcases Nat.lt_or_ge j i with h | h
                            · exact hft j h
                            · obtain rfl : j = i := by omega
                              unfold fitP; omega, rfl, rfl⟩⟩
                    · (try replace hc16 := of_decide_eq_false hc16)
                      have h9 : ∀ x ∈ ms, fitP x.1 (colK cs x.2) := all_of (0, []) (P := fun x : Mq => fitP x.1 (colK cs x.2)) (fun j hj => hft j (by omega))
                      refine vc_exit ?_
                      refine vc_seq ?_
                      refine vc_region ?_
                      refine vl_val rfl (.some rfl) (val_assign rfl) ?_
                      refine vl_nil ?_
                      refine vc_ret ?_
                      refine ⟨_, [], _, res1 Tryd.results16 rfl, .nil, ?_⟩
                      rw [rol_0 h1 h2 h3 h4 h5 h6 h7 h8 h9]
                      rfl


end Go.Proofs.YtdehjgpdcdjhjaaDoor.K
