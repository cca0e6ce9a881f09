/- Walks of the program's functions, printed by a program of this session; Lean checks them. -/
import Derived.Laws.Externs
import Derived.Test.YtclknendeeljaaaDoorFa
import Derived.Test.YtclknendeeljaaaDoorFb
import Derived.Test.YtclknendeeljaaaDoorMf
import Derived.Test.YtclknendeeljaaaDoorCg
import Derived.Test.YtclknendeeljaaaDoorKm
import Derived.Test.YtclknendeeljaaaDoorYta
namespace Go.Proofs.YtclknendeeljaaaDoor.K
open Go Go.RowKit Go.Proofs
set_option linter.unusedVariables false
set_option linter.unusedSimpArgs false

abbrev z3 : Vk := ⟨0, 0, ⟨#[]⟩⟩
theorem fsV : (Tryd.prog.fieldsOf 25).toList = [⟨"Kind", 3, 0, false, "", "", 0⟩, ⟨"N", 3, 1, false, "", "", 8⟩, ⟨"S", 9, 2, false, "", "", 16⟩] := by kernel_rfl
theorem vk_equal (p q : Vk) (w : World) : (Op.equal 25 (vk p) (vk q)).run Tryd.prog w = .ok (decide (p = q)) w := by
  obtain ⟨k, n, s⟩ := p
  obtain ⟨k', n', s'⟩ := q
  unfold Op.equal vk
  rw [show Op.maxDepth = 9999 + 1 from rfl, run_equalIn_agg w 9999 25 _ _ (by kernel_rfl) (by kernel_rfl), fsV]
  have e3 : ∀ a b : Int, (Op.equalIn 9999 3 (.int .i64 a) (.int .i64 b)).run Tryd.prog w = .ok (decide (a = b)) w := fun a b => by
    rw [show (9999 : Nat) = 9998 + 1 from rfl, run_equalIn_int w 9998 3 .i64 .i64 a b Tryd.underlying3, int_beq]
  have e9 : ∀ a b : ByteArray, (Op.equalIn 9999 9 (.string a) (.string b)).run Tryd.prog w = .ok (decide (a = b)) w := fun a b => by
    rw [show (9999 : Nat) = 9998 + 1 from rfl, run_equalIn_string w 9998 9 a b Tryd.underlying9, bytes_beq]
  simp only [Op.eqFields, part, Sem.run_bind, Tryd.isAgg3, Tryd.isAgg9, Result.andThen_ok]
  simp [e3, e9]
  by_cases h1 : k = k' <;> by_cases h2 : n = n' <;> simp [h1, h2, e3, e9]
  by_cases h3 : s = s' <;> simp [h3]
/-- What 'of' answers. -/
def ofV (p : Vk) : Value := if p.k = 0 then .iface 43 (.agg #[]) else if p.k = 1 then .iface 44 (.int .i64 p.n) else if p.k = 2 then .iface 45 (.int .i64 p.n) else if p.k = 3 then .iface 47 (.string p.s) else if p.k = 4 then .iface 48 (.bool (decide (p.n ≠ 0))) else .nilIface
section asks
variable {X : Cx} {E : Env} {H : List Chunk} {p : Vk}
theorem asks (T : TypeId) (j : Int) (z pl : Value) {x : Operand} {xT ty : TypeId} {d : TypeDesc} (hu : ∀ w, (underlying T).run X.P w = .ok d w) (hd : (match d with | .interface _ => false | _ => true) = true) (hz : ∀ w, (zeroValue T).run X.P w = .ok z w) (hx : E.ev x = some (ofV p))
    (h1 : p.k = j → ofV p = .iface T pl) (h2 : p.k ≠ j → ofV p = .nilIface ∨ ∃ t v, t ≠ T ∧ ofV p = .iface t v) : Val X E H (.typeAssert x xT T true) ty (.tuple #[if p.k = j then pl else z, .bool (decide (p.k = j))]) := by
  by_cases h : p.k = j
  · rw [h1 h] at hx
    have := val_isType (H := H) (xT := xT) (ty := ty) hu hd hz hx
    simpa [h] using this
  · rcases h2 h with e | ⟨t, v, ht, e⟩
    · rw [e] at hx
      have := val_isTypeNil (H := H) (xT := xT) (ty := ty) hu hz hx
      simpa [h] using this
    · rw [e] at hx
      have := val_isType (H := H) (xT := xT) (ty := ty) hu hd hz hx
      simpa [h, ht] using this
theorem other (T : TypeId) (j : Int) (hj : ∀ k : Int, k ≠ j → (k = 0 → 43 ≠ T) ∧ (k = 1 → 44 ≠ T) ∧ (k = 2 → 45 ≠ T) ∧ (k = 3 → 47 ≠ T) ∧ (k = 4 → 48 ≠ T)) (h : p.k ≠ j) : ofV p = .nilIface ∨ ∃ t v, t ≠ T ∧ ofV p = .iface t v := by
  obtain ⟨a0, a1, a2, a3, a4⟩ := hj p.k h
  unfold ofV
  split
  · exact .inr ⟨_, _, a0 (by assumption), rfl⟩
  · split
    · exact .inr ⟨_, _, a1 (by assumption), rfl⟩
    · split
      · exact .inr ⟨_, _, a2 (by assumption), rfl⟩
      · split
        · exact .inr ⟨_, _, a3 (by assumption), rfl⟩
        · split
          · exact .inr ⟨_, _, a4 (by assumption), rfl⟩
          · exact .inl rfl
end asks
def goodV (p : Vk) : Bool := if p.k = 0 then decide (p = z3) else if p.k = 1 then decide (p.s = ⟨#[]⟩) else if p.k = 2 then decide (p.s = ⟨#[]⟩) && decide (canS p.n = p.n) else if p.k = 3 then decide (p.n = 0) && decide (p.s.size ≤ 64) else if p.k = 4 then decide (p.s = ⟨#[]⟩) && (decide (p.n = 0) || decide (p.n = 1)) else false

set_option maxRecDepth 20000 in
theorem vOf (p : Vk) (w : World) : FnV Tryd.prog 14 [vk p] (ofV p) w := by
  refine fn_enter Tryd.func14 rfl Tryd.ntmps14 rfl ?_
  refine vc_seq ?_
  refine vc_region ?_
  refine vl_box rfl rfl (.some rfl) rfl (fun r1 => ?_)
  refine vl_val rfl (.some rfl) (val_assign rfl) ?_
  refine vl_nil ?_
  refine vc_seq ?_
  refine vc_seq ?_
  refine vc_region ?_
  refine vl_val rfl (.some rfl) (by first | exact val_fieldAddr Tryd.runUnderlying25 rfl Tryd.sizeOf3 rfl | exact val_fieldAddrR Tryd.runUnderlying25 rfl Tryd.sizeOf3 rfl) ?_
  refine vl_val rfl (.some rfl) (val_load Tryd.isAgg3 rfl (by first | exact cell_cells (by repeat constructor) rfl | exact cell_rd (by first | exact rd_sl (by repeat constructor) | exact rd_old (by assumption) rfl) (by first | exact bcells_at (by omega) | exact ucells_at (by omega) | exact icells_at (by omega) | exact tcells_at (by omega) | exact bcells_get (by omega) | exact icells_get (by omega) | exact tcells_get (by omega) | exact ucells_get (by omega)) | exact cell_old (by assumption) (by simp [fps]))) ?_
  refine vl_nil ?_
  refine vc_block ?_
  refine vc_seq ?_
  refine vc_region ?_
  refine vl_val rfl (.some rfl) (val_eq rfl rfl) ?_
  refine vl_val rfl (.some rfl) (val_assign rfl) ?_
  refine vl_nil ?_
  refine vc_cond rfl (fun hc0 => ?_) (fun hc0 => ?_)
  · (try replace hc0 := of_decide_eq_true hc0)
    refine vc_seq ?_
    refine vc_region ?_
    refine vl_val rfl (.some rfl) (val_buildSt (pl := #[]) (cs := #[]) Tryd.runUnderlying43 Tryd.zeroValue43 (fun w => by kernel_rfl) rfl rfl) ?_
    refine vl_val rfl (.some rfl) (val_mkIface Tryd.runUnderlying43 rfl rfl) ?_
    refine vl_val rfl (.some rfl) (val_assign rfl) ?_
    refine vl_nil ?_
    refine vc_ret ?_
    refine ⟨_, [], _, res1 Tryd.results14 rfl, .nil, ?_⟩
    show _ = _; unfold ofV; rw [if_pos hc0]
  · (try replace hc0 := of_decide_eq_false hc0)
    refine vc_seq ?_
    refine vc_region ?_
    refine vl_val rfl (.some rfl) (val_eq rfl rfl) ?_
    refine vl_val rfl (.some rfl) (val_assign rfl) ?_
    refine vl_nil ?_
    refine vc_cond rfl (fun hc1 => ?_) (fun hc1 => ?_)
    · (try replace hc1 := of_decide_eq_true hc1)
      refine vc_seq ?_
      refine vc_region ?_
      refine vl_val rfl (.some rfl) (by first | exact val_fieldAddr Tryd.runUnderlying25 rfl Tryd.sizeOf3 rfl | exact val_fieldAddrR Tryd.runUnderlying25 rfl Tryd.sizeOf3 rfl) ?_
      refine vl_val rfl (.some rfl) (val_load Tryd.isAgg3 rfl (by first | exact cell_cells (by repeat constructor) rfl | exact cell_rd (by first | exact rd_sl (by repeat constructor) | exact rd_old (by assumption) rfl) (by first | exact bcells_at (by omega) | exact ucells_at (by omega) | exact icells_at (by omega) | exact tcells_at (by omega) | exact bcells_get (by omega) | exact icells_get (by omega) | exact tcells_get (by omega) | exact ucells_get (by omega)) | exact cell_old (by assumption) (by simp [fps]))) ?_
      refine vl_val rfl (.some rfl) (val_mkIface Tryd.runUnderlying44 rfl rfl) ?_
      refine vl_val rfl (.some rfl) (val_assign rfl) ?_
      refine vl_nil ?_
      refine vc_ret ?_
      refine ⟨_, [], _, res1 Tryd.results14 rfl, .nil, ?_⟩
      show _ = _; unfold ofV; rw [if_neg hc0, if_pos hc1]
    · (try replace hc1 := of_decide_eq_false hc1)
      refine vc_seq ?_
      refine vc_region ?_
      refine vl_val rfl (.some rfl) (val_eq rfl rfl) ?_
      refine vl_val rfl (.some rfl) (val_assign rfl) ?_
      refine vl_nil ?_
      refine vc_cond rfl (fun hc2 => ?_) (fun hc2 => ?_)
      · (try replace hc2 := of_decide_eq_true hc2)
        refine vc_seq ?_
        refine vc_region ?_
        refine vl_val rfl (.some rfl) (by first | exact val_fieldAddr Tryd.runUnderlying25 rfl Tryd.sizeOf3 rfl | exact val_fieldAddrR Tryd.runUnderlying25 rfl Tryd.sizeOf3 rfl) ?_
        refine vl_val rfl (.some rfl) (val_load Tryd.isAgg3 rfl (by first | exact cell_cells (by repeat constructor) rfl | exact cell_rd (by first | exact rd_sl (by repeat constructor) | exact rd_old (by assumption) rfl) (by first | exact bcells_at (by omega) | exact ucells_at (by omega) | exact icells_at (by omega) | exact tcells_at (by omega) | exact bcells_get (by omega) | exact icells_get (by omega) | exact tcells_get (by omega) | exact ucells_get (by omega)) | exact cell_old (by assumption) (by simp [fps]))) ?_
        refine vl_val rfl (.some rfl) (val_mkIface Tryd.runUnderlying45 rfl rfl) ?_
        refine vl_val rfl (.some rfl) (val_assign rfl) ?_
        refine vl_nil ?_
        refine vc_ret ?_
        refine ⟨_, [], _, res1 Tryd.results14 rfl, .nil, ?_⟩
        show _ = _; unfold ofV; rw [if_neg hc0, if_neg hc1, if_pos hc2]
      · (try replace hc2 := of_decide_eq_false hc2)
        refine vc_seq ?_
        refine vc_region ?_
        refine vl_val rfl (.some rfl) (val_eq rfl rfl) ?_
        refine vl_val rfl (.some rfl) (val_assign rfl) ?_
        refine vl_nil ?_
        refine vc_cond rfl (fun hc3 => ?_) (fun hc3 => ?_)
        · (try replace hc3 := of_decide_eq_true hc3)
          refine vc_seq ?_
          refine vc_region ?_
          refine vl_val rfl (.some rfl) (by first | exact val_fieldAddr Tryd.runUnderlying25 rfl Tryd.sizeOf9 rfl | exact val_fieldAddrR Tryd.runUnderlying25 rfl Tryd.sizeOf9 rfl) ?_
          refine vl_val rfl (.some rfl) (val_load Tryd.isAgg9 rfl (by first | exact cell_cells (by repeat constructor) rfl | exact cell_rd (by first | exact rd_sl (by repeat constructor) | exact rd_old (by assumption) rfl) (by first | exact bcells_at (by omega) | exact ucells_at (by omega) | exact icells_at (by omega) | exact tcells_at (by omega) | exact bcells_get (by omega) | exact icells_get (by omega) | exact tcells_get (by omega) | exact ucells_get (by omega)) | exact cell_old (by assumption) (by simp [fps]))) ?_
          refine vl_val rfl (.some rfl) (val_mkIface Tryd.runUnderlying47 rfl rfl) ?_
          refine vl_val rfl (.some rfl) (val_assign rfl) ?_
          refine vl_nil ?_
          refine vc_ret ?_
          refine ⟨_, [], _, res1 Tryd.results14 rfl, .nil, ?_⟩
          show _ = _; unfold ofV; rw [if_neg hc0, if_neg hc1, if_neg hc2, if_pos hc3]
        · (try replace hc3 := of_decide_eq_false hc3)
          refine vc_seq ?_
          refine vc_region ?_
          refine vl_val rfl (.some rfl) (val_eq rfl rfl) ?_
          refine vl_val rfl (.some rfl) (val_assign rfl) ?_
          refine vl_nil ?_
          refine vc_cond rfl (fun hc4 => ?_) (fun hc4 => ?_)
          · (try replace hc4 := of_decide_eq_true hc4)
            refine vc_seq ?_
            refine vc_region ?_
            refine vl_val rfl (.some rfl) (by first | exact val_fieldAddr Tryd.runUnderlying25 rfl Tryd.sizeOf3 rfl | exact val_fieldAddrR Tryd.runUnderlying25 rfl Tryd.sizeOf3 rfl) ?_
            refine vl_val rfl (.some rfl) (val_load Tryd.isAgg3 rfl (by first | exact cell_cells (by repeat constructor) rfl | exact cell_rd (by first | exact rd_sl (by repeat constructor) | exact rd_old (by assumption) rfl) (by first | exact bcells_at (by omega) | exact ucells_at (by omega) | exact icells_at (by omega) | exact tcells_at (by omega) | exact bcells_get (by omega) | exact icells_get (by omega) | exact tcells_get (by omega) | exact ucells_get (by omega)) | exact cell_old (by assumption) (by simp [fps]))) ?_
            refine vl_val rfl (.some rfl) (val_ne rfl rfl) ?_
            refine vl_val rfl (.some rfl) (val_mkIface Tryd.runUnderlying48 rfl rfl) ?_
            refine vl_val rfl (.some rfl) (val_assign rfl) ?_
            refine vl_nil ?_
            refine vc_ret ?_
            refine ⟨_, [], _, res1 Tryd.results14 rfl, .nil, ?_⟩
            show _ = _; unfold ofV; rw [if_neg hc0, if_neg hc1, if_neg hc2, if_neg hc3, if_pos hc4]
          · (try replace hc4 := of_decide_eq_false hc4)
            refine vc_skip ?_
            refine vc_seq ?_
            refine vc_region ?_
            refine vl_val rfl (.some rfl) (val_assign rfl) ?_
            refine vl_nil ?_
            refine vc_ret ?_
            refine ⟨_, [], _, res1 Tryd.results14 rfl, .nil, ?_⟩
            show _ = _; unfold ofV; rw [if_neg hc0, if_neg hc1, if_neg hc2, if_neg hc3, if_neg hc4]
set_option maxRecDepth 20000 in
theorem vGood (p : Vk) (w : World) : FnV Tryd.prog 5 [vk p] (.bool (goodV p)) w := by
  refine fn_enter Tryd.func5 rfl Tryd.ntmps5 rfl ?_
  refine vc_seq ?_
  refine vc_region ?_
  refine vl_box rfl rfl (.some rfl) rfl (fun r1 => ?_)
  refine vl_val rfl (.some rfl) (val_assign rfl) ?_
  refine vl_nil ?_
  refine vc_seq ?_
  refine vc_seq ?_
  refine vc_region ?_
  refine vl_val rfl (.some rfl) (val_loadAgg Tryd.isAgg25 Tryd.sizeOf25 rfl (by first | exact cells_whole (by repeat constructor) | exact cells_part (by repeat constructor) rfl) rfl) ?_
  refine vl_callV rfl rfl (.some rfl) Tryd.call14 rfl (fun w hw => vOf _ w) ?_
  refine vl_nil ?_
  refine vc_block ?_
  refine vc_seq ?_
  refine vc_region ?_
  refine vl_val rfl (.some rfl) (asks 43 0 (.agg #[]) (.agg #[]) Tryd.runUnderlying43 rfl Tryd.zeroValue43 rfl (fun h => by unfold ofV; rw [h]; simp) (other _ _ (fun k hk => ⟨fun h => by first | decide | omega, fun h => by first | decide | omega, fun h => by first | decide | omega, fun h => by first | decide | omega, fun h => by first | decide | omega⟩))) ?_
  refine vl_val rfl (.some rfl) (val_extract rfl rfl) ?_
  refine vl_val rfl (.some rfl) (val_extract rfl rfl) ?_
  refine vl_nil ?_
  refine vc_cond rfl (fun hc0 => ?_) (fun hc0 => ?_)
  · (try replace hc0 := of_decide_eq_true hc0)
    rw [if_pos hc0]
    refine vc_seq ?_
    refine vc_region ?_
    refine vl_alloc rfl rfl (.some rfl) Tryd.zeroValue43 (fun r3 => ?_)
    first | refine vl_store rfl rfl .none rfl rfl Tryd.sizeOf43 rfl (by repeat constructor) (by first | decide | exact Nat.le_refl _ | exact Nat.le_of_ble_eq_true rfl | (simp; omega)) ?_ | refine vl_storeSl rfl rfl .none rfl rfl Tryd.sizeOf43 rfl (by simp [Value.cells]) (by repeat constructor) (by first | decide | (simp [Value.cells]; omega)) ?_
    refine vl_nil ?_
    refine vc_seq ?_
    refine vc_region ?_
    refine vl_val rfl (.some rfl) (val_loadAgg Tryd.isAgg25 Tryd.sizeOf25 rfl (by first | exact cells_whole (by repeat constructor) | exact cells_part (by repeat constructor) rfl) rfl) ?_
    refine vl_val rfl (.some rfl) (val_buildSt (pl := #[(0, 1), (1, 1), (2, 1)]) (cs := #[.int .i64 0, .int .i64 0, .string ⟨#[]⟩]) Tryd.runUnderlying25 Tryd.zeroValue25 (fun w => by kernel_rfl) rfl rfl) ?_
    refine vl_val rfl (.some rfl) (val_opO rfl rfl (fun w => run_eqGuard_agg w _ _ _ _ _ _ (by kernel_rfl)) (bin_agg_eq (vk_equal p z3))) ?_
    refine vl_val rfl (.some rfl) (val_assign rfl) ?_
    refine vl_nil ?_
    refine vc_ret ?_
    refine ⟨_, [], _, res1 Tryd.results5 rfl, .nil, ?_⟩
    show _ = _; unfold goodV; rw [if_pos hc0]
  · (try replace hc0 := of_decide_eq_false hc0)
    refine vc_seq ?_
    refine vc_region ?_
    refine vl_val rfl (.some rfl) (asks 44 1 (.int .i64 0) (.int .i64 p.n) Tryd.runUnderlying44 rfl Tryd.zeroValue44 rfl (fun h => by unfold ofV; rw [h]; simp) (other _ _ (fun k hk => ⟨fun h => by first | decide | omega, fun h => by first | decide | omega, fun h => by first | decide | omega, fun h => by first | decide | omega, fun h => by first | decide | omega⟩))) ?_
    refine vl_val rfl (.some rfl) (val_extract rfl rfl) ?_
    refine vl_val rfl (.some rfl) (val_extract rfl rfl) ?_
    refine vl_nil ?_
    refine vc_cond rfl (fun hc1 => ?_) (fun hc1 => ?_)
    · (try replace hc1 := of_decide_eq_true hc1)
      refine vc_seq ?_
      refine vc_region ?_
      refine vl_val rfl (.some rfl) (val_assign rfl) ?_
      refine vl_nil ?_
      refine vc_seq ?_
      refine vc_region ?_
      refine vl_val rfl (.some rfl) (by first | exact val_fieldAddr Tryd.runUnderlying25 rfl Tryd.sizeOf9 rfl | exact val_fieldAddrR Tryd.runUnderlying25 rfl Tryd.sizeOf9 rfl) ?_
      refine vl_val rfl (.some rfl) (val_load Tryd.isAgg9 rfl (by first | exact cell_cells (by repeat constructor) rfl | exact cell_rd (by first | exact rd_sl (by repeat constructor) | exact rd_old (by assumption) rfl) (by first | exact bcells_at (by omega) | exact ucells_at (by omega) | exact icells_at (by omega) | exact tcells_at (by omega) | exact bcells_get (by omega) | exact icells_get (by omega) | exact tcells_get (by omega) | exact ucells_get (by omega)) | exact cell_old (by assumption) (by simp [fps]))) ?_
      refine vl_val rfl (.some rfl) (val_seq rfl rfl) ?_
      refine vl_val rfl (.some rfl) (val_assign rfl) ?_
      refine vl_nil ?_
      refine vc_ret ?_
      refine ⟨_, [], _, res1 Tryd.results5 rfl, .nil, ?_⟩
      show _ = _; unfold goodV; rw [if_neg hc0, if_pos hc1]
    · (try replace hc1 := of_decide_eq_false hc1)
      refine vc_seq ?_
      refine vc_region ?_
      refine vl_val rfl (.some rfl) (asks 45 2 (.int .i64 0) (.int .i64 p.n) Tryd.runUnderlying45 rfl Tryd.zeroValue45 rfl (fun h => by unfold ofV; rw [h]; simp) (other _ _ (fun k hk => ⟨fun h => by first | decide | omega, fun h => by first | decide | omega, fun h => by first | decide | omega, fun h => by first | decide | omega, fun h => by first | decide | omega⟩))) ?_
      refine vl_val rfl (.some rfl) (val_extract rfl rfl) ?_
      refine vl_val rfl (.some rfl) (val_extract rfl rfl) ?_
      refine vl_nil ?_
      refine vc_cond rfl (fun hc2 => ?_) (fun hc2 => ?_)
      · (try replace hc2 := of_decide_eq_true hc2)
        refine vc_seq ?_
        refine vc_region ?_
        refine vl_val rfl (.some rfl) (val_assign rfl) ?_
        refine vl_nil ?_
        refine vc_seq ?_
        refine vc_region ?_
        refine vl_val rfl (.some rfl) (by first | exact val_fieldAddr Tryd.runUnderlying25 rfl Tryd.sizeOf9 rfl | exact val_fieldAddrR Tryd.runUnderlying25 rfl Tryd.sizeOf9 rfl) ?_
        refine vl_val rfl (.some rfl) (val_load Tryd.isAgg9 rfl (by first | exact cell_cells (by repeat constructor) rfl | exact cell_rd (by first | exact rd_sl (by repeat constructor) | exact rd_old (by assumption) rfl) (by first | exact bcells_at (by omega) | exact ucells_at (by omega) | exact icells_at (by omega) | exact tcells_at (by omega) | exact bcells_get (by omega) | exact icells_get (by omega) | exact tcells_get (by omega) | exact ucells_get (by omega)) | exact cell_old (by assumption) (by simp [fps]))) ?_
        refine vl_val rfl (.some rfl) (val_seq rfl rfl) ?_
        refine vl_val rfl (.some rfl) (val_move rfl) ?_
        refine vl_split (t := 28) rfl (fun hg28 => ?_) (fun hg28 => ?_)
        · (try replace hg28 := of_decide_eq_true hg28)
          refine vl_on rfl rfl rfl rfl ?_
          refine vl_val rfl (.some rfl) (by first | exact val_fieldAddr Tryd.runUnderlying25 rfl Tryd.sizeOf3 rfl | exact val_fieldAddrR Tryd.runUnderlying25 rfl Tryd.sizeOf3 rfl) ?_
          refine vl_on rfl rfl rfl rfl ?_
          refine vl_val rfl (.some rfl) (val_load Tryd.isAgg3 rfl (by first | exact cell_cells (by repeat constructor) rfl | exact cell_rd (by first | exact rd_sl (by repeat constructor) | exact rd_old (by assumption) rfl) (by first | exact bcells_at (by omega) | exact ucells_at (by omega) | exact icells_at (by omega) | exact tcells_at (by omega) | exact bcells_get (by omega) | exact icells_get (by omega) | exact tcells_get (by omega) | exact ucells_get (by omega)) | exact cell_old (by assumption) (by simp [fps]))) ?_
          refine vl_on rfl rfl rfl rfl ?_
          refine vl_callV rfl rfl (.some rfl) Tryd.call15 rfl (fun w hw => oGood _ w) ?_
          refine vl_val rfl (.some rfl) (val_pick rfl rfl) ?_
          refine vl_val rfl (.some rfl) (val_assign rfl) ?_
          refine vl_nil ?_
          refine vc_ret ?_
          refine ⟨_, [], _, res1 Tryd.results5 rfl, .nil, ?_⟩
          show _ = _; unfold goodV; rw [if_neg hc0, if_neg hc1, if_pos hc2]; first | (rw [decide_eq_true hg28]; rfl) | (rw [decide_eq_false hg28]; rfl)
        · (try replace hg28 := of_decide_eq_false hg28)
          refine vl_off rfl rfl rfl rfl (.some rfl) ?_
          refine vl_off rfl rfl rfl rfl (.some rfl) ?_
          refine vl_off rfl rfl rfl rfl (.some rfl) ?_
          refine vl_val rfl (.some rfl) (val_pick rfl rfl) ?_
          refine vl_val rfl (.some rfl) (val_assign rfl) ?_
          refine vl_nil ?_
          refine vc_ret ?_
          refine ⟨_, [], _, res1 Tryd.results5 rfl, .nil, ?_⟩
          show _ = _; unfold goodV; rw [if_neg hc0, if_neg hc1, if_pos hc2]; first | (rw [decide_eq_true hg28]; rfl) | (rw [decide_eq_false hg28]; rfl)
      · (try replace hc2 := of_decide_eq_false hc2)
        refine vc_seq ?_
        refine vc_region ?_
        refine vl_val rfl (.some rfl) (asks 47 3 (.string ⟨#[]⟩) (.string p.s) Tryd.runUnderlying47 rfl Tryd.zeroValue47 rfl (fun h => by unfold ofV; rw [h]; simp) (other _ _ (fun k hk => ⟨fun h => by first | decide | omega, fun h => by first | decide | omega, fun h => by first | decide | omega, fun h => by first | decide | omega, fun h => by first | decide | omega⟩))) ?_
        refine vl_val rfl (.some rfl) (val_extract rfl rfl) ?_
        refine vl_val rfl (.some rfl) (val_extract rfl rfl) ?_
        refine vl_nil ?_
        refine vc_cond rfl (fun hc3 => ?_) (fun hc3 => ?_)
        · (try replace hc3 := of_decide_eq_true hc3)
          rw [if_pos hc3]
          refine vc_seq ?_
          refine vc_region ?_
          refine vl_val rfl (.some rfl) (val_assign rfl) ?_
          refine vl_nil ?_
          refine vc_seq ?_
          refine vc_region ?_
          refine vl_val rfl (.some rfl) (by first | exact val_fieldAddr Tryd.runUnderlying25 rfl Tryd.sizeOf3 rfl | exact val_fieldAddrR Tryd.runUnderlying25 rfl Tryd.sizeOf3 rfl) ?_
          refine vl_val rfl (.some rfl) (val_load Tryd.isAgg3 rfl (by first | exact cell_cells (by repeat constructor) rfl | exact cell_rd (by first | exact rd_sl (by repeat constructor) | exact rd_old (by assumption) rfl) (by first | exact bcells_at (by omega) | exact ucells_at (by omega) | exact icells_at (by omega) | exact tcells_at (by omega) | exact bcells_get (by omega) | exact icells_get (by omega) | exact tcells_get (by omega) | exact ucells_get (by omega)) | exact cell_old (by assumption) (by simp [fps]))) ?_
          refine vl_val rfl (.some rfl) (val_eq rfl rfl) ?_
          refine vl_val rfl (.some rfl) (val_move rfl) ?_
          refine vl_split (t := 39) rfl (fun hg39 => ?_) (fun hg39 => ?_)
          · (try replace hg39 := of_decide_eq_true hg39)
            refine vl_on rfl rfl rfl rfl ?_
            refine vl_val rfl (.some rfl) (val_move rfl) ?_
            refine vl_on rfl rfl rfl rfl ?_
            refine vl_val rfl (.some rfl) (val_lenStr Tryd.runUnderlying47 rfl) ?_
            refine vl_on rfl rfl rfl rfl ?_
            refine vl_val rfl (.some rfl) (val_le rfl rfl) ?_
            refine vl_val rfl (.some rfl) (val_pick rfl rfl) ?_
            refine vl_val rfl (.some rfl) (val_assign rfl) ?_
            refine vl_nil ?_
            refine vc_ret ?_
            refine ⟨_, [], _, res1 Tryd.results5 rfl, .nil, ?_⟩
            show _ = _; unfold goodV; rw [if_neg hc0, if_neg hc1, if_neg hc2, if_pos hc3]; simp_all <;> omega
          · (try replace hg39 := of_decide_eq_false hg39)
            refine vl_off rfl rfl rfl rfl (.some rfl) ?_
            refine vl_off rfl rfl rfl rfl (.some rfl) ?_
            refine vl_off rfl rfl rfl rfl (.some rfl) ?_
            refine vl_val rfl (.some rfl) (val_pick rfl rfl) ?_
            refine vl_val rfl (.some rfl) (val_assign rfl) ?_
            refine vl_nil ?_
            refine vc_ret ?_
            refine ⟨_, [], _, res1 Tryd.results5 rfl, .nil, ?_⟩
            show _ = _; unfold goodV; rw [if_neg hc0, if_neg hc1, if_neg hc2, if_pos hc3]; simp_all <;> omega
        · (try replace hc3 := of_decide_eq_false hc3)
          refine vc_seq ?_
          refine vc_region ?_
          refine vl_val rfl (.some rfl) (asks 48 4 (.bool false) (.bool (decide (p.n ≠ 0))) Tryd.runUnderlying48 rfl Tryd.zeroValue48 rfl (fun h => by unfold ofV; rw [h]; simp) (other _ _ (fun k hk => ⟨fun h => by first | decide | omega, fun h => by first | decide | omega, fun h => by first | decide | omega, fun h => by first | decide | omega, fun h => by first | decide | omega⟩))) ?_
          refine vl_val rfl (.some rfl) (val_extract rfl rfl) ?_
          refine vl_val rfl (.some rfl) (val_extract rfl rfl) ?_
          refine vl_nil ?_
          refine vc_cond rfl (fun hc4 => ?_) (fun hc4 => ?_)
          · (try replace hc4 := of_decide_eq_true hc4)
            refine vc_seq ?_
            refine vc_region ?_
            refine vl_val rfl (.some rfl) (val_assign rfl) ?_
            refine vl_nil ?_
            refine vc_seq ?_
            refine vc_region ?_
            refine vl_val rfl (.some rfl) (by first | exact val_fieldAddr Tryd.runUnderlying25 rfl Tryd.sizeOf9 rfl | exact val_fieldAddrR Tryd.runUnderlying25 rfl Tryd.sizeOf9 rfl) ?_
            refine vl_val rfl (.some rfl) (val_load Tryd.isAgg9 rfl (by first | exact cell_cells (by repeat constructor) rfl | exact cell_rd (by first | exact rd_sl (by repeat constructor) | exact rd_old (by assumption) rfl) (by first | exact bcells_at (by omega) | exact ucells_at (by omega) | exact icells_at (by omega) | exact tcells_at (by omega) | exact bcells_get (by omega) | exact icells_get (by omega) | exact tcells_get (by omega) | exact ucells_get (by omega)) | exact cell_old (by assumption) (by simp [fps]))) ?_
            refine vl_val rfl (.some rfl) (val_seq rfl rfl) ?_
            refine vl_val rfl (.some rfl) (val_move rfl) ?_
            refine vl_split (t := 50) rfl (fun hg50 => ?_) (fun hg50 => ?_)
            · (try replace hg50 := of_decide_eq_true hg50)
              refine vl_on rfl rfl rfl rfl ?_
              refine vl_val rfl (.some rfl) (by first | exact val_fieldAddr Tryd.runUnderlying25 rfl Tryd.sizeOf3 rfl | exact val_fieldAddrR Tryd.runUnderlying25 rfl Tryd.sizeOf3 rfl) ?_
              refine vl_on rfl rfl rfl rfl ?_
              refine vl_val rfl (.some rfl) (val_load Tryd.isAgg3 rfl (by first | exact cell_cells (by repeat constructor) rfl | exact cell_rd (by first | exact rd_sl (by repeat constructor) | exact rd_old (by assumption) rfl) (by first | exact bcells_at (by omega) | exact ucells_at (by omega) | exact icells_at (by omega) | exact tcells_at (by omega) | exact bcells_get (by omega) | exact icells_get (by omega) | exact tcells_get (by omega) | exact ucells_get (by omega)) | exact cell_old (by assumption) (by simp [fps]))) ?_
              refine vl_on rfl rfl rfl rfl ?_
              refine vl_val rfl (.some rfl) (val_eq rfl rfl) ?_
              refine vl_on rfl rfl rfl rfl ?_
              refine vl_val rfl (.some rfl) (val_move rfl) ?_
              refine vl_split (t := 54) rfl (fun hg54 => ?_) (fun hg54 => ?_)
              · (try replace hg54 := of_decide_eq_true hg54)
                refine vl_off rfl rfl rfl rfl (.some rfl) ?_
                refine vl_off rfl rfl rfl rfl (.some rfl) ?_
                refine vl_off rfl rfl rfl rfl (.some rfl) ?_
                refine vl_on rfl rfl rfl rfl ?_
                refine vl_val rfl (.some rfl) (val_pick rfl rfl) ?_
                refine vl_val rfl (.some rfl) (val_pick rfl rfl) ?_
                refine vl_val rfl (.some rfl) (val_assign rfl) ?_
                refine vl_nil ?_
                refine vc_ret ?_
                refine ⟨_, [], _, res1 Tryd.results5 rfl, .nil, ?_⟩
                show _ = _; unfold goodV; rw [if_neg hc0, if_neg hc1, if_neg hc2, if_neg hc3, if_pos hc4]; simp_all
              · (try replace hg54 := of_decide_eq_false hg54)
                refine vl_on rfl rfl rfl rfl ?_
                refine vl_val rfl (.some rfl) (by first | exact val_fieldAddr Tryd.runUnderlying25 rfl Tryd.sizeOf3 rfl | exact val_fieldAddrR Tryd.runUnderlying25 rfl Tryd.sizeOf3 rfl) ?_
                refine vl_on rfl rfl rfl rfl ?_
                refine vl_val rfl (.some rfl) (val_load Tryd.isAgg3 rfl (by first | exact cell_cells (by repeat constructor) rfl | exact cell_rd (by first | exact rd_sl (by repeat constructor) | exact rd_old (by assumption) rfl) (by first | exact bcells_at (by omega) | exact ucells_at (by omega) | exact icells_at (by omega) | exact tcells_at (by omega) | exact bcells_get (by omega) | exact icells_get (by omega) | exact tcells_get (by omega) | exact ucells_get (by omega)) | exact cell_old (by assumption) (by simp [fps]))) ?_
                refine vl_on rfl rfl rfl rfl ?_
                refine vl_val rfl (.some rfl) (val_eq rfl rfl) ?_
                refine vl_on rfl rfl rfl rfl ?_
                refine vl_val rfl (.some rfl) (val_pick rfl rfl) ?_
                refine vl_val rfl (.some rfl) (val_pick rfl rfl) ?_
                refine vl_val rfl (.some rfl) (val_assign rfl) ?_
                refine vl_nil ?_
                refine vc_ret ?_
                refine ⟨_, [], _, res1 Tryd.results5 rfl, .nil, ?_⟩
                show _ = _; unfold goodV; rw [if_neg hc0, if_neg hc1, if_neg hc2, if_neg hc3, if_pos hc4]; simp_all
            · (try replace hg50 := of_decide_eq_false hg50)
              refine vl_off rfl rfl rfl rfl (.some rfl) ?_
              refine vl_off rfl rfl rfl rfl (.some rfl) ?_
              refine vl_off rfl rfl rfl rfl (.some rfl) ?_
              refine vl_off rfl rfl rfl rfl (.some rfl) ?_
              refine vl_offU rfl rfl rfl rfl (.some rfl) ?_
              refine vl_offU rfl rfl rfl rfl (.some rfl) ?_
              refine vl_offU rfl rfl rfl rfl (.some rfl) ?_
              refine vl_off rfl rfl rfl rfl (.some rfl) ?_
              refine vl_val rfl (.some rfl) (val_pick rfl rfl) ?_
              refine vl_val rfl (.some rfl) (val_assign rfl) ?_
              refine vl_nil ?_
              refine vc_ret ?_
              refine ⟨_, [], _, res1 Tryd.results5 rfl, .nil, ?_⟩
              show _ = _; unfold goodV; rw [if_neg hc0, if_neg hc1, if_neg hc2, if_neg hc3, if_pos hc4]; simp_all
          · (try replace hc4 := of_decide_eq_false hc4)
            refine vc_skip ?_
            refine vc_seq ?_
            refine vc_region ?_
            refine vl_val rfl (.some rfl) (val_assign rfl) ?_
            refine vl_nil ?_
            refine vc_ret ?_
            refine ⟨_, [], _, res1 Tryd.results5 rfl, .nil, ?_⟩
            show _ = _; unfold goodV; rw [if_neg hc0, if_neg hc1, if_neg hc2, if_neg hc3, if_neg hc4]




theorem wrap_mod (n : Nat) : IntKind.u64.wrap (n : Int) = ((n % 18446744073709551616 : Nat) : Int) := by
  rw [wu64_mod]; omega

set_option maxRecDepth 20000 in
theorem bMul64 (a b : Nat) (ha : a < 18446744073709551616) (hb : b < 18446744073709551616) (w : World) : FnV Tryd.prog 32 [.int .u64 a, .int .u64 b] (.tuple #[.int .u64 (a * b / 18446744073709551616 : Nat), .int .u64 (a * b % 18446744073709551616 : Nat)]) w := by
  have hh : _ := mul64_hi a b
  simp only at hh
  obtain ⟨x0, hx0⟩ : ∃ q, a % 4294967296 = q := ⟨_, rfl⟩
  obtain ⟨x1, hx1⟩ : ∃ q, a / 4294967296 = q := ⟨_, rfl⟩
  obtain ⟨y0, hy0⟩ : ∃ q, b % 4294967296 = q := ⟨_, rfl⟩
  obtain ⟨y1, hy1⟩ : ∃ q, b / 4294967296 = q := ⟨_, rfl⟩
  rw [hx0, hx1, hy0, hy1] at hh
  have b0 : x0 ≤ 4294967295 := by omega
  have b1 : x1 ≤ 4294967295 := by omega
  have b2 : y0 ≤ 4294967295 := by omega
  have b3 : y1 ≤ 4294967295 := by omega
  have m00 := Nat.mul_le_mul b0 b2
  have m10 := Nat.mul_le_mul b1 b2
  have m01 := Nat.mul_le_mul b0 b3
  have m11 := Nat.mul_le_mul b1 b3
  obtain ⟨p00, hp00⟩ : ∃ q, x0 * y0 = q := ⟨_, rfl⟩
  obtain ⟨p01, hp01⟩ : ∃ q, x0 * y1 = q := ⟨_, rfl⟩
  obtain ⟨p10, hp10⟩ : ∃ q, x1 * y0 = q := ⟨_, rfl⟩
  obtain ⟨p11, hp11⟩ : ∃ q, x1 * y1 = q := ⟨_, rfl⟩
  rw [hp00] at m00 hh
  rw [hp10] at m10 hh
  rw [hp01] at m01 hh
  rw [hp11] at m11 hh
  obtain ⟨t, ht⟩ : ∃ q, p10 + p00 / 4294967296 = q := ⟨_, rfl⟩
  rw [ht] at hh
  refine fn_enter Tryd.func32 rfl Tryd.ntmps32 rfl ?_
  refine vc_seq ?_
  refine vc_region ?_
  refine vl_val rfl (.some rfl) (val_assign rfl) ?_
  refine vl_val rfl (.some rfl) (val_assign rfl) ?_
  refine vl_nil ?_
  refine vc_seq ?_
  refine vc_region ?_
  refine vl_val rfl (.some rfl) (val_move rfl) ?_
  refine vl_val rfl (.some rfl) (val_and rfl rfl (show _ = ((x0 : Nat) : Int) by rw [and_mask 32 4294967296 rfl (by decide) (by decide) (by decide) (by omega) (by simp [IntKind.bits]; omega)]; omega)) ?_
  refine vl_val rfl (.some rfl) (val_assign rfl) ?_
  refine vl_nil ?_
  refine vc_seq ?_
  refine vc_region ?_
  refine vl_val rfl (.some rfl) (val_move rfl) ?_
  refine vl_val rfl (.some rfl) (val_shr rfl rfl (by decide) (show _ = ((x1 : Nat) : Int) by rw [shr_lit 4294967296 rfl (by decide)]; omega)) ?_
  refine vl_val rfl (.some rfl) (val_assign rfl) ?_
  refine vl_nil ?_
  refine vc_seq ?_
  refine vc_region ?_
  refine vl_val rfl (.some rfl) (val_move rfl) ?_
  refine vl_val rfl (.some rfl) (val_and rfl rfl (show _ = ((y0 : Nat) : Int) by rw [and_mask 32 4294967296 rfl (by decide) (by decide) (by decide) (by omega) (by simp [IntKind.bits]; omega)]; omega)) ?_
  refine vl_val rfl (.some rfl) (val_assign rfl) ?_
  refine vl_nil ?_
  refine vc_seq ?_
  refine vc_region ?_
  refine vl_val rfl (.some rfl) (val_move rfl) ?_
  refine vl_val rfl (.some rfl) (val_shr rfl rfl (by decide) (show _ = ((y1 : Nat) : Int) by rw [shr_lit 4294967296 rfl (by decide)]; omega)) ?_
  refine vl_val rfl (.some rfl) (val_assign rfl) ?_
  refine vl_nil ?_
  refine vc_seq ?_
  refine vc_region ?_
  refine vl_val rfl (.some rfl) (val_move rfl) ?_
  refine vl_val rfl (.some rfl) (val_move rfl) ?_
  refine vl_val rfl (.some rfl) (val_mul rfl rfl (show _ = ((p00 : Nat) : Int) by rw [← Int.natCast_mul, hp00]; exact w_u64 (by omega) (by omega))) ?_
  refine vl_val rfl (.some rfl) (val_assign rfl) ?_
  refine vl_nil ?_
  refine vc_seq ?_
  refine vc_region ?_
  refine vl_val rfl (.some rfl) (val_move rfl) ?_
  refine vl_val rfl (.some rfl) (val_move rfl) ?_
  refine vl_val rfl (.some rfl) (val_mul rfl rfl (show _ = ((p10 : Nat) : Int) by rw [← Int.natCast_mul, hp10]; exact w_u64 (by omega) (by omega))) ?_
  refine vl_val rfl (.some rfl) (val_move rfl) ?_
  refine vl_val rfl (.some rfl) (val_shr rfl rfl (by decide) (show _ = ((p00 / 4294967296 : Nat) : Int) by rw [shr_lit 4294967296 rfl (by decide)]; omega)) ?_
  refine vl_val rfl (.some rfl) (val_add rfl rfl (show _ = ((t : Nat) : Int) by rw [w_u64 (by omega) (by omega)]; omega)) ?_
  refine vl_val rfl (.some rfl) (val_assign rfl) ?_
  refine vl_nil ?_
  refine vc_seq ?_
  refine vc_region ?_
  refine vl_val rfl (.some rfl) (val_move rfl) ?_
  refine vl_val rfl (.some rfl) (val_and rfl rfl (show _ = ((t % 4294967296 : Nat) : Int) by rw [and_mask 32 4294967296 rfl (by decide) (by decide) (by decide) (by omega) (by simp [IntKind.bits]; omega)]; omega)) ?_
  refine vl_val rfl (.some rfl) (val_assign rfl) ?_
  refine vl_nil ?_
  refine vc_seq ?_
  refine vc_region ?_
  refine vl_val rfl (.some rfl) (val_move rfl) ?_
  refine vl_val rfl (.some rfl) (val_shr rfl rfl (by decide) (show _ = ((t / 4294967296 : Nat) : Int) by rw [shr_lit 4294967296 rfl (by decide)]; omega)) ?_
  refine vl_val rfl (.some rfl) (val_assign rfl) ?_
  refine vl_nil ?_
  refine vc_seq ?_
  refine vc_region ?_
  refine vl_val rfl (.some rfl) (val_move rfl) ?_
  refine vl_val rfl (.some rfl) (val_move rfl) ?_
  refine vl_val rfl (.some rfl) (val_move rfl) ?_
  refine vl_val rfl (.some rfl) (val_mul rfl rfl (show _ = ((p01 : Nat) : Int) by rw [← Int.natCast_mul, hp01]; exact w_u64 (by omega) (by omega))) ?_
  refine vl_val rfl (.some rfl) (val_add rfl rfl (show _ = ((t % 4294967296 + p01 : Nat) : Int) by rw [w_u64 (by omega) (by omega)]; omega)) ?_
  refine vl_val rfl (.some rfl) (val_assign rfl) ?_
  refine vl_nil ?_
  refine vc_seq ?_
  refine vc_region ?_
  refine vl_val rfl (.some rfl) (val_move rfl) ?_
  refine vl_val rfl (.some rfl) (val_move rfl) ?_
  refine vl_val rfl (.some rfl) (val_mul rfl rfl (show _ = ((p11 : Nat) : Int) by rw [← Int.natCast_mul, hp11]; exact w_u64 (by omega) (by omega))) ?_
  refine vl_val rfl (.some rfl) (val_move rfl) ?_
  refine vl_val rfl (.some rfl) (val_add rfl rfl (show _ = ((p11 + t / 4294967296 : Nat) : Int) by rw [w_u64 (by omega) (by omega)]; omega)) ?_
  refine vl_val rfl (.some rfl) (val_move rfl) ?_
  refine vl_val rfl (.some rfl) (val_shr rfl rfl (by decide) (show _ = (((t % 4294967296 + p01) / 4294967296 : Nat) : Int) by rw [shr_lit 4294967296 rfl (by decide)]; omega)) ?_
  refine vl_val rfl (.some rfl) (val_add rfl rfl (show _ = ((a * b / 18446744073709551616 : Nat) : Int) by rw [w_u64 (by omega) (by omega)]; omega)) ?_
  refine vl_val rfl (.some rfl) (val_assign rfl) ?_
  refine vl_nil ?_
  refine vc_seq ?_
  refine vc_region ?_
  refine vl_val rfl (.some rfl) (val_move rfl) ?_
  refine vl_val rfl (.some rfl) (val_move rfl) ?_
  refine vl_val rfl (.some rfl) (val_mul rfl rfl (show _ = ((a * b % 18446744073709551616 : Nat) : Int) by rw [← Int.natCast_mul, wrap_mod])) ?_
  refine vl_val rfl (.some rfl) (val_assign rfl) ?_
  refine vl_nil ?_
  refine vc_ret ?_
  refine ⟨_, [], _, res2 Tryd.results32 rfl rfl, .nil, ?_⟩
  rfl




set_option maxRecDepth 100000 in
theorem bLen64 (u : Nat) (hu : u < 18446744073709551616) (w : World) : FnV Tryd.prog 87 [.int .u64 u] (.int .i64 (lenN u : Nat)) w := by
  refine fn_enter Tryd.func87 rfl Tryd.ntmps87 rfl ?_
  refine vc_seq ?_
  refine vc_region ?_
  refine vl_val rfl (.some rfl) (val_assign rfl) ?_
  refine vl_nil ?_
  refine vc_seq ?_
  refine vc_seq ?_
  refine vc_region ?_
  refine vl_val rfl (.some rfl) (val_move rfl) ?_
  refine vl_val rfl (.some rfl) (val_ge rfl rfl) ?_
  refine vl_nil ?_
  refine vc_cond rfl (fun hc0 => ?_) (fun hc0 => ?_)
  · (try replace hc0 := of_decide_eq_true hc0)
    have e0 := lenN_shift (a := u) (c := 32) (by omega)
    refine vc_seq ?_
    refine vc_region ?_
    refine vl_val rfl (.some rfl) (val_move rfl) ?_
    refine vl_val rfl (.some rfl) (val_shr rfl rfl (by decide) (shrN (s := 32) (by decide))) ?_
    refine vl_val rfl (.some rfl) (val_assign rfl) ?_
    refine vl_nil ?_
    refine vc_region ?_
    refine vl_val rfl (.some rfl) (val_assign rfl) ?_
    refine vl_nil ?_
    refine vc_seq ?_
    refine vc_seq ?_
    refine vc_region ?_
    refine vl_val rfl (.some rfl) (val_move rfl) ?_
    refine vl_val rfl (.some rfl) (val_ge rfl rfl) ?_
    refine vl_nil ?_
    refine vc_cond rfl (fun hc1 => ?_) (fun hc1 => ?_)
    · (try replace hc1 := of_decide_eq_true hc1)
      first | have e1 := lenN_shift (a := u / 2 ^ 32) (c := 16) (by omega) | have e1 := lenN_shift (a := u) (c := 16) (by omega)
      refine vc_seq ?_
      refine vc_region ?_
      refine vl_val rfl (.some rfl) (val_move rfl) ?_
      refine vl_val rfl (.some rfl) (val_shr rfl rfl (by decide) (shrN (s := 16) (by decide))) ?_
      refine vl_val rfl (.some rfl) (val_assign rfl) ?_
      refine vl_nil ?_
      refine vc_region ?_
      refine vl_val rfl (.some rfl) (val_move rfl) ?_
      refine vl_val rfl (.some rfl) (val_add rfl rfl (by first | exact w_i64 (by omega) (by omega) | rfl)) ?_
      refine vl_val rfl (.some rfl) (val_assign rfl) ?_
      refine vl_nil ?_
      refine vc_seq ?_
      refine vc_seq ?_
      refine vc_region ?_
      refine vl_val rfl (.some rfl) (val_move rfl) ?_
      refine vl_val rfl (.some rfl) (val_ge rfl rfl) ?_
      refine vl_nil ?_
      refine vc_cond rfl (fun hc2 => ?_) (fun hc2 => ?_)
      · (try replace hc2 := of_decide_eq_true hc2)
        first | have e2 := lenN_shift (a := u / 2 ^ 32 / 2 ^ 16) (c := 8) (by omega) | have e2 := lenN_shift (a := u / 2 ^ 32) (c := 8) (by omega) | have e2 := lenN_shift (a := u / 2 ^ 16) (c := 8) (by omega) | have e2 := lenN_shift (a := u) (c := 8) (by omega)
        refine vc_seq ?_
        refine vc_region ?_
        refine vl_val rfl (.some rfl) (val_move rfl) ?_
        refine vl_val rfl (.some rfl) (val_shr rfl rfl (by decide) (shrN (s := 8) (by decide))) ?_
        refine vl_val rfl (.some rfl) (val_assign rfl) ?_
        refine vl_nil ?_
        refine vc_region ?_
        refine vl_val rfl (.some rfl) (val_move rfl) ?_
        refine vl_val rfl (.some rfl) (val_add rfl rfl (by first | exact w_i64 (by omega) (by omega) | rfl)) ?_
        refine vl_val rfl (.some rfl) (val_assign rfl) ?_
        refine vl_nil ?_
        refine vc_seq ?_
        refine vc_region ?_
        refine vl_val rfl (.some rfl) (val_move rfl) ?_
        refine vl_val rfl (.some rfl) (val_move rfl) ?_
        refine vl_val rfl (.some rfl) (val_convInt Tryd.runUnderlying49 Tryd.runUnderlying5 rfl (by first | exact w_u8 (by omega) (by omega) | rfl)) ?_
        refine vl_val rfl (.some rfl) (val_indexStr (s := lenTab) Tryd.runUnderlying9 (by kernel_rfl) rfl (by omega) (by show _ < ((256 : Nat) : Int); omega)) ?_
        refine vl_val rfl (.some rfl) (val_convInt Tryd.runUnderlying5 Tryd.runUnderlying3 rfl rfl) ?_
        refine vl_val rfl (.some rfl) (val_add rfl rfl rfl) ?_
        refine vl_val rfl (.some rfl) (val_assign rfl) ?_
        refine vl_nil ?_
        refine vc_ret ?_
        refine ⟨_, [], _, res1 Tryd.results87 rfl, .nil, ?_⟩
        show Value.int .i64 _ = Value.int .i64 _
        refine congrArg (Value.int .i64) ?_
        rw [len_end (by omega) (by omega) (by omega)]
        omega
      · (try replace hc2 := of_decide_eq_false hc2)
        refine vc_skip ?_
        refine vc_seq ?_
        refine vc_region ?_
        refine vl_val rfl (.some rfl) (val_move rfl) ?_
        refine vl_val rfl (.some rfl) (val_move rfl) ?_
        refine vl_val rfl (.some rfl) (val_convInt Tryd.runUnderlying49 Tryd.runUnderlying5 rfl (by first | exact w_u8 (by omega) (by omega) | rfl)) ?_
        refine vl_val rfl (.some rfl) (val_indexStr (s := lenTab) Tryd.runUnderlying9 (by kernel_rfl) rfl (by omega) (by show _ < ((256 : Nat) : Int); omega)) ?_
        refine vl_val rfl (.some rfl) (val_convInt Tryd.runUnderlying5 Tryd.runUnderlying3 rfl rfl) ?_
        refine vl_val rfl (.some rfl) (val_add rfl rfl rfl) ?_
        refine vl_val rfl (.some rfl) (val_assign rfl) ?_
        refine vl_nil ?_
        refine vc_ret ?_
        refine ⟨_, [], _, res1 Tryd.results87 rfl, .nil, ?_⟩
        show Value.int .i64 _ = Value.int .i64 _
        refine congrArg (Value.int .i64) ?_
        rw [len_end (by omega) (by omega) (by omega)]
        omega
    · (try replace hc1 := of_decide_eq_false hc1)
      refine vc_skip ?_
      refine vc_seq ?_
      refine vc_seq ?_
      refine vc_region ?_
      refine vl_val rfl (.some rfl) (val_move rfl) ?_
      refine vl_val rfl (.some rfl) (val_ge rfl rfl) ?_
      refine vl_nil ?_
      refine vc_cond rfl (fun hc2 => ?_) (fun hc2 => ?_)
      · (try replace hc2 := of_decide_eq_true hc2)
        first | have e2 := lenN_shift (a := u / 2 ^ 32 / 2 ^ 16) (c := 8) (by omega) | have e2 := lenN_shift (a := u / 2 ^ 32) (c := 8) (by omega) | have e2 := lenN_shift (a := u / 2 ^ 16) (c := 8) (by omega) | have e2 := lenN_shift (a := u) (c := 8) (by omega)
        refine vc_seq ?_
        refine vc_region ?_
        refine vl_val rfl (.some rfl) (val_move rfl) ?_
        refine vl_val rfl (.some rfl) (val_shr rfl rfl (by decide) (shrN (s := 8) (by decide))) ?_
        refine vl_val rfl (.some rfl) (val_assign rfl) ?_
        refine vl_nil ?_
        refine vc_region ?_
        refine vl_val rfl (.some rfl) (val_move rfl) ?_
        refine vl_val rfl (.some rfl) (val_add rfl rfl (by first | exact w_i64 (by omega) (by omega) | rfl)) ?_
        refine vl_val rfl (.some rfl) (val_assign rfl) ?_
        refine vl_nil ?_
        refine vc_seq ?_
        refine vc_region ?_
        refine vl_val rfl (.some rfl) (val_move rfl) ?_
        refine vl_val rfl (.some rfl) (val_move rfl) ?_
        refine vl_val rfl (.some rfl) (val_convInt Tryd.runUnderlying49 Tryd.runUnderlying5 rfl (by first | exact w_u8 (by omega) (by omega) | rfl)) ?_
        refine vl_val rfl (.some rfl) (val_indexStr (s := lenTab) Tryd.runUnderlying9 (by kernel_rfl) rfl (by omega) (by show _ < ((256 : Nat) : Int); omega)) ?_
        refine vl_val rfl (.some rfl) (val_convInt Tryd.runUnderlying5 Tryd.runUnderlying3 rfl rfl) ?_
        refine vl_val rfl (.some rfl) (val_add rfl rfl rfl) ?_
        refine vl_val rfl (.some rfl) (val_assign rfl) ?_
        refine vl_nil ?_
        refine vc_ret ?_
        refine ⟨_, [], _, res1 Tryd.results87 rfl, .nil, ?_⟩
        show Value.int .i64 _ = Value.int .i64 _
        refine congrArg (Value.int .i64) ?_
        rw [len_end (by omega) (by omega) (by omega)]
        omega
      · (try replace hc2 := of_decide_eq_false hc2)
        refine vc_skip ?_
        refine vc_seq ?_
        refine vc_region ?_
        refine vl_val rfl (.some rfl) (val_move rfl) ?_
        refine vl_val rfl (.some rfl) (val_move rfl) ?_
        refine vl_val rfl (.some rfl) (val_convInt Tryd.runUnderlying49 Tryd.runUnderlying5 rfl (by first | exact w_u8 (by omega) (by omega) | rfl)) ?_
        refine vl_val rfl (.some rfl) (val_indexStr (s := lenTab) Tryd.runUnderlying9 (by kernel_rfl) rfl (by omega) (by show _ < ((256 : Nat) : Int); omega)) ?_
        refine vl_val rfl (.some rfl) (val_convInt Tryd.runUnderlying5 Tryd.runUnderlying3 rfl rfl) ?_
        refine vl_val rfl (.some rfl) (val_add rfl rfl rfl) ?_
        refine vl_val rfl (.some rfl) (val_assign rfl) ?_
        refine vl_nil ?_
        refine vc_ret ?_
        refine ⟨_, [], _, res1 Tryd.results87 rfl, .nil, ?_⟩
        show Value.int .i64 _ = Value.int .i64 _
        refine congrArg (Value.int .i64) ?_
        rw [len_end (by omega) (by omega) (by omega)]
        omega
  · (try replace hc0 := of_decide_eq_false hc0)
    refine vc_skip ?_
    refine vc_seq ?_
    refine vc_seq ?_
    refine vc_region ?_
    refine vl_val rfl (.some rfl) (val_move rfl) ?_
    refine vl_val rfl (.some rfl) (val_ge rfl rfl) ?_
    refine vl_nil ?_
    refine vc_cond rfl (fun hc1 => ?_) (fun hc1 => ?_)
    · (try replace hc1 := of_decide_eq_true hc1)
      first | have e1 := lenN_shift (a := u / 2 ^ 32) (c := 16) (by omega) | have e1 := lenN_shift (a := u) (c := 16) (by omega)
      refine vc_seq ?_
      refine vc_region ?_
      refine vl_val rfl (.some rfl) (val_move rfl) ?_
      refine vl_val rfl (.some rfl) (val_shr rfl rfl (by decide) (shrN (s := 16) (by decide))) ?_
      refine vl_val rfl (.some rfl) (val_assign rfl) ?_
      refine vl_nil ?_
      refine vc_region ?_
      refine vl_val rfl (.some rfl) (val_move rfl) ?_
      refine vl_val rfl (.some rfl) (val_add rfl rfl (by first | exact w_i64 (by omega) (by omega) | rfl)) ?_
      refine vl_val rfl (.some rfl) (val_assign rfl) ?_
      refine vl_nil ?_
      refine vc_seq ?_
      refine vc_seq ?_
      refine vc_region ?_
      refine vl_val rfl (.some rfl) (val_move rfl) ?_
      refine vl_val rfl (.some rfl) (val_ge rfl rfl) ?_
      refine vl_nil ?_
      refine vc_cond rfl (fun hc2 => ?_) (fun hc2 => ?_)
      · (try replace hc2 := of_decide_eq_true hc2)
        first | have e2 := lenN_shift (a := u / 2 ^ 32 / 2 ^ 16) (c := 8) (by omega) | have e2 := lenN_shift (a := u / 2 ^ 32) (c := 8) (by omega) | have e2 := lenN_shift (a := u / 2 ^ 16) (c := 8) (by omega) | have e2 := lenN_shift (a := u) (c := 8) (by omega)
        refine vc_seq ?_
        refine vc_region ?_
        refine vl_val rfl (.some rfl) (val_move rfl) ?_
        refine vl_val rfl (.some rfl) (val_shr rfl rfl (by decide) (shrN (s := 8) (by decide))) ?_
        refine vl_val rfl (.some rfl) (val_assign rfl) ?_
        refine vl_nil ?_
        refine vc_region ?_
        refine vl_val rfl (.some rfl) (val_move rfl) ?_
        refine vl_val rfl (.some rfl) (val_add rfl rfl (by first | exact w_i64 (by omega) (by omega) | rfl)) ?_
        refine vl_val rfl (.some rfl) (val_assign rfl) ?_
        refine vl_nil ?_
        refine vc_seq ?_
        refine vc_region ?_
        refine vl_val rfl (.some rfl) (val_move rfl) ?_
        refine vl_val rfl (.some rfl) (val_move rfl) ?_
        refine vl_val rfl (.some rfl) (val_convInt Tryd.runUnderlying49 Tryd.runUnderlying5 rfl (by first | exact w_u8 (by omega) (by omega) | rfl)) ?_
        refine vl_val rfl (.some rfl) (val_indexStr (s := lenTab) Tryd.runUnderlying9 (by kernel_rfl) rfl (by omega) (by show _ < ((256 : Nat) : Int); omega)) ?_
        refine vl_val rfl (.some rfl) (val_convInt Tryd.runUnderlying5 Tryd.runUnderlying3 rfl rfl) ?_
        refine vl_val rfl (.some rfl) (val_add rfl rfl rfl) ?_
        refine vl_val rfl (.some rfl) (val_assign rfl) ?_
        refine vl_nil ?_
        refine vc_ret ?_
        refine ⟨_, [], _, res1 Tryd.results87 rfl, .nil, ?_⟩
        show Value.int .i64 _ = Value.int .i64 _
        refine congrArg (Value.int .i64) ?_
        rw [len_end (by omega) (by omega) (by omega)]
        omega
      · (try replace hc2 := of_decide_eq_false hc2)
        refine vc_skip ?_
        refine vc_seq ?_
        refine vc_region ?_
        refine vl_val rfl (.some rfl) (val_move rfl) ?_
        refine vl_val rfl (.some rfl) (val_move rfl) ?_
        refine vl_val rfl (.some rfl) (val_convInt Tryd.runUnderlying49 Tryd.runUnderlying5 rfl (by first | exact w_u8 (by omega) (by omega) | rfl)) ?_
        refine vl_val rfl (.some rfl) (val_indexStr (s := lenTab) Tryd.runUnderlying9 (by kernel_rfl) rfl (by omega) (by show _ < ((256 : Nat) : Int); omega)) ?_
        refine vl_val rfl (.some rfl) (val_convInt Tryd.runUnderlying5 Tryd.runUnderlying3 rfl rfl) ?_
        refine vl_val rfl (.some rfl) (val_add rfl rfl rfl) ?_
        refine vl_val rfl (.some rfl) (val_assign rfl) ?_
        refine vl_nil ?_
        refine vc_ret ?_
        refine ⟨_, [], _, res1 Tryd.results87 rfl, .nil, ?_⟩
        show Value.int .i64 _ = Value.int .i64 _
        refine congrArg (Value.int .i64) ?_
        rw [len_end (by omega) (by omega) (by omega)]
        omega
    · (try replace hc1 := of_decide_eq_false hc1)
      refine vc_skip ?_
      refine vc_seq ?_
      refine vc_seq ?_
      refine vc_region ?_
      refine vl_val rfl (.some rfl) (val_move rfl) ?_
      refine vl_val rfl (.some rfl) (val_ge rfl rfl) ?_
      refine vl_nil ?_
      refine vc_cond rfl (fun hc2 => ?_) (fun hc2 => ?_)
      · (try replace hc2 := of_decide_eq_true hc2)
        first | have e2 := lenN_shift (a := u / 2 ^ 32 / 2 ^ 16) (c := 8) (by omega) | have e2 := lenN_shift (a := u / 2 ^ 32) (c := 8) (by omega) | have e2 := lenN_shift (a := u / 2 ^ 16) (c := 8) (by omega) | have e2 := lenN_shift (a := u) (c := 8) (by omega)
        refine vc_seq ?_
        refine vc_region ?_
        refine vl_val rfl (.some rfl) (val_move rfl) ?_
        refine vl_val rfl (.some rfl) (val_shr rfl rfl (by decide) (shrN (s := 8) (by decide))) ?_
        refine vl_val rfl (.some rfl) (val_assign rfl) ?_
        refine vl_nil ?_
        refine vc_region ?_
        refine vl_val rfl (.some rfl) (val_move rfl) ?_
        refine vl_val rfl (.some rfl) (val_add rfl rfl (by first | exact w_i64 (by omega) (by omega) | rfl)) ?_
        refine vl_val rfl (.some rfl) (val_assign rfl) ?_
        refine vl_nil ?_
        refine vc_seq ?_
        refine vc_region ?_
        refine vl_val rfl (.some rfl) (val_move rfl) ?_
        refine vl_val rfl (.some rfl) (val_move rfl) ?_
        refine vl_val rfl (.some rfl) (val_convInt Tryd.runUnderlying49 Tryd.runUnderlying5 rfl (by first | exact w_u8 (by omega) (by omega) | rfl)) ?_
        refine vl_val rfl (.some rfl) (val_indexStr (s := lenTab) Tryd.runUnderlying9 (by kernel_rfl) rfl (by omega) (by show _ < ((256 : Nat) : Int); omega)) ?_
        refine vl_val rfl (.some rfl) (val_convInt Tryd.runUnderlying5 Tryd.runUnderlying3 rfl rfl) ?_
        refine vl_val rfl (.some rfl) (val_add rfl rfl rfl) ?_
        refine vl_val rfl (.some rfl) (val_assign rfl) ?_
        refine vl_nil ?_
        refine vc_ret ?_
        refine ⟨_, [], _, res1 Tryd.results87 rfl, .nil, ?_⟩
        show Value.int .i64 _ = Value.int .i64 _
        refine congrArg (Value.int .i64) ?_
        rw [len_end (by omega) (by omega) (by omega)]
        omega
      · (try replace hc2 := of_decide_eq_false hc2)
        refine vc_skip ?_
        refine vc_seq ?_
        refine vc_region ?_
        refine vl_val rfl (.some rfl) (val_move rfl) ?_
        refine vl_val rfl (.some rfl) (val_move rfl) ?_
        refine vl_val rfl (.some rfl) (val_convInt Tryd.runUnderlying49 Tryd.runUnderlying5 rfl (by first | exact w_u8 (by omega) (by omega) | rfl)) ?_
        refine vl_val rfl (.some rfl) (val_indexStr (s := lenTab) Tryd.runUnderlying9 (by kernel_rfl) rfl (by omega) (by show _ < ((256 : Nat) : Int); omega)) ?_
        refine vl_val rfl (.some rfl) (val_convInt Tryd.runUnderlying5 Tryd.runUnderlying3 rfl rfl) ?_
        refine vl_val rfl (.some rfl) (val_add rfl rfl rfl) ?_
        refine vl_val rfl (.some rfl) (val_assign rfl) ?_
        refine vl_nil ?_
        refine vc_ret ?_
        refine ⟨_, [], _, res1 Tryd.results87 rfl, .nil, ?_⟩
        show Value.int .i64 _ = Value.int .i64 _
        refine congrArg (Value.int .i64) ?_
        rw [len_end (by omega) (by omega) (by omega)]
        omega
set_option maxRecDepth 20000 in
theorem bLead64 (u : Nat) (hu : u < 18446744073709551616) (w : World) : FnV Tryd.prog 83 [.int .u64 u] (.int .i64 (64 - lenN u : Nat)) w := by
  have hl := lenN_le (a := u) (n := 64) hu
  refine fn_enter Tryd.func83 rfl Tryd.ntmps83 rfl ?_
  refine vc_seq ?_
  refine vc_region ?_
  refine vl_val rfl (.some rfl) (val_assign rfl) ?_
  refine vl_nil ?_
  refine vc_seq ?_
  refine vc_region ?_
  refine vl_val rfl (.some rfl) (val_move rfl) ?_
  refine vl_callV rfl rfl (.some rfl) Tryd.call87 rfl (fun w hw => bLen64 _ (by omega) w) ?_
  refine vl_val rfl (.some rfl) (val_sub rfl rfl (by first | exact w_i64 (by omega) (by omega) | rfl)) ?_
  refine vl_val rfl (.some rfl) (val_assign rfl) ?_
  refine vl_nil ?_
  refine vc_ret ?_
  refine ⟨_, [], _, res1 Tryd.results83 rfl, .nil, ?_⟩
  show Value.int .i64 _ = Value.int .i64 _
  refine congrArg (Value.int .i64) ?_
  omega
set_option maxRecDepth 20000 in
set_option maxHeartbeats 1000000 in
theorem bDiv64 (hi lo c : Nat) (hlt : hi < c) (hlo : lo < 18446744073709551616) (hc : c < 18446744073709551616) (w : World) : FnV Tryd.prog 73 [.int .u64 hi, .int .u64 lo, .int .u64 c] (.tuple #[.int .u64 ((hi * 18446744073709551616 + lo) / c : Nat), .int .u64 ((hi * 18446744073709551616 + lo) % c : Nat)]) w := by
  obtain ⟨s, hs⟩ : ∃ s, 64 - lenN c = s := ⟨_, rfl⟩
  obtain ⟨hs63, hn1', hn2'⟩ := norm64 (show 0 < c by omega) hc
  rw [hs] at hs63 hn1' hn2'
  obtain ⟨y1, y0, U, n1, n0, a, b, hY, ha, hb, hab, hL, hy1, hy1', hy0, hU, hn1, hn0, hbs, hdiv, hmod⟩ := div_parts hlt hlo hn1' hn2' hs63
  refine fn_enter Tryd.func73 rfl Tryd.ntmps73 rfl ?_
  refine vc_seq ?_
  refine vc_region ?_
  refine vl_val rfl (.some rfl) (val_assign rfl) ?_
  refine vl_val rfl (.some rfl) (val_assign rfl) ?_
  refine vl_nil ?_
  refine vc_seq ?_
  refine vc_seq ?_
  refine vc_region ?_
  refine vl_val rfl (.some rfl) (val_move rfl) ?_
  refine vl_val rfl (.some rfl) (val_eq rfl rfl) ?_
  refine vl_nil ?_
  refine vc_cond rfl (fun hc0 => False.elim (by (try replace hc0 := of_decide_eq_true hc0); omega)) (fun hc0 => ?_)
  (try replace hc0 := of_decide_eq_false hc0)
  refine vc_skip ?_
  refine vc_seq ?_
  refine vc_seq ?_
  refine vc_region ?_
  refine vl_val rfl (.some rfl) (val_move rfl) ?_
  refine vl_val rfl (.some rfl) (val_move rfl) ?_
  refine vl_val rfl (.some rfl) (val_le rfl rfl) ?_
  refine vl_nil ?_
  refine vc_cond rfl (fun hc1 => False.elim (by (try replace hc1 := of_decide_eq_true hc1); omega)) (fun hc1 => ?_)
  (try replace hc1 := of_decide_eq_false hc1)
  refine vc_skip ?_
  refine vc_seq ?_
  refine vc_seq ?_
  refine vc_region ?_
  refine vl_val rfl (.some rfl) (val_move rfl) ?_
  refine vl_val rfl (.some rfl) (val_eq rfl rfl) ?_
  refine vl_nil ?_
  refine vc_cond rfl (fun hc2 => ?_) (fun hc2 => ?_)
  · (try replace hc2 := of_decide_eq_true hc2)
    obtain rfl : hi = 0 := by omega
    refine vc_seq ?_
    refine vc_draws [0, 1, 2, 3, 4, 5, 6, 7] [] [0, 1, 2, 3, 4, 5, 6, 7] rfl (by kernel_rfl) (fun _ _ _ h => h) ?_
    refine vd_val rfl rfl rfl (.some rfl) (val_move rfl) ?_
    refine vd_val rfl rfl rfl (.some rfl) (val_move rfl) ?_
    refine vd_val rfl rfl rfl (.some rfl) (val_quo rfl rfl (by omega) (quoN hlo)) ?_
    refine vd_val rfl rfl rfl (.some rfl) (val_move rfl) ?_
    refine vd_val rfl rfl rfl (.some rfl) (val_move rfl) ?_
    refine vd_val rfl rfl rfl (.some rfl) (val_rem rfl rfl (by omega) (remN lo c)) ?_
    refine vd_val rfl rfl rfl (.some rfl) (val_assign rfl) ?_
    refine vd_val rfl rfl rfl (.some rfl) (val_assign rfl) ?_
    refine vd_nil ?_
    refine vc_ret ?_
    refine ⟨_, [], _, res2 Tryd.results73 rfl rfl, .nil, ?_⟩
    show Value.tuple _ = Value.tuple _
    rw [Nat.zero_mul, Nat.zero_add]
  · (try replace hc2 := of_decide_eq_false hc2)
    refine vc_skip ?_
    refine vc_seq ?_
    refine vc_region ?_
    refine vl_val rfl (.some rfl) (val_move rfl) ?_
    refine vl_callV rfl rfl (.some rfl) Tryd.call83 rfl (fun w hw => bLead64 c hc w) ?_
    rw [hs]
    refine vl_val rfl (.some rfl) (val_convInt Tryd.runUnderlying3 Tryd.runUnderlying76 rfl (wN (n := s) (by omega))) ?_
    refine vl_val rfl (.some rfl) (val_assign rfl) ?_
    refine vl_nil ?_
    refine vc_seq ?_
    refine vc_region ?_
    refine vl_val rfl (.some rfl) (val_move rfl) ?_
    refine vl_val rfl (.some rfl) (val_move rfl) ?_
    refine vl_val rfl (.some rfl) (val_shl rfl rfl (by omega) ((shlW (a := c) (s := s) (by omega)).trans (by rw [Nat.mod_eq_of_lt hn2', hY]))) ?_
    refine vl_val rfl (.some rfl) (val_assign rfl) ?_
    refine vl_nil ?_
    refine vc_seq ?_
    refine vc_region ?_
    refine vl_val rfl (.some rfl) (val_move rfl) ?_
    refine vl_val rfl (.some rfl) (val_shr rfl rfl (by decide) (show _ = ((y1 : Nat) : Int) by rw [shr_lit 4294967296 rfl (by decide)]; omega)) ?_
    refine vl_val rfl (.some rfl) (val_assign rfl) ?_
    refine vl_nil ?_
    refine vc_seq ?_
    refine vc_region ?_
    refine vl_val rfl (.some rfl) (val_move rfl) ?_
    refine vl_val rfl (.some rfl) (val_and rfl rfl (show _ = ((y0 : Nat) : Int) by rw [and_mask 32 4294967296 rfl (by decide) (by decide) (by decide) (by omega) (by simp [IntKind.bits]; omega)]; omega)) ?_
    refine vl_val rfl (.some rfl) (val_assign rfl) ?_
    refine vl_nil ?_
    refine vc_seq ?_
    refine vc_region ?_
    refine vl_val rfl (.some rfl) (val_move rfl) ?_
    refine vl_val rfl (.some rfl) (val_move rfl) ?_
    refine vl_val rfl (.some rfl) (val_shl rfl rfl (by omega) ((shlW (a := hi) (s := s) (by omega)).trans (show _ = ((a : Nat) : Int) by rw [ha, Nat.mod_eq_of_lt (by omega)]))) ?_
    refine vl_val rfl (.some rfl) (val_move rfl) ?_
    refine vl_val rfl (.some rfl) (val_move rfl) ?_
    refine vl_val rfl (.some rfl) (val_sub rfl rfl (w_u64 (by omega) (by omega))) ?_
    refine vl_val rfl (.some rfl) (val_shr rfl rfl (by omega) ((shrUp (lo := lo) hs63).trans (show _ = ((b : Nat) : Int) by rw [hb]))) ?_
    refine vl_val rfl (.some rfl) (val_or rfl rfl (show _ = ((U : Nat) : Int) by have h := or_apart (k := .u64) rfl (a := b) (y := hi) (s := s) hbs (by show _ < 2 ^ 64; omega); rw [ha] at h; rw [← hab, Nat.add_comm a b, ← h, BitVec.or_comm])) ?_
    refine vl_val rfl (.some rfl) (val_assign rfl) ?_
    refine vl_nil ?_
    refine vc_seq ?_
    refine vc_region ?_
    refine vl_val rfl (.some rfl) (val_move rfl) ?_
    refine vl_val rfl (.some rfl) (val_move rfl) ?_
    refine vl_val rfl (.some rfl) (val_shl rfl rfl (by omega) ((shlW (a := lo) (s := s) (by omega)).trans (show _ = ((n1 * 4294967296 + n0 : Nat) : Int) by rw [hL]))) ?_
    refine vl_val rfl (.some rfl) (val_assign rfl) ?_
    refine vl_nil ?_
    refine vc_seq ?_
    refine vc_region ?_
    refine vl_val rfl (.some rfl) (val_move rfl) ?_
    refine vl_val rfl (.some rfl) (val_shr rfl rfl (by decide) (show _ = ((n1 : Nat) : Int) by rw [shr_lit 4294967296 rfl (by decide)]; omega)) ?_
    refine vl_val rfl (.some rfl) (val_assign rfl) ?_
    refine vl_nil ?_
    refine vc_seq ?_
    refine vc_region ?_
    refine vl_val rfl (.some rfl) (val_move rfl) ?_
    refine vl_val rfl (.some rfl) (val_and rfl rfl (show _ = ((n0 : Nat) : Int) by rw [and_mask 32 4294967296 rfl (by decide) (by decide) (by decide) (by omega) (by simp [IntKind.bits]; omega)]; omega)) ?_
    refine vl_val rfl (.some rfl) (val_assign rfl) ?_
    refine vl_nil ?_
    refine vc_seq ?_
    refine vc_region ?_
    refine vl_val rfl (.some rfl) (val_move rfl) ?_
    refine vl_val rfl (.some rfl) (val_move rfl) ?_
    refine vl_val rfl (.some rfl) (val_quo rfl rfl (by omega) (quoN (a := U) (b := y1) (by omega))) ?_
    refine vl_val rfl (.some rfl) (val_assign rfl) ?_
    refine vl_nil ?_
    refine vc_seq ?_
    refine vc_region ?_
    refine vl_val rfl (.some rfl) (val_move rfl) ?_
    refine vl_val rfl (.some rfl) (val_move rfl) ?_
    refine vl_val rfl (.some rfl) (val_move rfl) ?_
    refine vl_val rfl (.some rfl) (val_mul rfl rfl (mulN (a := U / y1) (b := y1) (by have := Nat.div_mul_le_self U y1; omega))) ?_
    refine vl_val rfl (.some rfl) (val_sub rfl rfl ((subN (a := U) (b := U / y1 * y1) (Nat.div_mul_le_self U y1) (by omega)).trans (show _ = ((U % y1 : Nat) : Int) by have := Nat.div_add_mod U y1; rw [Nat.mul_comm] at this; congr 1; omega))) ?_
    refine vl_val rfl (.some rfl) (val_assign rfl) ?_
    refine vl_nil ?_
    refine vc_cut (fun E H => ∃ E0 H0 F, Env.le E0 E ∧ Sub H0 H F ∧ (fun E H => ∃ qa : Nat, qa = (U * 4294967296 + n1) / (y1 * 4294967296 + y0) ∧ E = [(2, .int .u64 (y1 * 4294967296 + y0 : Nat)), (8, .int .u64 (s : Nat)), (9, .int .u64 (y1 : Nat)), (10, .int .u64 (y0 : Nat)), (11, .int .u64 (U : Nat)), (13, .int .u64 (n1 : Nat)), (14, .int .u64 (n0 : Nat)), (15, .int .u64 (qa : Nat))] ∧ H = []) E0 H0) ?_ (fun E H h => ?_)
    ·
      refine vc_block ?_
      refine vc_loopw (fun k E H => ∃ q1 rh : Nat, Guess y1 y0 U n1 q1 rh ∧ rh < 4294967296 ∧ q1 = k ∧ E = [(2, .int .u64 (y1 * 4294967296 + y0 : Nat)), (8, .int .u64 (s : Nat)), (9, .int .u64 (y1 : Nat)), (10, .int .u64 (y0 : Nat)), (11, .int .u64 (U : Nat)), (13, .int .u64 (n1 : Nat)), (14, .int .u64 (n0 : Nat)), (15, .int .u64 (q1 : Nat)), (16, .int .u64 (rh : Nat))] ∧ H = []) (U / y1) ⟨_, _, _, ⟨U / y1, U % y1, guess_first hy1 hy0 hU hn1, by have := Nat.mod_lt U (show 0 < y1 by omega); omega, rfl, rfl, rfl⟩, (by repeat (first | exact trivial | refine ⟨rfl, ?_⟩ | refine ⟨le_item rfl (by first | rfl | (congr 1; omega) | (simp; done) | (simp; omega)), ?_⟩)), (by repeat constructor)⟩ ?_
      intro k E H hI
      obtain ⟨q1, rh, hg, hrh, rfl, rfl, rfl⟩ := hI
      refine vc_seq ?_
      refine vc_seq ?_
      refine vc_region ?_
      refine vl_val rfl (.some rfl) (val_move rfl) ?_
      refine vl_val rfl (.some rfl) (val_ge rfl rfl) ?_
      refine vl_val rfl (.some rfl) (val_move rfl) ?_
      refine vl_split (t := 69) rfl (fun hg69 => ?_) (fun hg69 => ?_)
      · (try replace hg69 := of_decide_eq_true hg69)
        have hyes : 4294967296 ≤ q1 ∨ rh * 4294967296 + n1 < q1 * y0 := .inl (by omega)
        obtain ⟨hq0, hg'⟩ := guess_down hy1 hU hn1 hg hyes
        have hqb := hg.2.2
        refine vl_off rfl rfl rfl rfl (.some rfl) ?_
        refine vl_off rfl rfl rfl rfl (.some rfl) ?_
        refine vl_off rfl rfl rfl rfl (.some rfl) ?_
        refine vl_off rfl rfl rfl rfl (.some rfl) ?_
        refine vl_off rfl rfl rfl rfl (.some rfl) ?_
        refine vl_off rfl rfl rfl rfl (.some rfl) ?_
        refine vl_off rfl rfl rfl rfl (.some rfl) ?_
        refine vl_off rfl rfl rfl rfl (.some rfl) ?_
        refine vl_val rfl (.some rfl) (val_pick rfl rfl) ?_
        refine vl_nil ?_
        refine vc_cond rfl (fun _ => ?_) (fun h => by cases h)
        refine vc_skip ?_
        refine vc_block ?_
        refine vc_seq ?_
        refine vc_region ?_
        refine vl_val rfl (.some rfl) (val_move rfl) ?_
        refine vl_val rfl (.some rfl) (val_sub rfl rfl (subN (a := q1) (b := 1) (by omega) (by omega))) ?_
        refine vl_val rfl (.some rfl) (val_assign rfl) ?_
        refine vl_nil ?_
        refine vc_seq ?_
        refine vc_region ?_
        refine vl_val rfl (.some rfl) (val_move rfl) ?_
        refine vl_val rfl (.some rfl) (val_move rfl) ?_
        refine vl_val rfl (.some rfl) (val_add rfl rfl (addN (a := rh) (b := y1) (by omega))) ?_
        refine vl_val rfl (.some rfl) (val_assign rfl) ?_
        refine vl_nil ?_
        refine vc_seq ?_
        refine vc_region ?_
        refine vl_val rfl (.some rfl) (val_move rfl) ?_
        refine vl_val rfl (.some rfl) (val_ge rfl rfl) ?_
        refine vl_nil ?_
        refine vc_cond rfl (fun hc4 => ?_) (fun hc4 => ?_)
        · (try replace hc4 := of_decide_eq_true hc4)
          refine vc_exit ?_
          exact ⟨_, _, _, (by repeat (first | exact trivial | refine ⟨rfl, ?_⟩ | refine ⟨le_item rfl (by first | rfl | (congr 1; omega) | (simp; done) | (simp; omega)), ?_⟩)), (by repeat constructor), ⟨_, (by first | exact guess_rest hy1 hy0 hg' (by omega) (by omega) | exact guess_done (by omega) hg (by omega)), rfl, rfl⟩⟩
        · (try replace hc4 := of_decide_eq_false hc4)
          refine vc_skip ?_
          exact ⟨q1 - 1, _, _, _, by omega, (by repeat (first | exact trivial | refine ⟨rfl, ?_⟩ | refine ⟨le_item rfl (by first | rfl | (congr 1; omega) | (simp; done) | (simp; omega)), ?_⟩)), (by repeat constructor), ⟨q1 - 1, rh + y1, hg', by omega, rfl, rfl, rfl⟩⟩
      · (try replace hg69 := of_decide_eq_false hg69)
        refine vl_on rfl rfl rfl rfl ?_
        refine vl_val rfl (.some rfl) (val_move rfl) ?_
        refine vl_on rfl rfl rfl rfl ?_
        refine vl_val rfl (.some rfl) (val_move rfl) ?_
        refine vl_on rfl rfl rfl rfl ?_
        refine vl_val rfl (.some rfl) (val_mul rfl rfl (mulN (a := q1) (b := y0) (by have := Nat.mul_le_mul (show q1 ≤ 4294967295 by omega) (show y0 ≤ 4294967295 by omega); omega))) ?_
        refine vl_on rfl rfl rfl rfl ?_
        refine vl_val rfl (.some rfl) (val_move rfl) ?_
        refine vl_on rfl rfl rfl rfl ?_
        refine vl_val rfl (.some rfl) (val_mul rfl rfl (by first | exact w_u64 (by omega) (by omega) | rfl)) ?_
        refine vl_on rfl rfl rfl rfl ?_
        refine vl_val rfl (.some rfl) (val_move rfl) ?_
        refine vl_on rfl rfl rfl rfl ?_
        refine vl_val rfl (.some rfl) (val_add rfl rfl (by first | exact w_u64 (by omega) (by omega) | rfl)) ?_
        refine vl_on rfl rfl rfl rfl ?_
        refine vl_val rfl (.some rfl) (val_gt rfl rfl) ?_
        refine vl_val rfl (.some rfl) (val_pick rfl rfl) ?_
        refine vl_nil ?_
        refine vc_cond rfl (fun hc3 => ?_) (fun hc3 => ?_)
        · (try replace hc3 := of_decide_eq_true hc3)
          have hyes : 4294967296 ≤ q1 ∨ rh * 4294967296 + n1 < q1 * y0 := .inr (by omega)
          obtain ⟨hq0, hg'⟩ := guess_down hy1 hU hn1 hg hyes
          have hqb := hg.2.2
          refine vc_skip ?_
          refine vc_block ?_
          refine vc_seq ?_
          refine vc_region ?_
          refine vl_val rfl (.some rfl) (val_move rfl) ?_
          refine vl_val rfl (.some rfl) (val_sub rfl rfl (subN (a := q1) (b := 1) (by omega) (by omega))) ?_
          refine vl_val rfl (.some rfl) (val_assign rfl) ?_
          refine vl_nil ?_
          refine vc_seq ?_
          refine vc_region ?_
          refine vl_val rfl (.some rfl) (val_move rfl) ?_
          refine vl_val rfl (.some rfl) (val_move rfl) ?_
          refine vl_val rfl (.some rfl) (val_add rfl rfl (addN (a := rh) (b := y1) (by omega))) ?_
          refine vl_val rfl (.some rfl) (val_assign rfl) ?_
          refine vl_nil ?_
          refine vc_seq ?_
          refine vc_region ?_
          refine vl_val rfl (.some rfl) (val_move rfl) ?_
          refine vl_val rfl (.some rfl) (val_ge rfl rfl) ?_
          refine vl_nil ?_
          refine vc_cond rfl (fun hc4 => ?_) (fun hc4 => ?_)
          · (try replace hc4 := of_decide_eq_true hc4)
            refine vc_exit ?_
            exact ⟨_, _, _, (by repeat (first | exact trivial | refine ⟨rfl, ?_⟩ | refine ⟨le_item rfl (by first | rfl | (congr 1; omega) | (simp; done) | (simp; omega)), ?_⟩)), (by repeat constructor), ⟨_, (by first | exact guess_rest hy1 hy0 hg' (by omega) (by omega) | exact guess_done (by omega) hg (by omega)), rfl, rfl⟩⟩
          · (try replace hc4 := of_decide_eq_false hc4)
            refine vc_skip ?_
            exact ⟨q1 - 1, _, _, _, by omega, (by repeat (first | exact trivial | refine ⟨rfl, ?_⟩ | refine ⟨le_item rfl (by first | rfl | (congr 1; omega) | (simp; done) | (simp; omega)), ?_⟩)), (by repeat constructor), ⟨q1 - 1, rh + y1, hg', by omega, rfl, rfl, rfl⟩⟩
        · (try replace hc3 := of_decide_eq_false hc3)
          refine vc_exit ?_
          exact ⟨_, _, _, (by repeat (first | exact trivial | refine ⟨rfl, ?_⟩ | refine ⟨le_item rfl (by first | rfl | (congr 1; omega) | (simp; done) | (simp; omega)), ?_⟩)), (by repeat constructor), ⟨_, (by first | exact guess_rest hy1 hy0 hg' (by omega) (by omega) | exact guess_done (by omega) hg (by omega)), rfl, rfl⟩⟩
    · obtain ⟨E0, H0, F, hE0, hH0, hJ⟩ := h
      obtain ⟨qa, hqa, rfl, rfl⟩ := hJ
      have hqd := digit_lt hU hn1
      rw [← hqa] at hqd
      obtain ⟨V, hVe⟩ : ∃ V, (U * 4294967296 + n1) % (y1 * 4294967296 + y0) = V := ⟨_, rfl⟩
      have hV : V < y1 * 4294967296 + y0 := by rw [← hVe]; exact Nat.mod_lt _ (by omega)
      have hVd := Nat.div_le_self V y1
      refine vc_weak hE0 hH0 ?_
      refine vc_seq ?_
      refine vc_region ?_
      refine vl_val rfl (.some rfl) (val_move rfl) ?_
      refine vl_val rfl (.some rfl) (val_mul rfl rfl (mulW U 4294967296)) ?_
      refine vl_val rfl (.some rfl) (val_move rfl) ?_
      refine vl_val rfl (.some rfl) (val_add rfl rfl (addW _ n1)) ?_
      refine vl_val rfl (.some rfl) (val_move rfl) ?_
      refine vl_val rfl (.some rfl) (val_move rfl) ?_
      refine vl_val rfl (.some rfl) (val_mul rfl rfl (mulW qa (y1 * 4294967296 + y0))) ?_
      refine vl_val rfl (.some rfl) (val_sub rfl rfl ((un21 (U := U) (n1 := n1) (Y := y1 * 4294967296 + y0) hqa (by omega) (by omega)).trans (show _ = ((V : Nat) : Int) by rw [hVe]))) ?_
      refine vl_val rfl (.some rfl) (val_assign rfl) ?_
      refine vl_nil ?_
      refine vc_seq ?_
      refine vc_region ?_
      refine vl_val rfl (.some rfl) (val_move rfl) ?_
      refine vl_val rfl (.some rfl) (val_move rfl) ?_
      refine vl_val rfl (.some rfl) (val_quo rfl rfl (by omega) (quoN (a := V) (b := y1) (by omega))) ?_
      refine vl_val rfl (.some rfl) (val_assign rfl) ?_
      refine vl_nil ?_
      refine vc_seq ?_
      refine vc_region ?_
      refine vl_val rfl (.some rfl) (val_move rfl) ?_
      refine vl_val rfl (.some rfl) (val_move rfl) ?_
      refine vl_val rfl (.some rfl) (val_move rfl) ?_
      refine vl_val rfl (.some rfl) (val_mul rfl rfl (mulN (a := V / y1) (b := y1) (by have := Nat.div_mul_le_self V y1; omega))) ?_
      refine vl_val rfl (.some rfl) (val_sub rfl rfl ((subN (a := V) (b := V / y1 * y1) (Nat.div_mul_le_self V y1) (by omega)).trans (show _ = ((V % y1 : Nat) : Int) by have := Nat.div_add_mod V y1; rw [Nat.mul_comm] at this; congr 1; omega))) ?_
      refine vl_val rfl (.some rfl) (val_assign rfl) ?_
      refine vl_nil ?_
      refine vc_cut (fun E H => ∃ E0 H0 F, Env.le E0 E ∧ Sub H0 H F ∧ (fun E H => ∃ qb : Nat, qb = (V * 4294967296 + n0) / (y1 * 4294967296 + y0) ∧ E = [(2, .int .u64 (y1 * 4294967296 + y0 : Nat)), (8, .int .u64 (s : Nat)), (9, .int .u64 (y1 : Nat)), (10, .int .u64 (y0 : Nat)), (11, .int .u64 (U : Nat)), (13, .int .u64 (n1 : Nat)), (14, .int .u64 (n0 : Nat)), (15, .int .u64 (qa : Nat)), (17, .int .u64 (V : Nat)), (18, .int .u64 (qb : Nat))] ∧ H = []) E0 H0) ?_ (fun E H h => ?_)
      ·
        refine vc_block ?_
        refine vc_loopw (fun k E H => ∃ q1 rh : Nat, Guess y1 y0 V n0 q1 rh ∧ rh < 4294967296 ∧ q1 = k ∧ E = [(2, .int .u64 (y1 * 4294967296 + y0 : Nat)), (8, .int .u64 (s : Nat)), (9, .int .u64 (y1 : Nat)), (10, .int .u64 (y0 : Nat)), (11, .int .u64 (U : Nat)), (13, .int .u64 (n1 : Nat)), (14, .int .u64 (n0 : Nat)), (15, .int .u64 (qa : Nat)), (17, .int .u64 (V : Nat)), (18, .int .u64 (q1 : Nat)), (16, .int .u64 (rh : Nat))] ∧ H = []) (V / y1) ⟨_, _, _, ⟨V / y1, V % y1, guess_first hy1 hy0 hV hn0, by have := Nat.mod_lt V (show 0 < y1 by omega); omega, rfl, rfl, rfl⟩, (by repeat (first | exact trivial | refine ⟨rfl, ?_⟩ | refine ⟨le_item rfl (by first | rfl | (congr 1; omega) | (simp; done) | (simp; omega)), ?_⟩)), (by repeat constructor)⟩ ?_
        intro k E H hI
        obtain ⟨q1, rh, hg, hrh, rfl, rfl, rfl⟩ := hI
        refine vc_seq ?_
        refine vc_seq ?_
        refine vc_region ?_
        refine vl_val rfl (.some rfl) (val_move rfl) ?_
        refine vl_val rfl (.some rfl) (val_ge rfl rfl) ?_
        refine vl_val rfl (.some rfl) (val_move rfl) ?_
        refine vl_split (t := 104) rfl (fun hg104 => ?_) (fun hg104 => ?_)
        · (try replace hg104 := of_decide_eq_true hg104)
          have hyes : 4294967296 ≤ q1 ∨ rh * 4294967296 + n0 < q1 * y0 := .inl (by omega)
          obtain ⟨hq0, hg'⟩ := guess_down hy1 hV hn0 hg hyes
          have hqb := hg.2.2
          refine vl_off rfl rfl rfl rfl (.some rfl) ?_
          refine vl_off rfl rfl rfl rfl (.some rfl) ?_
          refine vl_off rfl rfl rfl rfl (.some rfl) ?_
          refine vl_off rfl rfl rfl rfl (.some rfl) ?_
          refine vl_off rfl rfl rfl rfl (.some rfl) ?_
          refine vl_off rfl rfl rfl rfl (.some rfl) ?_
          refine vl_off rfl rfl rfl rfl (.some rfl) ?_
          refine vl_off rfl rfl rfl rfl (.some rfl) ?_
          refine vl_val rfl (.some rfl) (val_pick rfl rfl) ?_
          refine vl_nil ?_
          refine vc_cond rfl (fun _ => ?_) (fun h => by cases h)
          refine vc_skip ?_
          refine vc_block ?_
          refine vc_seq ?_
          refine vc_region ?_
          refine vl_val rfl (.some rfl) (val_move rfl) ?_
          refine vl_val rfl (.some rfl) (val_sub rfl rfl (subN (a := q1) (b := 1) (by omega) (by omega))) ?_
          refine vl_val rfl (.some rfl) (val_assign rfl) ?_
          refine vl_nil ?_
          refine vc_seq ?_
          refine vc_region ?_
          refine vl_val rfl (.some rfl) (val_move rfl) ?_
          refine vl_val rfl (.some rfl) (val_move rfl) ?_
          refine vl_val rfl (.some rfl) (val_add rfl rfl (addN (a := rh) (b := y1) (by omega))) ?_
          refine vl_val rfl (.some rfl) (val_assign rfl) ?_
          refine vl_nil ?_
          refine vc_seq ?_
          refine vc_region ?_
          refine vl_val rfl (.some rfl) (val_move rfl) ?_
          refine vl_val rfl (.some rfl) (val_ge rfl rfl) ?_
          refine vl_nil ?_
          refine vc_cond rfl (fun hc6 => ?_) (fun hc6 => ?_)
          · (try replace hc6 := of_decide_eq_true hc6)
            refine vc_exit ?_
            exact ⟨_, _, _, (by repeat (first | exact trivial | refine ⟨rfl, ?_⟩ | refine ⟨le_item rfl (by first | rfl | (congr 1; omega) | (simp; done) | (simp; omega)), ?_⟩)), (by repeat constructor), ⟨_, (by first | exact guess_rest hy1 hy0 hg' (by omega) (by omega) | exact guess_done (by omega) hg (by omega)), rfl, rfl⟩⟩
          · (try replace hc6 := of_decide_eq_false hc6)
            refine vc_skip ?_
            exact ⟨q1 - 1, _, _, _, by omega, (by repeat (first | exact trivial | refine ⟨rfl, ?_⟩ | refine ⟨le_item rfl (by first | rfl | (congr 1; omega) | (simp; done) | (simp; omega)), ?_⟩)), (by repeat constructor), ⟨q1 - 1, rh + y1, hg', by omega, rfl, rfl, rfl⟩⟩
        · (try replace hg104 := of_decide_eq_false hg104)
          refine vl_on rfl rfl rfl rfl ?_
          refine vl_val rfl (.some rfl) (val_move rfl) ?_
          refine vl_on rfl rfl rfl rfl ?_
          refine vl_val rfl (.some rfl) (val_move rfl) ?_
          refine vl_on rfl rfl rfl rfl ?_
          refine vl_val rfl (.some rfl) (val_mul rfl rfl (mulN (a := q1) (b := y0) (by have := Nat.mul_le_mul (show q1 ≤ 4294967295 by omega) (show y0 ≤ 4294967295 by omega); omega))) ?_
          refine vl_on rfl rfl rfl rfl ?_
          refine vl_val rfl (.some rfl) (val_move rfl) ?_
          refine vl_on rfl rfl rfl rfl ?_
          refine vl_val rfl (.some rfl) (val_mul rfl rfl (by first | exact w_u64 (by omega) (by omega) | rfl)) ?_
          refine vl_on rfl rfl rfl rfl ?_
          refine vl_val rfl (.some rfl) (val_move rfl) ?_
          refine vl_on rfl rfl rfl rfl ?_
          refine vl_val rfl (.some rfl) (val_add rfl rfl (by first | exact w_u64 (by omega) (by omega) | rfl)) ?_
          refine vl_on rfl rfl rfl rfl ?_
          refine vl_val rfl (.some rfl) (val_gt rfl rfl) ?_
          refine vl_val rfl (.some rfl) (val_pick rfl rfl) ?_
          refine vl_nil ?_
          refine vc_cond rfl (fun hc5 => ?_) (fun hc5 => ?_)
          · (try replace hc5 := of_decide_eq_true hc5)
            have hyes : 4294967296 ≤ q1 ∨ rh * 4294967296 + n0 < q1 * y0 := .inr (by omega)
            obtain ⟨hq0, hg'⟩ := guess_down hy1 hV hn0 hg hyes
            have hqb := hg.2.2
            refine vc_skip ?_
            refine vc_block ?_
            refine vc_seq ?_
            refine vc_region ?_
            refine vl_val rfl (.some rfl) (val_move rfl) ?_
            refine vl_val rfl (.some rfl) (val_sub rfl rfl (subN (a := q1) (b := 1) (by omega) (by omega))) ?_
            refine vl_val rfl (.some rfl) (val_assign rfl) ?_
            refine vl_nil ?_
            refine vc_seq ?_
            refine vc_region ?_
            refine vl_val rfl (.some rfl) (val_move rfl) ?_
            refine vl_val rfl (.some rfl) (val_move rfl) ?_
            refine vl_val rfl (.some rfl) (val_add rfl rfl (addN (a := rh) (b := y1) (by omega))) ?_
            refine vl_val rfl (.some rfl) (val_assign rfl) ?_
            refine vl_nil ?_
            refine vc_seq ?_
            refine vc_region ?_
            refine vl_val rfl (.some rfl) (val_move rfl) ?_
            refine vl_val rfl (.some rfl) (val_ge rfl rfl) ?_
            refine vl_nil ?_
            refine vc_cond rfl (fun hc6 => ?_) (fun hc6 => ?_)
            · (try replace hc6 := of_decide_eq_true hc6)
              refine vc_exit ?_
              exact ⟨_, _, _, (by repeat (first | exact trivial | refine ⟨rfl, ?_⟩ | refine ⟨le_item rfl (by first | rfl | (congr 1; omega) | (simp; done) | (simp; omega)), ?_⟩)), (by repeat constructor), ⟨_, (by first | exact guess_rest hy1 hy0 hg' (by omega) (by omega) | exact guess_done (by omega) hg (by omega)), rfl, rfl⟩⟩
            · (try replace hc6 := of_decide_eq_false hc6)
              refine vc_skip ?_
              exact ⟨q1 - 1, _, _, _, by omega, (by repeat (first | exact trivial | refine ⟨rfl, ?_⟩ | refine ⟨le_item rfl (by first | rfl | (congr 1; omega) | (simp; done) | (simp; omega)), ?_⟩)), (by repeat constructor), ⟨q1 - 1, rh + y1, hg', by omega, rfl, rfl, rfl⟩⟩
          · (try replace hc5 := of_decide_eq_false hc5)
            refine vc_exit ?_
            exact ⟨_, _, _, (by repeat (first | exact trivial | refine ⟨rfl, ?_⟩ | refine ⟨le_item rfl (by first | rfl | (congr 1; omega) | (simp; done) | (simp; omega)), ?_⟩)), (by repeat constructor), ⟨_, (by first | exact guess_rest hy1 hy0 hg' (by omega) (by omega) | exact guess_done (by omega) hg (by omega)), rfl, rfl⟩⟩
      · obtain ⟨E0, H0, F, hE0, hH0, hJ⟩ := h
        obtain ⟨qb, hqb, rfl, rfl⟩ := hJ
        have hqd2 := digit_lt hV hn0
        rw [← hqb] at hqd2
        refine vc_weak hE0 hH0 ?_
        refine vc_seq ?_
        refine vc_region ?_
        refine vl_val rfl (.some rfl) (val_move rfl) ?_
        refine vl_val rfl (.some rfl) (val_mul rfl rfl (mulN (a := qa) (b := 4294967296) (by omega))) ?_
        refine vl_val rfl (.some rfl) (val_move rfl) ?_
        refine vl_val rfl (.some rfl) (val_add rfl rfl (addN (a := qa * 4294967296) (b := qb) (by omega))) ?_
        refine vl_val rfl (.some rfl) (val_move rfl) ?_
        refine vl_val rfl (.some rfl) (val_mul rfl rfl (mulW V 4294967296)) ?_
        refine vl_val rfl (.some rfl) (val_move rfl) ?_
        refine vl_val rfl (.some rfl) (val_add rfl rfl (addW _ n0)) ?_
        refine vl_val rfl (.some rfl) (val_move rfl) ?_
        refine vl_val rfl (.some rfl) (val_move rfl) ?_
        refine vl_val rfl (.some rfl) (val_mul rfl rfl (mulW qb (y1 * 4294967296 + y0))) ?_
        refine vl_val rfl (.some rfl) (val_sub rfl rfl (un21 (U := V) (n1 := n0) (Y := y1 * 4294967296 + y0) hqb (by omega) (by omega))) ?_
        refine vl_val rfl (.some rfl) (val_move rfl) ?_
        refine vl_val rfl (.some rfl) (val_shr rfl rfl (by omega) (shrN (s := s) (by omega))) ?_
        refine vl_val rfl (.some rfl) (val_assign rfl) ?_
        refine vl_val rfl (.some rfl) (val_assign rfl) ?_
        refine vl_nil ?_
        refine vc_ret ?_
        refine ⟨_, [], _, res2 Tryd.results73 rfl rfl, .nil, ?_⟩
        rw [hdiv, hmod, two_digits _ n0 _ (by omega), two_digits_mod _ n0 _ (by omega), hVe, ← hqa, ← hqb]
        rfl




theorem add_run (x y c : Int) (hx : 0 ≤ x) (hy : 0 ≤ y) (h0 : 0 ≤ c) (h1 : c ≤ 1) (w : World) : (callFunc 47 #[.int .u64 x, .int .u64 y, .int .u64 c]).run Tryd.prog w = .ok (.value (.tuple #[.int .u64 ((x + y + c) % 18446744073709551616), .int .u64 ((x + y + c) / 18446744073709551616)])) w := by
  rw [run_callFunc_extern (e := add64Entry) Tryd.func47 (by kernel_rfl) (by kernel_rfl) (by kernel_rfl) (by kernel_rfl), run_add64 x y c hx hy h0 h1]
  rfl
theorem sub_entry (x y b : Nat) (hb : b ≤ 1) (w : World) : ((Extern.MathBitsCarry.rows.getD 1 ("", fun _ => pure (.bool false))).2 #[.int .u64 x, .int .u64 y, .int .u64 b]).run Tryd.prog w = .ok (.tuple #[.int .u64 (((x + 18446744073709551616 - y - b) % 18446744073709551616 : Nat) : Int), .int .u64 ((if x < y + b then 1 else 0 : Nat) : Int)]) w := by
  have : b = 0 ∨ b = 1 := by omega
  rcases this with rfl | rfl <;> rfl
theorem sub_run (x y b : Int) (hx : 0 ≤ x) (hx1 : x < 18446744073709551616) (hy : 0 ≤ y) (hy1 : y < 18446744073709551616) (h0 : 0 ≤ b) (h1 : b ≤ 1) (w : World) : (callFunc 48 #[.int .u64 x, .int .u64 y, .int .u64 b]).run Tryd.prog w = .ok (.value (.tuple #[.int .u64 ((x - y - b) % 18446744073709551616), .int .u64 (if x < y + b then 1 else 0)])) w := by
  obtain ⟨x, rfl⟩ := Int.eq_ofNat_of_zero_le hx
  obtain ⟨y, rfl⟩ := Int.eq_ofNat_of_zero_le hy
  obtain ⟨b, rfl⟩ := Int.eq_ofNat_of_zero_le h0
  rw [run_callFunc_extern (e := (Extern.MathBitsCarry.rows.getD 1 ("", fun _ => pure (.bool false))).2) Tryd.func48 (by kernel_rfl) (by kernel_rfl) (by kernel_rfl) (by kernel_rfl), sub_entry x y b (by omega)]
  have e1 : (((x + 18446744073709551616 - y - b) % 18446744073709551616 : Nat) : Int) = ((x : Int) - y - b) % 18446744073709551616 := by omega
  have e2 : ((if x < y + b then 1 else 0 : Nat) : Int) = if (x : Int) < y + b then 1 else 0 := by split <;> split <;> omega
  rw [e1, e2]
  rfl
set_option maxRecDepth 20000 in
theorem wHalves (x : Int) (w : World) : FnV Tryd.prog 49 [wV x] (pV x) w := by
  refine fn_enter Tryd.func49 rfl Tryd.ntmps49 rfl ?_
  refine vc_seq ?_
  refine vc_region ?_
  refine vl_box rfl rfl (.some rfl) rfl (fun r1 => ?_)
  refine vl_alloc rfl rfl (.some rfl) Tryd.zeroValue70 (fun r2 => ?_)
  refine vl_nil ?_
  refine vc_seq ?_
  refine vc_region ?_
  refine vl_val rfl (.some rfl) (by first | exact val_fieldAddr Tryd.runUnderlying51 rfl Tryd.sizeOf3 rfl | exact val_fieldAddrR Tryd.runUnderlying51 rfl Tryd.sizeOf3 rfl) ?_
  refine vl_val rfl (.some rfl) (val_load Tryd.isAgg3 rfl (by first | exact cell_cells (by repeat constructor) rfl | exact cell_rd (by first | exact rd_sl (by repeat constructor) | exact rd_old (by assumption) rfl) (by first | exact bcells_at (by omega) | exact ucells_at (by omega) | exact icells_at (by omega) | exact tcells_at (by omega) | exact bcells_get (by omega) | exact icells_get (by omega) | exact tcells_get (by omega) | exact ucells_get (by omega)) | exact cell_old (by assumption) (by simp [fps]))) ?_
  refine vl_val rfl (.some rfl) (val_convInt Tryd.runUnderlying3 Tryd.runUnderlying49 rfl (hP_of x)) ?_
  refine vl_val rfl (.some rfl) (by first | exact val_fieldAddr Tryd.runUnderlying51 rfl Tryd.sizeOf49 rfl | exact val_fieldAddrR Tryd.runUnderlying51 rfl Tryd.sizeOf49 rfl) ?_
  refine vl_val rfl (.some rfl) (val_load Tryd.isAgg49 rfl (by first | exact cell_cells (by repeat constructor) rfl | exact cell_rd (by first | exact rd_sl (by repeat constructor) | exact rd_old (by assumption) rfl) (by first | exact bcells_at (by omega) | exact ucells_at (by omega) | exact icells_at (by omega) | exact tcells_at (by omega) | exact bcells_get (by omega) | exact icells_get (by omega) | exact tcells_get (by omega) | exact ucells_get (by omega)) | exact cell_old (by assumption) (by simp [fps]))) ?_
  refine vl_val rfl (.some rfl) (val_buildSt (pl := #[(0, 1), (1, 1)]) (cs := #[.int .u64 (hP x), .int .u64 (lW x)]) Tryd.runUnderlying70 Tryd.zeroValue70 (fun w => by kernel_rfl) rfl rfl) ?_
  first | refine vl_store rfl rfl .none rfl rfl Tryd.sizeOf70 rfl (by repeat constructor) (by first | decide | exact Nat.le_refl _ | exact Nat.le_of_ble_eq_true rfl | (simp; omega)) ?_ | refine vl_storeSl rfl rfl .none rfl rfl Tryd.sizeOf70 rfl (by simp [Value.cells]) (by repeat constructor) (by first | decide | (simp [Value.cells]; omega)) ?_
  refine vl_nil ?_
  refine vc_ret ?_
  refine ⟨_, [], _, resC Tryd.results49 rfl (whole_agg Tryd.isAgg70 Tryd.sizeOf70 (cells_whole (by repeat constructor)) rfl), .nil, ?_⟩
  rfl
set_option maxRecDepth 20000 in
theorem wWide (x : Int) (w : World) : FnV Tryd.prog 36 [pV x] (wV x) w := by
  refine fn_enter Tryd.func36 rfl Tryd.ntmps36 rfl ?_
  refine vc_seq ?_
  refine vc_region ?_
  refine vl_box rfl rfl (.some rfl) rfl (fun r1 => ?_)
  refine vl_alloc rfl rfl (.some rfl) Tryd.zeroValue51 (fun r2 => ?_)
  refine vl_nil ?_
  refine vc_seq ?_
  refine vc_region ?_
  refine vl_val rfl (.some rfl) (by first | exact val_fieldAddr Tryd.runUnderlying70 rfl Tryd.sizeOf49 rfl | exact val_fieldAddrR Tryd.runUnderlying70 rfl Tryd.sizeOf49 rfl) ?_
  refine vl_val rfl (.some rfl) (val_load Tryd.isAgg49 rfl (by first | exact cell_cells (by repeat constructor) rfl | exact cell_rd (by first | exact rd_sl (by repeat constructor) | exact rd_old (by assumption) rfl) (by first | exact bcells_at (by omega) | exact ucells_at (by omega) | exact icells_at (by omega) | exact tcells_at (by omega) | exact bcells_get (by omega) | exact icells_get (by omega) | exact tcells_get (by omega) | exact ucells_get (by omega)) | exact cell_old (by assumption) (by simp [fps]))) ?_
  refine vl_val rfl (.some rfl) (val_convInt Tryd.runUnderlying49 Tryd.runUnderlying3 rfl (hW_of x)) ?_
  refine vl_val rfl (.some rfl) (by first | exact val_fieldAddr Tryd.runUnderlying70 rfl Tryd.sizeOf49 rfl | exact val_fieldAddrR Tryd.runUnderlying70 rfl Tryd.sizeOf49 rfl) ?_
  refine vl_val rfl (.some rfl) (val_load Tryd.isAgg49 rfl (by first | exact cell_cells (by repeat constructor) rfl | exact cell_rd (by first | exact rd_sl (by repeat constructor) | exact rd_old (by assumption) rfl) (by first | exact bcells_at (by omega) | exact ucells_at (by omega) | exact icells_at (by omega) | exact tcells_at (by omega) | exact bcells_get (by omega) | exact icells_get (by omega) | exact tcells_get (by omega) | exact ucells_get (by omega)) | exact cell_old (by assumption) (by simp [fps]))) ?_
  refine vl_val rfl (.some rfl) (val_buildSt (pl := #[(0, 1), (1, 1)]) (cs := #[.int .i64 (hW x), .int .u64 (lW x)]) Tryd.runUnderlying51 Tryd.zeroValue51 (fun w => by kernel_rfl) rfl rfl) ?_
  first | refine vl_store rfl rfl .none rfl rfl Tryd.sizeOf51 rfl (by repeat constructor) (by first | decide | exact Nat.le_refl _ | exact Nat.le_of_ble_eq_true rfl | (simp; omega)) ?_ | refine vl_storeSl rfl rfl .none rfl rfl Tryd.sizeOf51 rfl (by simp [Value.cells]) (by repeat constructor) (by first | decide | (simp [Value.cells]; omega)) ?_
  refine vl_nil ?_
  refine vc_ret ?_
  refine ⟨_, [], _, resC Tryd.results36 rfl (whole_agg Tryd.isAgg51 Tryd.sizeOf51 (cells_whole (by repeat constructor)) rfl), .nil, ?_⟩
  rfl
set_option maxRecDepth 20000 in
theorem wBelow (x : Int) (w : World) : FnV Tryd.prog 50 [pV x] (.bool (decide (hW x < 0))) w := by
  refine fn_enter Tryd.func50 rfl Tryd.ntmps50 rfl ?_
  refine vc_seq ?_
  refine vc_region ?_
  refine vl_box rfl rfl (.some rfl) rfl (fun r1 => ?_)
  refine vl_val rfl (.some rfl) (val_assign rfl) ?_
  refine vl_nil ?_
  refine vc_seq ?_
  refine vc_region ?_
  refine vl_val rfl (.some rfl) (by first | exact val_fieldAddr Tryd.runUnderlying70 rfl Tryd.sizeOf49 rfl | exact val_fieldAddrR Tryd.runUnderlying70 rfl Tryd.sizeOf49 rfl) ?_
  refine vl_val rfl (.some rfl) (val_load Tryd.isAgg49 rfl (by first | exact cell_cells (by repeat constructor) rfl | exact cell_rd (by first | exact rd_sl (by repeat constructor) | exact rd_old (by assumption) rfl) (by first | exact bcells_at (by omega) | exact ucells_at (by omega) | exact icells_at (by omega) | exact tcells_at (by omega) | exact bcells_get (by omega) | exact icells_get (by omega) | exact tcells_get (by omega) | exact ucells_get (by omega)) | exact cell_old (by assumption) (by simp [fps]))) ?_
  refine vl_val rfl (.some rfl) (val_shr rfl rfl (by decide) (shr_lit 9223372036854775808 rfl (by decide))) ?_
  refine vl_val rfl (.some rfl) (val_eq rfl rfl) ?_
  refine vl_val rfl (.some rfl) (val_assign rfl) ?_
  refine vl_nil ?_
  refine vc_ret ?_
  refine ⟨_, [], _, res1 Tryd.results50 rfl, .nil, ?_⟩
  show Value.bool _ = Value.bool _
  refine congrArg Value.bool ?_
  have := hP_b x
  rw [decide_eq_decide, hW_neg]; omega
set_option maxRecDepth 20000 in
theorem wPlus (x y : Int) (w : World) : FnV Tryd.prog 33 [pV x, pV y] (pV (x + y)) w := by
  have hx := lW_b x
  have hy := lW_b y
  have hx2 := hP_b x
  have hy2 := hP_b y
  refine fn_enter Tryd.func33 rfl Tryd.ntmps33 rfl ?_
  refine vc_seq ?_
  refine vc_region ?_
  refine vl_box rfl rfl (.some rfl) rfl (fun r2 => ?_)
  refine vl_box rfl rfl (.some rfl) rfl (fun r3 => ?_)
  refine vl_alloc rfl rfl (.some rfl) Tryd.zeroValue70 (fun r4 => ?_)
  refine vl_nil ?_
  refine vc_seq ?_
  refine vc_region ?_
  refine vl_val rfl (.some rfl) (by first | exact val_fieldAddr Tryd.runUnderlying70 rfl Tryd.sizeOf49 rfl | exact val_fieldAddrR Tryd.runUnderlying70 rfl Tryd.sizeOf49 rfl) ?_
  refine vl_val rfl (.some rfl) (val_load Tryd.isAgg49 rfl (by first | exact cell_cells (by repeat constructor) rfl | exact cell_rd (by first | exact rd_sl (by repeat constructor) | exact rd_old (by assumption) rfl) (by first | exact bcells_at (by omega) | exact ucells_at (by omega) | exact icells_at (by omega) | exact tcells_at (by omega) | exact bcells_get (by omega) | exact icells_get (by omega) | exact tcells_get (by omega) | exact ucells_get (by omega)) | exact cell_old (by assumption) (by simp [fps]))) ?_
  refine vl_val rfl (.some rfl) (by first | exact val_fieldAddr Tryd.runUnderlying70 rfl Tryd.sizeOf49 rfl | exact val_fieldAddrR Tryd.runUnderlying70 rfl Tryd.sizeOf49 rfl) ?_
  refine vl_val rfl (.some rfl) (val_load Tryd.isAgg49 rfl (by first | exact cell_cells (by repeat constructor) rfl | exact cell_rd (by first | exact rd_sl (by repeat constructor) | exact rd_old (by assumption) rfl) (by first | exact bcells_at (by omega) | exact ucells_at (by omega) | exact icells_at (by omega) | exact tcells_at (by omega) | exact bcells_get (by omega) | exact icells_get (by omega) | exact tcells_get (by omega) | exact ucells_get (by omega)) | exact cell_old (by assumption) (by simp [fps]))) ?_
  refine vl_ext rfl rfl (.some rfl) rfl (add_run (lW x) (lW y) 0 hx.1 hy.1 (by omega) (by omega)) ?_
  rw [Int.add_zero, add_lo]
  refine vl_val rfl (.some rfl) (val_move rfl) ?_
  refine vl_val rfl (.some rfl) (val_extract rfl rfl) ?_
  refine vl_val rfl (.some rfl) (val_extract rfl rfl) ?_
  refine vl_val rfl (.some rfl) (val_assign rfl) ?_
  refine vl_val rfl (.some rfl) (val_assign rfl) ?_
  refine vl_nil ?_
  refine vc_seq ?_
  refine vc_region ?_
  refine vl_val rfl (.some rfl) (by first | exact val_fieldAddr Tryd.runUnderlying70 rfl Tryd.sizeOf49 rfl | exact val_fieldAddrR Tryd.runUnderlying70 rfl Tryd.sizeOf49 rfl) ?_
  refine vl_val rfl (.some rfl) (val_load Tryd.isAgg49 rfl (by first | exact cell_cells (by repeat constructor) rfl | exact cell_rd (by first | exact rd_sl (by repeat constructor) | exact rd_old (by assumption) rfl) (by first | exact bcells_at (by omega) | exact ucells_at (by omega) | exact icells_at (by omega) | exact tcells_at (by omega) | exact bcells_get (by omega) | exact icells_get (by omega) | exact tcells_get (by omega) | exact ucells_get (by omega)) | exact cell_old (by assumption) (by simp [fps]))) ?_
  refine vl_val rfl (.some rfl) (by first | exact val_fieldAddr Tryd.runUnderlying70 rfl Tryd.sizeOf49 rfl | exact val_fieldAddrR Tryd.runUnderlying70 rfl Tryd.sizeOf49 rfl) ?_
  refine vl_val rfl (.some rfl) (val_load Tryd.isAgg49 rfl (by first | exact cell_cells (by repeat constructor) rfl | exact cell_rd (by first | exact rd_sl (by repeat constructor) | exact rd_old (by assumption) rfl) (by first | exact bcells_at (by omega) | exact ucells_at (by omega) | exact icells_at (by omega) | exact tcells_at (by omega) | exact bcells_get (by omega) | exact icells_get (by omega) | exact tcells_get (by omega) | exact ucells_get (by omega)) | exact cell_old (by assumption) (by simp [fps]))) ?_
  refine vl_val rfl (.some rfl) (val_move rfl) ?_
  refine vl_ext rfl rfl (.some rfl) rfl (add_run (hP x) (hP y) ((lW x + lW y) / 18446744073709551616) hx2.1 hy2.1 (by omega) (by omega)) ?_
  rw [add_hi]
  refine vl_val rfl (.some rfl) (val_move rfl) ?_
  refine vl_val rfl (.some rfl) (val_extract rfl rfl) ?_
  refine vl_val rfl (.some rfl) (val_extract rfl rfl) ?_
  refine vl_val rfl (.some rfl) (val_assign rfl) ?_
  refine vl_val rfl (.some rfl) (val_assign rfl) ?_
  refine vl_nil ?_
  refine vc_seq ?_
  refine vc_region ?_
  refine vl_val rfl (.some rfl) (val_move rfl) ?_
  refine vl_val rfl (.some rfl) (val_move rfl) ?_
  refine vl_val rfl (.some rfl) (val_buildSt (pl := #[(0, 1), (1, 1)]) (cs := #[.int .u64 (hP (x + y)), .int .u64 (lW (x + y))]) Tryd.runUnderlying70 Tryd.zeroValue70 (fun w => by kernel_rfl) rfl rfl) ?_
  first | refine vl_store rfl rfl .none rfl rfl Tryd.sizeOf70 rfl (by repeat constructor) (by first | decide | exact Nat.le_refl _ | exact Nat.le_of_ble_eq_true rfl | (simp; omega)) ?_ | refine vl_storeSl rfl rfl .none rfl rfl Tryd.sizeOf70 rfl (by simp [Value.cells]) (by repeat constructor) (by first | decide | (simp [Value.cells]; omega)) ?_
  refine vl_nil ?_
  refine vc_ret ?_
  refine ⟨_, [], _, resC Tryd.results33 rfl (whole_agg Tryd.isAgg70 Tryd.sizeOf70 (cells_whole (by repeat constructor)) rfl), .nil, ?_⟩
  rfl
set_option maxRecDepth 20000 in
theorem wMinus (x y : Int) (w : World) : FnV Tryd.prog 34 [pV x, pV y] (pV (x - y)) w := by
  have hx := lW_b x
  have hy := lW_b y
  have hx2 := hP_b x
  have hy2 := hP_b y
  refine fn_enter Tryd.func34 rfl Tryd.ntmps34 rfl ?_
  refine vc_seq ?_
  refine vc_region ?_
  refine vl_box rfl rfl (.some rfl) rfl (fun r2 => ?_)
  refine vl_box rfl rfl (.some rfl) rfl (fun r3 => ?_)
  refine vl_alloc rfl rfl (.some rfl) Tryd.zeroValue70 (fun r4 => ?_)
  refine vl_nil ?_
  refine vc_seq ?_
  refine vc_region ?_
  refine vl_val rfl (.some rfl) (by first | exact val_fieldAddr Tryd.runUnderlying70 rfl Tryd.sizeOf49 rfl | exact val_fieldAddrR Tryd.runUnderlying70 rfl Tryd.sizeOf49 rfl) ?_
  refine vl_val rfl (.some rfl) (val_load Tryd.isAgg49 rfl (by first | exact cell_cells (by repeat constructor) rfl | exact cell_rd (by first | exact rd_sl (by repeat constructor) | exact rd_old (by assumption) rfl) (by first | exact bcells_at (by omega) | exact ucells_at (by omega) | exact icells_at (by omega) | exact tcells_at (by omega) | exact bcells_get (by omega) | exact icells_get (by omega) | exact tcells_get (by omega) | exact ucells_get (by omega)) | exact cell_old (by assumption) (by simp [fps]))) ?_
  refine vl_val rfl (.some rfl) (by first | exact val_fieldAddr Tryd.runUnderlying70 rfl Tryd.sizeOf49 rfl | exact val_fieldAddrR Tryd.runUnderlying70 rfl Tryd.sizeOf49 rfl) ?_
  refine vl_val rfl (.some rfl) (val_load Tryd.isAgg49 rfl (by first | exact cell_cells (by repeat constructor) rfl | exact cell_rd (by first | exact rd_sl (by repeat constructor) | exact rd_old (by assumption) rfl) (by first | exact bcells_at (by omega) | exact ucells_at (by omega) | exact icells_at (by omega) | exact tcells_at (by omega) | exact bcells_get (by omega) | exact icells_get (by omega) | exact tcells_get (by omega) | exact ucells_get (by omega)) | exact cell_old (by assumption) (by simp [fps]))) ?_
  refine vl_ext rfl rfl (.some rfl) rfl (sub_run (lW x) (lW y) 0 hx.1 hx.2 hy.1 hy.2 (by omega) (by omega)) ?_
  rw [Int.sub_zero, Int.add_zero, sub_lo]
  refine vl_val rfl (.some rfl) (val_move rfl) ?_
  refine vl_val rfl (.some rfl) (val_extract rfl rfl) ?_
  refine vl_val rfl (.some rfl) (val_extract rfl rfl) ?_
  refine vl_val rfl (.some rfl) (val_assign rfl) ?_
  refine vl_val rfl (.some rfl) (val_assign rfl) ?_
  refine vl_nil ?_
  refine vc_seq ?_
  refine vc_region ?_
  refine vl_val rfl (.some rfl) (by first | exact val_fieldAddr Tryd.runUnderlying70 rfl Tryd.sizeOf49 rfl | exact val_fieldAddrR Tryd.runUnderlying70 rfl Tryd.sizeOf49 rfl) ?_
  refine vl_val rfl (.some rfl) (val_load Tryd.isAgg49 rfl (by first | exact cell_cells (by repeat constructor) rfl | exact cell_rd (by first | exact rd_sl (by repeat constructor) | exact rd_old (by assumption) rfl) (by first | exact bcells_at (by omega) | exact ucells_at (by omega) | exact icells_at (by omega) | exact tcells_at (by omega) | exact bcells_get (by omega) | exact icells_get (by omega) | exact tcells_get (by omega) | exact ucells_get (by omega)) | exact cell_old (by assumption) (by simp [fps]))) ?_
  refine vl_val rfl (.some rfl) (by first | exact val_fieldAddr Tryd.runUnderlying70 rfl Tryd.sizeOf49 rfl | exact val_fieldAddrR Tryd.runUnderlying70 rfl Tryd.sizeOf49 rfl) ?_
  refine vl_val rfl (.some rfl) (val_load Tryd.isAgg49 rfl (by first | exact cell_cells (by repeat constructor) rfl | exact cell_rd (by first | exact rd_sl (by repeat constructor) | exact rd_old (by assumption) rfl) (by first | exact bcells_at (by omega) | exact ucells_at (by omega) | exact icells_at (by omega) | exact tcells_at (by omega) | exact bcells_get (by omega) | exact icells_get (by omega) | exact tcells_get (by omega) | exact ucells_get (by omega)) | exact cell_old (by assumption) (by simp [fps]))) ?_
  refine vl_val rfl (.some rfl) (val_move rfl) ?_
  refine vl_ext rfl rfl (.some rfl) rfl (sub_run (hP x) (hP y) (if lW x < lW y then 1 else 0) hx2.1 hx2.2 hy2.1 hy2.2 (by split <;> omega) (by split <;> omega)) ?_
  rw [sub_hi]
  refine vl_val rfl (.some rfl) (val_move rfl) ?_
  refine vl_val rfl (.some rfl) (val_extract rfl rfl) ?_
  refine vl_val rfl (.some rfl) (val_extract rfl rfl) ?_
  refine vl_val rfl (.some rfl) (val_assign rfl) ?_
  refine vl_val rfl (.some rfl) (val_assign rfl) ?_
  refine vl_nil ?_
  refine vc_seq ?_
  refine vc_region ?_
  refine vl_val rfl (.some rfl) (val_move rfl) ?_
  refine vl_val rfl (.some rfl) (val_move rfl) ?_
  refine vl_val rfl (.some rfl) (val_buildSt (pl := #[(0, 1), (1, 1)]) (cs := #[.int .u64 (hP (x - y)), .int .u64 (lW (x - y))]) Tryd.runUnderlying70 Tryd.zeroValue70 (fun w => by kernel_rfl) rfl rfl) ?_
  first | refine vl_store rfl rfl .none rfl rfl Tryd.sizeOf70 rfl (by repeat constructor) (by first | decide | exact Nat.le_refl _ | exact Nat.le_of_ble_eq_true rfl | (simp; omega)) ?_ | refine vl_storeSl rfl rfl .none rfl rfl Tryd.sizeOf70 rfl (by simp [Value.cells]) (by repeat constructor) (by first | decide | (simp [Value.cells]; omega)) ?_
  refine vl_nil ?_
  refine vc_ret ?_
  refine ⟨_, [], _, resC Tryd.results34 rfl (whole_agg Tryd.isAgg70 Tryd.sizeOf70 (cells_whole (by repeat constructor)) rfl), .nil, ?_⟩
  rfl
set_option maxRecDepth 20000 in
theorem wOf (n : Int) (hn : inI n) (w : World) : FnV Tryd.prog 108 [.int .i64 n] (wV n) w := by
  refine fn_enter Tryd.func108 rfl Tryd.ntmps108 rfl ?_
  refine vc_seq ?_
  refine vc_region ?_
  refine vl_alloc rfl rfl (.some rfl) Tryd.zeroValue51 (fun r2 => ?_)
  refine vl_nil ?_
  refine vc_seq ?_
  refine vc_region ?_
  refine vl_val rfl (.some rfl) (val_move rfl) ?_
  refine vl_val rfl (.some rfl) (val_shr rfl rfl (by decide) (show _ = hW n by rw [shr_lit 9223372036854775808 rfl (by decide)]; exact fdiv63 hn)) ?_
  refine vl_val rfl (.some rfl) (val_move rfl) ?_
  refine vl_val rfl (.some rfl) (val_convInt Tryd.runUnderlying3 Tryd.runUnderlying49 rfl (show _ = lW n by rw [w_mod64]; rfl)) ?_
  refine vl_val rfl (.some rfl) (val_buildSt (pl := #[(0, 1), (1, 1)]) (cs := #[.int .i64 (hW n), .int .u64 (lW n)]) Tryd.runUnderlying51 Tryd.zeroValue51 (fun w => by kernel_rfl) rfl rfl) ?_
  first | refine vl_store rfl rfl .none rfl rfl Tryd.sizeOf51 rfl (by repeat constructor) (by first | decide | exact Nat.le_refl _ | exact Nat.le_of_ble_eq_true rfl | (simp; omega)) ?_ | refine vl_storeSl rfl rfl .none rfl rfl Tryd.sizeOf51 rfl (by simp [Value.cells]) (by repeat constructor) (by first | decide | (simp [Value.cells]; omega)) ?_
  refine vl_nil ?_
  refine vc_ret ?_
  refine ⟨_, [], _, resC Tryd.results108 rfl (whole_agg Tryd.isAgg51 Tryd.sizeOf51 (cells_whole (by repeat constructor)) rfl), .nil, ?_⟩
  rfl
set_option maxRecDepth 20000 in
theorem wFits (x : Int) (hx : inW x) (w : World) : FnV Tryd.prog 17 [wV x] (.tuple #[.int .i64 (if inI x then x else 0), .bool (decide (inI x))]) w := by
  have e1 := hW_in hx
  obtain ⟨n, hn⟩ : ∃ n, (lW x + 9223372036854775808) % 18446744073709551616 - 9223372036854775808 = n := ⟨_, rfl⟩
  have hn2 : inI n := by unfold inI; omega
  have hfi : (hW x = n / 9223372036854775808) ↔ inI x := by unfold lW at hn; unfold inI; omega
  have hnx : inI x → n = x := by unfold lW at hn; unfold inI; omega
  refine fn_enter Tryd.func17 rfl Tryd.ntmps17 rfl ?_
  refine vc_seq ?_
  refine vc_region ?_
  refine vl_box rfl rfl (.some rfl) rfl (fun r1 => ?_)
  refine vl_val rfl (.some rfl) (val_assign rfl) ?_
  refine vl_val rfl (.some rfl) (val_assign rfl) ?_
  refine vl_nil ?_
  refine vc_seq ?_
  refine vc_region ?_
  refine vl_val rfl (.some rfl) (by first | exact val_fieldAddr Tryd.runUnderlying51 rfl Tryd.sizeOf49 rfl | exact val_fieldAddrR Tryd.runUnderlying51 rfl Tryd.sizeOf49 rfl) ?_
  refine vl_val rfl (.some rfl) (val_load Tryd.isAgg49 rfl (by first | exact cell_cells (by repeat constructor) rfl | exact cell_rd (by first | exact rd_sl (by repeat constructor) | exact rd_old (by assumption) rfl) (by first | exact bcells_at (by omega) | exact ucells_at (by omega) | exact icells_at (by omega) | exact tcells_at (by omega) | exact bcells_get (by omega) | exact icells_get (by omega) | exact tcells_get (by omega) | exact ucells_get (by omega)) | exact cell_old (by assumption) (by simp [fps]))) ?_
  refine vl_val rfl (.some rfl) (val_convInt Tryd.runUnderlying49 Tryd.runUnderlying3 rfl (show _ = n by rw [w_smod64, hn])) ?_
  refine vl_val rfl (.some rfl) (val_assign rfl) ?_
  refine vl_nil ?_
  refine vc_seq ?_
  refine vc_seq ?_
  refine vc_region ?_
  refine vl_val rfl (.some rfl) (by first | exact val_fieldAddr Tryd.runUnderlying51 rfl Tryd.sizeOf3 rfl | exact val_fieldAddrR Tryd.runUnderlying51 rfl Tryd.sizeOf3 rfl) ?_
  refine vl_val rfl (.some rfl) (val_load Tryd.isAgg3 rfl (by first | exact cell_cells (by repeat constructor) rfl | exact cell_rd (by first | exact rd_sl (by repeat constructor) | exact rd_old (by assumption) rfl) (by first | exact bcells_at (by omega) | exact ucells_at (by omega) | exact icells_at (by omega) | exact tcells_at (by omega) | exact bcells_get (by omega) | exact icells_get (by omega) | exact tcells_get (by omega) | exact ucells_get (by omega)) | exact cell_old (by assumption) (by simp [fps]))) ?_
  refine vl_val rfl (.some rfl) (val_move rfl) ?_
  refine vl_val rfl (.some rfl) (val_shr rfl rfl (by decide) (show _ = n / 9223372036854775808 by rw [shr_lit 9223372036854775808 rfl (by decide)])) ?_
  refine vl_val rfl (.some rfl) (val_ne rfl rfl) ?_
  refine vl_nil ?_
  refine vc_cond rfl (fun hc0 => ?_) (fun hc0 => ?_)
  · (try replace hc0 := of_decide_eq_true hc0)
    refine vc_seq ?_
    refine vc_region ?_
    refine vl_val rfl (.some rfl) (val_assign rfl) ?_
    refine vl_val rfl (.some rfl) (val_assign rfl) ?_
    refine vl_nil ?_
    refine vc_ret ?_
    refine ⟨_, [], _, res2 Tryd.results17 rfl rfl, .nil, ?_⟩
    show _ = _
    have hno : ¬ inI x := fun h => by have := hfi.2 h; contradiction
    rw [if_neg hno, decide_eq_false hno]
  · (try replace hc0 := of_decide_eq_false hc0)
    refine vc_skip ?_
    refine vc_seq ?_
    refine vc_region ?_
    refine vl_val rfl (.some rfl) (val_move rfl) ?_
    refine vl_val rfl (.some rfl) (val_assign rfl) ?_
    refine vl_val rfl (.some rfl) (val_assign rfl) ?_
    refine vl_nil ?_
    refine vc_ret ?_
    refine ⟨_, [], _, res2 Tryd.results17 rfl rfl, .nil, ?_⟩
    show _ = _
    have hno : inI x := hfi.1 (by simpa using hc0)
    rw [if_pos hno, decide_eq_true hno, hnx hno]




theorem hP_nat (n : Nat) (h : n < 340282366920938463463374607431768211456) : hP (n : Int) = ((n / 18446744073709551616 : Nat) : Int) := by unfold hP; omega
theorem lW_nat (n : Nat) : lW (n : Int) = ((n % 18446744073709551616 : Nat) : Int) := by unfold lW; omega
theorem trim_step {q : List UInt8} (h : 0 < q.length) (hc : ((bt (sL q) (Int.toNat 0) : Nat) : Int) = 48) : (q.drop 1).dropWhile (· == 48) = q.dropWhile (· == 48) := by
  cases q with
  | nil => simp at h
  | cons x t =>
    rw [show Int.toNat 0 = 0 from rfl, bt_sL] at hc
    have : x = 48 := UInt8.toNat_inj.1 (show x.toNat = 48 by simp at hc; omega)
    simp [this]
theorem trim_stop {q : List UInt8} (h : 0 < q.length) (hc : ¬ ((bt (sL q) (Int.toNat 0) : Nat) : Int) = 48) : q.dropWhile (· == 48) = q := by
  cases q with
  | nil => simp at h
  | cons x t =>
    rw [show Int.toNat 0 = 0 from rfl, bt_sL] at hc
    have : ¬ x = 48 := fun e => hc (by rw [e]; rfl)
    simp [this]
theorem trim_nil {q : List UInt8} (h : ¬ ((sL q).size : Int) > 0) : q.dropWhile (· == 48) = q := by
  rw [sL_size] at h
  rw [List.length_eq_zero_iff.1 (show q.length = 0 by omega)]; rfl
theorem pre_yes {l : List UInt8} (h : ((sL l).size : Int) ≥ ((sL [45]).size : Int)) : decide (sL (l.take 1) = sL [45]) = isNeg l := by
  rw [sL_size, sL_size] at h
  unfold isNeg
  cases l with
  | nil => simp at h
  | cons x t =>
    by_cases e : x = 45
    · subst e; simp
    · rw [decide_eq_false (fun c => e (by simpa using sL_inj.1 c))]; simp [e]
theorem pre_no {l : List UInt8} (h : ¬ ((sL l).size : Int) ≥ ((sL [45]).size : Int)) : false = isNeg l := by
  rw [sL_size, sL_size] at h
  rw [List.length_eq_zero_iff.1 (show l.length = 0 by simp at h; omega)]; rfl
theorem dig_set {n i : Nat} (h : i < 40) : laid (bcells (List.replicate (40 - i) 0 ++ digs i n)) (0 + Int.toNat ((39 - i : Nat) : Int) * 1) (Value.cells (.int .u8 (((dg (n / 10 ^ i % 10)).toNat : Nat) : Int))).toList = bcells (List.replicate (40 - (i + 1)) 0 ++ digs (i + 1) n) := by
  have e := laid_map (g := fun b : UInt8 => Value.int .u8 b.toNat) (l := List.replicate (40 - i) 0 ++ digs i n) (i := 0 + Int.toNat ((39 - i : Nat) : Int) * 1) (j := 39 - i) (v := .int .u8 (((dg (n / 10 ^ i % 10)).toNat : Nat) : Int)) (x := dg (n / 10 ^ i % 10)) (by omega) (by rw [List.length_append, List.length_replicate]; omega) rfl
  refine e.trans ?_
  rw [show 40 - i = (39 - i) + 1 by omega, set_rep, digs_high, show 40 - (i + 1) = 39 - i by omega]
  rfl
theorem prN_e {n : Nat} (h : n < 10 ^ 40) (hd : decF 40 n = []) : prN n = [48] := by
  have : n = 0 := Classical.byContradiction fun c => decF_some h c hd
  rw [this]; rfl
theorem prN_ne {n : Nat} (hd : decF 40 n ≠ []) : prN n = decF 40 n := by
  unfold prN
  exact if_neg fun c => hd (by rw [c]; exact decF_zero 40)
theorem pV_small {d : Nat} (h : d < 18446744073709551616) : pV (d : Int) = .agg #[.int .u64 0, .int .u64 (d : Int)] := by
  have h1 : hP (d : Int) = 0 := by unfold hP; omega
  have h2 : lW (d : Int) = d := by unfold lW; omega
  unfold pV; rw [h1, h2]
theorem par_len {l q : List UInt8} (hq : rest1 l = q) (h : q.length = 0 ∨ 39 < q.length) : parO l = none := parO_none fun x hx e => by
  have := rest_prL hx
  rw [e, hq] at this
  omega
theorem par_dig {l q : List UInt8} {i : Nat} (hq : rest1 l = q) (hi : i < q.length) (h : (q.getD i 0).toNat < 48 ∨ 57 < (q.getD i 0).toNat) : parO l = none := parO_none fun x hx e => by
  have := (rest_prL hx).2.2
  rw [e, hq] at this
  have := this (q.getD i 0) (by simp [List.getD, hi])
  omega
theorem sval_neg {l q : List UInt8} (hq : rest1 l = q) (h : isNeg l = true) : (0 : Int) - ((dval q : Nat) : Int) = sval l := by unfold sval; rw [if_pos h, hq]; omega
theorem sval_pos {l q : List UInt8} (hq : rest1 l = q) (h : ¬ isNeg l = true) : ((dval q : Nat) : Int) = sval l := by unfold sval; rw [if_neg h, hq]
set_option maxRecDepth 20000 in
theorem wTenth (n : Nat) (hn : n < 340282366920938463463374607431768211456) (w : World) : FnV Tryd.prog 63 [.agg #[.int .u64 ((n / 18446744073709551616 : Nat) : Int), .int .u64 ((n % 18446744073709551616 : Nat) : Int)]] (.tuple #[.agg #[.int .u64 ((n / 10 / 18446744073709551616 : Nat) : Int), .int .u64 ((n / 10 % 18446744073709551616 : Nat) : Int)], .int .u8 ((n % 10 : Nat) : Int)]) w := by
  refine fn_enter Tryd.func63 rfl Tryd.ntmps63 rfl ?_
  refine vc_seq ?_
  refine vc_region ?_
  refine vl_box rfl rfl (.some rfl) rfl (fun r1 => ?_)
  refine vl_alloc rfl rfl (.some rfl) Tryd.zeroValue70 (fun r2 => ?_)
  refine vl_val rfl (.some rfl) (val_assign rfl) ?_
  refine vl_nil ?_
  refine vc_seq ?_
  refine vc_region ?_
  refine vl_val rfl (.some rfl) (by first | exact val_fieldAddr Tryd.runUnderlying70 rfl Tryd.sizeOf49 rfl | exact val_fieldAddrR Tryd.runUnderlying70 rfl Tryd.sizeOf49 rfl) ?_
  refine vl_val rfl (.some rfl) (val_load Tryd.isAgg49 rfl (by first | exact cell_cells (by repeat constructor) rfl | exact cell_rd (by first | exact rd_sl (by repeat constructor) | exact rd_old (by assumption) rfl) (by first | exact bcells_at (by omega) | exact ucells_at (by omega) | exact icells_at (by omega) | exact tcells_at (by omega) | exact bcells_get (by omega) | exact icells_get (by omega) | exact tcells_get (by omega) | exact ucells_get (by omega)) | exact cell_old (by assumption) (by simp [fps]))) ?_
  refine vl_callV rfl rfl (.some rfl) Tryd.call73 rfl (fun w hw => bDiv64 0 (n / 18446744073709551616) 10 (by omega) (by omega) (by omega) w) ?_
  rw [show (0 * 18446744073709551616 + n / 18446744073709551616) / 10 = n / 10 / 18446744073709551616 by omega, show (0 * 18446744073709551616 + n / 18446744073709551616) % 10 = n / 18446744073709551616 % 10 by omega]
  refine vl_val rfl (.some rfl) (val_move rfl) ?_
  refine vl_val rfl (.some rfl) (val_extract rfl rfl) ?_
  refine vl_val rfl (.some rfl) (val_extract rfl rfl) ?_
  refine vl_val rfl (.some rfl) (val_assign rfl) ?_
  refine vl_val rfl (.some rfl) (val_assign rfl) ?_
  refine vl_nil ?_
  refine vc_seq ?_
  refine vc_region ?_
  refine vl_val rfl (.some rfl) (val_move rfl) ?_
  refine vl_val rfl (.some rfl) (by first | exact val_fieldAddr Tryd.runUnderlying70 rfl Tryd.sizeOf49 rfl | exact val_fieldAddrR Tryd.runUnderlying70 rfl Tryd.sizeOf49 rfl) ?_
  refine vl_val rfl (.some rfl) (val_load Tryd.isAgg49 rfl (by first | exact cell_cells (by repeat constructor) rfl | exact cell_rd (by first | exact rd_sl (by repeat constructor) | exact rd_old (by assumption) rfl) (by first | exact bcells_at (by omega) | exact ucells_at (by omega) | exact icells_at (by omega) | exact tcells_at (by omega) | exact bcells_get (by omega) | exact icells_get (by omega) | exact tcells_get (by omega) | exact ucells_get (by omega)) | exact cell_old (by assumption) (by simp [fps]))) ?_
  refine vl_callV rfl rfl (.some rfl) Tryd.call73 rfl (fun w hw => bDiv64 (n / 18446744073709551616 % 10) (n % 18446744073709551616) 10 (by omega) (by omega) (by omega) w) ?_
  rw [show (n / 18446744073709551616 % 10 * 18446744073709551616 + n % 18446744073709551616) / 10 = n / 10 % 18446744073709551616 by omega, show (n / 18446744073709551616 % 10 * 18446744073709551616 + n % 18446744073709551616) % 10 = n % 10 by omega]
  refine vl_val rfl (.some rfl) (val_move rfl) ?_
  refine vl_val rfl (.some rfl) (val_extract rfl rfl) ?_
  refine vl_val rfl (.some rfl) (val_extract rfl rfl) ?_
  refine vl_val rfl (.some rfl) (val_assign rfl) ?_
  refine vl_val rfl (.some rfl) (val_assign rfl) ?_
  refine vl_nil ?_
  refine vc_seq ?_
  refine vc_region ?_
  refine vl_val rfl (.some rfl) (val_move rfl) ?_
  refine vl_val rfl (.some rfl) (val_move rfl) ?_
  refine vl_val rfl (.some rfl) (val_buildSt (pl := #[(0, 1), (1, 1)]) (cs := #[.int .u64 (((n / 10 / 18446744073709551616 : Nat) : Int)), .int .u64 (((n / 10 % 18446744073709551616 : Nat) : Int))]) Tryd.runUnderlying70 Tryd.zeroValue70 (fun w => by kernel_rfl) rfl rfl) ?_
  refine vl_val rfl (.some rfl) (val_move rfl) ?_
  refine vl_val rfl (.some rfl) (val_convInt Tryd.runUnderlying49 Tryd.runUnderlying5 rfl (show _ = ((n % 10 : Nat) : Int) by unfold IntKind.wrap; simp [IntKind.signed, IntKind.bits]; omega)) ?_
  first | refine vl_store rfl rfl .none rfl rfl Tryd.sizeOf70 rfl (by repeat constructor) (by first | decide | exact Nat.le_refl _ | exact Nat.le_of_ble_eq_true rfl | (simp; omega)) ?_ | refine vl_storeSl rfl rfl .none rfl rfl Tryd.sizeOf70 rfl (by simp [Value.cells]) (by repeat constructor) (by first | decide | (simp [Value.cells]; omega)) ?_
  refine vl_val rfl (.some rfl) (val_assign rfl) ?_
  refine vl_nil ?_
  refine vc_ret ?_
  refine ⟨_, [], _, resC2 Tryd.results63 rfl (whole_agg Tryd.isAgg70 Tryd.sizeOf70 (cells_whole (by repeat constructor)) rfl) rfl, .nil, ?_⟩
  rfl
set_option maxRecDepth 20000 in
theorem sTrimB (l : List UInt8) (w : World) : FnV Tryd.prog 74 [.string (sL l), .int .u8 48] (.string (sL (l.dropWhile (· == 48)))) w := by
  refine fn_enter Tryd.func74 rfl Tryd.ntmps74 rfl ?_
  refine vc_seq ?_
  refine vc_region ?_
  refine vl_val rfl (.some rfl) (val_assign rfl) ?_
  refine vl_nil ?_
  refine vc_seq ?_
  refine vc_block ?_
  refine vc_loopw (fun m E H => ∃ q : List UInt8, m = q.length ∧ q.dropWhile (· == 48) = l.dropWhile (· == 48) ∧ E = [(0, .string (sL q)), (1, .int .u8 48)] ∧ H = []) (l.length) ⟨_, _, _, ⟨l, rfl, rfl, rfl, rfl⟩, (by repeat (first | exact trivial | refine ⟨rfl, ?_⟩ | refine ⟨le_item rfl (by first | rfl | (congr 1; omega) | (simp; done) | (simp; omega)), ?_⟩)), (by repeat constructor)⟩ ?_
  intro m E H hI
  obtain ⟨q, rfl, hq, rfl, rfl⟩ := hI
  refine vc_seq ?_
  refine vc_seq ?_
  refine vc_region ?_
  refine vl_val rfl (.some rfl) (val_move rfl) ?_
  refine vl_val rfl (.some rfl) (val_lenStr Tryd.runUnderlying9 rfl) ?_
  refine vl_val rfl (.some rfl) (val_gt rfl rfl) ?_
  refine vl_val rfl (.some rfl) (val_move rfl) ?_
  refine vl_split (t := 8) rfl (fun hg8 => ?_) (fun hg8 => ?_)
  · (try replace hg8 := of_decide_eq_true hg8)
    have hln : 0 < q.length := by rw [sL_size] at hg8; omega
    refine vl_on rfl rfl rfl rfl ?_
    refine vl_val rfl (.some rfl) (val_move rfl) ?_
    refine vl_on rfl rfl rfl rfl ?_
    refine vl_val rfl (.some rfl) (val_indexStr Tryd.runUnderlying9 rfl rfl (by omega) (by rw [sL_size]; omega)) ?_
    refine vl_on rfl rfl rfl rfl ?_
    refine vl_val rfl (.some rfl) (val_move rfl) ?_
    refine vl_on rfl rfl rfl rfl ?_
    refine vl_val rfl (.some rfl) (val_eq rfl rfl) ?_
    refine vl_val rfl (.some rfl) (val_pick rfl rfl) ?_
    refine vl_nil ?_
    refine vc_cond rfl (fun hc0 => ?_) (fun hc0 => ?_)
    · (try replace hc0 := of_decide_eq_true hc0)
      
      refine vc_skip ?_
      refine vc_block ?_
      refine vc_region ?_
      refine vl_val rfl (.some rfl) (val_move rfl) ?_
      refine vl_val rfl (.some rfl) (val_cutStrFrom Tryd.runUnderlying9 rfl rfl (by omega) (by rw [sL_size]; omega)) ?_
      rw [sL_cut, sL_size, List.take_length, show Int.toNat 1 = 1 from rfl]
      refine vl_val rfl (.some rfl) (val_assign rfl) ?_
      refine vl_nil ?_
      exact ⟨(q.drop 1).length, _, _, _, by rw [List.length_drop]; omega, (by repeat (first | exact trivial | refine ⟨rfl, ?_⟩ | refine ⟨le_item rfl (by first | rfl | (congr 1; omega) | (simp; done) | (simp; omega)), ?_⟩)), (by repeat constructor), ⟨q.drop 1, rfl, by rw [← hq, trim_step hln (by assumption)], rfl, rfl⟩⟩
    · (try replace hc0 := of_decide_eq_false hc0)
      
      refine vc_exit ?_
      refine vc_seq ?_
      refine vc_region ?_
      refine vl_val rfl (.some rfl) (val_move rfl) ?_
      refine vl_val rfl (.some rfl) (val_assign rfl) ?_
      refine vl_nil ?_
      refine vc_ret ?_
      refine ⟨_, [], _, res1 Tryd.results74 rfl, .nil, ?_⟩
      show Value.string _ = Value.string _
      rw [← hq]
      first | rw [trim_stop (by assumption) (by assumption)] | rw [trim_nil (by assumption)]
  · (try replace hg8 := of_decide_eq_false hg8)
    refine vl_off rfl rfl rfl rfl (.some rfl) ?_
    refine vl_off rfl rfl rfl rfl (.some rfl) ?_
    refine vl_off rfl rfl rfl rfl (.some rfl) ?_
    refine vl_off rfl rfl rfl rfl (.some rfl) ?_
    refine vl_val rfl (.some rfl) (val_pick rfl rfl) ?_
    refine vl_nil ?_
    refine vc_cond rfl (fun h => by cases h) (fun _ => ?_)
    refine vc_exit ?_
    refine vc_seq ?_
    refine vc_region ?_
    refine vl_val rfl (.some rfl) (val_move rfl) ?_
    refine vl_val rfl (.some rfl) (val_assign rfl) ?_
    refine vl_nil ?_
    refine vc_ret ?_
    refine ⟨_, [], _, res1 Tryd.results74 rfl, .nil, ?_⟩
    show Value.string _ = Value.string _
    rw [← hq]
    first | rw [trim_stop (by assumption) (by assumption)] | rw [trim_nil (by assumption)]
set_option maxRecDepth 20000 in
theorem sTrim (l : List UInt8) (w : World) : FnV Tryd.prog 64 [.string (sL l), .string (sL [48])] (.string (sL (l.dropWhile (· == 48)))) w := by
  refine fn_enter Tryd.func64 rfl Tryd.ntmps64 rfl ?_
  refine vc_seq ?_
  refine vc_region ?_
  refine vl_val rfl (.some rfl) (val_assign rfl) ?_
  refine vl_nil ?_
  refine vc_seq ?_
  refine vc_seq ?_
  refine vc_region ?_
  refine vl_val rfl (.some rfl) (val_move rfl) ?_
  refine vl_val rfl (.some rfl) (val_seq rfl rfl) ?_
  refine vl_val rfl (.some rfl) (val_move rfl) ?_
  refine vl_split (t := 9) rfl (fun hg9 => ?_) (fun hg9 => ?_)
  · (try replace hg9 := of_decide_eq_true hg9)
    refine vl_off rfl rfl rfl rfl (.some rfl) ?_
    refine vl_off rfl rfl rfl rfl (.some rfl) ?_
    refine vl_val rfl (.some rfl) (val_pick rfl rfl) ?_
    refine vl_nil ?_
    refine vc_cond rfl (fun _ => ?_) (fun h => by cases h)
    refine vc_seq ?_
    refine vc_region ?_
    refine vl_val rfl (.some rfl) (val_move rfl) ?_
    refine vl_val rfl (.some rfl) (val_assign rfl) ?_
    refine vl_nil ?_
    refine vc_ret ?_
    refine ⟨_, [], _, res1 Tryd.results64 rfl, .nil, ?_⟩
    show Value.string _ = Value.string _
    rw [show l = [] from sL_inj.1 hg9]
    rfl
  · (try replace hg9 := of_decide_eq_false hg9)
    refine vl_on rfl rfl rfl rfl ?_
    refine vl_val rfl (.some rfl) (val_move rfl) ?_
    refine vl_on rfl rfl rfl rfl ?_
    refine vl_val rfl (.some rfl) (val_seq rfl rfl) ?_
    refine vl_val rfl (.some rfl) (val_pick rfl rfl) ?_
    refine vl_nil ?_
    refine vc_cond rfl (fun hc0 => False.elim (by (try replace hc0 := of_decide_eq_true hc0); revert hc0; decide)) (fun hc0 => ?_)
    (try replace hc0 := of_decide_eq_false hc0)
    refine vc_skip ?_
    refine vc_seq ?_
    refine vc_seq ?_
    refine vc_region ?_
    refine vl_val rfl (.some rfl) (val_move rfl) ?_
    refine vl_val rfl (.some rfl) (val_lenStr Tryd.runUnderlying9 rfl) ?_
    refine vl_val rfl (.some rfl) (val_eq rfl rfl) ?_
    refine vl_val rfl (.some rfl) (val_move rfl) ?_
    refine vl_split (t := 17) rfl (fun hg17 => ?_) (fun hg17 => ?_)
    · (try replace hg17 := of_decide_eq_true hg17)
      refine vl_on rfl rfl rfl rfl ?_
      refine vl_val rfl (.some rfl) (val_move rfl) ?_
      refine vl_on rfl rfl rfl rfl ?_
      refine vl_val rfl (.some rfl) (val_indexStr Tryd.runUnderlying9 rfl rfl (by decide) (by decide)) ?_
      refine vl_on rfl rfl rfl rfl ?_
      refine vl_val rfl (.some rfl) (val_lt rfl rfl) ?_
      refine vl_val rfl (.some rfl) (val_pick rfl rfl) ?_
      refine vl_nil ?_
      refine vc_cond rfl (fun hc1 => ?_) (fun hc1 => False.elim (by (try replace hc1 := of_decide_eq_false hc1); revert hc1; decide))
      (try replace hc1 := of_decide_eq_true hc1)
      refine vc_seq ?_
      refine vc_region ?_
      refine vl_val rfl (.some rfl) (val_move rfl) ?_
      refine vl_val rfl (.some rfl) (val_move rfl) ?_
      refine vl_val rfl (.some rfl) (val_indexStr Tryd.runUnderlying9 rfl rfl (by decide) (by decide)) ?_
      refine vl_callV rfl rfl (.some rfl) Tryd.call74 rfl (fun w hw => sTrimB l w) ?_
      refine vl_val rfl (.some rfl) (val_assign rfl) ?_
      refine vl_nil ?_
      refine vc_ret ?_
      refine ⟨_, [], _, res1 Tryd.results64 rfl, .nil, ?_⟩
      rfl
    · (try replace hg17 := of_decide_eq_false hg17)
      exfalso
      revert hg17; decide
set_option maxRecDepth 20000 in
theorem sHasP (l : List UInt8) (w : World) : FnV Tryd.prog 62 [.string (sL l), .string (sL [45])] (.bool (isNeg l)) w := by
  refine fn_enter Tryd.func62 rfl Tryd.ntmps62 rfl ?_
  refine vc_seq ?_
  refine vc_region ?_
  refine vl_val rfl (.some rfl) (val_assign rfl) ?_
  refine vl_nil ?_
  refine vc_seq ?_
  refine vc_region ?_
  refine vl_val rfl (.some rfl) (val_move rfl) ?_
  refine vl_val rfl (.some rfl) (val_lenStr Tryd.runUnderlying9 rfl) ?_
  refine vl_val rfl (.some rfl) (val_move rfl) ?_
  refine vl_val rfl (.some rfl) (val_lenStr Tryd.runUnderlying9 rfl) ?_
  refine vl_val rfl (.some rfl) (val_ge rfl rfl) ?_
  refine vl_val rfl (.some rfl) (val_move rfl) ?_
  refine vl_split (t := 10) rfl (fun hg10 => ?_) (fun hg10 => ?_)
  · (try replace hg10 := of_decide_eq_true hg10)
    refine vl_on rfl rfl rfl rfl ?_
    refine vl_val rfl (.some rfl) (val_move rfl) ?_
    refine vl_on rfl rfl rfl rfl ?_
    refine vl_val rfl (.some rfl) (val_move rfl) ?_
    refine vl_on rfl rfl rfl rfl ?_
    refine vl_val rfl (.some rfl) (val_lenStr Tryd.runUnderlying9 rfl) ?_
    refine vl_on rfl rfl rfl rfl ?_
    refine vl_val rfl (.some rfl) (val_cutStrTo Tryd.runUnderlying9 rfl rfl (by omega) (by omega)) ?_
    rw [sL_cut, show Int.toNat ((sL [45]).size : Int) = 1 from rfl, List.drop_zero]
    refine vl_on rfl rfl rfl rfl ?_
    refine vl_val rfl (.some rfl) (val_move rfl) ?_
    refine vl_on rfl rfl rfl rfl ?_
    refine vl_val rfl (.some rfl) (val_seq rfl rfl) ?_
    refine vl_val rfl (.some rfl) (val_pick rfl rfl) ?_
    refine vl_val rfl (.some rfl) (val_assign rfl) ?_
    refine vl_nil ?_
    refine vc_ret ?_
    refine ⟨_, [], _, res1 Tryd.results62 rfl, .nil, ?_⟩
    show Value.bool _ = Value.bool _
    first | rw [pre_yes hg10] | rw [← pre_no hg10]
  · (try replace hg10 := of_decide_eq_false hg10)
    refine vl_off rfl rfl rfl rfl (.some rfl) ?_
    refine vl_off rfl rfl rfl rfl (.some rfl) ?_
    refine vl_off rfl rfl rfl rfl (.some rfl) ?_
    refine vl_off rfl rfl rfl rfl (.some rfl) ?_
    refine vl_off rfl rfl rfl rfl (.some rfl) ?_
    refine vl_off rfl rfl rfl rfl (.some rfl) ?_
    refine vl_val rfl (.some rfl) (val_pick rfl rfl) ?_
    refine vl_val rfl (.some rfl) (val_assign rfl) ?_
    refine vl_nil ?_
    refine vc_ret ?_
    refine ⟨_, [], _, res1 Tryd.results62 rfl, .nil, ?_⟩
    show Value.bool _ = Value.bool _
    first | rw [pre_yes hg10] | rw [← pre_no hg10]
set_option maxRecDepth 20000 in
theorem sCutP0 (l : List UInt8) (w : World) : FnV Tryd.prog 46 [.string (sL l), .string (sL [45])] (.tuple #[.string (sL (rest1 l)), .bool (isNeg l)]) w := by
  refine fn_enter Tryd.func46 rfl Tryd.ntmps46 rfl ?_
  refine vc_seq ?_
  refine vc_region ?_
  refine vl_val rfl (.some rfl) (val_assign rfl) ?_
  refine vl_val rfl (.some rfl) (val_assign rfl) ?_
  refine vl_nil ?_
  refine vc_seq ?_
  refine vc_seq ?_
  refine vc_region ?_
  refine vl_val rfl (.some rfl) (val_move rfl) ?_
  refine vl_val rfl (.some rfl) (val_move rfl) ?_
  refine vl_callV rfl rfl (.some rfl) Tryd.call62 rfl (fun w hw => sHasP l w) ?_
  refine vl_val rfl (.some rfl) (val_not rfl) ?_
  refine vl_nil ?_
  refine vc_cond rfl (fun hc0 => ?_) (fun hc0 => ?_)
  · (try replace hc0 := of_decide_eq_true hc0)
    have hn : ¬ isNeg l = true := by simpa using hc0
    refine vc_seq ?_
    refine vc_region ?_
    refine vl_val rfl (.some rfl) (val_move rfl) ?_
    refine vl_val rfl (.some rfl) (val_assign rfl) ?_
    refine vl_val rfl (.some rfl) (val_assign rfl) ?_
    refine vl_nil ?_
    refine vc_ret ?_
    refine ⟨_, [], _, res2 Tryd.results46 rfl rfl, .nil, ?_⟩
    show _ = _
    rw [rest1, if_neg hn, show isNeg l = false by simpa using hn]
  · (try replace hc0 := of_decide_eq_false hc0)
    have hn : isNeg l = true := by simpa using hc0
    have hll : 0 < l.length := by cases l with | nil => cases hn | cons a b => simp
    refine vc_skip ?_
    refine vc_seq ?_
    refine vc_region ?_
    refine vl_val rfl (.some rfl) (val_move rfl) ?_
    refine vl_val rfl (.some rfl) (val_move rfl) ?_
    refine vl_val rfl (.some rfl) (val_lenStr Tryd.runUnderlying9 rfl) ?_
    refine vl_val rfl (.some rfl) (val_cutStrFrom Tryd.runUnderlying9 rfl rfl (by omega) (by rw [sL_size, sL_size]; simp; omega)) ?_
    rw [sL_cut, show Int.toNat ((sL [45]).size : Int) = 1 from rfl, sL_size, List.take_length, List.drop_one]
    refine vl_val rfl (.some rfl) (val_assign rfl) ?_
    refine vl_val rfl (.some rfl) (val_assign rfl) ?_
    refine vl_nil ?_
    refine vc_ret ?_
    refine ⟨_, [], _, res2 Tryd.results46 rfl rfl, .nil, ?_⟩
    show _ = _
    rw [rest1, if_pos hn, hn]
set_option maxRecDepth 20000 in
theorem sCutP (l : List UInt8) (w : World) : FnV Tryd.prog 31 [.string (sL l), .string (sL [45])] (.tuple #[.string (sL (rest1 l)), .bool (isNeg l)]) w := by
  refine fn_enter Tryd.func31 rfl Tryd.ntmps31 rfl ?_
  refine vc_seq ?_
  refine vc_region ?_
  refine vl_val rfl (.some rfl) (val_assign rfl) ?_
  refine vl_val rfl (.some rfl) (val_assign rfl) ?_
  refine vl_nil ?_
  refine vc_seq ?_
  refine vc_region ?_
  refine vl_val rfl (.some rfl) (val_move rfl) ?_
  refine vl_val rfl (.some rfl) (val_move rfl) ?_
  refine vl_callV rfl rfl (.some rfl) Tryd.call46 rfl (fun w hw => sCutP0 l w) ?_
  refine vl_val rfl (.some rfl) (val_extract rfl rfl) ?_
  refine vl_val rfl (.some rfl) (val_extract rfl rfl) ?_
  refine vl_val rfl (.some rfl) (val_assign rfl) ?_
  refine vl_val rfl (.some rfl) (val_assign rfl) ?_
  refine vl_nil ?_
  refine vc_ret ?_
  refine ⟨_, [], _, res2 Tryd.results31 rfl rfl, .nil, ?_⟩
  rfl
set_option maxRecDepth 20000 in
set_option maxHeartbeats 1000000 in
theorem wDigits (n : Nat) (hn : n < 340282366920938463463374607431768211456) (w : World) : FnV Tryd.prog 51 [.agg #[.int .u64 ((n / 18446744073709551616 : Nat) : Int), .int .u64 ((n % 18446744073709551616 : Nat) : Int)]] (.string (sL (prN n))) w := by
  have h40 : n < 10 ^ 40 := Nat.lt_of_lt_of_le hn (by decide)
  refine fn_enter Tryd.func51 rfl Tryd.ntmps51 rfl ?_
  refine vc_seq ?_
  refine vc_region ?_
  refine vl_box rfl rfl (.some rfl) rfl (fun r1 => ?_)
  refine vl_val rfl (.some rfl) (val_assign rfl) ?_
  refine vl_nil ?_
  refine vc_seq ?_
  refine vc_region ?_
  refine vl_alloc rfl rfl (.some rfl) Tryd.zeroValue98 (fun r3 => ?_)
  refine vl_nil ?_
  refine vc_seq ?_
  refine vc_seq ?_
  refine vc_region ?_
  refine vl_val rfl (.some rfl) (val_move rfl) ?_
  refine vl_nil ?_
  refine vc_block ?_
  rw [show n / 18446744073709551616 = n / 10 ^ 0 / 18446744073709551616 by rw [Nat.pow_zero, Nat.div_one], show n % 18446744073709551616 = n / 10 ^ 0 % 18446744073709551616 by rw [Nat.pow_zero, Nat.div_one]]
  refine vc_loopw (fun m E H => ∃ i : Nat, i ≤ 40 ∧ m = 40 - i ∧ E = [(1, .pointer (some ⟨r1, 0, none⟩)), (3, .pointer (some ⟨r3, 0, none⟩)), (7, .int .i64 i)] ∧ H = [cells r1 [.int .u64 ((n / 10 ^ i / 18446744073709551616 : Nat) : Int), .int .u64 ((n / 10 ^ i % 18446744073709551616 : Nat) : Int)] 70, cells r3 (bcells (List.replicate (40 - i) 0 ++ digs i n)) 98]) (40) ⟨_, _, _, ⟨0, by omega, rfl, rfl, rfl⟩, (by repeat (first | exact trivial | refine ⟨rfl, ?_⟩ | refine ⟨le_item rfl (by first | rfl | (congr 1; omega) | (simp; done) | (simp; omega)), ?_⟩)), (by repeat constructor)⟩ ?_
  intro m E H hI
  obtain ⟨i, hi, rfl, rfl, rfl⟩ := hI
  refine vc_seq ?_
  refine vc_region ?_
  refine vl_val rfl (.some rfl) (val_lt rfl rfl) ?_
  refine vl_nil ?_
  refine vc_seq ?_
  refine vc_cond rfl (fun hc0 => ?_) (fun hc0 => ?_)
  · (try replace hc0 := of_decide_eq_true hc0)
    refine vc_skip ?_
    refine vc_seq ?_
    refine vc_block ?_
    refine vc_seq ?_
    refine vc_region ?_
    refine vl_val rfl (.some rfl) (val_move rfl) ?_
    refine vl_val rfl (.some rfl) (val_assign rfl) ?_
    refine vl_nil ?_
    refine vc_seq ?_
    refine vc_region ?_
    refine vl_val rfl (.some rfl) (val_assign rfl) ?_
    refine vl_nil ?_
    refine vc_seq ?_
    refine vc_region ?_
    refine vl_val rfl (.some rfl) (val_loadAgg Tryd.isAgg70 Tryd.sizeOf70 rfl (by first | exact cells_whole (by repeat constructor) | exact cells_part (by repeat constructor) rfl) rfl) ?_
    have hdl := Nat.div_le_self n (10 ^ i)
    refine vl_callV rfl rfl (.some rfl) Tryd.call63 rfl (fun w hw => wTenth (n / 10 ^ i) (by omega) w) ?_
    rw [show n / 10 ^ i / 10 = n / 10 ^ (i + 1) by rw [Nat.div_div_eq_div_mul, Nat.pow_succ]]
    refine vl_val rfl (.some rfl) (val_move rfl) ?_
    refine vl_val rfl (.some rfl) (val_extract rfl rfl) ?_
    refine vl_val rfl (.some rfl) (val_extract rfl rfl) ?_
    first | refine vl_store rfl rfl .none rfl rfl Tryd.sizeOf70 rfl (by repeat constructor) (by first | decide | exact Nat.le_refl _ | exact Nat.le_of_ble_eq_true rfl | (simp; omega)) ?_ | refine vl_storeSl rfl rfl .none rfl rfl Tryd.sizeOf70 rfl (by simp [Value.cells]) (by repeat constructor) (by first | decide | (simp [Value.cells]; omega)) ?_
    refine vl_val rfl (.some rfl) (val_assign rfl) ?_
    refine vl_nil ?_
    refine vc_region ?_
    refine vl_val rfl (.some rfl) (val_move rfl) ?_
    refine vl_val rfl (.some rfl) (val_sub rfl rfl (show _ = ((39 - i : Nat) : Int) by rw [w_i64 (by omega) (by omega)]; omega)) ?_
    refine vl_val rfl (.some rfl) (val_move rfl) ?_
    refine vl_val rfl (.some rfl) (val_add rfl rfl (show _ = (((dg (n / 10 ^ i % 10)).toNat : Nat) : Int) by rw [dg_nat (by omega)]; unfold IntKind.wrap; simp [IntKind.signed, IntKind.bits]; omega)) ?_
    refine vl_val rfl (.some rfl) (val_indexAddrArr Tryd.runUnderlying98 Tryd.sizeOf5 rfl rfl (by omega) (by omega)) ?_
    refine vl_store (vs := bcells (List.replicate (40 - i) 0 ++ digs i n)) rfl rfl .none rfl rfl Tryd.sizeOf5 rfl (by repeat constructor) (by rw [bcells_length, List.length_append, List.length_replicate, digs_len]; show 0 + Int.toNat ((39 - i : Nat) : Int) * 1 + 1 ≤ _; omega) ?_
    rw [dig_set (by omega)]
    refine vl_nil ?_
    refine vc_region ?_
    refine vl_val rfl (.some rfl) (val_add rfl rfl (by first | exact w_i64 (by omega) (by omega) | rfl)) ?_
    refine vl_val rfl (.some rfl) (val_move rfl) ?_
    refine vl_nil ?_
    exact ⟨(40 - (i + 1)), _, _, _, by omega, (by repeat (first | exact trivial | refine ⟨rfl, ?_⟩ | refine ⟨le_item rfl (by first | rfl | (congr 1; omega) | (simp; done) | (simp; omega)), ?_⟩)), (by repeat constructor), ⟨i + 1, by omega, rfl, rfl, rfl⟩⟩
  · (try replace hc0 := of_decide_eq_false hc0)
    refine vc_exit ?_
    refine vc_seq ?_
    refine vc_region ?_
    obtain rfl : i = 40 := by omega
    rw [Nat.sub_self, List.replicate_zero, List.nil_append]
    refine vl_val rfl (.some rfl) (val_cutArrAll Tryd.runUnderlying98 Tryd.sizeOf5 rfl (by decide)) ?_
    refine vl_val rfl (.some rfl) (val_bytesToStr (l := digs 40 n) Tryd.runUnderlying33 Tryd.runUnderlying5 Tryd.runUnderlying9 rfl (rd_cells (vs := bcells (digs 40 n)) (by repeat constructor)) (digs_len 40 n)) ?_
    refine vl_callV rfl rfl (.some rfl) Tryd.call64 rfl (fun w hw => sTrim (digs 40 n) w) ?_
    rw [trim_digs h40]
    refine vl_val rfl (.some rfl) (val_assign rfl) ?_
    refine vl_nil ?_
    refine vc_seq ?_
    refine vc_seq ?_
    refine vc_region ?_
    refine vl_val rfl (.some rfl) (val_move rfl) ?_
    refine vl_val rfl (.some rfl) (val_seq rfl rfl) ?_
    refine vl_nil ?_
    refine vc_cond rfl (fun hc1 => ?_) (fun hc1 => ?_)
    · (try replace hc1 := of_decide_eq_true hc1)
      refine vc_seq ?_
      refine vc_region ?_
      refine vl_val rfl (.some rfl) (val_assign rfl) ?_
      refine vl_nil ?_
      refine vc_ret ?_
      refine ⟨_, [], _, res1 Tryd.results51 rfl, .nil, ?_⟩
      show Value.string _ = Value.string _
      rw [prN_e h40 ((sL_inj (b := [])).1 (by assumption))]
    · (try replace hc1 := of_decide_eq_false hc1)
      refine vc_skip ?_
      refine vc_seq ?_
      refine vc_region ?_
      refine vl_val rfl (.some rfl) (val_move rfl) ?_
      refine vl_val rfl (.some rfl) (val_assign rfl) ?_
      refine vl_nil ?_
      refine vc_ret ?_
      refine ⟨_, [], _, res1 Tryd.results51 rfl, .nil, ?_⟩
      show Value.string _ = Value.string _
      rw [prN_ne (fun e => (show ¬ sL (decF 40 n) = sL [] by assumption) (by rw [e]))]
set_option maxRecDepth 20000 in
theorem wPrint (x : Int) (hx : inW x) (w : World) : FnV Tryd.prog 35 [wV x] (.string (sL (prL x))) w := by
  have hnl := inW_nat hx
  have hxb := hx
  unfold inW at hxb
  refine fn_enter Tryd.func35 rfl Tryd.ntmps35 rfl ?_
  refine vc_seq ?_
  refine vc_region ?_
  refine vl_box rfl rfl (.some rfl) rfl (fun r1 => ?_)
  refine vl_val rfl (.some rfl) (val_assign rfl) ?_
  refine vl_nil ?_
  refine vc_seq ?_
  refine vc_region ?_
  refine vl_val rfl (.some rfl) (val_loadAgg Tryd.isAgg51 Tryd.sizeOf51 rfl (by first | exact cells_whole (by repeat constructor) | exact cells_part (by repeat constructor) rfl) rfl) ?_
  refine vl_callV rfl rfl (.some rfl) Tryd.call49 rfl (fun w hw => wHalves _ w) ?_
  refine vl_alloc rfl rfl (.some rfl) Tryd.zeroValue70 (fun r3 => ?_)
  first | refine vl_store rfl rfl .none rfl rfl Tryd.sizeOf70 rfl (by repeat constructor) (by first | decide | exact Nat.le_refl _ | exact Nat.le_of_ble_eq_true rfl | (simp; omega)) ?_ | refine vl_storeSl rfl rfl .none rfl rfl Tryd.sizeOf70 rfl (by simp [Value.cells]) (by repeat constructor) (by first | decide | (simp [Value.cells]; omega)) ?_
  refine vl_nil ?_
  refine vc_seq ?_
  refine vc_seq ?_
  refine vc_region ?_
  refine vl_val rfl (.some rfl) (val_loadAgg Tryd.isAgg70 Tryd.sizeOf70 rfl (by first | exact cells_whole (by repeat constructor) | exact cells_part (by repeat constructor) rfl) rfl) ?_
  refine vl_callV rfl rfl (.some rfl) Tryd.call50 rfl (fun w hw => wBelow _ w) ?_
  refine vl_nil ?_
  refine vc_cond rfl (fun hc0 => ?_) (fun hc0 => ?_)
  · (try replace hc0 := of_decide_eq_true hc0)
    have hneg : x < 0 := (neg_in hx).1 (by simpa using hc0)
    have hpl := prN_len hnl.1 (by decide) (by decide)
    refine vc_seq ?_
    refine vc_region ?_
    refine vl_val rfl (.some rfl) (val_buildSt (pl := #[(0, 1), (1, 1)]) (cs := #[.int .u64 (hP 0), .int .u64 (lW 0)]) Tryd.runUnderlying70 Tryd.zeroValue70 (fun w => by kernel_rfl) rfl rfl) ?_
    refine vl_val rfl (.some rfl) (val_loadAgg Tryd.isAgg70 Tryd.sizeOf70 rfl (by first | exact cells_whole (by repeat constructor) | exact cells_part (by repeat constructor) rfl) rfl) ?_
    refine vl_callV rfl rfl (.some rfl) Tryd.call34 rfl (fun w hw => wMinus 0 x w) ?_
    refine vl_callV rfl rfl (.some rfl) Tryd.call51 rfl (fun w hw => by have h := wDigits (-x).toNat (by omega) w; rw [← hP_nat (-x).toNat (by omega), ← lW_nat, show (((-x).toNat : Nat) : Int) = 0 - x by omega] at h; exact h) ?_
    refine vl_val rfl (.some rfl) (val_cat (s := sL [45]) rfl rfl (by rw [sL_size, sL_size, List.length_singleton]; omega)) ?_
    rw [sL_cat]
    refine vl_val rfl (.some rfl) (val_assign rfl) ?_
    refine vl_nil ?_
    refine vc_ret ?_
    refine ⟨_, [], _, res1 Tryd.results35 rfl, .nil, ?_⟩
    show Value.string _ = Value.string _
    rw [prL_neg hneg]
    rfl
  · (try replace hc0 := of_decide_eq_false hc0)
    have hneg : ¬ x < 0 := fun h => (show ¬ hW x < 0 by simpa using hc0) ((neg_in hx).2 h)
    refine vc_skip ?_
    refine vc_seq ?_
    refine vc_region ?_
    refine vl_val rfl (.some rfl) (val_loadAgg Tryd.isAgg70 Tryd.sizeOf70 rfl (by first | exact cells_whole (by repeat constructor) | exact cells_part (by repeat constructor) rfl) rfl) ?_
    refine vl_callV rfl rfl (.some rfl) Tryd.call51 rfl (fun w hw => by have h := wDigits x.toNat (by omega) w; rw [← hP_nat x.toNat (by omega), ← lW_nat, show ((x.toNat : Nat) : Int) = x by omega] at h; exact h) ?_
    refine vl_val rfl (.some rfl) (val_assign rfl) ?_
    refine vl_nil ?_
    refine vc_ret ?_
    refine ⟨_, [], _, res1 Tryd.results35 rfl, .nil, ?_⟩
    show Value.string _ = Value.string _
    rw [prL_pos hneg]




theorem hi10 (v : Nat) : (hP (v : Int) * 10 % 18446744073709551616 + ((v % 18446744073709551616 * 10 / 18446744073709551616 : Nat) : Int)) % 18446744073709551616 = hP (10 * (v : Int)) := by
  have e1 : (10 * (v : Int)) / 18446744073709551616 = 10 * ((v : Int) / 18446744073709551616) + ((v % 18446744073709551616 * 10 / 18446744073709551616 : Nat) : Int) := by omega
  unfold hP; rw [e1]; omega
theorem w8 {x : Int} (h : 0 ≤ x) (h2 : x < 256) : IntKind.u8.wrap x = x := by unfold IntKind.wrap; simp [IntKind.signed, IntKind.bits]; omega

set_option maxRecDepth 20000 in
set_option maxHeartbeats 2000000 in
theorem wParse (l : List UInt8) (hlb : l.length < 9223372036854775808) (w : World) : FnV Tryd.prog 16 [.string (sL l)] (.tuple #[wV ((parO l).getD 0), .bool (parO l).isSome]) w := by
  obtain ⟨q, hq⟩ : ∃ q, rest1 l = q := ⟨_, rfl⟩
  have hsz := sL_size q
  refine fn_enter Tryd.func16 rfl Tryd.ntmps16 rfl ?_
  refine vc_seq ?_
  refine vc_region ?_
  refine vl_alloc rfl rfl (.some rfl) Tryd.zeroValue51 (fun r2 => ?_)
  refine vl_val rfl (.some rfl) (val_assign rfl) ?_
  refine vl_nil ?_
  refine vc_seq ?_
  refine vc_region ?_
  refine vl_val rfl (.some rfl) (val_move rfl) ?_
  refine vl_callV rfl rfl (.some rfl) Tryd.call31 rfl (fun w hw => sCutP l w) ?_
  rw [hq]
  refine vl_val rfl (.some rfl) (val_move rfl) ?_
  refine vl_val rfl (.some rfl) (val_extract rfl rfl) ?_
  refine vl_val rfl (.some rfl) (val_extract rfl rfl) ?_
  refine vl_val rfl (.some rfl) (val_assign rfl) ?_
  refine vl_val rfl (.some rfl) (val_assign rfl) ?_
  refine vl_nil ?_
  refine vc_seq ?_
  refine vc_seq ?_
  refine vc_region ?_
  refine vl_val rfl (.some rfl) (val_move rfl) ?_
  refine vl_val rfl (.some rfl) (val_seq rfl rfl) ?_
  refine vl_val rfl (.some rfl) (val_move rfl) ?_
  refine vl_split (t := 17) rfl (fun hg17 => ?_) (fun hg17 => ?_)
  · (try replace hg17 := of_decide_eq_true hg17)
    have hq0 : q.length = 0 := by have := (sL_inj (b := [])).1 hg17; rw [this]; rfl
    refine vl_off rfl rfl rfl rfl (.some rfl) ?_
    refine vl_off rfl rfl rfl rfl (.some rfl) ?_
    refine vl_off rfl rfl rfl rfl (.some rfl) ?_
    refine vl_val rfl (.some rfl) (val_pick rfl rfl) ?_
    refine vl_nil ?_
    refine vc_cond rfl (fun _ => ?_) (fun h => by cases h)
    refine vc_seq ?_
    refine vc_region ?_
    refine vl_val rfl (.some rfl) (val_buildSt (pl := #[(0, 1), (1, 1)]) (cs := #[.int .i64 (0), .int .u64 (0)]) Tryd.runUnderlying51 Tryd.zeroValue51 (fun w => by kernel_rfl) rfl rfl) ?_
    first | refine vl_store rfl rfl .none rfl rfl Tryd.sizeOf51 rfl (by repeat constructor) (by first | decide | exact Nat.le_refl _ | exact Nat.le_of_ble_eq_true rfl | (simp; omega)) ?_ | refine vl_storeSl rfl rfl .none rfl rfl Tryd.sizeOf51 rfl (by simp [Value.cells]) (by repeat constructor) (by first | decide | (simp [Value.cells]; omega)) ?_
    refine vl_val rfl (.some rfl) (val_assign rfl) ?_
    refine vl_nil ?_
    refine vc_ret ?_
    refine ⟨_, [], _, resC2 Tryd.results16 rfl (whole_agg Tryd.isAgg51 Tryd.sizeOf51 (cells_whole (by repeat constructor)) rfl) rfl, .nil, ?_⟩
    show _ = _
    first | rw [par_len hq (.inl hq0)] | rw [par_len hq (.inr hq39)]
    rfl
  · (try replace hg17 := of_decide_eq_false hg17)
    refine vl_on rfl rfl rfl rfl ?_
    refine vl_val rfl (.some rfl) (val_move rfl) ?_
    refine vl_on rfl rfl rfl rfl ?_
    refine vl_val rfl (.some rfl) (val_lenStr Tryd.runUnderlying9 rfl) ?_
    refine vl_on rfl rfl rfl rfl ?_
    refine vl_val rfl (.some rfl) (val_gt rfl rfl) ?_
    refine vl_val rfl (.some rfl) (val_pick rfl rfl) ?_
    refine vl_nil ?_
    refine vc_cond rfl (fun hc0 => ?_) (fun hc0 => ?_)
    · (try replace hc0 := of_decide_eq_true hc0)
      have hq39 : 39 < q.length := by omega
      refine vc_seq ?_
      refine vc_region ?_
      refine vl_val rfl (.some rfl) (val_buildSt (pl := #[(0, 1), (1, 1)]) (cs := #[.int .i64 (0), .int .u64 (0)]) Tryd.runUnderlying51 Tryd.zeroValue51 (fun w => by kernel_rfl) rfl rfl) ?_
      first | refine vl_store rfl rfl .none rfl rfl Tryd.sizeOf51 rfl (by repeat constructor) (by first | decide | exact Nat.le_refl _ | exact Nat.le_of_ble_eq_true rfl | (simp; omega)) ?_ | refine vl_storeSl rfl rfl .none rfl rfl Tryd.sizeOf51 rfl (by simp [Value.cells]) (by repeat constructor) (by first | decide | (simp [Value.cells]; omega)) ?_
      refine vl_val rfl (.some rfl) (val_assign rfl) ?_
      refine vl_nil ?_
      refine vc_ret ?_
      refine ⟨_, [], _, resC2 Tryd.results16 rfl (whole_agg Tryd.isAgg51 Tryd.sizeOf51 (cells_whole (by repeat constructor)) rfl) rfl, .nil, ?_⟩
      show _ = _
      first | rw [par_len hq (.inl hq0)] | rw [par_len hq (.inr hq39)]
      rfl
    · (try replace hc0 := of_decide_eq_false hc0)
      refine vc_skip ?_
      refine vc_seq ?_
      refine vc_region ?_
      refine vl_alloc rfl rfl (.some rfl) Tryd.zeroValue70 (fun r6 => ?_)
      refine vl_nil ?_
      refine vc_seq ?_
      refine vc_seq ?_
      refine vc_region ?_
      refine vl_val rfl (.some rfl) (val_move rfl) ?_
      refine vl_val rfl (.some rfl) (val_lenStr Tryd.runUnderlying9 rfl) ?_
      refine vl_val rfl (.some rfl) (val_move rfl) ?_
      refine vl_nil ?_
      refine vc_block ?_
      refine vc_loopw (fun m E H => ∃ i v : Nat, i ≤ q.length ∧ m = q.length - i ∧ dval (q.take i) = v ∧ E = [(0, .string (sL l)), (2, .pointer (some ⟨r2, 0, none⟩)), (4, .string (sL q)), (5, .bool (isNeg l)), (6, .pointer (some ⟨r6, 0, none⟩)), (24, .int .i64 (sL q).size), (25, .int .i64 i)] ∧ H = [cells r2 [.int .i64 0, .int .u64 0] 51, cells r6 [.int .u64 (hP (v : Int)), .int .u64 (lW (v : Int))] 70]) (q.length) ⟨_, _, _, ⟨0, 0, by omega, rfl, rfl, rfl, rfl⟩, (by repeat (first | exact trivial | refine ⟨rfl, ?_⟩ | refine ⟨le_item rfl (by first | rfl | (congr 1; omega) | (simp; done) | (simp; omega)), ?_⟩)), (by repeat constructor)⟩ ?_
      intro m E H hI
      obtain ⟨i, v, hi, rfl, hv, rfl, rfl⟩ := hI
      refine vc_seq ?_
      refine vc_region ?_
      refine vl_val rfl (.some rfl) (val_lt rfl rfl) ?_
      refine vl_nil ?_
      refine vc_seq ?_
      refine vc_cond rfl (fun hc1 => ?_) (fun hc1 => ?_)
      · (try replace hc1 := of_decide_eq_true hc1)
        have hbt : bt (sL q) (Int.toNat (i : Int)) = (q.getD i 0).toNat := by rw [Int.toNat_natCast, bt_sL]
        obtain ⟨dd, hdd⟩ : ∃ dd, (q.getD i 0).toNat - 48 = dd := ⟨_, rfl⟩
        have hd256 := (q.getD i 0).toNat_lt
        refine vc_skip ?_
        refine vc_seq ?_
        refine vc_block ?_
        refine vc_seq ?_
        refine vc_region ?_
        refine vl_val rfl (.some rfl) (val_move rfl) ?_
        refine vl_val rfl (.some rfl) (val_assign rfl) ?_
        refine vl_nil ?_
        refine vc_seq ?_
        refine vc_seq ?_
        refine vc_region ?_
        refine vl_val rfl (.some rfl) (val_move rfl) ?_
        refine vl_val rfl (.some rfl) (val_move rfl) ?_
        refine vl_val rfl (.some rfl) (val_indexStr Tryd.runUnderlying9 rfl rfl (by omega) (by first | omega | (simp; omega))) ?_
        refine vl_val rfl (.some rfl) (val_lt rfl rfl) ?_
        refine vl_val rfl (.some rfl) (val_move rfl) ?_
        refine vl_split (t := 32) rfl (fun hg32 => ?_) (fun hg32 => ?_)
        · (try replace hg32 := of_decide_eq_true hg32)
          have hd1 : (q.getD i 0).toNat < 48 := by omega
          refine vl_off rfl rfl rfl rfl (.some rfl) ?_
          refine vl_off rfl rfl rfl rfl (.some rfl) ?_
          refine vl_off rfl rfl rfl rfl (.some rfl) ?_
          refine vl_off rfl rfl rfl rfl (.some rfl) ?_
          refine vl_val rfl (.some rfl) (val_pick rfl rfl) ?_
          refine vl_nil ?_
          refine vc_cond rfl (fun _ => ?_) (fun h => by cases h)
          refine vc_seq ?_
          refine vc_region ?_
          refine vl_val rfl (.some rfl) (val_buildSt (pl := #[(0, 1), (1, 1)]) (cs := #[.int .i64 (0), .int .u64 (0)]) Tryd.runUnderlying51 Tryd.zeroValue51 (fun w => by kernel_rfl) rfl rfl) ?_
          first | refine vl_store rfl rfl .none rfl rfl Tryd.sizeOf51 rfl (by repeat constructor) (by first | decide | exact Nat.le_refl _ | exact Nat.le_of_ble_eq_true rfl | (simp; omega)) ?_ | refine vl_storeSl rfl rfl .none rfl rfl Tryd.sizeOf51 rfl (by simp [Value.cells]) (by repeat constructor) (by first | decide | (simp [Value.cells]; omega)) ?_
          refine vl_val rfl (.some rfl) (val_assign rfl) ?_
          refine vl_nil ?_
          refine vc_ret ?_
          refine ⟨_, [], _, resC2 Tryd.results16 rfl (whole_agg Tryd.isAgg51 Tryd.sizeOf51 (cells_whole (by repeat constructor)) rfl) rfl, .nil, ?_⟩
          show _ = _
          rw [par_dig (i := i) hq (by omega) (by omega)]
          rfl
        · (try replace hg32 := of_decide_eq_false hg32)
          have hd1 : ¬ (q.getD i 0).toNat < 48 := by omega
          refine vl_on rfl rfl rfl rfl ?_
          refine vl_val rfl (.some rfl) (val_move rfl) ?_
          refine vl_on rfl rfl rfl rfl ?_
          refine vl_val rfl (.some rfl) (val_move rfl) ?_
          refine vl_on rfl rfl rfl rfl ?_
          refine vl_val rfl (.some rfl) (val_indexStr Tryd.runUnderlying9 rfl rfl (by omega) (by first | omega | (simp; omega))) ?_
          refine vl_on rfl rfl rfl rfl ?_
          refine vl_val rfl (.some rfl) (val_gt rfl rfl) ?_
          refine vl_val rfl (.some rfl) (val_pick rfl rfl) ?_
          refine vl_nil ?_
          refine vc_cond rfl (fun hc2 => ?_) (fun hc2 => ?_)
          · (try replace hc2 := of_decide_eq_true hc2)
            refine vc_seq ?_
            refine vc_region ?_
            refine vl_val rfl (.some rfl) (val_buildSt (pl := #[(0, 1), (1, 1)]) (cs := #[.int .i64 (0), .int .u64 (0)]) Tryd.runUnderlying51 Tryd.zeroValue51 (fun w => by kernel_rfl) rfl rfl) ?_
            first | refine vl_store rfl rfl .none rfl rfl Tryd.sizeOf51 rfl (by repeat constructor) (by first | decide | exact Nat.le_refl _ | exact Nat.le_of_ble_eq_true rfl | (simp; omega)) ?_ | refine vl_storeSl rfl rfl .none rfl rfl Tryd.sizeOf51 rfl (by simp [Value.cells]) (by repeat constructor) (by first | decide | (simp [Value.cells]; omega)) ?_
            refine vl_val rfl (.some rfl) (val_assign rfl) ?_
            refine vl_nil ?_
            refine vc_ret ?_
            refine ⟨_, [], _, resC2 Tryd.results16 rfl (whole_agg Tryd.isAgg51 Tryd.sizeOf51 (cells_whole (by repeat constructor)) rfl) rfl, .nil, ?_⟩
            show _ = _
            rw [par_dig (i := i) hq (by omega) (by omega)]
            rfl
          · (try replace hc2 := of_decide_eq_false hc2)
            refine vc_skip ?_
            refine vc_seq ?_
            refine vc_region ?_
            refine vl_val rfl (.some rfl) (by first | exact val_fieldAddr Tryd.runUnderlying70 rfl Tryd.sizeOf49 rfl | exact val_fieldAddrR Tryd.runUnderlying70 rfl Tryd.sizeOf49 rfl) ?_
            refine vl_val rfl (.some rfl) (val_load Tryd.isAgg49 rfl (by first | exact cell_cells (by repeat constructor) rfl | exact cell_rd (by first | exact rd_sl (by repeat constructor) | exact rd_old (by assumption) rfl) (by first | exact bcells_at (by omega) | exact ucells_at (by omega) | exact icells_at (by omega) | exact tcells_at (by omega) | exact bcells_get (by omega) | exact icells_get (by omega) | exact tcells_get (by omega) | exact ucells_get (by omega)) | exact cell_old (by assumption) (by simp [fps]))) ?_
            refine vl_callV rfl rfl (.some rfl) Tryd.call32 rfl (fun w hw => by have h := bMul64 (v % 18446744073709551616) 10 (by omega) (by decide) w; rw [← lW_nat v] at h; exact h) ?_
            rw [show ((v % 18446744073709551616 * 10 % 18446744073709551616 : Nat) : Int) = lW (10 * (v : Int)) by unfold lW; omega]
            refine vl_val rfl (.some rfl) (val_move rfl) ?_
            refine vl_val rfl (.some rfl) (val_extract rfl rfl) ?_
            refine vl_val rfl (.some rfl) (val_extract rfl rfl) ?_
            refine vl_val rfl (.some rfl) (val_assign rfl) ?_
            refine vl_val rfl (.some rfl) (val_assign rfl) ?_
            refine vl_nil ?_
            refine vc_drawsS [0, 1, 2, 3, 4, 5, 6, 7, 8, 9, 10, 11, 12] [14] [0, 1, 2, 3, 4, 5, 6, 7, 8, 9, 10, 11, 12, 13, 14] [cells r6 [.int .u64 (hP (v : Int)), .int .u64 (lW (v : Int))] 70] (by repeat constructor) rfl (by kernel_rfl) (fun _ _ _ h => h) ?_
            refine vd_val rfl rfl rfl (.some rfl) (by first | exact val_fieldAddr Tryd.runUnderlying70 rfl Tryd.sizeOf49 rfl | exact val_fieldAddrR Tryd.runUnderlying70 rfl Tryd.sizeOf49 rfl) ?_
            refine vd_val rfl rfl rfl (.some rfl) (val_load Tryd.isAgg49 rfl (by first | exact cell_cells (by repeat constructor) rfl | exact cell_rd (by first | exact rd_sl (by repeat constructor) | exact rd_old (by assumption) rfl) (by first | exact bcells_at (by omega) | exact ucells_at (by omega) | exact icells_at (by omega) | exact tcells_at (by omega) | exact bcells_get (by omega) | exact icells_get (by omega) | exact tcells_get (by omega) | exact ucells_get (by omega)) | exact cell_old (by assumption) (by simp [fps]))) ?_
            refine vd_val rfl rfl rfl (.some rfl) (val_mul rfl rfl (show _ = hP (v : Int) * 10 % 18446744073709551616 by rw [w_mod64])) ?_
            refine vd_val rfl rfl rfl (.some rfl) (val_move rfl) ?_
            refine vd_val rfl rfl rfl (.some rfl) (val_add rfl rfl (show _ = hP (10 * (v : Int)) by rw [w_mod64, hi10])) ?_
            refine vd_val rfl rfl rfl (.some rfl) (val_move rfl) ?_
            refine vd_val rfl rfl rfl (.some rfl) (val_buildSt (pl := #[(0, 1), (1, 1)]) (cs := #[.int .u64 (hP (10 * (v : Int))), .int .u64 (lW (10 * (v : Int)))]) Tryd.runUnderlying70 Tryd.zeroValue70 (fun w => by kernel_rfl) rfl rfl) ?_
            refine vd_val rfl rfl rfl (.some rfl) (val_move rfl) ?_
            refine vd_val rfl rfl rfl (.some rfl) (val_move rfl) ?_
            refine vd_val rfl rfl rfl (.some rfl) (val_indexStr Tryd.runUnderlying9 rfl rfl (by omega) (by first | omega | (simp; omega))) ?_
            refine vd_val rfl rfl rfl (.some rfl) (val_sub rfl rfl (show _ = ((dd : Nat) : Int) by rw [hbt, w8 (by omega) (by omega)]; omega)) ?_
            refine vd_val rfl rfl rfl (.some rfl) (val_convInt Tryd.runUnderlying5 Tryd.runUnderlying49 rfl (show _ = ((dd : Nat) : Int) by rw [w_u64 (by omega) (by omega)])) ?_
            refine vd_val rfl rfl rfl (.some rfl) (val_buildSt (pl := #[(0, 1), (1, 1)]) (cs := #[.int .u64 (0), .int .u64 (((dd : Nat) : Int))]) Tryd.runUnderlying70 Tryd.zeroValue70 (fun w => by kernel_rfl) rfl rfl) ?_
            refine vd_op rfl rfl ?_
            refine vl_callV rfl rfl (.some rfl) Tryd.call33 rfl (fun w hw => by have h := wPlus (10 * (v : Int)) (dd : Int) w; rw [pV_small (show dd < 18446744073709551616 by omega)] at h; exact h) ?_
            rw [show 10 * (v : Int) + (dd : Int) = ((dval (q.take (i + 1)) : Nat) : Int) by rw [dval_take (show i < q.length by omega), hv, hdd]; omega]
            refine vl_nil ?_
            refine ⟨fun _ => ⟨_, (by repeat (first | exact .nil | exact sub_self _ | exact sub_skip (sub_self _) | exact sub_skip (sub_skip (sub_self _)) | exact sub_skip (sub_skip (sub_skip (sub_self _))) | (apply Sub.cons; · repeat (first | exact .head | apply Take.tail))))⟩, ?_⟩
            refine vd_op rfl rfl ?_
            first | refine vl_store rfl rfl .none rfl rfl Tryd.sizeOf70 rfl (by repeat constructor) (by first | decide | exact Nat.le_refl _ | exact Nat.le_of_ble_eq_true rfl | (simp; omega)) ?_ | refine vl_storeSl rfl rfl .none rfl rfl Tryd.sizeOf70 rfl (by simp [Value.cells]) (by repeat constructor) (by first | decide | (simp [Value.cells]; omega)) ?_
            refine vl_nil ?_
            refine ⟨fun h => (by cases h), ?_⟩
            refine vd_nil ?_
            refine vc_region ?_
            refine vl_val rfl (.some rfl) (val_add rfl rfl (by first | exact w_i64 (by omega) (by omega) | rfl)) ?_
            refine vl_val rfl (.some rfl) (val_move rfl) ?_
            refine vl_nil ?_
            exact ⟨(q.length - (i + 1)), _, _, _, by omega, (by repeat (first | exact trivial | refine ⟨rfl, ?_⟩ | refine ⟨le_item rfl (by first | rfl | (congr 1; omega) | (simp; done) | (simp; omega)), ?_⟩)), (by repeat constructor), ⟨i + 1, _, by omega, rfl, rfl, rfl, rfl⟩⟩
      · (try replace hc1 := of_decide_eq_false hc1)
        refine vc_exit ?_
        refine vc_seq ?_
        refine vc_seq ?_
        refine vc_region ?_
        obtain rfl : i = q.length := by omega
        rw [List.take_length] at hv
        subst hv
        refine vl_val rfl (.some rfl) (val_move rfl) ?_
        refine vl_nil ?_
        refine vc_cond rfl (fun hc3 => ?_) (fun hc3 => ?_)
        · (try replace hc3 := of_decide_eq_true hc3)
          
          refine vc_region ?_
          refine vl_val rfl (.some rfl) (val_buildSt (pl := #[(0, 1), (1, 1)]) (cs := #[.int .u64 (hP 0), .int .u64 (lW 0)]) Tryd.runUnderlying70 Tryd.zeroValue70 (fun w => by kernel_rfl) rfl rfl) ?_
          refine vl_val rfl (.some rfl) (val_loadAgg Tryd.isAgg70 Tryd.sizeOf70 rfl (by first | exact cells_whole (by repeat constructor) | exact cells_part (by repeat constructor) rfl) rfl) ?_
          refine vl_callV rfl rfl (.some rfl) Tryd.call34 rfl (fun w hw => wMinus 0 (dval q : Nat) w) ?_
          rw [sval_neg hq (by simpa using hc3)]
          first | refine vl_store rfl rfl .none rfl rfl Tryd.sizeOf70 rfl (by repeat constructor) (by first | decide | exact Nat.le_refl _ | exact Nat.le_of_ble_eq_true rfl | (simp; omega)) ?_ | refine vl_storeSl rfl rfl .none rfl rfl Tryd.sizeOf70 rfl (by simp [Value.cells]) (by repeat constructor) (by first | decide | (simp [Value.cells]; omega)) ?_
          refine vl_nil ?_
          refine vc_seq ?_
          refine vc_seq ?_
          refine vc_region ?_
          refine vl_val rfl (.some rfl) (val_loadAgg Tryd.isAgg70 Tryd.sizeOf70 rfl (by first | exact cells_whole (by repeat constructor) | exact cells_part (by repeat constructor) rfl) rfl) ?_
          refine vl_callV rfl rfl (.some rfl) Tryd.call36 rfl (fun w hw => wWide (sval l) w) ?_
          refine vl_callV rfl rfl (.some rfl) Tryd.call35 rfl (fun w hw => by have h := wPrint (smW (sval l)) (smW_in _) w; rw [smW_is] at h; exact h) ?_
          refine vl_val rfl (.some rfl) (val_move rfl) ?_
          refine vl_val rfl (.some rfl) (val_sne rfl rfl) ?_
          refine vl_nil ?_
          refine vc_cond rfl (fun hc4 => ?_) (fun hc4 => ?_)
          · (try replace hc4 := of_decide_eq_true hc4)
            refine vc_seq ?_
            refine vc_region ?_
            refine vl_val rfl (.some rfl) (val_buildSt (pl := #[(0, 1), (1, 1)]) (cs := #[.int .i64 (0), .int .u64 (0)]) Tryd.runUnderlying51 Tryd.zeroValue51 (fun w => by kernel_rfl) rfl rfl) ?_
            first | refine vl_store rfl rfl .none rfl rfl Tryd.sizeOf51 rfl (by repeat constructor) (by first | decide | exact Nat.le_refl _ | exact Nat.le_of_ble_eq_true rfl | (simp; omega)) ?_ | refine vl_storeSl rfl rfl .none rfl rfl Tryd.sizeOf51 rfl (by simp [Value.cells]) (by repeat constructor) (by first | decide | (simp [Value.cells]; omega)) ?_
            refine vl_val rfl (.some rfl) (val_assign rfl) ?_
            refine vl_nil ?_
            refine vc_ret ?_
            refine ⟨_, [], _, resC2 Tryd.results16 rfl (whole_agg Tryd.isAgg51 Tryd.sizeOf51 (cells_whole (by repeat constructor)) rfl) rfl, .nil, ?_⟩
            show _ = _
            rw [par_no (fun e => (show ¬ sL (prL (smW (sval l))) = sL l by simpa using hc4) (by rw [e]))]
            rfl
          · (try replace hc4 := of_decide_eq_false hc4)
            refine vc_skip ?_
            refine vc_seq ?_
            refine vc_region ?_
            refine vl_val rfl (.some rfl) (val_loadAgg Tryd.isAgg70 Tryd.sizeOf70 rfl (by first | exact cells_whole (by repeat constructor) | exact cells_part (by repeat constructor) rfl) rfl) ?_
            refine vl_callV rfl rfl (.some rfl) Tryd.call36 rfl (fun w hw => wWide (sval l) w) ?_
            first | refine vl_store rfl rfl .none rfl rfl Tryd.sizeOf51 rfl (by repeat constructor) (by first | decide | exact Nat.le_refl _ | exact Nat.le_of_ble_eq_true rfl | (simp; omega)) ?_ | refine vl_storeSl rfl rfl .none rfl rfl Tryd.sizeOf51 rfl (by simp [Value.cells]) (by repeat constructor) (by first | decide | (simp [Value.cells]; omega)) ?_
            refine vl_val rfl (.some rfl) (val_assign rfl) ?_
            refine vl_nil ?_
            refine vc_ret ?_
            refine ⟨_, [], _, resC2 Tryd.results16 rfl (whole_agg Tryd.isAgg51 Tryd.sizeOf51 (cells_whole (by repeat constructor)) rfl) rfl, .nil, ?_⟩
            show _ = _
            obtain ⟨h1, h2⟩ := par_yes (l := l) (sL_inj.1 (by simpa using hc4))
            rw [h2]
            rfl
        · (try replace hc3 := of_decide_eq_false hc3)
          rw [show ((dval q : Nat) : Int) = sval l from sval_pos hq (by simpa using hc3)]
          refine vc_skip ?_
          refine vc_seq ?_
          refine vc_seq ?_
          refine vc_region ?_
          refine vl_val rfl (.some rfl) (val_loadAgg Tryd.isAgg70 Tryd.sizeOf70 rfl (by first | exact cells_whole (by repeat constructor) | exact cells_part (by repeat constructor) rfl) rfl) ?_
          refine vl_callV rfl rfl (.some rfl) Tryd.call36 rfl (fun w hw => wWide (sval l) w) ?_
          refine vl_callV rfl rfl (.some rfl) Tryd.call35 rfl (fun w hw => by have h := wPrint (smW (sval l)) (smW_in _) w; rw [smW_is] at h; exact h) ?_
          refine vl_val rfl (.some rfl) (val_move rfl) ?_
          refine vl_val rfl (.some rfl) (val_sne rfl rfl) ?_
          refine vl_nil ?_
          refine vc_cond rfl (fun hc4 => ?_) (fun hc4 => ?_)
          · (try replace hc4 := of_decide_eq_true hc4)
            refine vc_seq ?_
            refine vc_region ?_
            refine vl_val rfl (.some rfl) (val_buildSt (pl := #[(0, 1), (1, 1)]) (cs := #[.int .i64 (0), .int .u64 (0)]) Tryd.runUnderlying51 Tryd.zeroValue51 (fun w => by kernel_rfl) rfl rfl) ?_
            first | refine vl_store rfl rfl .none rfl rfl Tryd.sizeOf51 rfl (by repeat constructor) (by first | decide | exact Nat.le_refl _ | exact Nat.le_of_ble_eq_true rfl | (simp; omega)) ?_ | refine vl_storeSl rfl rfl .none rfl rfl Tryd.sizeOf51 rfl (by simp [Value.cells]) (by repeat constructor) (by first | decide | (simp [Value.cells]; omega)) ?_
            refine vl_val rfl (.some rfl) (val_assign rfl) ?_
            refine vl_nil ?_
            refine vc_ret ?_
            refine ⟨_, [], _, resC2 Tryd.results16 rfl (whole_agg Tryd.isAgg51 Tryd.sizeOf51 (cells_whole (by repeat constructor)) rfl) rfl, .nil, ?_⟩
            show _ = _
            rw [par_no (fun e => (show ¬ sL (prL (smW (sval l))) = sL l by simpa using hc4) (by rw [e]))]
            rfl
          · (try replace hc4 := of_decide_eq_false hc4)
            refine vc_skip ?_
            refine vc_seq ?_
            refine vc_region ?_
            refine vl_val rfl (.some rfl) (val_loadAgg Tryd.isAgg70 Tryd.sizeOf70 rfl (by first | exact cells_whole (by repeat constructor) | exact cells_part (by repeat constructor) rfl) rfl) ?_
            refine vl_callV rfl rfl (.some rfl) Tryd.call36 rfl (fun w hw => wWide (sval l) w) ?_
            first | refine vl_store rfl rfl .none rfl rfl Tryd.sizeOf51 rfl (by repeat constructor) (by first | decide | exact Nat.le_refl _ | exact Nat.le_of_ble_eq_true rfl | (simp; omega)) ?_ | refine vl_storeSl rfl rfl .none rfl rfl Tryd.sizeOf51 rfl (by simp [Value.cells]) (by repeat constructor) (by first | decide | (simp [Value.cells]; omega)) ?_
            refine vl_val rfl (.some rfl) (val_assign rfl) ?_
            refine vl_nil ?_
            refine vc_ret ?_
            refine ⟨_, [], _, resC2 Tryd.results16 rfl (whole_agg Tryd.isAgg51 Tryd.sizeOf51 (cells_whole (by repeat constructor)) rfl) rfl, .nil, ?_⟩
            show _ = _
            obtain ⟨h1, h2⟩ := par_yes (l := l) (sL_inj.1 (by simpa using hc4))
            rw [h2]
            rfl



theorem tobits_run (n : Nat) (w : World) : (callFunc 37 #[.float .f64 n]).run Tryd.prog w = .ok (.value (.int .u64 n)) w := by
  rw [run_callFunc_extern (e := Extern.MathFloatBits.float64bits) Tryd.func37 (by kernel_rfl) (by kernel_rfl) (by kernel_rfl) (by kernel_rfl)]; rfl
theorem idxb_run (s : ByteArray) (c : Int) (w : World) : (callFunc 65 #[.string s, .int .u8 c]).run Tryd.prog w = .ok (.value (.int .i64 (idxB s c))) w := by
  rw [run_callFunc_extern (e := Extern.BytealgIndexByte.indexByte) Tryd.func65 (by kernel_rfl) (by kernel_rfl) (by kernel_rfl) (by kernel_rfl)]
  have e : Extern.BytealgIndexByte.indexByte #[.string s, .int .u8 c] = (match (List.range s.size).find? fun i => s[i]! == UInt8.ofNat c.toNat with | some i => pure (goInt i) | none => pure (goInt (-1)) : Sem Value) := rfl
  rw [e]
  unfold idxB
  cases List.find? (fun i => s[i]! == UInt8.ofNat c.toNat) (List.range s.size) <;> rfl

set_option maxRecDepth 20000 in
theorem isInf (x : Nat) (hx : x < 18446744073709551616) (s : Int) (hs : s = 1 ∨ s = -1) (w : World) : FnV Tryd.prog 54 [.float .f64 x, .int .i64 s] (.bool (decide (x = if s = 1 then 9218868437227405312 else 18442240474082181120))) w := by
  refine fn_enter Tryd.func54 rfl Tryd.ntmps54 rfl ?_
  refine vc_seq ?_
  refine vc_region ?_
  refine vl_val rfl (.some rfl) (val_assign rfl) ?_
  refine vl_nil ?_
  refine vc_seq ?_
  refine vc_seq ?_
  refine vc_region ?_
  refine vl_val rfl (.some rfl) (val_move rfl) ?_
  refine vl_val rfl (.some rfl) (val_eq rfl rfl) ?_
  refine vl_nil ?_
  refine vc_cond rfl (fun hc0 => False.elim (by (try replace hc0 := of_decide_eq_true hc0); omega)) (fun hc0 => ?_)
  (try replace hc0 := of_decide_eq_false hc0)
  refine vc_seq ?_
  refine vc_region ?_
  refine vl_val rfl (.some rfl) (val_move rfl) ?_
  refine vl_val rfl (.some rfl) (val_lt rfl rfl) ?_
  refine vl_nil ?_
  refine vc_cond rfl (fun hc1 => ?_) (fun hc1 => ?_)
  · (try replace hc1 := of_decide_eq_true hc1)
    refine vc_region ?_
    refine vl_val rfl (.some rfl) (val_move rfl) ?_
    refine vl_val rfl (.some rfl) (val_fneg rfl) ?_
    refine vl_val rfl (.some rfl) (val_assign rfl) ?_
    refine vl_nil ?_
    refine vc_seq ?_
    refine vc_region ?_
    refine vl_val rfl (.some rfl) (val_move rfl) ?_
    refine vl_val rfl (.some rfl) (val_fgt rfl rfl) ?_
    refine vl_val rfl (.some rfl) (val_assign rfl) ?_
    refine vl_nil ?_
    refine vc_ret ?_
    refine ⟨_, [], _, res1 Tryd.results54 rfl, .nil, ?_⟩
    show _ = _; first | (rw [if_neg (by omega), inf_neg hx]; done) | (rw [if_pos (by omega), inf_pos hx]; done)
  · (try replace hc1 := of_decide_eq_false hc1)
    refine vc_skip ?_
    refine vc_seq ?_
    refine vc_region ?_
    refine vl_val rfl (.some rfl) (val_move rfl) ?_
    refine vl_val rfl (.some rfl) (val_fgt rfl rfl) ?_
    refine vl_val rfl (.some rfl) (val_assign rfl) ?_
    refine vl_nil ?_
    refine vc_ret ?_
    refine ⟨_, [], _, res1 Tryd.results54 rfl, .nil, ?_⟩
    show _ = _; first | (rw [if_neg (by omega), inf_neg hx]; done) | (rw [if_pos (by omega), inf_pos hx]; done)
set_option maxRecDepth 20000 in
set_option maxHeartbeats 1000000 in
theorem oPrint (n : Int) (w : World) : FnV Tryd.prog 40 [.int .i64 n] (.string (printS n)) w := by
  refine fn_enter Tryd.func40 rfl Tryd.ntmps40 rfl ?_
  refine vc_seq ?_
  refine vc_region ?_
  refine vl_val rfl (.some rfl) (val_assign rfl) ?_
  refine vl_nil ?_
  refine vc_seq ?_
  refine vc_region ?_
  refine vl_val rfl (.some rfl) (val_move rfl) ?_
  refine vl_callV rfl rfl (.some rfl) Tryd.call44 rfl (fun w hw => ofloat _ w) ?_
  refine vl_val rfl (.some rfl) (val_assign rfl) ?_
  refine vl_nil ?_
  refine vc_seq ?_
  refine vc_block ?_
  refine vc_seq ?_
  refine vc_region ?_
  refine vl_val rfl (.some rfl) (val_move rfl) ?_
  refine vl_val rfl (.some rfl) (val_move rfl) ?_
  refine vl_val rfl (.some rfl) (val_fne rfl rfl) ?_
  refine vl_val rfl (.some rfl) (val_assign rfl) ?_
  refine vl_nil ?_
  refine vc_cond rfl (fun hc0 => ?_) (fun hc0 => ?_)
  · (try replace hc0 := of_decide_eq_true hc0)
    rw [self_is] at hc0; replace hc0 := of_decide_eq_true hc0
    refine vc_seq ?_
    refine vc_region ?_
    refine vl_val rfl (.some rfl) (val_assign rfl) ?_
    refine vl_nil ?_
    refine vc_ret ?_
    refine ⟨_, [], _, res1 Tryd.results40 rfl, .nil, ?_⟩
    show _ = _; simp [printS, hc0]
  · (try replace hc0 := of_decide_eq_false hc0)
    rw [self_is] at hc0; replace hc0 := of_decide_eq_false hc0
    refine vc_seq ?_
    refine vc_region ?_
    refine vl_val rfl (.some rfl) (val_move rfl) ?_
    refine vl_callV rfl rfl (.some rfl) Tryd.call54 rfl (fun w hw => isInf _ (ub_lt _) _ (by decide) w) ?_
    refine vl_val rfl (.some rfl) (val_assign rfl) ?_
    refine vl_nil ?_
    refine vc_cond rfl (fun hc1 => ?_) (fun hc1 => ?_)
    · (try replace hc1 := of_decide_eq_true hc1)
      refine vc_seq ?_
      refine vc_region ?_
      refine vl_val rfl (.some rfl) (val_assign rfl) ?_
      refine vl_nil ?_
      refine vc_ret ?_
      refine ⟨_, [], _, res1 Tryd.results40 rfl, .nil, ?_⟩
      show _ = _; simp [printS, hc0, hc1]; decide
    · (try replace hc1 := of_decide_eq_false hc1)
      refine vc_seq ?_
      refine vc_region ?_
      refine vl_val rfl (.some rfl) (val_move rfl) ?_
      refine vl_callV rfl rfl (.some rfl) Tryd.call54 rfl (fun w hw => isInf _ (ub_lt _) _ (by decide) w) ?_
      refine vl_val rfl (.some rfl) (val_assign rfl) ?_
      refine vl_nil ?_
      refine vc_cond rfl (fun hc2 => ?_) (fun hc2 => ?_)
      · (try replace hc2 := of_decide_eq_true hc2)
        refine vc_seq ?_
        refine vc_region ?_
        refine vl_val rfl (.some rfl) (val_assign rfl) ?_
        refine vl_nil ?_
        refine vc_ret ?_
        refine ⟨_, [], _, res1 Tryd.results40 rfl, .nil, ?_⟩
        show _ = _; simp [printS, hc0, hc1, hc2]; decide
      · (try replace hc2 := of_decide_eq_false hc2)
        refine vc_skip ?_
        refine vc_seq ?_
        refine vc_region ?_
        refine vl_val rfl (.some rfl) (val_move rfl) ?_
        refine vl_callV rfl rfl (.some rfl) Tryd.call30 rfl (fun w hw => oCanon _ w) ?_
        refine vl_val rfl (.some rfl) (val_convInt Tryd.runUnderlying3 Tryd.runUnderlying49 rfl (ub_cast _)) ?_
        refine vl_val rfl (.some rfl) (val_assign rfl) ?_
        refine vl_nil ?_
        refine vc_seq ?_
        refine vc_region ?_
        refine vl_makeSlice sT33 rfl rfl (.some rfl) rfl rfl (by decide) (by decide) (by decide) (made_u8 _) (fun r22 => ?_)
        refine vl_val rfl (.some rfl) (val_assign rfl) ?_
        refine vl_nil ?_
        refine vc_seq ?_
        refine vc_seq ?_
        refine vc_region ?_
        refine vl_val rfl (.some rfl) (val_move rfl) ?_
        refine vl_val rfl (.some rfl) (val_lenSl Tryd.runUnderlying33 rfl) ?_
        refine vl_val rfl (.some rfl) (val_move rfl) ?_
        refine vl_nil ?_
        refine vc_block ?_
        rw [show bcells (List.replicate (Int.toNat 16) 0) = bcells (pad (ub (canS n)) 0) from rfl]
        refine vc_loopw (fun k E H => ∃ i : Nat, i ≤ 16 ∧ k = 16 - i ∧ E = [(4, .int .u64 ((ub (canS n) / 16 ^ i : Nat) : Int)), (5, .slice (some ⟨r22, 0, none⟩) 16 16), (24, .int .i64 16), (25, .int .i64 i)] ∧ H = [sl (some ⟨r22, 0, none⟩) 16 16 5 1 (bcells (pad (ub (canS n)) i))]) (16) ⟨_, _, _, ⟨0, by omega, rfl, rfl, rfl⟩, (by repeat (first | exact trivial | refine ⟨rfl, ?_⟩ | refine ⟨le_item rfl (by first | rfl | (congr 1; omega) | (simp; done) | (simp; omega)), ?_⟩)), (by repeat constructor)⟩ ?_
        intro k E H hI
        obtain ⟨i, hi, rfl, rfl, rfl⟩ := hI
        refine vc_seq ?_
        refine vc_region ?_
        refine vl_val rfl (.some rfl) (val_lt rfl rfl) ?_
        refine vl_nil ?_
        refine vc_seq ?_
        refine vc_cond rfl (fun hc3 => ?_) (fun hc3 => ?_)
        · (try replace hc3 := of_decide_eq_true hc3)
          refine vc_skip ?_
          refine vc_seq ?_
          refine vc_block ?_
          refine vc_seq ?_
          refine vc_region ?_
          refine vl_val rfl (.some rfl) (val_move rfl) ?_
          refine vl_val rfl (.some rfl) (val_assign rfl) ?_
          refine vl_nil ?_
          refine vc_seq ?_
          refine vc_region ?_
          refine vl_val rfl (.some rfl) (val_move rfl) ?_
          refine vl_val rfl (.some rfl) (val_move rfl) ?_
          refine vl_val rfl (.some rfl) (val_sub rfl rfl (by first | exact w_i64 (by omega) (by omega) | rfl)) ?_
          refine vl_val rfl (.some rfl) (val_move rfl) ?_
          refine vl_val rfl (.some rfl) (val_and rfl rfl (mask16 (Nat.lt_of_le_of_lt (Nat.div_le_self _ _) (ub_lt _)))) ?_
          refine vl_val rfl (.some rfl) (val_indexStr Tryd.runUnderlying9 rfl rfl (by omega) (by show _ < (16 : Int); omega)) ?_
          refine vl_val rfl (.some rfl) (val_indexAddr Tryd.runUnderlying33 Tryd.sizeOf5 rfl rfl (rd_sl (by repeat constructor)) (by omega) (by omega) (by rw [bcells_length, pad_length (by omega)]; omega)) ?_
          refine vl_storeSl rfl rfl .none rfl rfl Tryd.sizeOf5 rfl (by simp [Value.cells]) (by repeat constructor) (by rw [bcells_length, pad_length (by omega)]; simp only [Value.cells, List.length_cons, List.length_nil]; omega) ?_
          rw [pad_step (by omega)]
          refine vl_nil ?_
          refine vc_region ?_
          refine vl_val rfl (.some rfl) (val_move rfl) ?_
          refine vl_val rfl (.some rfl) (val_shr rfl rfl (by decide) (shr16 _ _)) ?_
          refine vl_val rfl (.some rfl) (val_assign rfl) ?_
          refine vl_nil ?_
          refine vc_region ?_
          refine vl_val rfl (.some rfl) (val_add rfl rfl (by first | exact w_i64 (by omega) (by omega) | rfl)) ?_
          refine vl_val rfl (.some rfl) (val_move rfl) ?_
          refine vl_nil ?_
          exact ⟨16 - (i + 1), _, _, _, by omega, (by repeat (first | exact trivial | refine ⟨rfl, ?_⟩ | refine ⟨le_item rfl (by first | rfl | (congr 1; omega) | (simp; done) | (simp; omega)), ?_⟩)), (by repeat constructor), ⟨i + 1, by omega, rfl, rfl, rfl⟩⟩
        · (try replace hc3 := of_decide_eq_false hc3)
          refine vc_exit ?_
          refine vc_seq ?_
          refine vc_region ?_
          refine vl_val rfl (.some rfl) (val_move rfl) ?_
          refine vl_val rfl (.some rfl) (val_bytesToStr Tryd.runUnderlying33 Tryd.runUnderlying5 Tryd.runUnderlying9 rfl (rd_sl (by repeat constructor)) (pad_length (by omega))) ?_
          refine vl_val rfl (.some rfl) (val_cat rfl rfl (by show 2 + (pad _ _).toArray.size < _; rw [List.size_toArray, pad_length (by omega)]; decide)) ?_
          refine vl_val rfl (.some rfl) (val_assign rfl) ?_
          refine vl_nil ?_
          refine vc_ret ?_
          refine ⟨_, [], _, res1 Tryd.results40 rfl, .nil, ?_⟩
          show _ = _
          obtain rfl : i = 16 := by omega
          have := bytes_cat [48, 102] (pad (ub (canS n)) 16)
          rw [show (⟨#[48, 102]⟩ : ByteArray) = ⟨[48, 102].toArray⟩ from rfl, this, pad_16]
          simp at hc1 hc2
          simp [printS, hc0, hc1, hc2]
set_option maxRecDepth 20000 in
theorem slIndexByte (s : ByteArray) (c : Int) (w : World) : FnV Tryd.prog 53 [.string s, .int .u8 c] (.int .i64 (idxB s c)) w := by
  refine fn_enter Tryd.func53 rfl Tryd.ntmps53 rfl ?_
  refine vc_seq ?_
  refine vc_region ?_
  refine vl_val rfl (.some rfl) (val_assign rfl) ?_
  refine vl_nil ?_
  refine vc_seq ?_
  refine vc_region ?_
  refine vl_val rfl (.some rfl) (val_move rfl) ?_
  refine vl_val rfl (.some rfl) (val_move rfl) ?_
  refine vl_ext rfl rfl (.some rfl) rfl (idxb_run _ _) ?_
  refine vl_val rfl (.some rfl) (val_assign rfl) ?_
  refine vl_nil ?_
  refine vc_ret ?_
  refine ⟨_, [], _, res1 Tryd.results53 rfl, .nil, ?_⟩
  rfl
set_option maxRecDepth 20000 in
theorem sIndexByte (s : ByteArray) (c : Int) (w : World) : FnV Tryd.prog 39 [.string s, .int .u8 c] (.int .i64 (idxB s c)) w := by
  refine fn_enter Tryd.func39 rfl Tryd.ntmps39 rfl ?_
  refine vc_seq ?_
  refine vc_region ?_
  refine vl_val rfl (.some rfl) (val_assign rfl) ?_
  refine vl_nil ?_
  refine vc_seq ?_
  refine vc_region ?_
  refine vl_val rfl (.some rfl) (val_move rfl) ?_
  refine vl_val rfl (.some rfl) (val_move rfl) ?_
  refine vl_callV rfl rfl (.some rfl) Tryd.call53 rfl (fun w hw => slIndexByte _ _ w) ?_
  refine vl_val rfl (.some rfl) (val_assign rfl) ?_
  refine vl_nil ?_
  refine vc_ret ?_
  refine ⟨_, [], _, res1 Tryd.results39 rfl, .nil, ?_⟩
  rfl
set_option maxRecDepth 20000 in
theorem slHasPrefix (s p : ByteArray) (w : World) : FnV Tryd.prog 62 [.string s, .string p] (.bool (hasP s p)) w := by
  refine fn_enter Tryd.func62 rfl Tryd.ntmps62 rfl ?_
  refine vc_seq ?_
  refine vc_region ?_
  refine vl_val rfl (.some rfl) (val_assign rfl) ?_
  refine vl_nil ?_
  refine vc_seq ?_
  refine vc_region ?_
  refine vl_val rfl (.some rfl) (val_move rfl) ?_
  refine vl_val rfl (.some rfl) (val_lenStr Tryd.runUnderlying9 rfl) ?_
  refine vl_val rfl (.some rfl) (val_move rfl) ?_
  refine vl_val rfl (.some rfl) (val_lenStr Tryd.runUnderlying9 rfl) ?_
  refine vl_val rfl (.some rfl) (val_ge rfl rfl) ?_
  refine vl_val rfl (.some rfl) (val_move rfl) ?_
  refine vl_split (t := 10) rfl (fun hg10 => ?_) (fun hg10 => ?_)
  · (try replace hg10 := of_decide_eq_true hg10)
    refine vl_on rfl rfl rfl rfl ?_
    refine vl_val rfl (.some rfl) (val_move rfl) ?_
    refine vl_on rfl rfl rfl rfl ?_
    refine vl_val rfl (.some rfl) (val_move rfl) ?_
    refine vl_on rfl rfl rfl rfl ?_
    refine vl_val rfl (.some rfl) (val_lenStr Tryd.runUnderlying9 rfl) ?_
    refine vl_on rfl rfl rfl rfl ?_
    refine vl_val rfl (.some rfl) (val_cutStrTo Tryd.runUnderlying9 rfl rfl (by omega) (by omega)) ?_
    refine vl_on rfl rfl rfl rfl ?_
    refine vl_val rfl (.some rfl) (val_move rfl) ?_
    refine vl_on rfl rfl rfl rfl ?_
    refine vl_val rfl (.some rfl) (val_seq rfl rfl) ?_
    refine vl_val rfl (.some rfl) (val_pick rfl rfl) ?_
    refine vl_val rfl (.some rfl) (val_assign rfl) ?_
    refine vl_nil ?_
    refine vc_ret ?_
    refine ⟨_, [], _, res1 Tryd.results62 rfl, .nil, ?_⟩
    show _ = _; congr 1; unfold hasP; (first | (rw [decide_eq_true (by omega : p.size ≤ s.size)]; simp; done) | (rw [decide_eq_false (by omega : ¬ p.size ≤ s.size)]; simp; done))
  · (try replace hg10 := of_decide_eq_false hg10)
    refine vl_off rfl rfl rfl rfl (.some rfl) ?_
    refine vl_off rfl rfl rfl rfl (.some rfl) ?_
    refine vl_off rfl rfl rfl rfl (.some rfl) ?_
    refine vl_off rfl rfl rfl rfl (.some rfl) ?_
    refine vl_off rfl rfl rfl rfl (.some rfl) ?_
    refine vl_off rfl rfl rfl rfl (.some rfl) ?_
    refine vl_val rfl (.some rfl) (val_pick rfl rfl) ?_
    refine vl_val rfl (.some rfl) (val_assign rfl) ?_
    refine vl_nil ?_
    refine vc_ret ?_
    refine ⟨_, [], _, res1 Tryd.results62 rfl, .nil, ?_⟩
    show _ = _; congr 1; unfold hasP; (first | (rw [decide_eq_true (by omega : p.size ≤ s.size)]; simp; done) | (rw [decide_eq_false (by omega : ¬ p.size ≤ s.size)]; simp; done))
set_option maxRecDepth 20000 in
theorem slCutPrefix (s p : ByteArray) (w : World) : FnV Tryd.prog 46 [.string s, .string p] (.tuple #[.string (cutP s p).1, .bool (cutP s p).2]) w := by
  refine fn_enter Tryd.func46 rfl Tryd.ntmps46 rfl ?_
  refine vc_seq ?_
  refine vc_region ?_
  refine vl_val rfl (.some rfl) (val_assign rfl) ?_
  refine vl_val rfl (.some rfl) (val_assign rfl) ?_
  refine vl_nil ?_
  refine vc_seq ?_
  refine vc_seq ?_
  refine vc_region ?_
  refine vl_val rfl (.some rfl) (val_move rfl) ?_
  refine vl_val rfl (.some rfl) (val_move rfl) ?_
  refine vl_callV rfl rfl (.some rfl) Tryd.call62 rfl (fun w hw => slHasPrefix _ _ w) ?_
  refine vl_val rfl (.some rfl) (val_not rfl) ?_
  refine vl_nil ?_
  refine vc_cond rfl (fun hc0 => ?_) (fun hc0 => ?_)
  · (try replace hc0 := of_decide_eq_true hc0)
    replace hc0 : hasP s p = false := by simpa using hc0
    refine vc_seq ?_
    refine vc_region ?_
    refine vl_val rfl (.some rfl) (val_move rfl) ?_
    refine vl_val rfl (.some rfl) (val_assign rfl) ?_
    refine vl_val rfl (.some rfl) (val_assign rfl) ?_
    refine vl_nil ?_
    refine vc_ret ?_
    refine ⟨_, [], _, res2 Tryd.results46 rfl rfl, .nil, ?_⟩
    show _ = _; simp [cutP, hc0]
  · (try replace hc0 := of_decide_eq_false hc0)
    replace hc0 : hasP s p = true := by simpa using hc0
    have hl := hasP_le hc0
    refine vc_skip ?_
    refine vc_seq ?_
    refine vc_region ?_
    refine vl_val rfl (.some rfl) (val_move rfl) ?_
    refine vl_val rfl (.some rfl) (val_move rfl) ?_
    refine vl_val rfl (.some rfl) (val_lenStr Tryd.runUnderlying9 rfl) ?_
    refine vl_val rfl (.some rfl) (val_cutStrFrom Tryd.runUnderlying9 rfl rfl (by omega) (by omega)) ?_
    refine vl_val rfl (.some rfl) (val_assign rfl) ?_
    refine vl_val rfl (.some rfl) (val_assign rfl) ?_
    refine vl_nil ?_
    refine vc_ret ?_
    refine ⟨_, [], _, res2 Tryd.results46 rfl rfl, .nil, ?_⟩
    show _ = _; simp [cutP, hc0]
set_option maxRecDepth 20000 in
theorem sCutPrefix (s p : ByteArray) (w : World) : FnV Tryd.prog 31 [.string s, .string p] (.tuple #[.string (cutP s p).1, .bool (cutP s p).2]) w := by
  refine fn_enter Tryd.func31 rfl Tryd.ntmps31 rfl ?_
  refine vc_seq ?_
  refine vc_region ?_
  refine vl_val rfl (.some rfl) (val_assign rfl) ?_
  refine vl_val rfl (.some rfl) (val_assign rfl) ?_
  refine vl_nil ?_
  refine vc_seq ?_
  refine vc_region ?_
  refine vl_val rfl (.some rfl) (val_move rfl) ?_
  refine vl_val rfl (.some rfl) (val_move rfl) ?_
  refine vl_callV rfl rfl (.some rfl) Tryd.call46 rfl (fun w hw => slCutPrefix _ _ w) ?_
  refine vl_val rfl (.some rfl) (val_extract rfl rfl) ?_
  refine vl_val rfl (.some rfl) (val_extract rfl rfl) ?_
  refine vl_val rfl (.some rfl) (val_assign rfl) ?_
  refine vl_val rfl (.some rfl) (val_assign rfl) ?_
  refine vl_nil ?_
  refine vc_ret ?_
  refine ⟨_, [], _, res2 Tryd.results31 rfl rfl, .nil, ?_⟩
  rfl
set_option maxRecDepth 20000 in
theorem mathInf (s : Int) (w : World) : FnV Tryd.prog 38 [.int .i64 s] (.float .f64 (if 0 ≤ s then 9218868437227405312 else 18442240474082181120)) w := by
  refine fn_enter Tryd.func38 rfl Tryd.ntmps38 rfl ?_
  refine vc_seq ?_
  refine vc_region ?_
  refine vl_val rfl (.some rfl) (val_assign rfl) ?_
  refine vl_nil ?_
  refine vc_seq ?_
  refine vc_region ?_
  refine vl_val rfl (.some rfl) (val_assign rfl) ?_
  refine vl_nil ?_
  refine vc_seq ?_
  refine vc_seq ?_
  refine vc_region ?_
  refine vl_val rfl (.some rfl) (val_move rfl) ?_
  refine vl_val rfl (.some rfl) (val_ge rfl rfl) ?_
  refine vl_nil ?_
  refine vc_cond rfl (fun hc0 => ?_) (fun hc0 => ?_)
  · (try replace hc0 := of_decide_eq_true hc0)
    refine vc_region ?_
    refine vl_val rfl (.some rfl) (val_assign rfl) ?_
    refine vl_nil ?_
    refine vc_seq ?_
    refine vc_region ?_
    refine vl_val rfl (.some rfl) (val_move rfl) ?_
    refine vl_ext rfl rfl (.some rfl) rfl (frombits_run _) ?_
    refine vl_val rfl (.some rfl) (val_assign rfl) ?_
    refine vl_nil ?_
    refine vc_ret ?_
    refine ⟨_, [], _, res1 Tryd.results38 rfl, .nil, ?_⟩
    show _ = _; first | (rw [if_pos hc0]; rfl) | (rw [if_neg hc0]; rfl)
  · (try replace hc0 := of_decide_eq_false hc0)
    refine vc_region ?_
    refine vl_val rfl (.some rfl) (val_assign rfl) ?_
    refine vl_nil ?_
    refine vc_seq ?_
    refine vc_region ?_
    refine vl_val rfl (.some rfl) (val_move rfl) ?_
    refine vl_ext rfl rfl (.some rfl) rfl (frombits_run _) ?_
    refine vl_val rfl (.some rfl) (val_assign rfl) ?_
    refine vl_nil ?_
    refine vc_ret ?_
    refine ⟨_, [], _, res1 Tryd.results38 rfl, .nil, ?_⟩
    show _ = _; first | (rw [if_pos hc0]; rfl) | (rw [if_neg hc0]; rfl)
set_option maxRecDepth 20000 in
set_option maxHeartbeats 1000000 in
theorem oParse (s : ByteArray) (w : World) : FnV Tryd.prog 18 [.string s] (.tuple #[.int .i64 (parseS s).1, .bool (parseS s).2]) w := by
  refine fn_enter Tryd.func18 rfl Tryd.ntmps18 rfl ?_
  refine vc_seq ?_
  refine vc_region ?_
  refine vl_val rfl (.some rfl) (val_assign rfl) ?_
  refine vl_val rfl (.some rfl) (val_assign rfl) ?_
  refine vl_nil ?_
  refine vc_seq ?_
  refine vc_region ?_
  refine vl_val rfl (.some rfl) (val_assign rfl) ?_
  refine vl_nil ?_
  refine vc_seq ?_
  refine vc_seq ?_
  refine vc_region ?_
  refine vl_val rfl (.some rfl) (val_move rfl) ?_
  refine vl_nil ?_
  refine vc_block ?_
  refine vc_seq ?_
  refine vc_region ?_
  refine vl_val rfl (.some rfl) (val_seq rfl rfl) ?_
  refine vl_val rfl (.some rfl) (val_assign rfl) ?_
  refine vl_nil ?_
  refine vc_cond rfl (fun hc0 => ?_) (fun hc0 => ?_)
  · (try replace hc0 := of_decide_eq_true hc0)
    refine vc_seq ?_
    refine vc_region ?_
    refine vl_val rfl (.some rfl) (val_assign rfl) ?_
    refine vl_val rfl (.some rfl) (val_assign rfl) ?_
    refine vl_nil ?_
    refine vc_ret ?_
    refine ⟨_, [], _, res2 Tryd.results18 rfl rfl, .nil, ?_⟩
    show _ = _; rw [hc0, parse_nan]
  · (try replace hc0 := of_decide_eq_false hc0)
    refine vc_seq ?_
    refine vc_seq ?_
    refine vc_region ?_
    refine vl_val rfl (.some rfl) (val_seq rfl rfl) ?_
    refine vl_val rfl (.some rfl) (val_assign rfl) ?_
    refine vl_nil ?_
    refine vc_cond rfl (fun hc1 => ?_) (fun hc1 => ?_)
    · (try replace hc1 := of_decide_eq_true hc1)
      refine vc_skip ?_
      refine vc_cond rfl (fun _ => ?_) (fun h => absurd hc1 (of_decide_eq_false h))
      refine vc_seq ?_
      refine vc_region ?_
      refine vl_val rfl (.some rfl) (val_assign rfl) ?_
      refine vl_nil ?_
      refine vc_seq ?_
      refine vc_seq ?_
      refine vc_region ?_
      refine vl_val rfl (.some rfl) (val_move rfl) ?_
      refine vl_val rfl (.some rfl) (val_indexStr Tryd.runUnderlying9 rfl rfl (by omega) (by first | (rw [hc1]; decide) | (rw [hc2]; decide))) ?_
      refine vl_val rfl (.some rfl) (val_eq rfl rfl) ?_
      refine vl_nil ?_
      refine vc_cond rfl (fun hc3 => ?_) (fun hc3 => ?_)
      · (try replace hc3 := of_decide_eq_true hc3)
        refine vc_region ?_
        refine vl_val rfl (.some rfl) (val_assign rfl) ?_
        refine vl_nil ?_
        refine vc_seq ?_
        refine vc_region ?_
        refine vl_val rfl (.some rfl) (val_move rfl) ?_
        refine vl_callV rfl rfl (.some rfl) Tryd.call38 rfl (fun w hw => mathInf _ w) ?_
        refine vl_ext rfl rfl (.some rfl) rfl (tobits_run _) ?_
        refine vl_val rfl (.some rfl) (val_convInt Tryd.runUnderlying49 Tryd.runUnderlying3 rfl (by first | exact w_i64 (by omega) (by omega) | rfl)) ?_
        refine vl_val rfl (.some rfl) (val_assign rfl) ?_
        refine vl_val rfl (.some rfl) (val_assign rfl) ?_
        refine vl_nil ?_
        refine vc_ret ?_
        refine ⟨_, [], _, res2 Tryd.results18 rfl rfl, .nil, ?_⟩
        show _ = _; first | (rw [hc1, parse_inf]; rfl) | (rw [hc2, parse_ninf]; rfl) | (exfalso; rw [hc1] at hc3; revert hc3; decide; done) | (exfalso; rw [hc2] at hc3; revert hc3; decide; done)
      · (try replace hc3 := of_decide_eq_false hc3)
        refine vc_skip ?_
        refine vc_seq ?_
        refine vc_region ?_
        refine vl_val rfl (.some rfl) (val_move rfl) ?_
        refine vl_callV rfl rfl (.some rfl) Tryd.call38 rfl (fun w hw => mathInf _ w) ?_
        refine vl_ext rfl rfl (.some rfl) rfl (tobits_run _) ?_
        refine vl_val rfl (.some rfl) (val_convInt Tryd.runUnderlying49 Tryd.runUnderlying3 rfl (by first | exact w_i64 (by omega) (by omega) | rfl)) ?_
        refine vl_val rfl (.some rfl) (val_assign rfl) ?_
        refine vl_val rfl (.some rfl) (val_assign rfl) ?_
        refine vl_nil ?_
        refine vc_ret ?_
        refine ⟨_, [], _, res2 Tryd.results18 rfl rfl, .nil, ?_⟩
        show _ = _; first | (rw [hc1, parse_inf]; rfl) | (rw [hc2, parse_ninf]; rfl) | (exfalso; rw [hc1] at hc3; revert hc3; decide; done) | (exfalso; rw [hc2] at hc3; revert hc3; decide; done)
    · (try replace hc1 := of_decide_eq_false hc1)
      refine vc_region ?_
      refine vl_val rfl (.some rfl) (val_seq rfl rfl) ?_
      refine vl_val rfl (.some rfl) (val_assign rfl) ?_
      refine vl_nil ?_
      refine vc_cond rfl (fun hc2 => ?_) (fun hc2 => ?_)
      · (try replace hc2 := of_decide_eq_true hc2)
        refine vc_seq ?_
        refine vc_region ?_
        refine vl_val rfl (.some rfl) (val_assign rfl) ?_
        refine vl_nil ?_
        refine vc_seq ?_
        refine vc_seq ?_
        refine vc_region ?_
        refine vl_val rfl (.some rfl) (val_move rfl) ?_
        refine vl_val rfl (.some rfl) (val_indexStr Tryd.runUnderlying9 rfl rfl (by omega) (by first | (rw [hc1]; decide) | (rw [hc2]; decide))) ?_
        refine vl_val rfl (.some rfl) (val_eq rfl rfl) ?_
        refine vl_nil ?_
        refine vc_cond rfl (fun hc3 => ?_) (fun hc3 => ?_)
        · (try replace hc3 := of_decide_eq_true hc3)
          refine vc_region ?_
          refine vl_val rfl (.some rfl) (val_assign rfl) ?_
          refine vl_nil ?_
          refine vc_seq ?_
          refine vc_region ?_
          refine vl_val rfl (.some rfl) (val_move rfl) ?_
          refine vl_callV rfl rfl (.some rfl) Tryd.call38 rfl (fun w hw => mathInf _ w) ?_
          refine vl_ext rfl rfl (.some rfl) rfl (tobits_run _) ?_
          refine vl_val rfl (.some rfl) (val_convInt Tryd.runUnderlying49 Tryd.runUnderlying3 rfl (by first | exact w_i64 (by omega) (by omega) | rfl)) ?_
          refine vl_val rfl (.some rfl) (val_assign rfl) ?_
          refine vl_val rfl (.some rfl) (val_assign rfl) ?_
          refine vl_nil ?_
          refine vc_ret ?_
          refine ⟨_, [], _, res2 Tryd.results18 rfl rfl, .nil, ?_⟩
          show _ = _; first | (rw [hc1, parse_inf]; rfl) | (rw [hc2, parse_ninf]; rfl) | (exfalso; rw [hc1] at hc3; revert hc3; decide; done) | (exfalso; rw [hc2] at hc3; revert hc3; decide; done)
        · (try replace hc3 := of_decide_eq_false hc3)
          refine vc_skip ?_
          refine vc_seq ?_
          refine vc_region ?_
          refine vl_val rfl (.some rfl) (val_move rfl) ?_
          refine vl_callV rfl rfl (.some rfl) Tryd.call38 rfl (fun w hw => mathInf _ w) ?_
          refine vl_ext rfl rfl (.some rfl) rfl (tobits_run _) ?_
          refine vl_val rfl (.some rfl) (val_convInt Tryd.runUnderlying49 Tryd.runUnderlying3 rfl (by first | exact w_i64 (by omega) (by omega) | rfl)) ?_
          refine vl_val rfl (.some rfl) (val_assign rfl) ?_
          refine vl_val rfl (.some rfl) (val_assign rfl) ?_
          refine vl_nil ?_
          refine vc_ret ?_
          refine ⟨_, [], _, res2 Tryd.results18 rfl rfl, .nil, ?_⟩
          show _ = _; first | (rw [hc1, parse_inf]; rfl) | (rw [hc2, parse_ninf]; rfl) | (exfalso; rw [hc1] at hc3; revert hc3; decide; done) | (exfalso; rw [hc2] at hc3; revert hc3; decide; done)
      · (try replace hc2 := of_decide_eq_false hc2)
        refine vc_skip ?_
        refine vc_seq ?_
        refine vc_region ?_
        refine vl_val rfl (.some rfl) (val_move rfl) ?_
        refine vl_callV rfl rfl (.some rfl) Tryd.call31 rfl (fun w hw => sCutPrefix _ _ w) ?_
        refine vl_val rfl (.some rfl) (val_move rfl) ?_
        refine vl_val rfl (.some rfl) (val_extract rfl rfl) ?_
        refine vl_val rfl (.some rfl) (val_extract rfl rfl) ?_
        refine vl_val rfl (.some rfl) (val_assign rfl) ?_
        refine vl_val rfl (.some rfl) (val_assign rfl) ?_
        refine vl_nil ?_
        refine vc_seq ?_
        refine vc_seq ?_
        refine vc_region ?_
        refine vl_val rfl (.some rfl) (val_move rfl) ?_
        refine vl_val rfl (.some rfl) (val_not rfl) ?_
        refine vl_val rfl (.some rfl) (val_move rfl) ?_
        refine vl_split (t := 30) rfl (fun hg30 => ?_) (fun hg30 => ?_)
        · (try replace hg30 := of_decide_eq_true hg30)
          refine vl_off rfl rfl rfl rfl (.some rfl) ?_
          refine vl_off rfl rfl rfl rfl (.some rfl) ?_
          refine vl_off rfl rfl rfl rfl (.some rfl) ?_
          refine vl_val rfl (.some rfl) (val_pick rfl rfl) ?_
          refine vl_nil ?_
          refine vc_cond rfl (fun _ => ?_) (fun h => by cases h)
          refine vc_seq ?_
          refine vc_region ?_
          refine vl_val rfl (.some rfl) (val_assign rfl) ?_
          refine vl_val rfl (.some rfl) (val_assign rfl) ?_
          refine vl_nil ?_
          refine vc_ret ?_
          refine ⟨_, [], _, res2 Tryd.results18 rfl rfl, .nil, ?_⟩
          show _ = _; first | (rw [tok_short hc0 hc1 hc2 (cut_yes (by simpa using hg30)) (by omega)]; done) | (rw [parse_head hc0 hc1 hc2 (cut_no (by simpa using hg30))]; done)
        · (try replace hg30 := of_decide_eq_false hg30)
          refine vl_on rfl rfl rfl rfl ?_
          refine vl_val rfl (.some rfl) (val_move rfl) ?_
          refine vl_on rfl rfl rfl rfl ?_
          refine vl_val rfl (.some rfl) (val_lenStr Tryd.runUnderlying9 rfl) ?_
          refine vl_on rfl rfl rfl rfl ?_
          refine vl_val rfl (.some rfl) (val_ne rfl rfl) ?_
          refine vl_val rfl (.some rfl) (val_pick rfl rfl) ?_
          refine vl_nil ?_
          refine vc_cond rfl (fun hc4 => ?_) (fun hc4 => ?_)
          · (try replace hc4 := of_decide_eq_true hc4)
            refine vc_seq ?_
            refine vc_region ?_
            refine vl_val rfl (.some rfl) (val_assign rfl) ?_
            refine vl_val rfl (.some rfl) (val_assign rfl) ?_
            refine vl_nil ?_
            refine vc_ret ?_
            refine ⟨_, [], _, res2 Tryd.results18 rfl rfl, .nil, ?_⟩
            show _ = _; first | (rw [tok_short hc0 hc1 hc2 (cut_yes (by simpa using hg30)) (by omega)]; done) | (rw [parse_head hc0 hc1 hc2 (cut_no (by simpa using hg30))]; done)
          · (try replace hc4 := of_decide_eq_false hc4)
            have hr := cut_yes (s := s) (by simpa using hg30)
            replace hc4 : (cutP s ⟨#[48, 102]⟩).1.size = 16 := by omega
            generalize (cutP s ⟨#[48, 102]⟩).1 = r at hr hc4 ⊢
            refine vc_skip ?_
            refine vc_seq ?_
            refine vc_seq ?_
            refine vc_region ?_
            refine vl_val rfl (.some rfl) (val_move rfl) ?_
            refine vl_val rfl (.some rfl) (val_lenStr Tryd.runUnderlying9 rfl) ?_
            refine vl_val rfl (.some rfl) (val_move rfl) ?_
            refine vl_nil ?_
            refine vc_block ?_
            refine vc_loopw (fun k E H => ∃ j U : Nat, j ≤ 16 ∧ k = 16 - j ∧ U < 16 ^ j ∧ r.data.toList.take j = hexN j U ∧ E = [(0, .string s), (4, .int .i64 (iw U)), (6, .string r), (36, .int .i64 r.size), (37, .int .i64 j)] ∧ H = []) (16) ⟨_, _, _, ⟨0, 0, by omega, rfl, by decide, rfl, rfl, rfl⟩, (by repeat (first | exact trivial | refine ⟨rfl, ?_⟩ | refine ⟨le_item rfl (by first | rfl | (congr 1; omega) | (simp; done) | (simp; omega)), ?_⟩)), (by repeat constructor)⟩ ?_
            intro k E H hI
            obtain ⟨j, U, hj, rfl, hU, hT, rfl, rfl⟩ := hI
            refine vc_seq ?_
            refine vc_region ?_
            refine vl_val rfl (.some rfl) (val_lt rfl rfl) ?_
            refine vl_nil ?_
            refine vc_seq ?_
            refine vc_cond rfl (fun hc5 => ?_) (fun hc5 => ?_)
            · (try replace hc5 := of_decide_eq_true hc5)
              refine vc_skip ?_
              refine vc_seq ?_
              refine vc_block ?_
              refine vc_seq ?_
              refine vc_region ?_
              refine vl_val rfl (.some rfl) (val_move rfl) ?_
              refine vl_val rfl (.some rfl) (val_assign rfl) ?_
              refine vl_nil ?_
              refine vc_seq ?_
              refine vc_region ?_
              refine vl_val rfl (.some rfl) (val_move rfl) ?_
              refine vl_val rfl (.some rfl) (val_move rfl) ?_
              refine vl_val rfl (.some rfl) (val_indexStr Tryd.runUnderlying9 rfl rfl (by omega) (by first | omega | (simp; omega))) ?_
              refine vl_callV rfl rfl (.some rfl) Tryd.call39 rfl (fun w hw => sIndexByte _ _ w) ?_
              refine vl_val rfl (.some rfl) (val_assign rfl) ?_
              refine vl_nil ?_
              refine vc_seq ?_
              refine vc_seq ?_
              refine vc_region ?_
              refine vl_val rfl (.some rfl) (val_move rfl) ?_
              refine vl_val rfl (.some rfl) (val_lt rfl rfl) ?_
              refine vl_nil ?_
              refine vc_cond rfl (fun hc6 => ?_) (fun hc6 => ?_)
              · (try replace hc6 := of_decide_eq_true hc6)
                refine vc_seq ?_
                refine vc_region ?_
                refine vl_val rfl (.some rfl) (val_assign rfl) ?_
                refine vl_val rfl (.some rfl) (val_assign rfl) ?_
                refine vl_nil ?_
                refine vc_ret ?_
                refine ⟨_, [], _, res2 Tryd.results18 rfl rfl, .nil, ?_⟩
                show _ = _; rw [tok_bad hc0 hc1 hc2 hr (by omega) (dig_none hc6)]
              · (try replace hc6 := of_decide_eq_false hc6)
                obtain ⟨d, hdv, hd, hdx⟩ := dig_get hc6
                refine vc_skip ?_
                refine vc_region ?_
                refine vl_val rfl (.some rfl) (val_move rfl) ?_
                refine vl_val rfl (.some rfl) (val_shl rfl rfl (by decide) (shl_lit 16 rfl rfl)) ?_
                refine vl_val rfl (.some rfl) (val_move rfl) ?_
                refine vl_val rfl (.some rfl) (val_or rfl rfl (show _ = iw (U * 16 + d) by rw [show idxB DIG (bt r (Int.toNat (j : Int))) = (d : Int) from hdv]; exact or_digit (pow_le (by omega) hU) hd)) ?_
                refine vl_val rfl (.some rfl) (val_assign rfl) ?_
                refine vl_nil ?_
                refine vc_region ?_
                refine vl_val rfl (.some rfl) (val_add rfl rfl (by first | exact w_i64 (by omega) (by omega) | rfl)) ?_
                refine vl_val rfl (.some rfl) (val_move rfl) ?_
                refine vl_nil ?_
                exact ⟨16 - (j + 1), _, _, _, by omega, (by repeat (first | exact trivial | refine ⟨rfl, ?_⟩ | refine ⟨le_item rfl (by first | rfl | (congr 1; omega) | (simp; done) | (simp; omega)), ?_⟩)), (by repeat constructor), ⟨j + 1, U * 16 + d, by omega, rfl, pow_next hU hd, take_next (by rw [size_list]; omega) hT hd hdx, rfl, rfl⟩⟩
            · (try replace hc5 := of_decide_eq_false hc5)
              obtain rfl : j = 16 := by omega
              refine vc_exit ?_
              refine vc_seq ?_
              refine vc_seq ?_
              refine vc_region ?_
              refine vl_val rfl (.some rfl) (val_move rfl) ?_
              refine vl_callV rfl rfl (.some rfl) Tryd.call40 rfl (fun w hw => oPrint _ w) ?_
              refine vl_val rfl (.some rfl) (val_move rfl) ?_
              refine vl_val rfl (.some rfl) (val_sne rfl rfl) ?_
              refine vl_nil ?_
              refine vc_cond rfl (fun hc7 => ?_) (fun hc7 => ?_)
              · (try replace hc7 := of_decide_eq_true hc7)
                refine vc_seq ?_
                refine vc_region ?_
                refine vl_val rfl (.some rfl) (val_assign rfl) ?_
                refine vl_val rfl (.some rfl) (val_assign rfl) ?_
                refine vl_nil ?_
                refine vc_ret ?_
                refine ⟨_, [], _, res2 Tryd.results18 rfl rfl, .nil, ?_⟩
                show _ = _; rw [tok_end hU hr hc4 hT, if_neg hc7]
              · (try replace hc7 := of_decide_eq_false hc7)
                refine vc_skip ?_
                refine vc_seq ?_
                refine vc_region ?_
                refine vl_val rfl (.some rfl) (val_move rfl) ?_
                refine vl_val rfl (.some rfl) (val_assign rfl) ?_
                refine vl_val rfl (.some rfl) (val_assign rfl) ?_
                refine vl_nil ?_
                refine vc_ret ?_
                refine ⟨_, [], _, res2 Tryd.results18 rfl rfl, .nil, ?_⟩
                show _ = _; rw [tok_end hU hr hc4 hT, if_pos (by simpa using hc7)]


end Go.Proofs.YtclknendeeljaaaDoor.K
