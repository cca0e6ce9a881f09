/- Walks of the program's functions, printed by a program of this session; Lean checks them. -/
import Derived.Test.YtclknendeeljaaaVrep
namespace Go.Proofs.Ytclknendeeljaaa.K
open Go Go.RowKit Go.Proofs
set_option linter.unusedVariables false
set_option linter.unusedSimpArgs false

abbrev z3 : Vk := ⟨0, 0, ⟨#[]⟩⟩
theorem fsV : (Try.prog.fieldsOf 64).toList = [⟨"Kind", 3, 0, false, "", "", 0⟩, ⟨"N", 3, 1, false, "", "", 8⟩, ⟨"S", 9, 2, false, "", "", 16⟩] := by kernel_rfl
theorem vk_chk (e : Bool) (p : Vk) (w : World) : (Instr.checkKey e 10000 64 (vk p)).run Try.prog w = .ok () w := by
  obtain ⟨k, n, s⟩ := p
  kernel_rfl
theorem vk_same (p : Vk) : Instr.sameBits 10000 (vk p) (vk p) = true := by
  simp [Instr.sameBits, beq_toListBytes]
theorem vk_equal (p q : Vk) (w : World) : (Op.equal 64 (vk p) (vk q)).run Try.prog w = .ok (decide (p = q)) w := by
  obtain ⟨k, n, s⟩ := p
  obtain ⟨k', n', s'⟩ := q
  unfold Op.equal vk
  rw [show Op.maxDepth = 9999 + 1 from rfl, run_equalIn_agg w 9999 64 _ _ (by kernel_rfl) (by kernel_rfl), fsV]
  have e3 : ∀ a b : Int, (Op.equalIn 9999 3 (.int .i64 a) (.int .i64 b)).run Try.prog w = .ok (decide (a = b)) w := fun a b => by
    rw [show (9999 : Nat) = 9998 + 1 from rfl, run_equalIn_int w 9998 3 .i64 .i64 a b Try.underlying3, int_beq]
  have e9 : ∀ a b : ByteArray, (Op.equalIn 9999 9 (.string a) (.string b)).run Try.prog w = .ok (decide (a = b)) w := fun a b => by
    rw [show (9999 : Nat) = 9998 + 1 from rfl, run_equalIn_string w 9998 9 a b Try.underlying9, bytes_beq]
  simp only [Op.eqFields, part, Sem.run_bind, Try.isAgg3, Try.isAgg9, Result.andThen_ok]
  simp [e3, e9]
  by_cases h1 : k = k' <;> by_cases h2 : n = n' <;> simp [h1, h2, e3, e9]
  by_cases h3 : s = s' <;> simp [h3]
/-- What 'of' answers. -/
def ofV (p : Vk) : Value := if p.k = 0 then .iface 112 (.agg #[]) else if p.k = 1 then .iface 130 (.int .i64 p.n) else if p.k = 2 then .iface 131 (.int .i64 p.n) else if p.k = 3 then .iface 113 (.string p.s) else if p.k = 4 then .iface 132 (.bool (decide (p.n ≠ 0))) else .nilIface
section asks
variable {X : Cx} {E : Env} {H : List Chunk} {p : Vk}
theorem asks (T : TypeId) (j : Int) (z pl : Value) {x : Operand} {xT ty : TypeId} {d : TypeDesc} (hu : ∀ w, (underlying T).run X.P w = .ok d w) (hd : (match d with | .interface _ => false | _ => true) = true) (hz : ∀ w, (zeroValue T).run X.P w = .ok z w) (hx : E.ev x = some (ofV p))
    (h1 : p.k = j → ofV p = .iface T pl) (h2 : p.k ≠ j → ofV p = .nilIface ∨ ∃ t v, t ≠ T ∧ ofV p = .iface t v) : Val X E H (.typeAssert x xT T true) ty (.tuple #[if p.k = j then pl else z, .bool (decide (p.k = j))]) := by
  by_cases h : p.k = j
  · rw [h1 h] at hx
    have := val_isType (H := H) (xT := xT) (ty := ty) hu hd hz hx
    simpa [h] using this
  · rcases h2 h with e | ⟨t, v, ht, e⟩
    · rw [e] at hx
      have := val_isTypeNil (H := H) (xT := xT) (ty := ty) hu hz hx
      simpa [h] using this
    · rw [e] at hx
      have := val_isType (H := H) (xT := xT) (ty := ty) hu hd hz hx
      simpa [h, ht] using this
theorem other (T : TypeId) (j : Int) (hj : ∀ k : Int, k ≠ j → (k = 0 → 112 ≠ T) ∧ (k = 1 → 130 ≠ T) ∧ (k = 2 → 131 ≠ T) ∧ (k = 3 → 113 ≠ T) ∧ (k = 4 → 132 ≠ T)) (h : p.k ≠ j) : ofV p = .nilIface ∨ ∃ t v, t ≠ T ∧ ofV p = .iface t v := by
  obtain ⟨a0, a1, a2, a3, a4⟩ := hj p.k h
  unfold ofV
  split
  · exact .inr ⟨_, _, a0 (by assumption), rfl⟩
  · split
    · exact .inr ⟨_, _, a1 (by assumption), rfl⟩
    · split
      · exact .inr ⟨_, _, a2 (by assumption), rfl⟩
      · split
        · exact .inr ⟨_, _, a3 (by assumption), rfl⟩
        · split
          · exact .inr ⟨_, _, a4 (by assumption), rfl⟩
          · exact .inl rfl
end asks
def goodV (p : Vk) : Bool := if p.k = 0 then decide (p = z3) else if p.k = 1 then decide (p.s = ⟨#[]⟩) else if p.k = 2 then decide (p.s = ⟨#[]⟩) && decide (canS p.n = p.n) else if p.k = 3 then decide (p.n = 0) && decide (p.s.size ≤ 64) else if p.k = 4 then decide (p.s = ⟨#[]⟩) && (decide (p.n = 0) || decide (p.n = 1)) else false

abbrev tIt : ByteArray := ⟨#[39, 105, 116, 39, 39, 115, 39]⟩
theorem val_vkS {X : Cx} {E : Env} {H : List Chunk} {x y : Operand} {yT ty : TypeId} {p : Vk} (hX : X.P = Try.prog) (hx : E.ev x = some (vk p)) (hy : E.ev y = some (vk p)) : Val X E H (.binOp .eql 64 x y yT) ty (.bool true) := by
  have h := val_opO (X := X) (H := H) (op := .eql) (T := 64) (yT := yT) (ty := ty) hx hy (fun w => by rw [hX]; exact run_eqGuard_agg w _ _ _ _ _ _ (by kernel_rfl)) (bin_agg_eq (b := decide (p = p)) (fun w => by rw [hX]; exact vk_equal p p w))
  simpa using h
theorem cmpV_rng (p q : Vk) : -1 ≤ cmpV p q ∧ cmpV p q ≤ 1 := by
  unfold cmpV
  have hs : ∀ a b : Int, -1 ≤ sgnI a b ∧ sgnI a b ≤ 1 := fun a b => by unfold sgnI; (repeat' split) <;> omega
  have hc : ∀ a b : Nat, -1 ≤ cmpS a b ∧ cmpS a b ≤ 1 := fun a b => by unfold cmpS; (repeat' split) <;> omega
  have hb : ∀ a b : ByteArray, -1 ≤ cB a b ∧ cB a b ≤ 1 := fun a b => by rw [cB_is]; (repeat' split) <;> omega
  split
  · exact hs _ _
  · split
    · omega
    · split
      · exact hc _ _
      · split
        · exact hb _ _
        · exact hs _ _

set_option maxRecDepth 20000 in
theorem vOf (p : Vk) (w : World) : FnV Try.prog 83 [vk p] (ofV p) w := by
  refine fn_enter Try.func83 rfl Try.ntmps83 rfl ?_
  refine vc_seq ?_
  refine vc_region ?_
  refine vl_box rfl rfl (.some rfl) rfl (fun r1 => ?_)
  refine vl_val rfl (.some rfl) (val_assign rfl) ?_
  refine vl_nil ?_
  refine vc_seq ?_
  refine vc_seq ?_
  refine vc_region ?_
  refine vl_val rfl (.some rfl) (by first | exact val_fieldAddr Try.runUnderlying64 rfl Try.sizeOf3 rfl | exact val_fieldAddrR Try.runUnderlying64 rfl Try.sizeOf3 rfl) ?_
  refine vl_val rfl (.some rfl) (val_load Try.isAgg3 rfl (by first | exact cell_cells (by repeat (first | exact .head | apply In.tail | apply Take.tail | apply Upd.tail)) rfl | exact cell_rd (rd_sl (by repeat (first | exact .head | apply In.tail | apply Take.tail | apply Upd.tail))) (by first | exact bcells_at (by omega) | exact ucells_at (by omega) | exact icells_at (by omega) | exact tcells_at (by omega) | exact bcells_get (by omega) | exact icells_get (by omega) | exact tcells_get (by omega) | exact ucells_get (by omega)) | exact cell_rd (rd_old (by assumption) rfl) (by first | exact bcells_at (by omega) | exact ucells_at (by omega) | exact icells_at (by omega) | exact tcells_at (by omega) | exact bcells_get (by omega) | exact icells_get (by omega) | exact tcells_get (by omega) | exact ucells_get (by omega)) | exact cell_old (by assumption) (by simp [fps]))) ?_
  refine vl_nil ?_
  refine vc_block ?_
  refine vc_seq ?_
  refine vc_region ?_
  refine vl_val rfl (.some rfl) (val_eq rfl rfl) ?_
  refine vl_val rfl (.some rfl) (val_assign rfl) ?_
  refine vl_nil ?_
  refine vc_cond rfl (fun hc0 => ?_) (fun hc0 => ?_)
  · (try replace hc0 := of_decide_eq_true hc0)
    refine vc_seq ?_
    refine vc_region ?_
    refine vl_val rfl (.some rfl) (val_buildSt (pl := #[]) (cs := #[]) Try.runUnderlying112 Try.zeroValue112 (fun w => by kernel_rfl) rfl rfl) ?_
    refine vl_val rfl (.some rfl) (val_mkIface Try.runUnderlying112 rfl rfl) ?_
    refine vl_val rfl (.some rfl) (val_assign rfl) ?_
    refine vl_nil ?_
    refine vc_ret ?_
    refine ⟨_, [], _, res1 Try.results83 rfl, .nil, ?_⟩
    show _ = _; unfold ofV; rw [if_pos hc0]
  · (try replace hc0 := of_decide_eq_false hc0)
    refine vc_seq ?_
    refine vc_region ?_
    refine vl_val rfl (.some rfl) (val_eq rfl rfl) ?_
    refine vl_val rfl (.some rfl) (val_assign rfl) ?_
    refine vl_nil ?_
    refine vc_cond rfl (fun hc1 => ?_) (fun hc1 => ?_)
    · (try replace hc1 := of_decide_eq_true hc1)
      refine vc_seq ?_
      refine vc_region ?_
      refine vl_val rfl (.some rfl) (by first | exact val_fieldAddr Try.runUnderlying64 rfl Try.sizeOf3 rfl | exact val_fieldAddrR Try.runUnderlying64 rfl Try.sizeOf3 rfl) ?_
      refine vl_val rfl (.some rfl) (val_load Try.isAgg3 rfl (by first | exact cell_cells (by repeat (first | exact .head | apply In.tail | apply Take.tail | apply Upd.tail)) rfl | exact cell_rd (rd_sl (by repeat (first | exact .head | apply In.tail | apply Take.tail | apply Upd.tail))) (by first | exact bcells_at (by omega) | exact ucells_at (by omega) | exact icells_at (by omega) | exact tcells_at (by omega) | exact bcells_get (by omega) | exact icells_get (by omega) | exact tcells_get (by omega) | exact ucells_get (by omega)) | exact cell_rd (rd_old (by assumption) rfl) (by first | exact bcells_at (by omega) | exact ucells_at (by omega) | exact icells_at (by omega) | exact tcells_at (by omega) | exact bcells_get (by omega) | exact icells_get (by omega) | exact tcells_get (by omega) | exact ucells_get (by omega)) | exact cell_old (by assumption) (by simp [fps]))) ?_
      refine vl_val rfl (.some rfl) (val_mkIface Try.runUnderlying130 rfl rfl) ?_
      refine vl_val rfl (.some rfl) (val_assign rfl) ?_
      refine vl_nil ?_
      refine vc_ret ?_
      refine ⟨_, [], _, res1 Try.results83 rfl, .nil, ?_⟩
      show _ = _; unfold ofV; rw [if_neg hc0, if_pos hc1]
    · (try replace hc1 := of_decide_eq_false hc1)
      refine vc_seq ?_
      refine vc_region ?_
      refine vl_val rfl (.some rfl) (val_eq rfl rfl) ?_
      refine vl_val rfl (.some rfl) (val_assign rfl) ?_
      refine vl_nil ?_
      refine vc_cond rfl (fun hc2 => ?_) (fun hc2 => ?_)
      · (try replace hc2 := of_decide_eq_true hc2)
        refine vc_seq ?_
        refine vc_region ?_
        refine vl_val rfl (.some rfl) (by first | exact val_fieldAddr Try.runUnderlying64 rfl Try.sizeOf3 rfl | exact val_fieldAddrR Try.runUnderlying64 rfl Try.sizeOf3 rfl) ?_
        refine vl_val rfl (.some rfl) (val_load Try.isAgg3 rfl (by first | exact cell_cells (by repeat (first | exact .head | apply In.tail | apply Take.tail | apply Upd.tail)) rfl | exact cell_rd (rd_sl (by repeat (first | exact .head | apply In.tail | apply Take.tail | apply Upd.tail))) (by first | exact bcells_at (by omega) | exact ucells_at (by omega) | exact icells_at (by omega) | exact tcells_at (by omega) | exact bcells_get (by omega) | exact icells_get (by omega) | exact tcells_get (by omega) | exact ucells_get (by omega)) | exact cell_rd (rd_old (by assumption) rfl) (by first | exact bcells_at (by omega) | exact ucells_at (by omega) | exact icells_at (by omega) | exact tcells_at (by omega) | exact bcells_get (by omega) | exact icells_get (by omega) | exact tcells_get (by omega) | exact ucells_get (by omega)) | exact cell_old (by assumption) (by simp [fps]))) ?_
        refine vl_val rfl (.some rfl) (val_mkIface Try.runUnderlying131 rfl rfl) ?_
        refine vl_val rfl (.some rfl) (val_assign rfl) ?_
        refine vl_nil ?_
        refine vc_ret ?_
        refine ⟨_, [], _, res1 Try.results83 rfl, .nil, ?_⟩
        show _ = _; unfold ofV; rw [if_neg hc0, if_neg hc1, if_pos hc2]
      · (try replace hc2 := of_decide_eq_false hc2)
        refine vc_seq ?_
        refine vc_region ?_
        refine vl_val rfl (.some rfl) (val_eq rfl rfl) ?_
        refine vl_val rfl (.some rfl) (val_assign rfl) ?_
        refine vl_nil ?_
        refine vc_cond rfl (fun hc3 => ?_) (fun hc3 => ?_)
        · (try replace hc3 := of_decide_eq_true hc3)
          refine vc_seq ?_
          refine vc_region ?_
          refine vl_val rfl (.some rfl) (by first | exact val_fieldAddr Try.runUnderlying64 rfl Try.sizeOf9 rfl | exact val_fieldAddrR Try.runUnderlying64 rfl Try.sizeOf9 rfl) ?_
          refine vl_val rfl (.some rfl) (val_load Try.isAgg9 rfl (by first | exact cell_cells (by repeat (first | exact .head | apply In.tail | apply Take.tail | apply Upd.tail)) rfl | exact cell_rd (rd_sl (by repeat (first | exact .head | apply In.tail | apply Take.tail | apply Upd.tail))) (by first | exact bcells_at (by omega) | exact ucells_at (by omega) | exact icells_at (by omega) | exact tcells_at (by omega) | exact bcells_get (by omega) | exact icells_get (by omega) | exact tcells_get (by omega) | exact ucells_get (by omega)) | exact cell_rd (rd_old (by assumption) rfl) (by first | exact bcells_at (by omega) | exact ucells_at (by omega) | exact icells_at (by omega) | exact tcells_at (by omega) | exact bcells_get (by omega) | exact icells_get (by omega) | exact tcells_get (by omega) | exact ucells_get (by omega)) | exact cell_old (by assumption) (by simp [fps]))) ?_
          refine vl_val rfl (.some rfl) (val_mkIface Try.runUnderlying113 rfl rfl) ?_
          refine vl_val rfl (.some rfl) (val_assign rfl) ?_
          refine vl_nil ?_
          refine vc_ret ?_
          refine ⟨_, [], _, res1 Try.results83 rfl, .nil, ?_⟩
          show _ = _; unfold ofV; rw [if_neg hc0, if_neg hc1, if_neg hc2, if_pos hc3]
        · (try replace hc3 := of_decide_eq_false hc3)
          refine vc_seq ?_
          refine vc_region ?_
          refine vl_val rfl (.some rfl) (val_eq rfl rfl) ?_
          refine vl_val rfl (.some rfl) (val_assign rfl) ?_
          refine vl_nil ?_
          refine vc_cond rfl (fun hc4 => ?_) (fun hc4 => ?_)
          · (try replace hc4 := of_decide_eq_true hc4)
            refine vc_seq ?_
            refine vc_region ?_
            refine vl_val rfl (.some rfl) (by first | exact val_fieldAddr Try.runUnderlying64 rfl Try.sizeOf3 rfl | exact val_fieldAddrR Try.runUnderlying64 rfl Try.sizeOf3 rfl) ?_
            refine vl_val rfl (.some rfl) (val_load Try.isAgg3 rfl (by first | exact cell_cells (by repeat (first | exact .head | apply In.tail | apply Take.tail | apply Upd.tail)) rfl | exact cell_rd (rd_sl (by repeat (first | exact .head | apply In.tail | apply Take.tail | apply Upd.tail))) (by first | exact bcells_at (by omega) | exact ucells_at (by omega) | exact icells_at (by omega) | exact tcells_at (by omega) | exact bcells_get (by omega) | exact icells_get (by omega) | exact tcells_get (by omega) | exact ucells_get (by omega)) | exact cell_rd (rd_old (by assumption) rfl) (by first | exact bcells_at (by omega) | exact ucells_at (by omega) | exact icells_at (by omega) | exact tcells_at (by omega) | exact bcells_get (by omega) | exact icells_get (by omega) | exact tcells_get (by omega) | exact ucells_get (by omega)) | exact cell_old (by assumption) (by simp [fps]))) ?_
            refine vl_val rfl (.some rfl) (val_ne rfl rfl) ?_
            refine vl_val rfl (.some rfl) (val_mkIface Try.runUnderlying132 rfl rfl) ?_
            refine vl_val rfl (.some rfl) (val_assign rfl) ?_
            refine vl_nil ?_
            refine vc_ret ?_
            refine ⟨_, [], _, res1 Try.results83 rfl, .nil, ?_⟩
            show _ = _; unfold ofV; rw [if_neg hc0, if_neg hc1, if_neg hc2, if_neg hc3, if_pos hc4]
          · (try replace hc4 := of_decide_eq_false hc4)
            refine vc_skip ?_
            refine vc_seq ?_
            refine vc_region ?_
            refine vl_val rfl (.some rfl) (val_assign rfl) ?_
            refine vl_nil ?_
            refine vc_ret ?_
            refine ⟨_, [], _, res1 Try.results83 rfl, .nil, ?_⟩
            show _ = _; unfold ofV; rw [if_neg hc0, if_neg hc1, if_neg hc2, if_neg hc3, if_neg hc4]
set_option maxRecDepth 20000 in
theorem vGood (p : Vk) (w : World) : FnV Try.prog 76 [vk p] (.bool (goodV p)) w := by
  refine fn_enter Try.func76 rfl Try.ntmps76 rfl ?_
  refine vc_seq ?_
  refine vc_region ?_
  refine vl_box rfl rfl (.some rfl) rfl (fun r1 => ?_)
  refine vl_val rfl (.some rfl) (val_assign rfl) ?_
  refine vl_nil ?_
  refine vc_seq ?_
  refine vc_seq ?_
  refine vc_region ?_
  refine vl_val rfl (.some rfl) (val_loadAgg Try.isAgg64 Try.sizeOf64 rfl (by first | exact cells_whole (by repeat (first | exact .head | apply In.tail | apply Take.tail | apply Upd.tail)) | exact cells_part (by repeat (first | exact .head | apply In.tail | apply Take.tail | apply Upd.tail)) rfl) rfl) ?_
  refine vl_callV rfl rfl (.some rfl) Try.call83 rfl (fun w hw => vOf _ w) ?_
  refine vl_nil ?_
  refine vc_block ?_
  refine vc_seq ?_
  refine vc_region ?_
  refine vl_val rfl (.some rfl) (asks 112 0 (.agg #[]) (.agg #[]) Try.runUnderlying112 rfl Try.zeroValue112 rfl (fun h => by unfold ofV; rw [h]; simp) (other _ _ (fun k hk => ⟨fun h => by first | decide | omega, fun h => by first | decide | omega, fun h => by first | decide | omega, fun h => by first | decide | omega, fun h => by first | decide | omega⟩))) ?_
  refine vl_val rfl (.some rfl) (val_extract rfl rfl) ?_
  refine vl_val rfl (.some rfl) (val_extract rfl rfl) ?_
  refine vl_nil ?_
  refine vc_cond rfl (fun hc0 => ?_) (fun hc0 => ?_)
  · (try replace hc0 := of_decide_eq_true hc0)
    rw [if_pos hc0]
    refine vc_seq ?_
    refine vc_region ?_
    refine vl_alloc rfl rfl (.some rfl) Try.zeroValue112 (fun r3 => ?_)
    first | refine vl_store rfl rfl .none rfl rfl Try.sizeOf112 rfl (by repeat (first | exact .head | apply In.tail | apply Take.tail | apply Upd.tail)) (by first | decide | exact Nat.le_refl _ | exact Nat.le_of_ble_eq_true rfl | (simp; omega)) ?_ | refine vl_storeSl rfl rfl .none rfl rfl Try.sizeOf112 rfl (by simp [Value.cells]) (by repeat (first | exact .head | apply In.tail | apply Take.tail | apply Upd.tail)) (by first | decide | (simp [Value.cells]; omega)) ?_
    refine vl_nil ?_
    refine vc_seq ?_
    refine vc_region ?_
    refine vl_val rfl (.some rfl) (val_loadAgg Try.isAgg64 Try.sizeOf64 rfl (by first | exact cells_whole (by repeat (first | exact .head | apply In.tail | apply Take.tail | apply Upd.tail)) | exact cells_part (by repeat (first | exact .head | apply In.tail | apply Take.tail | apply Upd.tail)) rfl) rfl) ?_
    refine vl_val rfl (.some rfl) (val_buildSt (pl := #[(0, 1), (1, 1), (2, 1)]) (cs := #[.int .i64 0, .int .i64 0, .string ⟨#[]⟩]) Try.runUnderlying64 Try.zeroValue64 (fun w => by kernel_rfl) rfl rfl) ?_
    refine vl_val rfl (.some rfl) (val_opO rfl rfl (fun w => run_eqGuard_agg w _ _ _ _ _ _ (by kernel_rfl)) (bin_agg_eq (vk_equal p z3))) ?_
    refine vl_val rfl (.some rfl) (val_assign rfl) ?_
    refine vl_nil ?_
    refine vc_ret ?_
    refine ⟨_, [], _, res1 Try.results76 rfl, .nil, ?_⟩
    show _ = _; unfold goodV; rw [if_pos hc0]
  · (try replace hc0 := of_decide_eq_false hc0)
    refine vc_seq ?_
    refine vc_region ?_
    refine vl_val rfl (.some rfl) (asks 130 1 (.int .i64 0) (.int .i64 p.n) Try.runUnderlying130 rfl Try.zeroValue130 rfl (fun h => by unfold ofV; rw [h]; simp) (other _ _ (fun k hk => ⟨fun h => by first | decide | omega, fun h => by first | decide | omega, fun h => by first | decide | omega, fun h => by first | decide | omega, fun h => by first | decide | omega⟩))) ?_
    refine vl_val rfl (.some rfl) (val_extract rfl rfl) ?_
    refine vl_val rfl (.some rfl) (val_extract rfl rfl) ?_
    refine vl_nil ?_
    refine vc_cond rfl (fun hc1 => ?_) (fun hc1 => ?_)
    · (try replace hc1 := of_decide_eq_true hc1)
      refine vc_seq ?_
      refine vc_region ?_
      refine vl_val rfl (.some rfl) (val_assign rfl) ?_
      refine vl_nil ?_
      refine vc_seq ?_
      refine vc_region ?_
      refine vl_val rfl (.some rfl) (by first | exact val_fieldAddr Try.runUnderlying64 rfl Try.sizeOf9 rfl | exact val_fieldAddrR Try.runUnderlying64 rfl Try.sizeOf9 rfl) ?_
      refine vl_val rfl (.some rfl) (val_load Try.isAgg9 rfl (by first | exact cell_cells (by repeat (first | exact .head | apply In.tail | apply Take.tail | apply Upd.tail)) rfl | exact cell_rd (rd_sl (by repeat (first | exact .head | apply In.tail | apply Take.tail | apply Upd.tail))) (by first | exact bcells_at (by omega) | exact ucells_at (by omega) | exact icells_at (by omega) | exact tcells_at (by omega) | exact bcells_get (by omega) | exact icells_get (by omega) | exact tcells_get (by omega) | exact ucells_get (by omega)) | exact cell_rd (rd_old (by assumption) rfl) (by first | exact bcells_at (by omega) | exact ucells_at (by omega) | exact icells_at (by omega) | exact tcells_at (by omega) | exact bcells_get (by omega) | exact icells_get (by omega) | exact tcells_get (by omega) | exact ucells_get (by omega)) | exact cell_old (by assumption) (by simp [fps]))) ?_
      refine vl_val rfl (.some rfl) (val_seq rfl rfl) ?_
      refine vl_val rfl (.some rfl) (val_assign rfl) ?_
      refine vl_nil ?_
      refine vc_ret ?_
      refine ⟨_, [], _, res1 Try.results76 rfl, .nil, ?_⟩
      show _ = _; unfold goodV; rw [if_neg hc0, if_pos hc1]
    · (try replace hc1 := of_decide_eq_false hc1)
      refine vc_seq ?_
      refine vc_region ?_
      refine vl_val rfl (.some rfl) (asks 131 2 (.int .i64 0) (.int .i64 p.n) Try.runUnderlying131 rfl Try.zeroValue131 rfl (fun h => by unfold ofV; rw [h]; simp) (other _ _ (fun k hk => ⟨fun h => by first | decide | omega, fun h => by first | decide | omega, fun h => by first | decide | omega, fun h => by first | decide | omega, fun h => by first | decide | omega⟩))) ?_
      refine vl_val rfl (.some rfl) (val_extract rfl rfl) ?_
      refine vl_val rfl (.some rfl) (val_extract rfl rfl) ?_
      refine vl_nil ?_
      refine vc_cond rfl (fun hc2 => ?_) (fun hc2 => ?_)
      · (try replace hc2 := of_decide_eq_true hc2)
        refine vc_seq ?_
        refine vc_region ?_
        refine vl_val rfl (.some rfl) (val_assign rfl) ?_
        refine vl_nil ?_
        refine vc_seq ?_
        refine vc_region ?_
        refine vl_val rfl (.some rfl) (by first | exact val_fieldAddr Try.runUnderlying64 rfl Try.sizeOf9 rfl | exact val_fieldAddrR Try.runUnderlying64 rfl Try.sizeOf9 rfl) ?_
        refine vl_val rfl (.some rfl) (val_load Try.isAgg9 rfl (by first | exact cell_cells (by repeat (first | exact .head | apply In.tail | apply Take.tail | apply Upd.tail)) rfl | exact cell_rd (rd_sl (by repeat (first | exact .head | apply In.tail | apply Take.tail | apply Upd.tail))) (by first | exact bcells_at (by omega) | exact ucells_at (by omega) | exact icells_at (by omega) | exact tcells_at (by omega) | exact bcells_get (by omega) | exact icells_get (by omega) | exact tcells_get (by omega) | exact ucells_get (by omega)) | exact cell_rd (rd_old (by assumption) rfl) (by first | exact bcells_at (by omega) | exact ucells_at (by omega) | exact icells_at (by omega) | exact tcells_at (by omega) | exact bcells_get (by omega) | exact icells_get (by omega) | exact tcells_get (by omega) | exact ucells_get (by omega)) | exact cell_old (by assumption) (by simp [fps]))) ?_
        refine vl_val rfl (.some rfl) (val_seq rfl rfl) ?_
        refine vl_val rfl (.some rfl) (val_move rfl) ?_
        refine vl_split (t := 28) rfl (fun hg28 => ?_) (fun hg28 => ?_)
        · (try replace hg28 := of_decide_eq_true hg28)
          refine vl_on rfl rfl rfl rfl ?_
          refine vl_val rfl (.some rfl) (by first | exact val_fieldAddr Try.runUnderlying64 rfl Try.sizeOf3 rfl | exact val_fieldAddrR Try.runUnderlying64 rfl Try.sizeOf3 rfl) ?_
          refine vl_on rfl rfl rfl rfl ?_
          refine vl_val rfl (.some rfl) (val_load Try.isAgg3 rfl (by first | exact cell_cells (by repeat (first | exact .head | apply In.tail | apply Take.tail | apply Upd.tail)) rfl | exact cell_rd (rd_sl (by repeat (first | exact .head | apply In.tail | apply Take.tail | apply Upd.tail))) (by first | exact bcells_at (by omega) | exact ucells_at (by omega) | exact icells_at (by omega) | exact tcells_at (by omega) | exact bcells_get (by omega) | exact icells_get (by omega) | exact tcells_get (by omega) | exact ucells_get (by omega)) | exact cell_rd (rd_old (by assumption) rfl) (by first | exact bcells_at (by omega) | exact ucells_at (by omega) | exact icells_at (by omega) | exact tcells_at (by omega) | exact bcells_get (by omega) | exact icells_get (by omega) | exact tcells_get (by omega) | exact ucells_get (by omega)) | exact cell_old (by assumption) (by simp [fps]))) ?_
          refine vl_on rfl rfl rfl rfl ?_
          refine vl_callV rfl rfl (.some rfl) Try.call105 rfl (fun w hw => oGood _ w) ?_
          refine vl_val rfl (.some rfl) (val_pick rfl rfl) ?_
          refine vl_val rfl (.some rfl) (val_assign rfl) ?_
          refine vl_nil ?_
          refine vc_ret ?_
          refine ⟨_, [], _, res1 Try.results76 rfl, .nil, ?_⟩
          show _ = _; unfold goodV; rw [if_neg hc0, if_neg hc1, if_pos hc2]; first | (rw [decide_eq_true hg28]; rfl) | (rw [decide_eq_false hg28]; rfl)
        · (try replace hg28 := of_decide_eq_false hg28)
          refine vl_off rfl rfl rfl rfl (.some rfl) ?_
          refine vl_off rfl rfl rfl rfl (.some rfl) ?_
          refine vl_off rfl rfl rfl rfl (.some rfl) ?_
          refine vl_val rfl (.some rfl) (val_pick rfl rfl) ?_
          refine vl_val rfl (.some rfl) (val_assign rfl) ?_
          refine vl_nil ?_
          refine vc_ret ?_
          refine ⟨_, [], _, res1 Try.results76 rfl, .nil, ?_⟩
          show _ = _; unfold goodV; rw [if_neg hc0, if_neg hc1, if_pos hc2]; first | (rw [decide_eq_true hg28]; rfl) | (rw [decide_eq_false hg28]; rfl)
      · (try replace hc2 := of_decide_eq_false hc2)
        refine vc_seq ?_
        refine vc_region ?_
        refine vl_val rfl (.some rfl) (asks 113 3 (.string ⟨#[]⟩) (.string p.s) Try.runUnderlying113 rfl Try.zeroValue113 rfl (fun h => by unfold ofV; rw [h]; simp) (other _ _ (fun k hk => ⟨fun h => by first | decide | omega, fun h => by first | decide | omega, fun h => by first | decide | omega, fun h => by first | decide | omega, fun h => by first | decide | omega⟩))) ?_
        refine vl_val rfl (.some rfl) (val_extract rfl rfl) ?_
        refine vl_val rfl (.some rfl) (val_extract rfl rfl) ?_
        refine vl_nil ?_
        refine vc_cond rfl (fun hc3 => ?_) (fun hc3 => ?_)
        · (try replace hc3 := of_decide_eq_true hc3)
          rw [if_pos hc3]
          refine vc_seq ?_
          refine vc_region ?_
          refine vl_val rfl (.some rfl) (val_assign rfl) ?_
          refine vl_nil ?_
          refine vc_seq ?_
          refine vc_region ?_
          refine vl_val rfl (.some rfl) (by first | exact val_fieldAddr Try.runUnderlying64 rfl Try.sizeOf3 rfl | exact val_fieldAddrR Try.runUnderlying64 rfl Try.sizeOf3 rfl) ?_
          refine vl_val rfl (.some rfl) (val_load Try.isAgg3 rfl (by first | exact cell_cells (by repeat (first | exact .head | apply In.tail | apply Take.tail | apply Upd.tail)) rfl | exact cell_rd (rd_sl (by repeat (first | exact .head | apply In.tail | apply Take.tail | apply Upd.tail))) (by first | exact bcells_at (by omega) | exact ucells_at (by omega) | exact icells_at (by omega) | exact tcells_at (by omega) | exact bcells_get (by omega) | exact icells_get (by omega) | exact tcells_get (by omega) | exact ucells_get (by omega)) | exact cell_rd (rd_old (by assumption) rfl) (by first | exact bcells_at (by omega) | exact ucells_at (by omega) | exact icells_at (by omega) | exact tcells_at (by omega) | exact bcells_get (by omega) | exact icells_get (by omega) | exact tcells_get (by omega) | exact ucells_get (by omega)) | exact cell_old (by assumption) (by simp [fps]))) ?_
          refine vl_val rfl (.some rfl) (val_eq rfl rfl) ?_
          refine vl_val rfl (.some rfl) (val_move rfl) ?_
          refine vl_split (t := 39) rfl (fun hg39 => ?_) (fun hg39 => ?_)
          · (try replace hg39 := of_decide_eq_true hg39)
            refine vl_on rfl rfl rfl rfl ?_
            refine vl_val rfl (.some rfl) (val_move rfl) ?_
            refine vl_on rfl rfl rfl rfl ?_
            refine vl_val rfl (.some rfl) (val_lenStr Try.runUnderlying113 rfl) ?_
            refine vl_on rfl rfl rfl rfl ?_
            refine vl_val rfl (.some rfl) (val_le rfl rfl) ?_
            refine vl_val rfl (.some rfl) (val_pick rfl rfl) ?_
            refine vl_val rfl (.some rfl) (val_assign rfl) ?_
            refine vl_nil ?_
            refine vc_ret ?_
            refine ⟨_, [], _, res1 Try.results76 rfl, .nil, ?_⟩
            show _ = _; unfold goodV; rw [if_neg hc0, if_neg hc1, if_neg hc2, if_pos hc3]; simp_all <;> omega
          · (try replace hg39 := of_decide_eq_false hg39)
            refine vl_off rfl rfl rfl rfl (.some rfl) ?_
            refine vl_off rfl rfl rfl rfl (.some rfl) ?_
            refine vl_off rfl rfl rfl rfl (.some rfl) ?_
            refine vl_val rfl (.some rfl) (val_pick rfl rfl) ?_
            refine vl_val rfl (.some rfl) (val_assign rfl) ?_
            refine vl_nil ?_
            refine vc_ret ?_
            refine ⟨_, [], _, res1 Try.results76 rfl, .nil, ?_⟩
            show _ = _; unfold goodV; rw [if_neg hc0, if_neg hc1, if_neg hc2, if_pos hc3]; simp_all <;> omega
        · (try replace hc3 := of_decide_eq_false hc3)
          refine vc_seq ?_
          refine vc_region ?_
          refine vl_val rfl (.some rfl) (asks 132 4 (.bool false) (.bool (decide (p.n ≠ 0))) Try.runUnderlying132 rfl Try.zeroValue132 rfl (fun h => by unfold ofV; rw [h]; simp) (other _ _ (fun k hk => ⟨fun h => by first | decide | omega, fun h => by first | decide | omega, fun h => by first | decide | omega, fun h => by first | decide | omega, fun h => by first | decide | omega⟩))) ?_
          refine vl_val rfl (.some rfl) (val_extract rfl rfl) ?_
          refine vl_val rfl (.some rfl) (val_extract rfl rfl) ?_
          refine vl_nil ?_
          refine vc_cond rfl (fun hc4 => ?_) (fun hc4 => ?_)
          · (try replace hc4 := of_decide_eq_true hc4)
            refine vc_seq ?_
            refine vc_region ?_
            refine vl_val rfl (.some rfl) (val_assign rfl) ?_
            refine vl_nil ?_
            refine vc_seq ?_
            refine vc_region ?_
            refine vl_val rfl (.some rfl) (by first | exact val_fieldAddr Try.runUnderlying64 rfl Try.sizeOf9 rfl | exact val_fieldAddrR Try.runUnderlying64 rfl Try.sizeOf9 rfl) ?_
            refine vl_val rfl (.some rfl) (val_load Try.isAgg9 rfl (by first | exact cell_cells (by repeat (first | exact .head | apply In.tail | apply Take.tail | apply Upd.tail)) rfl | exact cell_rd (rd_sl (by repeat (first | exact .head | apply In.tail | apply Take.tail | apply Upd.tail))) (by first | exact bcells_at (by omega) | exact ucells_at (by omega) | exact icells_at (by omega) | exact tcells_at (by omega) | exact bcells_get (by omega) | exact icells_get (by omega) | exact tcells_get (by omega) | exact ucells_get (by omega)) | exact cell_rd (rd_old (by assumption) rfl) (by first | exact bcells_at (by omega) | exact ucells_at (by omega) | exact icells_at (by omega) | exact tcells_at (by omega) | exact bcells_get (by omega) | exact icells_get (by omega) | exact tcells_get (by omega) | exact ucells_get (by omega)) | exact cell_old (by assumption) (by simp [fps]))) ?_
            refine vl_val rfl (.some rfl) (val_seq rfl rfl) ?_
            refine vl_val rfl (.some rfl) (val_move rfl) ?_
            refine vl_split (t := 50) rfl (fun hg50 => ?_) (fun hg50 => ?_)
            · (try replace hg50 := of_decide_eq_true hg50)
              refine vl_on rfl rfl rfl rfl ?_
              refine vl_val rfl (.some rfl) (by first | exact val_fieldAddr Try.runUnderlying64 rfl Try.sizeOf3 rfl | exact val_fieldAddrR Try.runUnderlying64 rfl Try.sizeOf3 rfl) ?_
              refine vl_on rfl rfl rfl rfl ?_
              refine vl_val rfl (.some rfl) (val_load Try.isAgg3 rfl (by first | exact cell_cells (by repeat (first | exact .head | apply In.tail | apply Take.tail | apply Upd.tail)) rfl | exact cell_rd (rd_sl (by repeat (first | exact .head | apply In.tail | apply Take.tail | apply Upd.tail))) (by first | exact bcells_at (by omega) | exact ucells_at (by omega) | exact icells_at (by omega) | exact tcells_at (by omega) | exact bcells_get (by omega) | exact icells_get (by omega) | exact tcells_get (by omega) | exact ucells_get (by omega)) | exact cell_rd (rd_old (by assumption) rfl) (by first | exact bcells_at (by omega) | exact ucells_at (by omega) | exact icells_at (by omega) | exact tcells_at (by omega) | exact bcells_get (by omega) | exact icells_get (by omega) | exact tcells_get (by omega) | exact ucells_get (by omega)) | exact cell_old (by assumption) (by simp [fps]))) ?_
              refine vl_on rfl rfl rfl rfl ?_
              refine vl_val rfl (.some rfl) (val_eq rfl rfl) ?_
              refine vl_on rfl rfl rfl rfl ?_
              refine vl_val rfl (.some rfl) (val_move rfl) ?_
              refine vl_split (t := 54) rfl (fun hg54 => ?_) (fun hg54 => ?_)
              · (try replace hg54 := of_decide_eq_true hg54)
                refine vl_off rfl rfl rfl rfl (.some rfl) ?_
                refine vl_off rfl rfl rfl rfl (.some rfl) ?_
                refine vl_off rfl rfl rfl rfl (.some rfl) ?_
                refine vl_on rfl rfl rfl rfl ?_
                refine vl_val rfl (.some rfl) (val_pick rfl rfl) ?_
                refine vl_val rfl (.some rfl) (val_pick rfl rfl) ?_
                refine vl_val rfl (.some rfl) (val_assign rfl) ?_
                refine vl_nil ?_
                refine vc_ret ?_
                refine ⟨_, [], _, res1 Try.results76 rfl, .nil, ?_⟩
                show _ = _; unfold goodV; rw [if_neg hc0, if_neg hc1, if_neg hc2, if_neg hc3, if_pos hc4]; simp_all
              · (try replace hg54 := of_decide_eq_false hg54)
                refine vl_on rfl rfl rfl rfl ?_
                refine vl_val rfl (.some rfl) (by first | exact val_fieldAddr Try.runUnderlying64 rfl Try.sizeOf3 rfl | exact val_fieldAddrR Try.runUnderlying64 rfl Try.sizeOf3 rfl) ?_
                refine vl_on rfl rfl rfl rfl ?_
                refine vl_val rfl (.some rfl) (val_load Try.isAgg3 rfl (by first | exact cell_cells (by repeat (first | exact .head | apply In.tail | apply Take.tail | apply Upd.tail)) rfl | exact cell_rd (rd_sl (by repeat (first | exact .head | apply In.tail | apply Take.tail | apply Upd.tail))) (by first | exact bcells_at (by omega) | exact ucells_at (by omega) | exact icells_at (by omega) | exact tcells_at (by omega) | exact bcells_get (by omega) | exact icells_get (by omega) | exact tcells_get (by omega) | exact ucells_get (by omega)) | exact cell_rd (rd_old (by assumption) rfl) (by first | exact bcells_at (by omega) | exact ucells_at (by omega) | exact icells_at (by omega) | exact tcells_at (by omega) | exact bcells_get (by omega) | exact icells_get (by omega) | exact tcells_get (by omega) | exact ucells_get (by omega)) | exact cell_old (by assumption) (by simp [fps]))) ?_
                refine vl_on rfl rfl rfl rfl ?_
                refine vl_val rfl (.some rfl) (val_eq rfl rfl) ?_
                refine vl_on rfl rfl rfl rfl ?_
                refine vl_val rfl (.some rfl) (val_pick rfl rfl) ?_
                refine vl_val rfl (.some rfl) (val_pick rfl rfl) ?_
                refine vl_val rfl (.some rfl) (val_assign rfl) ?_
                refine vl_nil ?_
                refine vc_ret ?_
                refine ⟨_, [], _, res1 Try.results76 rfl, .nil, ?_⟩
                show _ = _; unfold goodV; rw [if_neg hc0, if_neg hc1, if_neg hc2, if_neg hc3, if_pos hc4]; simp_all
            · (try replace hg50 := of_decide_eq_false hg50)
              refine vl_off rfl rfl rfl rfl (.some rfl) ?_
              refine vl_off rfl rfl rfl rfl (.some rfl) ?_
              refine vl_off rfl rfl rfl rfl (.some rfl) ?_
              refine vl_off rfl rfl rfl rfl (.some rfl) ?_
              refine vl_offU rfl rfl rfl rfl (.some rfl) ?_
              refine vl_offU rfl rfl rfl rfl (.some rfl) ?_
              refine vl_offU rfl rfl rfl rfl (.some rfl) ?_
              refine vl_off rfl rfl rfl rfl (.some rfl) ?_
              refine vl_val rfl (.some rfl) (val_pick rfl rfl) ?_
              refine vl_val rfl (.some rfl) (val_assign rfl) ?_
              refine vl_nil ?_
              refine vc_ret ?_
              refine ⟨_, [], _, res1 Try.results76 rfl, .nil, ?_⟩
              show _ = _; unfold goodV; rw [if_neg hc0, if_neg hc1, if_neg hc2, if_neg hc3, if_pos hc4]; simp_all
          · (try replace hc4 := of_decide_eq_false hc4)
            refine vc_skip ?_
            refine vc_seq ?_
            refine vc_region ?_
            refine vl_val rfl (.some rfl) (val_assign rfl) ?_
            refine vl_nil ?_
            refine vc_ret ?_
            refine ⟨_, [], _, res1 Try.results76 rfl, .nil, ?_⟩
            show _ = _; unfold goodV; rw [if_neg hc0, if_neg hc1, if_neg hc2, if_neg hc3, if_neg hc4]
set_option maxRecDepth 20000 in
theorem vStrText (w : World) : FnV Try.prog 158 [.string sIt] (.string tIt) w := by
  refine fn_enter Try.func158 rfl Try.ntmps158 rfl ?_
  refine vc_seq ?_
  refine vc_region ?_
  refine vl_val rfl (.some rfl) (val_assign rfl) ?_
  refine vl_nil ?_
  refine vc_seq ?_
  refine vc_region ?_
  refine vl_val rfl (.some rfl) (val_move rfl) ?_
  refine vl_callV rfl rfl (.some rfl) Try.call159 rfl (fun w hw => kReplaceAll w) ?_
  refine vl_val rfl (.some rfl) (valE (congrArg Value.string (show sQ ++ (⟨#[105, 116, 39, 39, 115]⟩ : ByteArray) = ⟨#[39, 105, 116, 39, 39, 115]⟩ by decide)) (val_cat (s := sQ) (t := ⟨#[105, 116, 39, 39, 115]⟩) rfl rfl (by decide))) ?_
  refine vl_val rfl (.some rfl) (valE (congrArg Value.string (show (⟨#[39, 105, 116, 39, 39, 115]⟩ : ByteArray) ++ sQ = tIt by decide)) (val_cat (s := ⟨#[39, 105, 116, 39, 39, 115]⟩) (t := sQ) rfl rfl (by decide))) ?_
  refine vl_val rfl (.some rfl) (val_assign rfl) ?_
  refine vl_nil ?_
  refine vc_ret ?_
  refine ⟨_, [], _, res1 Try.results158 rfl, .nil, ?_⟩
  rfl
theorem vOfIt (w : World) : FnV Try.prog 83 [vk ⟨3, 0, sIt⟩] (.iface 113 (.string sIt)) w := vOf ⟨3, 0, sIt⟩ w
set_option maxRecDepth 20000 in
theorem vTextIt (w : World) : FnV Try.prog 75 [vk ⟨3, 0, sIt⟩] (.string tIt) w := by
  refine fn_enter Try.func75 rfl Try.ntmps75 rfl ?_
  refine vc_seq ?_
  refine vc_region ?_
  refine vl_box rfl rfl (.some rfl) rfl (fun r1 => ?_)
  refine vl_val rfl (.some rfl) (val_assign rfl) ?_
  refine vl_nil ?_
  refine vc_seq ?_
  refine vc_region ?_
  refine vl_val rfl (.some rfl) (val_loadAgg Try.isAgg64 Try.sizeOf64 rfl (by first | exact cells_whole (by repeat (first | exact .head | apply In.tail | apply Take.tail | apply Upd.tail)) | exact cells_part (by repeat (first | exact .head | apply In.tail | apply Take.tail | apply Upd.tail)) rfl) rfl) ?_
  refine vl_callV rfl rfl (.some rfl) Try.call83 rfl (fun w hw => vOfIt w) ?_
  refine vl_val rfl (.some rfl) (val_assign rfl) ?_
  refine vl_nil ?_
  refine vc_seq ?_
  refine vc_seq ?_
  refine vc_region ?_
  refine vl_val rfl (.some rfl) (val_move rfl) ?_
  refine vl_val rfl (.some rfl) (val_opO rfl rfl guard_iface (bin_iface_eq Try.runUnderlying109)) ?_
  refine vl_nil ?_
  refine vc_cond rfl (fun h => by cases h) (fun _ => ?_)
  refine vc_skip ?_
  refine vc_seq ?_
  refine vc_region ?_
  refine vl_val rfl (.some rfl) (val_move rfl) ?_
  refine vl_invokeV (f := 158) (v := .string sIt) rfl rfl (.some rfl) rfl rfl (fun args w => by kernel_rfl) (fun w hw => vStrText w) ?_
  refine vl_val rfl (.some rfl) (val_assign rfl) ?_
  refine vl_nil ?_
  refine vc_ret ?_
  refine ⟨_, [], _, res1 Try.results75 rfl, .nil, ?_⟩
  rfl
set_option maxRecDepth 20000 in
set_option maxHeartbeats 400000 in
theorem vLives (w : World) : FnV Try.prog 33 [] (.bool true) w := by
  refine fn_enter Try.func33 rfl Try.ntmps33 rfl ?_
  refine vc_seq ?_
  refine vc_region ?_
  refine vl_val rfl (.some rfl) (val_assign rfl) ?_
  refine vl_nil ?_
  refine vc_seq ?_
  refine vc_region ?_
  refine vl_val rfl (.some rfl) (val_buildSt (pl := #[(0, 1), (1, 1), (2, 1)]) (cs := #[.int .i64 3, .int .i64 0, .string sIt]) Try.runUnderlying64 Try.zeroValue64 (fun w => by kernel_rfl) rfl rfl) ?_
  refine vl_callV rfl rfl (.some rfl) Try.call75 rfl (fun w hw => vTextIt w) ?_
  refine vl_val rfl (.some rfl) (val_seqt rfl rfl (by decide)) ?_
  refine vl_val rfl (.some rfl) (val_move rfl) ?_
  refine vl_on rfl rfl rfl rfl ?_
  refine vl_callV rfl rfl (.some rfl) Try.call34 rfl (fun w hw => vAnd _ _ w) ?_
  refine vl_on rfl rfl rfl rfl ?_
  refine vl_val rfl (.some rfl) (val_eqt rfl rfl (by decide)) ?_
  refine vl_val rfl (.some rfl) (val_pick rfl rfl) ?_
  refine vl_val rfl (.some rfl) (val_move rfl) ?_
  refine vl_on rfl rfl rfl rfl ?_
  refine vl_callV rfl rfl (.some rfl) Try.call36 rfl (fun w hw => vOr _ _ w) ?_
  refine vl_on rfl rfl rfl rfl ?_
  refine vl_val rfl (.some rfl) (val_eqt rfl rfl (by decide)) ?_
  refine vl_val rfl (.some rfl) (val_pick rfl rfl) ?_
  refine vl_val rfl (.some rfl) (val_move rfl) ?_
  refine vl_on rfl rfl rfl rfl ?_
  refine vl_val rfl (.some rfl) (val_buildSt (pl := #[(0, 1), (1, 1), (2, 1)]) (cs := #[.int .i64 0, .int .i64 0, .string ⟨#[]⟩]) Try.runUnderlying64 Try.zeroValue64 (fun w => by kernel_rfl) rfl rfl) ?_
  refine vl_on rfl rfl rfl rfl ?_
  refine vl_val rfl (.some rfl) (val_buildSt (pl := #[(0, 1), (1, 1), (2, 1)]) (cs := #[.int .i64 1, .int .i64 0, .string ⟨#[]⟩]) Try.runUnderlying64 Try.zeroValue64 (fun w => by kernel_rfl) rfl rfl) ?_
  refine vl_on rfl rfl rfl rfl ?_
  refine vl_callV rfl rfl (.some rfl) Try.call31 rfl (fun w hw => vCmp z3 ⟨1, 0, ⟨#[]⟩⟩ w) ?_
  refine vl_on rfl rfl rfl rfl ?_
  refine vl_val rfl (.some rfl) (val_eqt rfl rfl (by decide)) ?_
  refine vl_val rfl (.some rfl) (val_pick rfl rfl) ?_
  refine vl_val rfl (.some rfl) (val_move rfl) ?_
  refine vl_on rfl rfl rfl rfl ?_
  refine vl_val rfl (.some rfl) (val_buildSt (pl := #[(0, 1), (1, 1), (2, 1)]) (cs := #[.int .i64 0, .int .i64 0, .string ⟨#[]⟩]) Try.runUnderlying64 Try.zeroValue64 (fun w => by kernel_rfl) rfl rfl) ?_
  refine vl_on rfl rfl rfl rfl ?_
  refine vl_callV rfl rfl (.some rfl) Try.call76 rfl (fun w hw => vGood z3 w) ?_
  rw [show goodV z3 = true by decide]
  refine vl_val rfl (.some rfl) (val_pick rfl rfl) ?_
  refine vl_val rfl (.some rfl) (val_assign rfl) ?_
  refine vl_nil ?_
  refine vc_ret ?_
  refine ⟨_, [], _, res1 Try.results33 rfl, .nil, ?_⟩
  rfl
set_option maxRecDepth 20000 in
theorem law_ValueLogic (a b : Int) (h1 : -9223372036854775808 ≤ a) (h2 : a < 9223372036854775808) (h3 : -9223372036854775808 ≤ b) (h4 : b < 9223372036854775808) (w : World) : FnV Try.prog 10 [.int .i64 a, .int .i64 b] (.bool true) w := by
  refine fn_enter Try.func10 rfl Try.ntmps10 rfl ?_
  refine vc_seq ?_
  refine vc_region ?_
  refine vl_val rfl (.some rfl) (val_assign rfl) ?_
  refine vl_nil ?_
  refine vc_seq ?_
  refine vc_region ?_
  refine vl_val rfl (.some rfl) (val_move rfl) ?_
  refine vl_val rfl (.some rfl) (val_move rfl) ?_
  refine vl_callV rfl rfl (.some rfl) Try.call34 rfl (fun w hw => vAnd _ _ w) ?_
  refine vl_val rfl (.some rfl) (val_move rfl) ?_
  refine vl_val rfl (.some rfl) (val_move rfl) ?_
  refine vl_callV rfl rfl (.some rfl) Try.call35 rfl (fun w hw => xAnd _ _ w) ?_
  refine vl_val rfl (.some rfl) (val_eqt rfl rfl (rfl)) ?_
  refine vl_val rfl (.some rfl) (val_move rfl) ?_
  refine vl_on rfl rfl rfl rfl ?_
  refine vl_val rfl (.some rfl) (val_move rfl) ?_
  refine vl_on rfl rfl rfl rfl ?_
  refine vl_val rfl (.some rfl) (val_move rfl) ?_
  refine vl_on rfl rfl rfl rfl ?_
  refine vl_callV rfl rfl (.some rfl) Try.call36 rfl (fun w hw => vOr _ _ w) ?_
  refine vl_on rfl rfl rfl rfl ?_
  refine vl_val rfl (.some rfl) (val_move rfl) ?_
  refine vl_on rfl rfl rfl rfl ?_
  refine vl_val rfl (.some rfl) (val_move rfl) ?_
  refine vl_on rfl rfl rfl rfl ?_
  refine vl_callV rfl rfl (.some rfl) Try.call37 rfl (fun w hw => xOr _ _ w) ?_
  refine vl_on rfl rfl rfl rfl ?_
  refine vl_val rfl (.some rfl) (val_eqt rfl rfl (rfl)) ?_
  refine vl_val rfl (.some rfl) (val_pick rfl rfl) ?_
  refine vl_val rfl (.some rfl) (val_move rfl) ?_
  refine vl_on rfl rfl rfl rfl ?_
  refine vl_val rfl (.some rfl) (val_move rfl) ?_
  refine vl_on rfl rfl rfl rfl ?_
  refine vl_callV rfl rfl (.some rfl) Try.call38 rfl (fun w hw => vNot _ w) ?_
  refine vl_on rfl rfl rfl rfl ?_
  refine vl_val rfl (.some rfl) (val_move rfl) ?_
  refine vl_on rfl rfl rfl rfl ?_
  refine vl_callV rfl rfl (.some rfl) Try.call39 rfl (fun w hw => xNot _ w) ?_
  refine vl_on rfl rfl rfl rfl ?_
  refine vl_val rfl (.some rfl) (val_eqt rfl rfl (rfl)) ?_
  refine vl_val rfl (.some rfl) (val_pick rfl rfl) ?_
  refine vl_val rfl (.some rfl) (val_move rfl) ?_
  refine vl_on rfl rfl rfl rfl ?_
  refine vl_val rfl (.some rfl) (val_move rfl) ?_
  refine vl_on rfl rfl rfl rfl ?_
  refine vl_callV rfl rfl (.some rfl) Try.call40 rfl (fun w hw => vOfI _ w) ?_
  refine vl_on rfl rfl rfl rfl ?_
  refine vl_val rfl (.some rfl) (val_move rfl) ?_
  refine vl_on rfl rfl rfl rfl ?_
  refine vl_callV rfl rfl (.some rfl) Try.call41 rfl (fun w hw => xOfI _ w) ?_
  refine vl_on rfl rfl rfl rfl ?_
  refine vl_val rfl (.some rfl) (val_vkS rfl rfl rfl) ?_
  refine vl_val rfl (.some rfl) (val_pick rfl rfl) ?_
  refine vl_val rfl (.some rfl) (val_move rfl) ?_
  refine vl_on rfl rfl rfl rfl ?_
  refine vl_callV rfl rfl (.some rfl) Try.call33 rfl (fun w hw => vLives w) ?_
  refine vl_val rfl (.some rfl) (val_pick rfl rfl) ?_
  refine vl_val rfl (.some rfl) (val_assign rfl) ?_
  refine vl_nil ?_
  refine vc_ret ?_
  refine ⟨_, [], _, res1 Try.results10 rfl, .nil, ?_⟩
  rfl
set_option maxRecDepth 20000 in
theorem law_ValueCmps (p q r : Vk) (hp : WV p) (hq : WV q) (hr : WV r) (w : World) : FnV Try.prog 9 [vk p, vk q, vk r] (.bool true) w := by
  have b1 := cmpV_rng q p
  refine fn_enter Try.func9 rfl Try.ntmps9 rfl ?_
  refine vc_seq ?_
  refine vc_region ?_
  refine vl_box rfl rfl (.some rfl) rfl (fun r3 => ?_)
  refine vl_box rfl rfl (.some rfl) rfl (fun r4 => ?_)
  refine vl_box rfl rfl (.some rfl) rfl (fun r5 => ?_)
  refine vl_val rfl (.some rfl) (val_assign rfl) ?_
  refine vl_nil ?_
  refine vc_seq ?_
  refine vc_seq ?_
  refine vc_draws [0, 1, 3, 4, 6, 7, 8, 9, 11, 12, 14, 15, 16] [] [0, 1, 3, 4, 2, 5, 6, 7, 8, 9, 11, 12, 10, 13, 14, 15, 16] rfl (by kernel_rfl) (fun _ _ _ h => h) ?_
  refine vd_val rfl rfl rfl (.some rfl) (val_loadAgg Try.isAgg64 Try.sizeOf64 rfl (by first | exact cells_whole (by repeat (first | exact .head | apply In.tail | apply Take.tail | apply Upd.tail)) | exact cells_part (by repeat (first | exact .head | apply In.tail | apply Take.tail | apply Upd.tail)) rfl) rfl) ?_
  refine vd_val rfl rfl rfl (.some rfl) (val_loadAgg Try.isAgg64 Try.sizeOf64 rfl (by first | exact cells_whole (by repeat (first | exact .head | apply In.tail | apply Take.tail | apply Upd.tail)) | exact cells_part (by repeat (first | exact .head | apply In.tail | apply Take.tail | apply Upd.tail)) rfl) rfl) ?_
  refine vd_val rfl rfl rfl (.some rfl) (val_loadAgg Try.isAgg64 Try.sizeOf64 rfl (by first | exact cells_whole (by repeat (first | exact .head | apply In.tail | apply Take.tail | apply Upd.tail)) | exact cells_part (by repeat (first | exact .head | apply In.tail | apply Take.tail | apply Upd.tail)) rfl) rfl) ?_
  refine vd_val rfl rfl rfl (.some rfl) (val_loadAgg Try.isAgg64 Try.sizeOf64 rfl (by first | exact cells_whole (by repeat (first | exact .head | apply In.tail | apply Take.tail | apply Upd.tail)) | exact cells_part (by repeat (first | exact .head | apply In.tail | apply Take.tail | apply Upd.tail)) rfl) rfl) ?_
  refine vd_op rfl rfl ?_
  refine vl_callV rfl rfl (.some rfl) Try.call31 rfl (fun w hw => vCmp p q w) ?_
  refine vl_nil ?_
  refine ⟨fun _ => ⟨_, (by repeat (first | exact .nil | (apply Sub.cons; · repeat (first | exact .head | apply Take.tail))))⟩, ?_⟩
  refine vd_op rfl rfl ?_
  refine vl_callV rfl rfl (.some rfl) Try.call32 rfl (fun w hw => xCmp p q hp hq w) ?_
  refine vl_nil ?_
  refine ⟨fun _ => ⟨_, (by repeat (first | exact .nil | (apply Sub.cons; · repeat (first | exact .head | apply Take.tail))))⟩, ?_⟩
  refine vd_val rfl rfl rfl (.some rfl) (val_net rfl rfl (rfl)) ?_
  refine vd_val rfl rfl rfl (.some rfl) (val_move rfl) ?_
  refine vd_on rfl rfl rfl rfl rfl rfl (.some rfl) (val_loadAgg Try.isAgg64 Try.sizeOf64 rfl (by first | exact cells_whole (by repeat (first | exact .head | apply In.tail | apply Take.tail | apply Upd.tail)) | exact cells_part (by repeat (first | exact .head | apply In.tail | apply Take.tail | apply Upd.tail)) rfl) rfl) ?_
  refine vd_on rfl rfl rfl rfl rfl rfl (.some rfl) (val_loadAgg Try.isAgg64 Try.sizeOf64 rfl (by first | exact cells_whole (by repeat (first | exact .head | apply In.tail | apply Take.tail | apply Upd.tail)) | exact cells_part (by repeat (first | exact .head | apply In.tail | apply Take.tail | apply Upd.tail)) rfl) rfl) ?_
  refine vd_on rfl rfl rfl rfl rfl rfl (.some rfl) (val_loadAgg Try.isAgg64 Try.sizeOf64 rfl (by first | exact cells_whole (by repeat (first | exact .head | apply In.tail | apply Take.tail | apply Upd.tail)) | exact cells_part (by repeat (first | exact .head | apply In.tail | apply Take.tail | apply Upd.tail)) rfl) rfl) ?_
  refine vd_on rfl rfl rfl rfl rfl rfl (.some rfl) (val_loadAgg Try.isAgg64 Try.sizeOf64 rfl (by first | exact cells_whole (by repeat (first | exact .head | apply In.tail | apply Take.tail | apply Upd.tail)) | exact cells_part (by repeat (first | exact .head | apply In.tail | apply Take.tail | apply Upd.tail)) rfl) rfl) ?_
  refine vd_op rfl rfl ?_
  refine vl_on rfl rfl rfl rfl ?_
  refine vl_callV rfl rfl (.some rfl) Try.call31 rfl (fun w hw => vCmp _ _ w) ?_
  refine vl_nil ?_
  refine ⟨fun _ => ⟨_, (by repeat (first | exact .nil | (apply Sub.cons; · repeat (first | exact .head | apply Take.tail))))⟩, ?_⟩
  refine vd_op rfl rfl ?_
  refine vl_on rfl rfl rfl rfl ?_
  refine vl_callV rfl rfl (.some rfl) Try.call31 rfl (fun w hw => vCmp _ _ w) ?_
  refine vl_nil ?_
  refine ⟨fun _ => ⟨_, (by repeat (first | exact .nil | (apply Sub.cons; · repeat (first | exact .head | apply Take.tail))))⟩, ?_⟩
  refine vd_on rfl rfl rfl rfl rfl rfl (.some rfl) (val_neg rfl (by first | exact w_i64 (by omega) (by omega) | rfl)) ?_
  refine vd_on rfl rfl rfl rfl rfl rfl (.some rfl) (val_net rfl rfl (by have := cmpV_neg p q; omega)) ?_
  refine vd_val rfl rfl rfl (.some rfl) (val_pick rfl rfl) ?_
  refine vd_nil ?_
  refine vc_cond rfl (fun h => by cases h) (fun _ => ?_)
  refine vc_skip ?_
  refine vc_seq ?_
  refine vc_seq ?_
  refine vc_region ?_
  refine vl_val rfl (.some rfl) (val_loadAgg Try.isAgg64 Try.sizeOf64 rfl (by first | exact cells_whole (by repeat (first | exact .head | apply In.tail | apply Take.tail | apply Upd.tail)) | exact cells_part (by repeat (first | exact .head | apply In.tail | apply Take.tail | apply Upd.tail)) rfl) rfl) ?_
  refine vl_val rfl (.some rfl) (val_loadAgg Try.isAgg64 Try.sizeOf64 rfl (by first | exact cells_whole (by repeat (first | exact .head | apply In.tail | apply Take.tail | apply Upd.tail)) | exact cells_part (by repeat (first | exact .head | apply In.tail | apply Take.tail | apply Upd.tail)) rfl) rfl) ?_
  refine vl_callV rfl rfl (.some rfl) Try.call31 rfl (fun w hw => vCmp _ _ w) ?_
  refine vl_val rfl (.some rfl) (val_le rfl rfl) ?_
  refine vl_val rfl (.some rfl) (val_move rfl) ?_
  refine vl_split (t := 28) rfl (fun hg28 => ?_) (fun hg28 => ?_)
  · (try replace hg28 := of_decide_eq_true hg28)
    refine vl_on rfl rfl rfl rfl ?_
    refine vl_val rfl (.some rfl) (val_loadAgg Try.isAgg64 Try.sizeOf64 rfl (by first | exact cells_whole (by repeat (first | exact .head | apply In.tail | apply Take.tail | apply Upd.tail)) | exact cells_part (by repeat (first | exact .head | apply In.tail | apply Take.tail | apply Upd.tail)) rfl) rfl) ?_
    refine vl_on rfl rfl rfl rfl ?_
    refine vl_val rfl (.some rfl) (val_loadAgg Try.isAgg64 Try.sizeOf64 rfl (by first | exact cells_whole (by repeat (first | exact .head | apply In.tail | apply Take.tail | apply Upd.tail)) | exact cells_part (by repeat (first | exact .head | apply In.tail | apply Take.tail | apply Upd.tail)) rfl) rfl) ?_
    refine vl_on rfl rfl rfl rfl ?_
    refine vl_callV rfl rfl (.some rfl) Try.call31 rfl (fun w hw => vCmp _ _ w) ?_
    refine vl_on rfl rfl rfl rfl ?_
    refine vl_val rfl (.some rfl) (val_le rfl rfl) ?_
    refine vl_val rfl (.some rfl) (val_pick rfl rfl) ?_
    refine vl_val rfl (.some rfl) (val_move rfl) ?_
    refine vl_split (t := 34) rfl (fun hg34 => ?_) (fun hg34 => ?_)
    · (try replace hg34 := of_decide_eq_true hg34)
      refine vl_on rfl rfl rfl rfl ?_
      refine vl_val rfl (.some rfl) (val_loadAgg Try.isAgg64 Try.sizeOf64 rfl (by first | exact cells_whole (by repeat (first | exact .head | apply In.tail | apply Take.tail | apply Upd.tail)) | exact cells_part (by repeat (first | exact .head | apply In.tail | apply Take.tail | apply Upd.tail)) rfl) rfl) ?_
      refine vl_on rfl rfl rfl rfl ?_
      refine vl_val rfl (.some rfl) (val_loadAgg Try.isAgg64 Try.sizeOf64 rfl (by first | exact cells_whole (by repeat (first | exact .head | apply In.tail | apply Take.tail | apply Upd.tail)) | exact cells_part (by repeat (first | exact .head | apply In.tail | apply Take.tail | apply Upd.tail)) rfl) rfl) ?_
      refine vl_on rfl rfl rfl rfl ?_
      refine vl_callV rfl rfl (.some rfl) Try.call31 rfl (fun w hw => vCmp _ _ w) ?_
      refine vl_on rfl rfl rfl rfl ?_
      refine vl_val rfl (.some rfl) (val_gt rfl rfl) ?_
      refine vl_val rfl (.some rfl) (val_pick rfl rfl) ?_
      refine vl_nil ?_
      refine vc_cond rfl (fun hc1 => False.elim (by (try replace hc1 := of_decide_eq_true hc1); exact absurd (cmpV_trans hg28 hg34) (by omega))) (fun hc1 => ?_)
      (try replace hc1 := of_decide_eq_false hc1)
      refine vc_skip ?_
      refine vc_seq ?_
      refine vc_region ?_
      refine vl_callV rfl rfl (.some rfl) Try.call33 rfl (fun w hw => vLives w) ?_
      refine vl_val rfl (.some rfl) (val_assign rfl) ?_
      refine vl_nil ?_
      refine vc_ret ?_
      refine ⟨_, [], _, res1 Try.results9 rfl, .nil, ?_⟩
      rfl
    · (try replace hg34 := of_decide_eq_false hg34)
      refine vl_off rfl rfl rfl rfl (.some rfl) ?_
      refine vl_off rfl rfl rfl rfl (.some rfl) ?_
      refine vl_off rfl rfl rfl rfl (.some rfl) ?_
      refine vl_off rfl rfl rfl rfl (.some rfl) ?_
      refine vl_val rfl (.some rfl) (val_pick rfl rfl) ?_
      refine vl_nil ?_
      refine vc_cond rfl (fun h => by cases h) (fun _ => ?_)
      refine vc_skip ?_
      refine vc_seq ?_
      refine vc_region ?_
      refine vl_callV rfl rfl (.some rfl) Try.call33 rfl (fun w hw => vLives w) ?_
      refine vl_val rfl (.some rfl) (val_assign rfl) ?_
      refine vl_nil ?_
      refine vc_ret ?_
      refine ⟨_, [], _, res1 Try.results9 rfl, .nil, ?_⟩
      rfl
  · (try replace hg28 := of_decide_eq_false hg28)
    refine vl_off rfl rfl rfl rfl (.some rfl) ?_
    refine vl_off rfl rfl rfl rfl (.some rfl) ?_
    refine vl_off rfl rfl rfl rfl (.some rfl) ?_
    refine vl_off rfl rfl rfl rfl (.some rfl) ?_
    refine vl_val rfl (.some rfl) (val_pick rfl rfl) ?_
    refine vl_val rfl (.some rfl) (val_move rfl) ?_
    refine vl_off rfl rfl rfl rfl (.some rfl) ?_
    refine vl_off rfl rfl rfl rfl (.some rfl) ?_
    refine vl_off rfl rfl rfl rfl (.some rfl) ?_
    refine vl_off rfl rfl rfl rfl (.some rfl) ?_
    refine vl_val rfl (.some rfl) (val_pick rfl rfl) ?_
    refine vl_nil ?_
    refine vc_cond rfl (fun h => by cases h) (fun _ => ?_)
    refine vc_skip ?_
    refine vc_seq ?_
    refine vc_region ?_
    refine vl_callV rfl rfl (.some rfl) Try.call33 rfl (fun w hw => vLives w) ?_
    refine vl_val rfl (.some rfl) (val_assign rfl) ?_
    refine vl_nil ?_
    refine vc_ret ?_
    refine ⟨_, [], _, res1 Try.results9 rfl, .nil, ?_⟩
    rfl

end Go.Proofs.Ytclknendeeljaaa.K
