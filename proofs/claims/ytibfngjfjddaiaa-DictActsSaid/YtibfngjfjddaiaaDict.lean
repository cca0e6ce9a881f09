/- Walks of the program's functions, printed by a program of this session; Lean checks them. -/
import Derived.Test.YtibfngjfjddaiaaOrd
namespace Go.Proofs.Ytibfngjfjddaiaa.K
open Go Go.RowKit Go.Proofs
set_option linter.unusedVariables false
set_option linter.unusedSimpArgs false
set_option maxRecDepth 20000 in
theorem sT22 : SlT Try.prog 22 27 3 32 (.agg #[.int .i64 0, .int .i64 0, .string .empty]) := ⟨Try.underlying22, ⟨Try.t27, Try.type27, rfl, rfl, rfl⟩, rfl, Nat.lt_of_sub_eq_succ rfl⟩
structure Vk where
  k : Int
  n : Int
  s : ByteArray
  deriving DecidableEq
abbrev vk (p : Vk) : Value := .agg #[.int .i64 p.k, .int .i64 p.n, .string p.s]
abbrev z3 : Vk := ⟨0, 0, ⟨#[]⟩⟩
theorem fsV : (Try.prog.fieldsOf 27).toList = [⟨"Kind", 3, 0, false, "", "", 0⟩, ⟨"N", 3, 1, false, "", "", 8⟩, ⟨"S", 9, 2, false, "", "", 16⟩] := by kernel_rfl
theorem vk_chk (e : Bool) (p : Vk) (w : World) : (Instr.checkKey e 10000 27 (vk p)).run Try.prog w = .ok () w := by
  obtain ⟨k, n, s⟩ := p
  kernel_rfl
theorem vk_same (p : Vk) : Instr.sameBits 10000 (vk p) (vk p) = true := by
  simp [Instr.sameBits, beq_toListBytes]
theorem vk_equal (p q : Vk) (w : World) : (Op.equal 27 (vk p) (vk q)).run Try.prog w = .ok (decide (p = q)) w := by
  obtain ⟨k, n, s⟩ := p
  obtain ⟨k', n', s'⟩ := q
  unfold Op.equal vk
  rw [show Op.maxDepth = 9999 + 1 from rfl, run_equalIn_agg w 9999 27 _ _ (by kernel_rfl) (by kernel_rfl), fsV]
  have e3 : ∀ a b : Int, (Op.equalIn 9999 3 (.int .i64 a) (.int .i64 b)).run Try.prog w = .ok (decide (a = b)) w := fun a b => by
    rw [show (9999 : Nat) = 9998 + 1 from rfl, run_equalIn_int w 9998 3 .i64 .i64 a b Try.underlying3, int_beq]
  have e9 : ∀ a b : ByteArray, (Op.equalIn 9999 9 (.string a) (.string b)).run Try.prog w = .ok (decide (a = b)) w := fun a b => by
    rw [show (9999 : Nat) = 9998 + 1 from rfl, run_equalIn_string w 9998 9 a b Try.underlying9, bytes_beq]
  simp only [Op.eqFields, part, Sem.run_bind, Try.isAgg3, Try.isAgg9, Result.andThen_ok]
  simp [e3, e9]
  by_cases h1 : k = k' <;> by_cases h2 : n = n' <;> simp [h1, h2, e3, e9]
  by_cases h3 : s = s' <;> simp [h3]
theorem kT : KeyT Try.prog 50 27 3 vk (.int .i64 0) :=
  ⟨Try.runUnderlying50, Try.zeroValue3, vk_chk, vk_equal, ⟨_, Try.runUnderlying27, fun _ _ => rfl⟩, vk_same⟩
/-- What 'of' answers. -/
def ofV (p : Vk) : Value := if p.k = 0 then .iface 138 (.agg #[]) else if p.k = 1 then .iface 139 (.int .i64 p.n) else if p.k = 2 then .iface 140 (.int .i64 p.n) else if p.k = 3 then .iface 141 (.string p.s) else if p.k = 4 then .iface 142 (.bool (decide (p.n ≠ 0))) else .nilIface
section asks
variable {X : Cx} {E : Env} {H : List Chunk} {p : Vk}
theorem asks (T : TypeId) (j : Int) (z pl : Value) {x : Operand} {xT ty : TypeId} {d : TypeDesc} (hu : ∀ w, (underlying T).run X.P w = .ok d w) (hd : (match d with | .interface _ => false | _ => true) = true) (hz : ∀ w, (zeroValue T).run X.P w = .ok z w) (hx : E.ev x = some (ofV p))
    (h1 : p.k = j → ofV p = .iface T pl) (h2 : p.k ≠ j → ofV p = .nilIface ∨ ∃ t v, t ≠ T ∧ ofV p = .iface t v) : Val X E H (.typeAssert x xT T true) ty (.tuple #[if p.k = j then pl else z, .bool (decide (p.k = j))]) := by
  by_cases h : p.k = j
  · rw [h1 h] at hx
    have := val_isType (H := H) (xT := xT) (ty := ty) hu hd hz hx
    simpa [h] using this
  · rcases h2 h with e | ⟨t, v, ht, e⟩
    · rw [e] at hx
      have := val_isTypeNil (H := H) (xT := xT) (ty := ty) hu hz hx
      simpa [h] using this
    · rw [e] at hx
      have := val_isType (H := H) (xT := xT) (ty := ty) hu hd hz hx
      simpa [h, ht] using this
theorem other (T : TypeId) (j : Int) (hj : ∀ k : Int, k ≠ j → (k = 0 → 138 ≠ T) ∧ (k = 1 → 139 ≠ T) ∧ (k = 2 → 140 ≠ T) ∧ (k = 3 → 141 ≠ T) ∧ (k = 4 → 142 ≠ T)) (h : p.k ≠ j) : ofV p = .nilIface ∨ ∃ t v, t ≠ T ∧ ofV p = .iface t v := by
  obtain ⟨a0, a1, a2, a3, a4⟩ := hj p.k h
  unfold ofV
  split
  · exact .inr ⟨_, _, a0 (by assumption), rfl⟩
  · split
    · exact .inr ⟨_, _, a1 (by assumption), rfl⟩
    · split
      · exact .inr ⟨_, _, a2 (by assumption), rfl⟩
      · split
        · exact .inr ⟨_, _, a3 (by assumption), rfl⟩
        · split
          · exact .inr ⟨_, _, a4 (by assumption), rfl⟩
          · exact .inl rfl
end asks
def goodV (p : Vk) : Bool := if p.k = 0 then decide (p = z3) else if p.k = 1 then decide (p.s = ⟨#[]⟩) else if p.k = 2 then decide (p.s = ⟨#[]⟩) && decide (canS p.n = p.n) else if p.k = 3 then decide (p.n = 0) && decide (p.s.size ≤ 64) else if p.k = 4 then decide (p.s = ⟨#[]⟩) && (decide (p.n = 0) || decide (p.n = 1)) else false

def flat (vs : List Vk) : List Value := vs.flatMap fun p => [.int .i64 p.k, .int .i64 p.n, .string p.s]
theorem vflat_len (vs : List Vk) : (flat vs).length = vs.length * 3 := by
  induction vs with
  | nil => rfl
  | cons p vs ih => simp only [flat, List.flatMap_cons, List.length_append, List.length_cons, List.length_nil] at ih ⊢; omega
theorem flat_at : ∀ (vs : List Vk) (i : Nat), i < vs.length → ((flat vs).drop (i * 3)).take 3 = [.int .i64 (vs.getD i z3).k, .int .i64 (vs.getD i z3).n, .string (vs.getD i z3).s]
  | [], _, h => absurd h (Nat.not_lt_zero _)
  | p :: vs, 0, _ => rfl
  | p :: vs, i + 1, h => by
    have e : flat (p :: vs) = [.int .i64 p.k, .int .i64 p.n, .string p.s] ++ flat vs := rfl
    rw [e, Nat.add_mul, Nat.add_comm, Nat.one_mul, ← List.drop_drop]
    exact flat_at vs i (by simpa using h)
theorem flat_push (vs : List Vk) (p : Vk) : flat vs ++ [.int .i64 p.k, .int .i64 p.n, .string p.s] = flat (vs ++ [p]) := by simp [flat]
abbrev DC (r m : Nat) (kd : Int) (A : Option Addr) (n c : Nat) : Chunk := cells r [.int .i64 kd, .map (some m), .slice A n c] 52
abbrev DM (m : Nat) (vs : List Vk) : Chunk := mp vk m vs (ids 0 vs.length)
abbrev DS (A : Option Addr) (c : Nat) (vs : List Vk) : Chunk := sl A vs.length c 27 3 (flat vs)
abbrev DH (r m : Nat) (kd : Int) (A : Option Addr) (c : Nat) (vs : List Vk) : List Chunk := [DC r m kd A vs.length c, DM m vs, DS A c vs]
def takesB (kd : Int) (p : Vk) : Bool := decide (p.k = kd) && goodV p
def dadd (kd : Int) (vs : List Vk) (p : Vk) : (Int × Int) × List Vk := if takesB kd p = false then ((0, 12), vs) else if p ∈ vs then ((((vs.idxOf p : Nat) : Int), 0), vs) else if 512 ≤ vs.length then ((0, 7), vs) else ((vs.length, 0), vs ++ [p])

set_option maxRecDepth 20000 in
theorem vOf (p : Vk) (w : World) : FnV Try.prog 94 [vk p] (ofV p) w := by
  refine fn_enter Try.func94 rfl Try.ntmps94 rfl ?_
  refine vc_seq ?_
  refine vc_region ?_
  refine vl_box rfl rfl (.some rfl) rfl (fun r1 => ?_)
  refine vl_val rfl (.some rfl) (val_assign rfl) ?_
  refine vl_nil ?_
  refine vc_seq ?_
  refine vc_seq ?_
  refine vc_region ?_
  refine vl_val rfl (.some rfl) (by first | exact val_fieldAddr Try.runUnderlying27 rfl Try.sizeOf3 rfl | exact val_fieldAddrR Try.runUnderlying27 rfl Try.sizeOf3 rfl) ?_
  refine vl_val rfl (.some rfl) (val_load Try.isAgg3 rfl (by first | exact cell_cells (by repeat (first | exact .head | apply In.tail | apply Take.tail | apply Upd.tail)) rfl | exact cell_rd (rd_sl (by repeat (first | exact .head | apply In.tail | apply Take.tail | apply Upd.tail))) (by first | exact bcells_get (by omega) | exact icells_get (by omega) | exact tcells_get (by omega)))) ?_
  refine vl_nil ?_
  refine vc_block ?_
  refine vc_seq ?_
  refine vc_region ?_
  refine vl_val rfl (.some rfl) (val_eq rfl rfl) ?_
  refine vl_val rfl (.some rfl) (val_assign rfl) ?_
  refine vl_nil ?_
  refine vc_cond rfl (fun hc0 => ?_) (fun hc0 => ?_)
  · (try replace hc0 := of_decide_eq_true hc0)
    refine vc_seq ?_
    refine vc_region ?_
    refine vl_val rfl (.some rfl) (val_buildSt (pl := #[]) (cs := #[]) Try.runUnderlying138 Try.zeroValue138 (fun w => by kernel_rfl) rfl rfl) ?_
    refine vl_val rfl (.some rfl) (val_mkIface Try.runUnderlying138 rfl rfl) ?_
    refine vl_val rfl (.some rfl) (val_assign rfl) ?_
    refine vl_nil ?_
    refine vc_ret ?_
    refine ⟨_, [], _, res1 Try.results94 rfl, .nil, ?_⟩
    show _ = _; unfold ofV; rw [if_pos hc0]
  · (try replace hc0 := of_decide_eq_false hc0)
    refine vc_seq ?_
    refine vc_region ?_
    refine vl_val rfl (.some rfl) (val_eq rfl rfl) ?_
    refine vl_val rfl (.some rfl) (val_assign rfl) ?_
    refine vl_nil ?_
    refine vc_cond rfl (fun hc1 => ?_) (fun hc1 => ?_)
    · (try replace hc1 := of_decide_eq_true hc1)
      refine vc_seq ?_
      refine vc_region ?_
      refine vl_val rfl (.some rfl) (by first | exact val_fieldAddr Try.runUnderlying27 rfl Try.sizeOf3 rfl | exact val_fieldAddrR Try.runUnderlying27 rfl Try.sizeOf3 rfl) ?_
      refine vl_val rfl (.some rfl) (val_load Try.isAgg3 rfl (by first | exact cell_cells (by repeat (first | exact .head | apply In.tail | apply Take.tail | apply Upd.tail)) rfl | exact cell_rd (rd_sl (by repeat (first | exact .head | apply In.tail | apply Take.tail | apply Upd.tail))) (by first | exact bcells_get (by omega) | exact icells_get (by omega) | exact tcells_get (by omega)))) ?_
      refine vl_val rfl (.some rfl) (val_mkIface Try.runUnderlying139 rfl rfl) ?_
      refine vl_val rfl (.some rfl) (val_assign rfl) ?_
      refine vl_nil ?_
      refine vc_ret ?_
      refine ⟨_, [], _, res1 Try.results94 rfl, .nil, ?_⟩
      show _ = _; unfold ofV; rw [if_neg hc0, if_pos hc1]
    · (try replace hc1 := of_decide_eq_false hc1)
      refine vc_seq ?_
      refine vc_region ?_
      refine vl_val rfl (.some rfl) (val_eq rfl rfl) ?_
      refine vl_val rfl (.some rfl) (val_assign rfl) ?_
      refine vl_nil ?_
      refine vc_cond rfl (fun hc2 => ?_) (fun hc2 => ?_)
      · (try replace hc2 := of_decide_eq_true hc2)
        refine vc_seq ?_
        refine vc_region ?_
        refine vl_val rfl (.some rfl) (by first | exact val_fieldAddr Try.runUnderlying27 rfl Try.sizeOf3 rfl | exact val_fieldAddrR Try.runUnderlying27 rfl Try.sizeOf3 rfl) ?_
        refine vl_val rfl (.some rfl) (val_load Try.isAgg3 rfl (by first | exact cell_cells (by repeat (first | exact .head | apply In.tail | apply Take.tail | apply Upd.tail)) rfl | exact cell_rd (rd_sl (by repeat (first | exact .head | apply In.tail | apply Take.tail | apply Upd.tail))) (by first | exact bcells_get (by omega) | exact icells_get (by omega) | exact tcells_get (by omega)))) ?_
        refine vl_val rfl (.some rfl) (val_mkIface Try.runUnderlying140 rfl rfl) ?_
        refine vl_val rfl (.some rfl) (val_assign rfl) ?_
        refine vl_nil ?_
        refine vc_ret ?_
        refine ⟨_, [], _, res1 Try.results94 rfl, .nil, ?_⟩
        show _ = _; unfold ofV; rw [if_neg hc0, if_neg hc1, if_pos hc2]
      · (try replace hc2 := of_decide_eq_false hc2)
        refine vc_seq ?_
        refine vc_region ?_
        refine vl_val rfl (.some rfl) (val_eq rfl rfl) ?_
        refine vl_val rfl (.some rfl) (val_assign rfl) ?_
        refine vl_nil ?_
        refine vc_cond rfl (fun hc3 => ?_) (fun hc3 => ?_)
        · (try replace hc3 := of_decide_eq_true hc3)
          refine vc_seq ?_
          refine vc_region ?_
          refine vl_val rfl (.some rfl) (by first | exact val_fieldAddr Try.runUnderlying27 rfl Try.sizeOf9 rfl | exact val_fieldAddrR Try.runUnderlying27 rfl Try.sizeOf9 rfl) ?_
          refine vl_val rfl (.some rfl) (val_load Try.isAgg9 rfl (by first | exact cell_cells (by repeat (first | exact .head | apply In.tail | apply Take.tail | apply Upd.tail)) rfl | exact cell_rd (rd_sl (by repeat (first | exact .head | apply In.tail | apply Take.tail | apply Upd.tail))) (by first | exact bcells_get (by omega) | exact icells_get (by omega) | exact tcells_get (by omega)))) ?_
          refine vl_val rfl (.some rfl) (val_mkIface Try.runUnderlying141 rfl rfl) ?_
          refine vl_val rfl (.some rfl) (val_assign rfl) ?_
          refine vl_nil ?_
          refine vc_ret ?_
          refine ⟨_, [], _, res1 Try.results94 rfl, .nil, ?_⟩
          show _ = _; unfold ofV; rw [if_neg hc0, if_neg hc1, if_neg hc2, if_pos hc3]
        · (try replace hc3 := of_decide_eq_false hc3)
          refine vc_seq ?_
          refine vc_region ?_
          refine vl_val rfl (.some rfl) (val_eq rfl rfl) ?_
          refine vl_val rfl (.some rfl) (val_assign rfl) ?_
          refine vl_nil ?_
          refine vc_cond rfl (fun hc4 => ?_) (fun hc4 => ?_)
          · (try replace hc4 := of_decide_eq_true hc4)
            refine vc_seq ?_
            refine vc_region ?_
            refine vl_val rfl (.some rfl) (by first | exact val_fieldAddr Try.runUnderlying27 rfl Try.sizeOf3 rfl | exact val_fieldAddrR Try.runUnderlying27 rfl Try.sizeOf3 rfl) ?_
            refine vl_val rfl (.some rfl) (val_load Try.isAgg3 rfl (by first | exact cell_cells (by repeat (first | exact .head | apply In.tail | apply Take.tail | apply Upd.tail)) rfl | exact cell_rd (rd_sl (by repeat (first | exact .head | apply In.tail | apply Take.tail | apply Upd.tail))) (by first | exact bcells_get (by omega) | exact icells_get (by omega) | exact tcells_get (by omega)))) ?_
            refine vl_val rfl (.some rfl) (val_ne rfl rfl) ?_
            refine vl_val rfl (.some rfl) (val_mkIface Try.runUnderlying142 rfl rfl) ?_
            refine vl_val rfl (.some rfl) (val_assign rfl) ?_
            refine vl_nil ?_
            refine vc_ret ?_
            refine ⟨_, [], _, res1 Try.results94 rfl, .nil, ?_⟩
            show _ = _; unfold ofV; rw [if_neg hc0, if_neg hc1, if_neg hc2, if_neg hc3, if_pos hc4]
          · (try replace hc4 := of_decide_eq_false hc4)
            refine vc_skip ?_
            refine vc_seq ?_
            refine vc_region ?_
            refine vl_val rfl (.some rfl) (val_assign rfl) ?_
            refine vl_nil ?_
            refine vc_ret ?_
            refine ⟨_, [], _, res1 Try.results94 rfl, .nil, ?_⟩
            show _ = _; unfold ofV; rw [if_neg hc0, if_neg hc1, if_neg hc2, if_neg hc3, if_neg hc4]
set_option maxRecDepth 20000 in
theorem vGood (p : Vk) (w : World) : FnV Try.prog 79 [vk p] (.bool (goodV p)) w := by
  refine fn_enter Try.func79 rfl Try.ntmps79 rfl ?_
  refine vc_seq ?_
  refine vc_region ?_
  refine vl_box rfl rfl (.some rfl) rfl (fun r1 => ?_)
  refine vl_val rfl (.some rfl) (val_assign rfl) ?_
  refine vl_nil ?_
  refine vc_seq ?_
  refine vc_seq ?_
  refine vc_region ?_
  refine vl_val rfl (.some rfl) (val_loadAgg Try.isAgg27 Try.sizeOf27 rfl (by first | exact cells_whole (by repeat (first | exact .head | apply In.tail | apply Take.tail | apply Upd.tail)) | exact cells_part (by repeat (first | exact .head | apply In.tail | apply Take.tail | apply Upd.tail)) rfl) rfl) ?_
  refine vl_callV rfl rfl (.some rfl) Try.call94 rfl (fun w hw => vOf _ w) ?_
  refine vl_nil ?_
  refine vc_block ?_
  refine vc_seq ?_
  refine vc_region ?_
  refine vl_val rfl (.some rfl) (asks 138 0 (.agg #[]) (.agg #[]) Try.runUnderlying138 rfl Try.zeroValue138 rfl (fun h => by unfold ofV; rw [h]; simp) (other _ _ (fun k hk => ⟨fun h => by first | decide | omega, fun h => by first | decide | omega, fun h => by first | decide | omega, fun h => by first | decide | omega, fun h => by first | decide | omega⟩))) ?_
  refine vl_val rfl (.some rfl) (val_extract rfl rfl) ?_
  refine vl_val rfl (.some rfl) (val_extract rfl rfl) ?_
  refine vl_nil ?_
  refine vc_cond rfl (fun hc0 => ?_) (fun hc0 => ?_)
  · (try replace hc0 := of_decide_eq_true hc0)
    rw [if_pos hc0]
    refine vc_seq ?_
    refine vc_region ?_
    refine vl_alloc rfl rfl (.some rfl) Try.zeroValue138 (fun r3 => ?_)
    first | refine vl_store rfl rfl .none rfl rfl Try.sizeOf138 rfl (by repeat (first | exact .head | apply In.tail | apply Take.tail | apply Upd.tail)) (by first | decide | exact Nat.le_refl _ | (simp; omega)) ?_ | refine vl_storeSl rfl rfl .none rfl rfl Try.sizeOf138 rfl (by simp [Value.cells]) (by repeat (first | exact .head | apply In.tail | apply Take.tail | apply Upd.tail)) (by first | decide | (simp [Value.cells]; omega)) ?_
    refine vl_nil ?_
    refine vc_seq ?_
    refine vc_region ?_
    refine vl_val rfl (.some rfl) (val_loadAgg Try.isAgg27 Try.sizeOf27 rfl (by first | exact cells_whole (by repeat (first | exact .head | apply In.tail | apply Take.tail | apply Upd.tail)) | exact cells_part (by repeat (first | exact .head | apply In.tail | apply Take.tail | apply Upd.tail)) rfl) rfl) ?_
    refine vl_val rfl (.some rfl) (val_buildSt (pl := #[(0, 1), (1, 1), (2, 1)]) (cs := #[.int .i64 0, .int .i64 0, .string ⟨#[]⟩]) Try.runUnderlying27 Try.zeroValue27 (fun w => by kernel_rfl) rfl rfl) ?_
    refine vl_val rfl (.some rfl) (val_opO rfl rfl (fun w => run_eqGuard_agg w _ _ _ _ _ _ (by kernel_rfl)) (bin_agg_eq (vk_equal p z3))) ?_
    refine vl_val rfl (.some rfl) (val_assign rfl) ?_
    refine vl_nil ?_
    refine vc_ret ?_
    refine ⟨_, [], _, res1 Try.results79 rfl, .nil, ?_⟩
    show _ = _; unfold goodV; rw [if_pos hc0]
  · (try replace hc0 := of_decide_eq_false hc0)
    refine vc_seq ?_
    refine vc_region ?_
    refine vl_val rfl (.some rfl) (asks 139 1 (.int .i64 0) (.int .i64 p.n) Try.runUnderlying139 rfl Try.zeroValue139 rfl (fun h => by unfold ofV; rw [h]; simp) (other _ _ (fun k hk => ⟨fun h => by first | decide | omega, fun h => by first | decide | omega, fun h => by first | decide | omega, fun h => by first | decide | omega, fun h => by first | decide | omega⟩))) ?_
    refine vl_val rfl (.some rfl) (val_extract rfl rfl) ?_
    refine vl_val rfl (.some rfl) (val_extract rfl rfl) ?_
    refine vl_nil ?_
    refine vc_cond rfl (fun hc1 => ?_) (fun hc1 => ?_)
    · (try replace hc1 := of_decide_eq_true hc1)
      refine vc_seq ?_
      refine vc_region ?_
      refine vl_val rfl (.some rfl) (val_assign rfl) ?_
      refine vl_nil ?_
      refine vc_seq ?_
      refine vc_region ?_
      refine vl_val rfl (.some rfl) (by first | exact val_fieldAddr Try.runUnderlying27 rfl Try.sizeOf9 rfl | exact val_fieldAddrR Try.runUnderlying27 rfl Try.sizeOf9 rfl) ?_
      refine vl_val rfl (.some rfl) (val_load Try.isAgg9 rfl (by first | exact cell_cells (by repeat (first | exact .head | apply In.tail | apply Take.tail | apply Upd.tail)) rfl | exact cell_rd (rd_sl (by repeat (first | exact .head | apply In.tail | apply Take.tail | apply Upd.tail))) (by first | exact bcells_get (by omega) | exact icells_get (by omega) | exact tcells_get (by omega)))) ?_
      refine vl_val rfl (.some rfl) (val_seq rfl rfl) ?_
      refine vl_val rfl (.some rfl) (val_assign rfl) ?_
      refine vl_nil ?_
      refine vc_ret ?_
      refine ⟨_, [], _, res1 Try.results79 rfl, .nil, ?_⟩
      show _ = _; unfold goodV; rw [if_neg hc0, if_pos hc1]
    · (try replace hc1 := of_decide_eq_false hc1)
      refine vc_seq ?_
      refine vc_region ?_
      refine vl_val rfl (.some rfl) (asks 140 2 (.int .i64 0) (.int .i64 p.n) Try.runUnderlying140 rfl Try.zeroValue140 rfl (fun h => by unfold ofV; rw [h]; simp) (other _ _ (fun k hk => ⟨fun h => by first | decide | omega, fun h => by first | decide | omega, fun h => by first | decide | omega, fun h => by first | decide | omega, fun h => by first | decide | omega⟩))) ?_
      refine vl_val rfl (.some rfl) (val_extract rfl rfl) ?_
      refine vl_val rfl (.some rfl) (val_extract rfl rfl) ?_
      refine vl_nil ?_
      refine vc_cond rfl (fun hc2 => ?_) (fun hc2 => ?_)
      · (try replace hc2 := of_decide_eq_true hc2)
        refine vc_seq ?_
        refine vc_region ?_
        refine vl_val rfl (.some rfl) (val_assign rfl) ?_
        refine vl_nil ?_
        refine vc_seq ?_
        refine vc_region ?_
        refine vl_val rfl (.some rfl) (by first | exact val_fieldAddr Try.runUnderlying27 rfl Try.sizeOf9 rfl | exact val_fieldAddrR Try.runUnderlying27 rfl Try.sizeOf9 rfl) ?_
        refine vl_val rfl (.some rfl) (val_load Try.isAgg9 rfl (by first | exact cell_cells (by repeat (first | exact .head | apply In.tail | apply Take.tail | apply Upd.tail)) rfl | exact cell_rd (rd_sl (by repeat (first | exact .head | apply In.tail | apply Take.tail | apply Upd.tail))) (by first | exact bcells_get (by omega) | exact icells_get (by omega) | exact tcells_get (by omega)))) ?_
        refine vl_val rfl (.some rfl) (val_seq rfl rfl) ?_
        refine vl_val rfl (.some rfl) (val_move rfl) ?_
        refine vl_split (t := 28) rfl (fun hg28 => ?_) (fun hg28 => ?_)
        · (try replace hg28 := of_decide_eq_true hg28)
          refine vl_on rfl rfl rfl rfl ?_
          refine vl_val rfl (.some rfl) (by first | exact val_fieldAddr Try.runUnderlying27 rfl Try.sizeOf3 rfl | exact val_fieldAddrR Try.runUnderlying27 rfl Try.sizeOf3 rfl) ?_
          refine vl_on rfl rfl rfl rfl ?_
          refine vl_val rfl (.some rfl) (val_load Try.isAgg3 rfl (by first | exact cell_cells (by repeat (first | exact .head | apply In.tail | apply Take.tail | apply Upd.tail)) rfl | exact cell_rd (rd_sl (by repeat (first | exact .head | apply In.tail | apply Take.tail | apply Upd.tail))) (by first | exact bcells_get (by omega) | exact icells_get (by omega) | exact tcells_get (by omega)))) ?_
          refine vl_on rfl rfl rfl rfl ?_
          refine vl_callV rfl rfl (.some rfl) Try.call95 rfl (fun w hw => oGood _ w) ?_
          refine vl_val rfl (.some rfl) (val_pick rfl rfl) ?_
          refine vl_val rfl (.some rfl) (val_assign rfl) ?_
          refine vl_nil ?_
          refine vc_ret ?_
          refine ⟨_, [], _, res1 Try.results79 rfl, .nil, ?_⟩
          show _ = _; unfold goodV; rw [if_neg hc0, if_neg hc1, if_pos hc2]; first | (rw [decide_eq_true hg28]; rfl) | (rw [decide_eq_false hg28]; rfl)
        · (try replace hg28 := of_decide_eq_false hg28)
          refine vl_off rfl rfl rfl rfl (.some rfl) ?_
          refine vl_off rfl rfl rfl rfl (.some rfl) ?_
          refine vl_off rfl rfl rfl rfl (.some rfl) ?_
          refine vl_val rfl (.some rfl) (val_pick rfl rfl) ?_
          refine vl_val rfl (.some rfl) (val_assign rfl) ?_
          refine vl_nil ?_
          refine vc_ret ?_
          refine ⟨_, [], _, res1 Try.results79 rfl, .nil, ?_⟩
          show _ = _; unfold goodV; rw [if_neg hc0, if_neg hc1, if_pos hc2]; first | (rw [decide_eq_true hg28]; rfl) | (rw [decide_eq_false hg28]; rfl)
      · (try replace hc2 := of_decide_eq_false hc2)
        refine vc_seq ?_
        refine vc_region ?_
        refine vl_val rfl (.some rfl) (asks 141 3 (.string ⟨#[]⟩) (.string p.s) Try.runUnderlying141 rfl Try.zeroValue141 rfl (fun h => by unfold ofV; rw [h]; simp) (other _ _ (fun k hk => ⟨fun h => by first | decide | omega, fun h => by first | decide | omega, fun h => by first | decide | omega, fun h => by first | decide | omega, fun h => by first | decide | omega⟩))) ?_
        refine vl_val rfl (.some rfl) (val_extract rfl rfl) ?_
        refine vl_val rfl (.some rfl) (val_extract rfl rfl) ?_
        refine vl_nil ?_
        refine vc_cond rfl (fun hc3 => ?_) (fun hc3 => ?_)
        · (try replace hc3 := of_decide_eq_true hc3)
          rw [if_pos hc3]
          refine vc_seq ?_
          refine vc_region ?_
          refine vl_val rfl (.some rfl) (val_assign rfl) ?_
          refine vl_nil ?_
          refine vc_seq ?_
          refine vc_region ?_
          refine vl_val rfl (.some rfl) (by first | exact val_fieldAddr Try.runUnderlying27 rfl Try.sizeOf3 rfl | exact val_fieldAddrR Try.runUnderlying27 rfl Try.sizeOf3 rfl) ?_
          refine vl_val rfl (.some rfl) (val_load Try.isAgg3 rfl (by first | exact cell_cells (by repeat (first | exact .head | apply In.tail | apply Take.tail | apply Upd.tail)) rfl | exact cell_rd (rd_sl (by repeat (first | exact .head | apply In.tail | apply Take.tail | apply Upd.tail))) (by first | exact bcells_get (by omega) | exact icells_get (by omega) | exact tcells_get (by omega)))) ?_
          refine vl_val rfl (.some rfl) (val_eq rfl rfl) ?_
          refine vl_val rfl (.some rfl) (val_move rfl) ?_
          refine vl_split (t := 39) rfl (fun hg39 => ?_) (fun hg39 => ?_)
          · (try replace hg39 := of_decide_eq_true hg39)
            refine vl_on rfl rfl rfl rfl ?_
            refine vl_val rfl (.some rfl) (val_move rfl) ?_
            refine vl_on rfl rfl rfl rfl ?_
            refine vl_val rfl (.some rfl) (val_lenStr Try.runUnderlying141 rfl) ?_
            refine vl_on rfl rfl rfl rfl ?_
            refine vl_val rfl (.some rfl) (val_le rfl rfl) ?_
            refine vl_val rfl (.some rfl) (val_pick rfl rfl) ?_
            refine vl_val rfl (.some rfl) (val_assign rfl) ?_
            refine vl_nil ?_
            refine vc_ret ?_
            refine ⟨_, [], _, res1 Try.results79 rfl, .nil, ?_⟩
            show _ = _; unfold goodV; rw [if_neg hc0, if_neg hc1, if_neg hc2, if_pos hc3]; simp_all <;> omega
          · (try replace hg39 := of_decide_eq_false hg39)
            refine vl_off rfl rfl rfl rfl (.some rfl) ?_
            refine vl_off rfl rfl rfl rfl (.some rfl) ?_
            refine vl_off rfl rfl rfl rfl (.some rfl) ?_
            refine vl_val rfl (.some rfl) (val_pick rfl rfl) ?_
            refine vl_val rfl (.some rfl) (val_assign rfl) ?_
            refine vl_nil ?_
            refine vc_ret ?_
            refine ⟨_, [], _, res1 Try.results79 rfl, .nil, ?_⟩
            show _ = _; unfold goodV; rw [if_neg hc0, if_neg hc1, if_neg hc2, if_pos hc3]; simp_all <;> omega
        · (try replace hc3 := of_decide_eq_false hc3)
          refine vc_seq ?_
          refine vc_region ?_
          refine vl_val rfl (.some rfl) (asks 142 4 (.bool false) (.bool (decide (p.n ≠ 0))) Try.runUnderlying142 rfl Try.zeroValue142 rfl (fun h => by unfold ofV; rw [h]; simp) (other _ _ (fun k hk => ⟨fun h => by first | decide | omega, fun h => by first | decide | omega, fun h => by first | decide | omega, fun h => by first | decide | omega, fun h => by first | decide | omega⟩))) ?_
          refine vl_val rfl (.some rfl) (val_extract rfl rfl) ?_
          refine vl_val rfl (.some rfl) (val_extract rfl rfl) ?_
          refine vl_nil ?_
          refine vc_cond rfl (fun hc4 => ?_) (fun hc4 => ?_)
          · (try replace hc4 := of_decide_eq_true hc4)
            refine vc_seq ?_
            refine vc_region ?_
            refine vl_val rfl (.some rfl) (val_assign rfl) ?_
            refine vl_nil ?_
            refine vc_seq ?_
            refine vc_region ?_
            refine vl_val rfl (.some rfl) (by first | exact val_fieldAddr Try.runUnderlying27 rfl Try.sizeOf9 rfl | exact val_fieldAddrR Try.runUnderlying27 rfl Try.sizeOf9 rfl) ?_
            refine vl_val rfl (.some rfl) (val_load Try.isAgg9 rfl (by first | exact cell_cells (by repeat (first | exact .head | apply In.tail | apply Take.tail | apply Upd.tail)) rfl | exact cell_rd (rd_sl (by repeat (first | exact .head | apply In.tail | apply Take.tail | apply Upd.tail))) (by first | exact bcells_get (by omega) | exact icells_get (by omega) | exact tcells_get (by omega)))) ?_
            refine vl_val rfl (.some rfl) (val_seq rfl rfl) ?_
            refine vl_val rfl (.some rfl) (val_move rfl) ?_
            refine vl_split (t := 50) rfl (fun hg50 => ?_) (fun hg50 => ?_)
            · (try replace hg50 := of_decide_eq_true hg50)
              refine vl_on rfl rfl rfl rfl ?_
              refine vl_val rfl (.some rfl) (by first | exact val_fieldAddr Try.runUnderlying27 rfl Try.sizeOf3 rfl | exact val_fieldAddrR Try.runUnderlying27 rfl Try.sizeOf3 rfl) ?_
              refine vl_on rfl rfl rfl rfl ?_
              refine vl_val rfl (.some rfl) (val_load Try.isAgg3 rfl (by first | exact cell_cells (by repeat (first | exact .head | apply In.tail | apply Take.tail | apply Upd.tail)) rfl | exact cell_rd (rd_sl (by repeat (first | exact .head | apply In.tail | apply Take.tail | apply Upd.tail))) (by first | exact bcells_get (by omega) | exact icells_get (by omega) | exact tcells_get (by omega)))) ?_
              refine vl_on rfl rfl rfl rfl ?_
              refine vl_val rfl (.some rfl) (val_eq rfl rfl) ?_
              refine vl_on rfl rfl rfl rfl ?_
              refine vl_val rfl (.some rfl) (val_move rfl) ?_
              refine vl_split (t := 54) rfl (fun hg54 => ?_) (fun hg54 => ?_)
              · (try replace hg54 := of_decide_eq_true hg54)
                refine vl_off rfl rfl rfl rfl (.some rfl) ?_
                refine vl_off rfl rfl rfl rfl (.some rfl) ?_
                refine vl_off rfl rfl rfl rfl (.some rfl) ?_
                refine vl_on rfl rfl rfl rfl ?_
                refine vl_val rfl (.some rfl) (val_pick rfl rfl) ?_
                refine vl_val rfl (.some rfl) (val_pick rfl rfl) ?_
                refine vl_val rfl (.some rfl) (val_assign rfl) ?_
                refine vl_nil ?_
                refine vc_ret ?_
                refine ⟨_, [], _, res1 Try.results79 rfl, .nil, ?_⟩
                show _ = _; unfold goodV; rw [if_neg hc0, if_neg hc1, if_neg hc2, if_neg hc3, if_pos hc4]; simp_all
              · (try replace hg54 := of_decide_eq_false hg54)
                refine vl_on rfl rfl rfl rfl ?_
                refine vl_val rfl (.some rfl) (by first | exact val_fieldAddr Try.runUnderlying27 rfl Try.sizeOf3 rfl | exact val_fieldAddrR Try.runUnderlying27 rfl Try.sizeOf3 rfl) ?_
                refine vl_on rfl rfl rfl rfl ?_
                refine vl_val rfl (.some rfl) (val_load Try.isAgg3 rfl (by first | exact cell_cells (by repeat (first | exact .head | apply In.tail | apply Take.tail | apply Upd.tail)) rfl | exact cell_rd (rd_sl (by repeat (first | exact .head | apply In.tail | apply Take.tail | apply Upd.tail))) (by first | exact bcells_get (by omega) | exact icells_get (by omega) | exact tcells_get (by omega)))) ?_
                refine vl_on rfl rfl rfl rfl ?_
                refine vl_val rfl (.some rfl) (val_eq rfl rfl) ?_
                refine vl_on rfl rfl rfl rfl ?_
                refine vl_val rfl (.some rfl) (val_pick rfl rfl) ?_
                refine vl_val rfl (.some rfl) (val_pick rfl rfl) ?_
                refine vl_val rfl (.some rfl) (val_assign rfl) ?_
                refine vl_nil ?_
                refine vc_ret ?_
                refine ⟨_, [], _, res1 Try.results79 rfl, .nil, ?_⟩
                show _ = _; unfold goodV; rw [if_neg hc0, if_neg hc1, if_neg hc2, if_neg hc3, if_pos hc4]; simp_all
            · (try replace hg50 := of_decide_eq_false hg50)
              refine vl_off rfl rfl rfl rfl (.some rfl) ?_
              refine vl_off rfl rfl rfl rfl (.some rfl) ?_
              refine vl_off rfl rfl rfl rfl (.some rfl) ?_
              refine vl_off rfl rfl rfl rfl (.some rfl) ?_
              refine vl_offU rfl rfl rfl rfl (.some rfl) ?_
              refine vl_offU rfl rfl rfl rfl (.some rfl) ?_
              refine vl_offU rfl rfl rfl rfl (.some rfl) ?_
              refine vl_off rfl rfl rfl rfl (.some rfl) ?_
              refine vl_val rfl (.some rfl) (val_pick rfl rfl) ?_
              refine vl_val rfl (.some rfl) (val_assign rfl) ?_
              refine vl_nil ?_
              refine vc_ret ?_
              refine ⟨_, [], _, res1 Try.results79 rfl, .nil, ?_⟩
              show _ = _; unfold goodV; rw [if_neg hc0, if_neg hc1, if_neg hc2, if_neg hc3, if_pos hc4]; simp_all
          · (try replace hc4 := of_decide_eq_false hc4)
            refine vc_skip ?_
            refine vc_seq ?_
            refine vc_region ?_
            refine vl_val rfl (.some rfl) (val_assign rfl) ?_
            refine vl_nil ?_
            refine vc_ret ?_
            refine ⟨_, [], _, res1 Try.results79 rfl, .nil, ?_⟩
            show _ = _; unfold goodV; rw [if_neg hc0, if_neg hc1, if_neg hc2, if_neg hc3, if_neg hc4]
set_option maxRecDepth 20000 in
theorem dMade (r m : Nat) (kd : Int) (A : Option Addr) (n c : Nat) (w : World) : FnR Try.prog 50 [.pointer (some ⟨r, 0, none⟩)] [DC r m kd A n c] (.bool true) w := by
  refine fn_enter Try.func50 rfl Try.ntmps50 rfl ?_
  refine vc_seq ?_
  refine vc_region ?_
  refine vl_val rfl (.some rfl) (val_assign rfl) ?_
  refine vl_nil ?_
  refine vc_seq ?_
  refine vc_region ?_
  refine vl_val rfl (.some rfl) (val_move rfl) ?_
  refine vl_val rfl (.some rfl) (val_opO rfl rfl guard_ptr (bin_ptr_ne Try.runUnderlying23)) ?_
  refine vl_val rfl (.some rfl) (val_move rfl) ?_
  refine vl_on rfl rfl rfl rfl ?_
  refine vl_val rfl (.some rfl) (val_move rfl) ?_
  refine vl_on rfl rfl rfl rfl ?_
  refine vl_val rfl (.some rfl) (val_nil rfl rfl) ?_
  refine vl_on rfl rfl rfl rfl ?_
  refine vl_val rfl (.some rfl) (by first | exact val_fieldAddr Try.runUnderlying52 rfl Try.sizeOf50 rfl | exact val_fieldAddrR Try.runUnderlying52 rfl Try.sizeOf50 rfl) ?_
  refine vl_on rfl rfl rfl rfl ?_
  refine vl_val rfl (.some rfl) (val_load Try.isAgg50 rfl (by first | exact cell_cells (by repeat (first | exact .head | apply In.tail | apply Take.tail | apply Upd.tail)) rfl | exact cell_rd (rd_sl (by repeat (first | exact .head | apply In.tail | apply Take.tail | apply Upd.tail))) (by first | exact bcells_get (by omega) | exact icells_get (by omega) | exact tcells_get (by omega)))) ?_
  refine vl_on rfl rfl rfl rfl ?_
  refine vl_val rfl (.some rfl) (val_opO rfl rfl guard_map (bin_map_ne Try.runUnderlying50)) ?_
  refine vl_val rfl (.some rfl) (val_pick rfl rfl) ?_
  refine vl_val rfl (.some rfl) (val_assign rfl) ?_
  refine vl_nil ?_
  refine vc_ret ?_
  refine ⟨_, [DC r m kd A n c], _, res1 Try.results50 rfl, (by repeat (first | exact .nil | (apply Sub.cons; · repeat (first | exact .head | apply Take.tail)))), ?_⟩
  exact ⟨rfl, rfl⟩
set_option maxRecDepth 20000 in
theorem dTakes (r m : Nat) (kd : Int) (A : Option Addr) (n c : Nat) (p : Vk) (w : World) : FnR Try.prog 51 [.pointer (some ⟨r, 0, none⟩), vk p] [DC r m kd A n c] (.bool (takesB kd p)) w := by
  refine fn_enter Try.func51 rfl Try.ntmps51 rfl ?_
  refine vc_seq ?_
  refine vc_region ?_
  refine vl_box rfl rfl (.some rfl) rfl (fun r3 => ?_)
  refine vl_val rfl (.some rfl) (val_assign rfl) ?_
  refine vl_nil ?_
  refine vc_seq ?_
  refine vc_draws [0, 1, 2, 3, 4, 5, 6, 7, 8, 10, 11] [] [0, 1, 2, 3, 4, 5, 6, 7, 8, 9, 10, 11] rfl (by kernel_rfl) (fun _ _ _ h => h) ?_
  refine vd_val rfl rfl rfl (.some rfl) (by first | exact val_fieldAddr Try.runUnderlying27 rfl Try.sizeOf3 rfl | exact val_fieldAddrR Try.runUnderlying27 rfl Try.sizeOf3 rfl) ?_
  refine vd_val rfl rfl rfl (.some rfl) (val_load Try.isAgg3 rfl (by first | exact cell_cells (by repeat (first | exact .head | apply In.tail | apply Take.tail | apply Upd.tail)) rfl | exact cell_rd (rd_sl (by repeat (first | exact .head | apply In.tail | apply Take.tail | apply Upd.tail))) (by first | exact bcells_get (by omega) | exact icells_get (by omega) | exact tcells_get (by omega)))) ?_
  refine vd_val rfl rfl rfl (.some rfl) (val_move rfl) ?_
  refine vd_val rfl rfl rfl (.some rfl) (val_nil rfl rfl) ?_
  refine vd_val rfl rfl rfl (.some rfl) (by first | exact val_fieldAddr Try.runUnderlying52 rfl Try.sizeOf3 rfl | exact val_fieldAddrR Try.runUnderlying52 rfl Try.sizeOf3 rfl) ?_
  refine vd_val rfl rfl rfl (.some rfl) (val_load Try.isAgg3 rfl (by first | exact cell_cells (by repeat (first | exact .head | apply In.tail | apply Take.tail | apply Upd.tail)) rfl | exact cell_rd (rd_sl (by repeat (first | exact .head | apply In.tail | apply Take.tail | apply Upd.tail))) (by first | exact bcells_get (by omega) | exact icells_get (by omega) | exact tcells_get (by omega)))) ?_
  refine vd_val rfl rfl rfl (.some rfl) (val_eq rfl rfl) ?_
  refine vd_val rfl rfl rfl (.some rfl) (val_move rfl) ?_
  refine vd_split (t := 12) rfl (fun hg12 => ?_) (fun hg12 => ?_)
  · (try replace hg12 := of_decide_eq_true hg12)
    refine vd_on rfl rfl rfl rfl rfl rfl (.some rfl) (val_loadAgg Try.isAgg27 Try.sizeOf27 rfl (by first | exact cells_whole (by repeat (first | exact .head | apply In.tail | apply Take.tail | apply Upd.tail)) | exact cells_part (by repeat (first | exact .head | apply In.tail | apply Take.tail | apply Upd.tail)) rfl) rfl) ?_
    refine vd_op rfl rfl ?_
    refine vl_on rfl rfl rfl rfl ?_
    refine vl_callV rfl rfl (.some rfl) Try.call79 rfl (fun w hw => vGood _ w) ?_
    refine vl_nil ?_
    refine ⟨fun _ => ⟨_, (by repeat (first | exact .nil | (apply Sub.cons; · repeat (first | exact .head | apply Take.tail))))⟩, ?_⟩
    refine vd_val rfl rfl rfl (.some rfl) (val_pick rfl rfl) ?_
    refine vd_val rfl rfl rfl (.some rfl) (val_assign rfl) ?_
    refine vd_nil ?_
    refine vc_ret ?_
    refine ⟨_, [DC r m kd A n c], _, res1 Try.results51 rfl, (by repeat (first | exact .nil | (apply Sub.cons; · repeat (first | exact .head | apply Take.tail)))), ?_⟩
    refine ⟨?_, rfl⟩
    unfold takesB
    first | (rw [decide_eq_true hg12]; rfl) | (rw [decide_eq_false hg12]; rfl)
  · (try replace hg12 := of_decide_eq_false hg12)
    refine vd_off rfl rfl rfl rfl rfl rfl (.some rfl) ?_
    refine vd_op rfl rfl ?_
    refine vl_off rfl rfl rfl rfl (.some rfl) ?_
    refine vl_nil ?_
    refine ⟨fun _ => ⟨_, (by repeat (first | exact .nil | (apply Sub.cons; · repeat (first | exact .head | apply Take.tail))))⟩, ?_⟩
    refine vd_val rfl rfl rfl (.some rfl) (val_pick rfl rfl) ?_
    refine vd_val rfl rfl rfl (.some rfl) (val_assign rfl) ?_
    refine vd_nil ?_
    refine vc_ret ?_
    refine ⟨_, [DC r m kd A n c], _, res1 Try.results51 rfl, (by repeat (first | exact .nil | (apply Sub.cons; · repeat (first | exact .head | apply Take.tail)))), ?_⟩
    refine ⟨?_, rfl⟩
    unfold takesB
    first | (rw [decide_eq_true hg12]; rfl) | (rw [decide_eq_false hg12]; rfl)
set_option maxRecDepth 20000 in
theorem dLen (r m : Nat) (kd : Int) (A : Option Addr) (c : Nat) (vs : List Vk) (w : World) : FnR Try.prog 15 [.pointer (some ⟨r, 0, none⟩)] [DC r m kd A vs.length c] (.int .i64 vs.length) w := by
  refine fn_enter Try.func15 rfl Try.ntmps15 rfl ?_
  refine vc_seq ?_
  refine vc_region ?_
  refine vl_val rfl (.some rfl) (val_assign rfl) ?_
  refine vl_nil ?_
  refine vc_seq ?_
  refine vc_seq ?_
  refine vc_region ?_
  refine vl_val rfl (.some rfl) (val_move rfl) ?_
  refine vl_callR [DC r m kd A vs.length c] rfl rfl (.some rfl) Try.call50 rfl (by repeat (first | exact .nil | (apply Sub.cons; · repeat (first | exact .head | apply Take.tail)))) (fun w hw => dMade r m kd A vs.length c w) ?_
  refine vl_val rfl (.some rfl) (val_not rfl) ?_
  refine vl_nil ?_
  refine vc_cond rfl (fun h => by cases h) (fun _ => ?_)
  refine vc_skip ?_
  refine vc_seq ?_
  refine vc_region ?_
  refine vl_val rfl (.some rfl) (val_move rfl) ?_
  refine vl_val rfl (.some rfl) (val_nil rfl rfl) ?_
  refine vl_val rfl (.some rfl) (by first | exact val_fieldAddr Try.runUnderlying52 rfl Try.sizeOf22 rfl | exact val_fieldAddrR Try.runUnderlying52 rfl Try.sizeOf22 rfl) ?_
  refine vl_val rfl (.some rfl) (val_load Try.isAgg22 rfl (by first | exact cell_cells (by repeat (first | exact .head | apply In.tail | apply Take.tail | apply Upd.tail)) rfl | exact cell_rd (rd_sl (by repeat (first | exact .head | apply In.tail | apply Take.tail | apply Upd.tail))) (by first | exact bcells_get (by omega) | exact icells_get (by omega) | exact tcells_get (by omega)))) ?_
  refine vl_val rfl (.some rfl) (val_lenSl Try.runUnderlying22 rfl) ?_
  refine vl_val rfl (.some rfl) (val_assign rfl) ?_
  refine vl_nil ?_
  refine vc_ret ?_
  refine ⟨_, [DC r m kd A vs.length c], _, res1 Try.results15 rfl, (by repeat (first | exact .nil | (apply Sub.cons; · repeat (first | exact .head | apply Take.tail)))), ?_⟩
  exact ⟨rfl, rfl⟩
set_option maxRecDepth 20000 in
theorem dKind (r m : Nat) (kd : Int) (A : Option Addr) (c : Nat) (vs : List Vk) (w : World) : FnR Try.prog 21 [.pointer (some ⟨r, 0, none⟩)] [DC r m kd A vs.length c] (.int .i64 kd) w := by
  refine fn_enter Try.func21 rfl Try.ntmps21 rfl ?_
  refine vc_seq ?_
  refine vc_region ?_
  refine vl_val rfl (.some rfl) (val_assign rfl) ?_
  refine vl_nil ?_
  refine vc_seq ?_
  refine vc_seq ?_
  refine vc_region ?_
  refine vl_val rfl (.some rfl) (val_move rfl) ?_
  refine vl_callR [DC r m kd A vs.length c] rfl rfl (.some rfl) Try.call50 rfl (by repeat (first | exact .nil | (apply Sub.cons; · repeat (first | exact .head | apply Take.tail)))) (fun w hw => dMade r m kd A vs.length c w) ?_
  refine vl_val rfl (.some rfl) (val_not rfl) ?_
  refine vl_nil ?_
  refine vc_cond rfl (fun h => by cases h) (fun _ => ?_)
  refine vc_skip ?_
  refine vc_seq ?_
  refine vc_region ?_
  refine vl_val rfl (.some rfl) (val_move rfl) ?_
  refine vl_val rfl (.some rfl) (val_nil rfl rfl) ?_
  refine vl_val rfl (.some rfl) (by first | exact val_fieldAddr Try.runUnderlying52 rfl Try.sizeOf3 rfl | exact val_fieldAddrR Try.runUnderlying52 rfl Try.sizeOf3 rfl) ?_
  refine vl_val rfl (.some rfl) (val_load Try.isAgg3 rfl (by first | exact cell_cells (by repeat (first | exact .head | apply In.tail | apply Take.tail | apply Upd.tail)) rfl | exact cell_rd (rd_sl (by repeat (first | exact .head | apply In.tail | apply Take.tail | apply Upd.tail))) (by first | exact bcells_get (by omega) | exact icells_get (by omega) | exact tcells_get (by omega)))) ?_
  refine vl_val rfl (.some rfl) (val_assign rfl) ?_
  refine vl_nil ?_
  refine vc_ret ?_
  refine ⟨_, [DC r m kd A vs.length c], _, res1 Try.results21 rfl, (by repeat (first | exact .nil | (apply Sub.cons; · repeat (first | exact .head | apply Take.tail)))), ?_⟩
  exact ⟨rfl, rfl⟩
set_option maxRecDepth 20000 in
theorem dValue (r m : Nat) (kd : Int) (A : Option Addr) (c : Nat) (vs : List Vk) (i : Int) (w : World) : FnR Try.prog 17 [.pointer (some ⟨r, 0, none⟩), .int .i64 i] [DC r m kd A vs.length c, DS A c vs] (.tuple #[vk (if 0 ≤ i ∧ i < vs.length then vs.getD i.toNat z3 else z3), .bool (decide (0 ≤ i ∧ i < vs.length))]) w := by
  refine fn_enter Try.func17 rfl Try.ntmps17 rfl ?_
  refine vc_seq ?_
  refine vc_region ?_
  refine vl_alloc rfl rfl (.some rfl) Try.zeroValue27 (fun r4 => ?_)
  refine vl_val rfl (.some rfl) (val_assign rfl) ?_
  refine vl_nil ?_
  refine vc_seq ?_
  refine vc_seq ?_
  refine vc_region ?_
  refine vl_val rfl (.some rfl) (val_move rfl) ?_
  refine vl_callR [DC r m kd A vs.length c] rfl rfl (.some rfl) Try.call50 rfl (by repeat (first | exact .nil | (apply Sub.cons; · repeat (first | exact .head | apply Take.tail)))) (fun w hw => dMade r m kd A vs.length c w) ?_
  refine vl_val rfl (.some rfl) (val_not rfl) ?_
  refine vl_val rfl (.some rfl) (val_move rfl) ?_
  refine vl_on rfl rfl rfl rfl ?_
  refine vl_val rfl (.some rfl) (val_move rfl) ?_
  refine vl_on rfl rfl rfl rfl ?_
  refine vl_val rfl (.some rfl) (val_lt rfl rfl) ?_
  refine vl_val rfl (.some rfl) (val_pick rfl rfl) ?_
  refine vl_val rfl (.some rfl) (val_move rfl) ?_
  refine vl_split (t := 13) rfl (fun hg13 => ?_) (fun hg13 => ?_)
  · (try replace hg13 := of_decide_eq_true hg13)
    refine vl_off rfl rfl rfl rfl (.some rfl) ?_
    refine vl_off rfl rfl rfl rfl (.some rfl) ?_
    refine vl_off rfl rfl rfl rfl (.some rfl) ?_
    refine vl_off rfl rfl rfl rfl (.some rfl) ?_
    refine vl_off rfl rfl rfl rfl (.some rfl) ?_
    refine vl_off rfl rfl rfl rfl (.some rfl) ?_
    refine vl_off rfl rfl rfl rfl (.some rfl) ?_
    refine vl_val rfl (.some rfl) (val_pick rfl rfl) ?_
    refine vl_nil ?_
    refine vc_cond rfl (fun _ => ?_) (fun h => by cases h)
    refine vc_seq ?_
    refine vc_region ?_
    refine vl_val rfl (.some rfl) (val_buildSt (pl := #[(0, 1), (1, 1), (2, 1)]) (cs := #[.int .i64 0, .int .i64 0, .string ⟨#[]⟩]) Try.runUnderlying27 Try.zeroValue27 (fun w => by kernel_rfl) rfl rfl) ?_
    first | refine vl_store rfl rfl .none rfl rfl Try.sizeOf27 rfl (by repeat (first | exact .head | apply In.tail | apply Take.tail | apply Upd.tail)) (by first | decide | exact Nat.le_refl _ | (simp; omega)) ?_ | refine vl_storeSl rfl rfl .none rfl rfl Try.sizeOf27 rfl (by simp [Value.cells]) (by repeat (first | exact .head | apply In.tail | apply Take.tail | apply Upd.tail)) (by first | decide | (simp [Value.cells]; omega)) ?_
    refine vl_val rfl (.some rfl) (val_assign rfl) ?_
    refine vl_nil ?_
    refine vc_ret ?_
    refine ⟨_, [DC r m kd A vs.length c, DS A c vs], _, resC2 Try.results17 rfl (whole_agg Try.isAgg27 Try.sizeOf27 (cells_whole (by repeat (first | exact .head | apply In.tail | apply Take.tail | apply Upd.tail))) rfl) rfl, (by repeat (first | exact .nil | (apply Sub.cons; · repeat (first | exact .head | apply Take.tail)))), ?_⟩
    refine ⟨?_, rfl⟩
    rw [if_neg (by omega), decide_eq_false (by omega)]; rfl
  · (try replace hg13 := of_decide_eq_false hg13)
    refine vl_on rfl rfl rfl rfl ?_
    refine vl_val rfl (.some rfl) (val_move rfl) ?_
    refine vl_on rfl rfl rfl rfl ?_
    refine vl_val rfl (.some rfl) (val_move rfl) ?_
    refine vl_on rfl rfl rfl rfl ?_
    refine vl_val rfl (.some rfl) (val_nil rfl rfl) ?_
    refine vl_on rfl rfl rfl rfl ?_
    refine vl_val rfl (.some rfl) (by first | exact val_fieldAddr Try.runUnderlying52 rfl Try.sizeOf22 rfl | exact val_fieldAddrR Try.runUnderlying52 rfl Try.sizeOf22 rfl) ?_
    refine vl_on rfl rfl rfl rfl ?_
    refine vl_val rfl (.some rfl) (val_load Try.isAgg22 rfl (by first | exact cell_cells (by repeat (first | exact .head | apply In.tail | apply Take.tail | apply Upd.tail)) rfl | exact cell_rd (rd_sl (by repeat (first | exact .head | apply In.tail | apply Take.tail | apply Upd.tail))) (by first | exact bcells_get (by omega) | exact icells_get (by omega) | exact tcells_get (by omega)))) ?_
    refine vl_on rfl rfl rfl rfl ?_
    refine vl_val rfl (.some rfl) (val_lenSl Try.runUnderlying22 rfl) ?_
    refine vl_on rfl rfl rfl rfl ?_
    refine vl_val rfl (.some rfl) (val_ge rfl rfl) ?_
    refine vl_val rfl (.some rfl) (val_pick rfl rfl) ?_
    refine vl_nil ?_
    refine vc_cond rfl (fun hc0 => ?_) (fun hc0 => ?_)
    · (try replace hc0 := of_decide_eq_true hc0)
      refine vc_seq ?_
      refine vc_region ?_
      refine vl_val rfl (.some rfl) (val_buildSt (pl := #[(0, 1), (1, 1), (2, 1)]) (cs := #[.int .i64 0, .int .i64 0, .string ⟨#[]⟩]) Try.runUnderlying27 Try.zeroValue27 (fun w => by kernel_rfl) rfl rfl) ?_
      first | refine vl_store rfl rfl .none rfl rfl Try.sizeOf27 rfl (by repeat (first | exact .head | apply In.tail | apply Take.tail | apply Upd.tail)) (by first | decide | exact Nat.le_refl _ | (simp; omega)) ?_ | refine vl_storeSl rfl rfl .none rfl rfl Try.sizeOf27 rfl (by simp [Value.cells]) (by repeat (first | exact .head | apply In.tail | apply Take.tail | apply Upd.tail)) (by first | decide | (simp [Value.cells]; omega)) ?_
      refine vl_val rfl (.some rfl) (val_assign rfl) ?_
      refine vl_nil ?_
      refine vc_ret ?_
      refine ⟨_, [DC r m kd A vs.length c, DS A c vs], _, resC2 Try.results17 rfl (whole_agg Try.isAgg27 Try.sizeOf27 (cells_whole (by repeat (first | exact .head | apply In.tail | apply Take.tail | apply Upd.tail))) rfl) rfl, (by repeat (first | exact .nil | (apply Sub.cons; · repeat (first | exact .head | apply Take.tail)))), ?_⟩
      refine ⟨?_, rfl⟩
      rw [if_neg (by omega), decide_eq_false (by omega)]; rfl
    · (try replace hc0 := of_decide_eq_false hc0)
      refine vc_skip ?_
      refine vc_seq ?_
      refine vc_region ?_
      refine vl_val rfl (.some rfl) (val_move rfl) ?_
      refine vl_val rfl (.some rfl) (val_nil rfl rfl) ?_
      refine vl_val rfl (.some rfl) (by first | exact val_fieldAddr Try.runUnderlying52 rfl Try.sizeOf22 rfl | exact val_fieldAddrR Try.runUnderlying52 rfl Try.sizeOf22 rfl) ?_
      refine vl_val rfl (.some rfl) (val_load Try.isAgg22 rfl (by first | exact cell_cells (by repeat (first | exact .head | apply In.tail | apply Take.tail | apply Upd.tail)) rfl | exact cell_rd (rd_sl (by repeat (first | exact .head | apply In.tail | apply Take.tail | apply Upd.tail))) (by first | exact bcells_get (by omega) | exact icells_get (by omega) | exact tcells_get (by omega)))) ?_
      refine vl_val rfl (.some rfl) (val_move rfl) ?_
      refine vl_val rfl (.some rfl) (val_indexAddr Try.runUnderlying22 Try.sizeOf27 rfl rfl (rd_sl (by repeat (first | exact .head | apply In.tail | apply Take.tail | apply Upd.tail))) (by omega) (by omega) (by rw [vflat_len]; omega)) ?_
      refine vl_val rfl (.some rfl) (val_loadAgg Try.isAgg27 Try.sizeOf27 rfl (rd_part (us := [.int .i64 (vs.getD i.toNat z3).k, .int .i64 (vs.getD i.toNat z3).n, .string (vs.getD i.toNat z3).s]) (rd_sl (by repeat (first | exact .head | apply In.tail | apply Take.tail | apply Upd.tail))) (flat_at vs i.toNat (by omega))) rfl) ?_
      first | refine vl_store rfl rfl .none rfl rfl Try.sizeOf27 rfl (by repeat (first | exact .head | apply In.tail | apply Take.tail | apply Upd.tail)) (by first | decide | exact Nat.le_refl _ | (simp; omega)) ?_ | refine vl_storeSl rfl rfl .none rfl rfl Try.sizeOf27 rfl (by simp [Value.cells]) (by repeat (first | exact .head | apply In.tail | apply Take.tail | apply Upd.tail)) (by first | decide | (simp [Value.cells]; omega)) ?_
      refine vl_val rfl (.some rfl) (val_assign rfl) ?_
      refine vl_nil ?_
      refine vc_ret ?_
      refine ⟨_, [DC r m kd A vs.length c, DS A c vs], _, resC2 Try.results17 rfl (whole_agg Try.isAgg27 Try.sizeOf27 (cells_whole (by repeat (first | exact .head | apply In.tail | apply Take.tail | apply Upd.tail))) rfl) rfl, (by repeat (first | exact .nil | (apply Sub.cons; · repeat (first | exact .head | apply Take.tail)))), ?_⟩
      refine ⟨?_, rfl⟩
      rw [if_pos (by omega), decide_eq_true (by omega)]; rfl
set_option maxRecDepth 20000 in
theorem dFind (r m : Nat) (kd : Int) (A : Option Addr) (c : Nat) (vs : List Vk) (p : Vk) (w : World) : FnR Try.prog 18 [.pointer (some ⟨r, 0, none⟩), vk p] [DC r m kd A vs.length c, DM m vs] (.tuple #[.int .i64 ((if p ∈ vs then vs.idxOf p else 0 : Nat) : Int), .bool (decide (p ∈ vs))]) w := by
  refine fn_enter Try.func18 rfl Try.ntmps18 rfl ?_
  refine vc_seq ?_
  refine vc_region ?_
  refine vl_box rfl rfl (.some rfl) rfl (fun r3 => ?_)
  refine vl_val rfl (.some rfl) (val_assign rfl) ?_
  refine vl_val rfl (.some rfl) (val_assign rfl) ?_
  refine vl_nil ?_
  refine vc_seq ?_
  refine vc_seq ?_
  refine vc_region ?_
  refine vl_val rfl (.some rfl) (val_move rfl) ?_
  refine vl_callR [DC r m kd A vs.length c] rfl rfl (.some rfl) Try.call50 rfl (by repeat (first | exact .nil | (apply Sub.cons; · repeat (first | exact .head | apply Take.tail)))) (fun w hw => dMade r m kd A vs.length c w) ?_
  refine vl_val rfl (.some rfl) (val_not rfl) ?_
  refine vl_nil ?_
  refine vc_cond rfl (fun h => by cases h) (fun _ => ?_)
  refine vc_skip ?_
  refine vc_seq ?_
  refine vc_draws [0, 1, 2, 3, 4, 5, 6, 7, 8, 9, 10] [] [0, 1, 2, 3, 4, 5, 6, 7, 8, 9, 10] rfl (by kernel_rfl) (fun _ _ _ h => h) ?_
  refine vd_val rfl rfl rfl (.some rfl) (val_move rfl) ?_
  refine vd_val rfl rfl rfl (.some rfl) (val_nil rfl rfl) ?_
  refine vd_val rfl rfl rfl (.some rfl) (by first | exact val_fieldAddr Try.runUnderlying52 rfl Try.sizeOf50 rfl | exact val_fieldAddrR Try.runUnderlying52 rfl Try.sizeOf50 rfl) ?_
  refine vd_val rfl rfl rfl (.some rfl) (val_load Try.isAgg50 rfl (by first | exact cell_cells (by repeat (first | exact .head | apply In.tail | apply Take.tail | apply Upd.tail)) rfl | exact cell_rd (rd_sl (by repeat (first | exact .head | apply In.tail | apply Take.tail | apply Upd.tail))) (by first | exact bcells_get (by omega) | exact icells_get (by omega) | exact tcells_get (by omega)))) ?_
  refine vd_val rfl rfl rfl (.some rfl) (val_loadAgg Try.isAgg27 Try.sizeOf27 rfl (by first | exact cells_whole (by repeat (first | exact .head | apply In.tail | apply Take.tail | apply Upd.tail)) | exact cells_part (by repeat (first | exact .head | apply In.tail | apply Take.tail | apply Upd.tail)) rfl) rfl) ?_
  refine vd_val rfl rfl rfl (.some rfl) (val_lookupIds (k := p) kT rfl rfl (by repeat (first | exact .head | apply In.tail | apply Take.tail | apply Upd.tail))) ?_
  refine vd_val rfl rfl rfl (.some rfl) (val_move rfl) ?_
  refine vd_val rfl rfl rfl (.some rfl) (val_extract rfl rfl) ?_
  refine vd_val rfl rfl rfl (.some rfl) (val_extract rfl rfl) ?_
  refine vd_val rfl rfl rfl (.some rfl) (val_assign rfl) ?_
  refine vd_val rfl rfl rfl (.some rfl) (val_assign rfl) ?_
  refine vd_nil ?_
  refine vc_seq ?_
  refine vc_region ?_
  refine vl_val rfl (.some rfl) (val_move rfl) ?_
  refine vl_val rfl (.some rfl) (val_move rfl) ?_
  refine vl_val rfl (.some rfl) (val_assign rfl) ?_
  refine vl_val rfl (.some rfl) (val_assign rfl) ?_
  refine vl_nil ?_
  refine vc_ret ?_
  refine ⟨_, [DC r m kd A vs.length c, DM m vs], _, res2 Try.results18 rfl rfl, (by repeat (first | exact .nil | (apply Sub.cons; · repeat (first | exact .head | apply Take.tail)))), ?_⟩
  exact ⟨rfl, rfl⟩
set_option maxRecDepth 20000 in
theorem dStr (s : ByteArray) (w : World) : FnV Try.prog 49 [.string s] (vk ⟨3, 0, s⟩) w := by
  refine fn_enter Try.func49 rfl Try.ntmps49 rfl ?_
  refine vc_seq ?_
  refine vc_region ?_
  refine vl_alloc rfl rfl (.some rfl) Try.zeroValue27 (fun r2 => ?_)
  refine vl_nil ?_
  refine vc_seq ?_
  refine vc_region ?_
  refine vl_val rfl (.some rfl) (val_move rfl) ?_
  refine vl_val rfl (.some rfl) (val_buildSt (pl := #[(0, 1), (1, 1), (2, 1)]) (cs := #[.int .i64 3, .int .i64 0, .string s]) Try.runUnderlying27 Try.zeroValue27 (fun w => by kernel_rfl) rfl rfl) ?_
  first | refine vl_store rfl rfl .none rfl rfl Try.sizeOf27 rfl (by repeat (first | exact .head | apply In.tail | apply Take.tail | apply Upd.tail)) (by first | decide | exact Nat.le_refl _ | (simp; omega)) ?_ | refine vl_storeSl rfl rfl .none rfl rfl Try.sizeOf27 rfl (by simp [Value.cells]) (by repeat (first | exact .head | apply In.tail | apply Take.tail | apply Upd.tail)) (by first | decide | (simp [Value.cells]; omega)) ?_
  refine vl_nil ?_
  refine vc_ret ?_
  refine ⟨_, [], _, resC Try.results49 rfl (whole_agg Try.isAgg27 Try.sizeOf27 (cells_whole (by repeat (first | exact .head | apply In.tail | apply Take.tail | apply Upd.tail))) rfl), .nil, ?_⟩
  rfl
set_option maxRecDepth 20000 in
theorem dNew (kd : Int) (h1 : 1 ≤ kd) (h2 : kd ≤ 4) (w : World) : Fn Try.prog 13 [.int .i64 kd] [] (ret fun u H' => ∃ r m, u = .pointer (some ⟨r, 0, none⟩) ∧ H' = DH r m kd none 0 []) w := by
  refine fn_enter Try.func13 rfl Try.ntmps13 rfl ?_
  refine vc_seq ?_
  refine vc_region ?_
  refine vl_val rfl (.some rfl) (val_assign rfl) ?_
  refine vl_nil ?_
  refine vc_seq ?_
  refine vc_seq ?_
  refine vc_region ?_
  refine vl_val rfl (.some rfl) (val_move rfl) ?_
  refine vl_val rfl (.some rfl) (val_lt rfl rfl) ?_
  refine vl_val rfl (.some rfl) (val_move rfl) ?_
  refine vl_split (t := 5) rfl (fun hg5 => ?_) (fun hg5 => ?_)
  · (try replace hg5 := of_decide_eq_true hg5)
    exfalso
    omega
  · (try replace hg5 := of_decide_eq_false hg5)
    refine vl_on rfl rfl rfl rfl ?_
    refine vl_val rfl (.some rfl) (val_move rfl) ?_
    refine vl_on rfl rfl rfl rfl ?_
    refine vl_val rfl (.some rfl) (val_gt rfl rfl) ?_
    refine vl_val rfl (.some rfl) (val_pick rfl rfl) ?_
    refine vl_nil ?_
    refine vc_cond rfl (fun hc0 => False.elim (by (try replace hc0 := of_decide_eq_true hc0); omega)) (fun hc0 => ?_)
    (try replace hc0 := of_decide_eq_false hc0)
    refine vc_skip ?_
    refine vc_seq ?_
    refine vc_region ?_
    refine vl_val rfl (.some rfl) (val_move rfl) ?_
    refine vl_makeMap vk rfl rfl (.some rfl) (fun r10 => ?_)
    refine vl_val rfl (.some rfl) (val_buildSt (pl := #[(0, 1), (1, 1), (2, 1)]) (cs := #[.int .i64 kd, .map (some r10), .slice none 0 0]) Try.runUnderlying52 Try.zeroValue52 (fun w => by kernel_rfl) rfl rfl) ?_
    refine vl_box rfl rfl (.some rfl) rfl (fun r12 => ?_)
    refine vl_val rfl (.some rfl) (val_assign rfl) ?_
    refine vl_nilSl 27 3 ?_
    refine vl_nil ?_
    refine vc_ret ?_
    refine ⟨_, DH r12 r10 kd none 0 [], _, res1 Try.results13 rfl, (by repeat (first | exact .nil | (apply Sub.cons; · repeat (first | exact .head | apply Take.tail)))), ?_⟩
    exact ⟨r12, r10, rfl, rfl⟩
set_option maxRecDepth 20000 in
theorem dAdd (r m : Nat) (kd : Int) (A : Option Addr) (c : Nat) (vs : List Vk) (p : Vk) (w : World) : Fn Try.prog 16 [.pointer (some ⟨r, 0, none⟩), vk p] (DH r m kd A c vs) (ret fun u H' => ∃ A' c', u = .tuple #[.int .i64 (dadd kd vs p).1.1, .int .i64 (dadd kd vs p).1.2] ∧ H' = DH r m kd A' c' (dadd kd vs p).2) w := by
  refine fn_enter Try.func16 rfl Try.ntmps16 rfl ?_
  refine vc_seq ?_
  refine vc_region ?_
  refine vl_box rfl rfl (.some rfl) rfl (fun r3 => ?_)
  refine vl_val rfl (.some rfl) (val_assign rfl) ?_
  refine vl_val rfl (.some rfl) (val_assign rfl) ?_
  refine vl_nil ?_
  refine vc_seq ?_
  refine vc_block ?_
  refine vc_seq ?_
  refine vc_region ?_
  refine vl_val rfl (.some rfl) (val_move rfl) ?_
  refine vl_callR [DC r m kd A vs.length c] rfl rfl (.some rfl) Try.call50 rfl (by repeat (first | exact .nil | (apply Sub.cons; · repeat (first | exact .head | apply Take.tail)))) (fun w hw => dMade r m kd A vs.length c w) ?_
  refine vl_val rfl (.some rfl) (val_not rfl) ?_
  refine vl_val rfl (.some rfl) (val_assign rfl) ?_
  refine vl_nil ?_
  refine vc_cond rfl (fun h => by cases h) (fun _ => ?_)
  refine vc_seq ?_
  refine vc_region ?_
  refine vl_val rfl (.some rfl) (val_move rfl) ?_
  refine vl_val rfl (.some rfl) (val_loadAgg Try.isAgg27 Try.sizeOf27 rfl (by first | exact cells_whole (by repeat (first | exact .head | apply In.tail | apply Take.tail | apply Upd.tail)) | exact cells_part (by repeat (first | exact .head | apply In.tail | apply Take.tail | apply Upd.tail)) rfl) rfl) ?_
  refine vl_callR [DC r m kd A vs.length c] rfl rfl (.some rfl) Try.call51 rfl (by repeat (first | exact .nil | (apply Sub.cons; · repeat (first | exact .head | apply Take.tail)))) (fun w hw => dTakes r m kd A vs.length c p w) ?_
  refine vl_val rfl (.some rfl) (val_not rfl) ?_
  refine vl_val rfl (.some rfl) (val_assign rfl) ?_
  refine vl_nil ?_
  refine vc_cond rfl (fun hc1 => ?_) (fun hc1 => ?_)
  · (try replace hc1 := of_decide_eq_true hc1)
    refine vc_seq ?_
    refine vc_region ?_
    refine vl_val rfl (.some rfl) (val_assign rfl) ?_
    refine vl_val rfl (.some rfl) (val_assign rfl) ?_
    refine vl_nil ?_
    refine vc_ret ?_
    refine ⟨_, DH r m kd A c vs, _, res2 Try.results16 rfl rfl, (by repeat (first | exact .nil | (apply Sub.cons; · repeat (first | exact .head | apply Take.tail)))), ?_⟩
    have hd : dadd kd vs p = ((0, 12), vs) := by unfold dadd; rw [if_pos (by simpa using hc1)]
    show ∃ A' c', _ ∧ _
    rw [hd]
    exact ⟨A, c, rfl, rfl⟩
  · (try replace hc1 := of_decide_eq_false hc1)
    refine vc_skip ?_
    refine vc_seq ?_
    refine vc_seq ?_
    refine vc_draws [0, 1, 2, 3, 4, 5, 6, 7, 8, 9, 10] [] [0, 1, 2, 3, 4, 5, 6, 7, 8, 9, 10] rfl (by kernel_rfl) (fun _ _ _ h => h) ?_
    refine vd_val rfl rfl rfl (.some rfl) (val_move rfl) ?_
    refine vd_val rfl rfl rfl (.some rfl) (val_nil rfl rfl) ?_
    refine vd_val rfl rfl rfl (.some rfl) (by first | exact val_fieldAddr Try.runUnderlying52 rfl Try.sizeOf50 rfl | exact val_fieldAddrR Try.runUnderlying52 rfl Try.sizeOf50 rfl) ?_
    refine vd_val rfl rfl rfl (.some rfl) (val_load Try.isAgg50 rfl (by first | exact cell_cells (by repeat (first | exact .head | apply In.tail | apply Take.tail | apply Upd.tail)) rfl | exact cell_rd (rd_sl (by repeat (first | exact .head | apply In.tail | apply Take.tail | apply Upd.tail))) (by first | exact bcells_get (by omega) | exact icells_get (by omega) | exact tcells_get (by omega)))) ?_
    refine vd_val rfl rfl rfl (.some rfl) (val_loadAgg Try.isAgg27 Try.sizeOf27 rfl (by first | exact cells_whole (by repeat (first | exact .head | apply In.tail | apply Take.tail | apply Upd.tail)) | exact cells_part (by repeat (first | exact .head | apply In.tail | apply Take.tail | apply Upd.tail)) rfl) rfl) ?_
    refine vd_val rfl rfl rfl (.some rfl) (val_lookupIds (k := p) kT rfl rfl (by repeat (first | exact .head | apply In.tail | apply Take.tail | apply Upd.tail))) ?_
    refine vd_val rfl rfl rfl (.some rfl) (val_move rfl) ?_
    refine vd_val rfl rfl rfl (.some rfl) (val_extract rfl rfl) ?_
    refine vd_val rfl rfl rfl (.some rfl) (val_extract rfl rfl) ?_
    refine vd_val rfl rfl rfl (.some rfl) (val_assign rfl) ?_
    refine vd_val rfl rfl rfl (.some rfl) (val_assign rfl) ?_
    refine vd_nil ?_
    refine vc_seq ?_
    refine vc_region ?_
    refine vl_val rfl (.some rfl) (val_move rfl) ?_
    refine vl_nil ?_
    refine vc_cond rfl (fun hc2 => ?_) (fun hc2 => ?_)
    · (try replace hc2 := of_decide_eq_true hc2)
      refine vc_seq ?_
      refine vc_region ?_
      refine vl_val rfl (.some rfl) (val_move rfl) ?_
      refine vl_val rfl (.some rfl) (val_assign rfl) ?_
      refine vl_val rfl (.some rfl) (val_assign rfl) ?_
      refine vl_nil ?_
      refine vc_ret ?_
      refine ⟨_, DH r m kd A c vs, _, res2 Try.results16 rfl rfl, (by repeat (first | exact .nil | (apply Sub.cons; · repeat (first | exact .head | apply Take.tail)))), ?_⟩
      have hd : dadd kd vs p = ((((vs.idxOf p : Nat) : Int), 0), vs) := by unfold dadd; rw [if_neg (by simpa using hc1), if_pos hc2]
      show ∃ A' c', _ ∧ _
      rw [hd]
      refine ⟨A, c, ?_, rfl⟩
      show Value.tuple #[.int .i64 ((if p ∈ vs then vs.idxOf p else 0 : Nat) : Int), .int .i64 0] = _
      rw [if_pos hc2]
    · (try replace hc2 := of_decide_eq_false hc2)
      refine vc_skip ?_
      refine vc_seq ?_
      refine vc_seq ?_
      refine vc_region ?_
      refine vl_val rfl (.some rfl) (val_move rfl) ?_
      refine vl_val rfl (.some rfl) (val_nil rfl rfl) ?_
      refine vl_val rfl (.some rfl) (by first | exact val_fieldAddr Try.runUnderlying52 rfl Try.sizeOf22 rfl | exact val_fieldAddrR Try.runUnderlying52 rfl Try.sizeOf22 rfl) ?_
      refine vl_val rfl (.some rfl) (val_load Try.isAgg22 rfl (by first | exact cell_cells (by repeat (first | exact .head | apply In.tail | apply Take.tail | apply Upd.tail)) rfl | exact cell_rd (rd_sl (by repeat (first | exact .head | apply In.tail | apply Take.tail | apply Upd.tail))) (by first | exact bcells_get (by omega) | exact icells_get (by omega) | exact tcells_get (by omega)))) ?_
      refine vl_val rfl (.some rfl) (val_lenSl Try.runUnderlying22 rfl) ?_
      refine vl_val rfl (.some rfl) (val_ge rfl rfl) ?_
      refine vl_nil ?_
      refine vc_cond rfl (fun hc3 => ?_) (fun hc3 => ?_)
      · (try replace hc3 := of_decide_eq_true hc3)
        refine vc_seq ?_
        refine vc_region ?_
        refine vl_val rfl (.some rfl) (val_assign rfl) ?_
        refine vl_val rfl (.some rfl) (val_assign rfl) ?_
        refine vl_nil ?_
        refine vc_ret ?_
        refine ⟨_, DH r m kd A c vs, _, res2 Try.results16 rfl rfl, (by repeat (first | exact .nil | (apply Sub.cons; · repeat (first | exact .head | apply Take.tail)))), ?_⟩
        have hd : dadd kd vs p = ((0, 7), vs) := by unfold dadd; rw [if_neg (by simpa using hc1), if_neg hc2, if_pos (by omega)]
        show ∃ A' c', _ ∧ _
        rw [hd]
        exact ⟨A, c, rfl, rfl⟩
      · (try replace hc3 := of_decide_eq_false hc3)
        refine vc_skip ?_
        refine vc_seq ?_
        refine vc_draws [0, 1, 2, 3, 4, 5, 6, 7, 8, 9] [10] [0, 1, 2, 3, 4, 5, 6, 7, 8, 9, 10] rfl (by kernel_rfl) (fun _ _ _ h => h) ?_
        refine vd_val rfl rfl rfl (.some rfl) (val_move rfl) ?_
        refine vd_val rfl rfl rfl (.some rfl) (val_nil rfl rfl) ?_
        refine vd_val rfl rfl rfl (.some rfl) (by first | exact val_fieldAddr Try.runUnderlying52 rfl Try.sizeOf50 rfl | exact val_fieldAddrR Try.runUnderlying52 rfl Try.sizeOf50 rfl) ?_
        refine vd_val rfl rfl rfl (.some rfl) (val_load Try.isAgg50 rfl (by first | exact cell_cells (by repeat (first | exact .head | apply In.tail | apply Take.tail | apply Upd.tail)) rfl | exact cell_rd (rd_sl (by repeat (first | exact .head | apply In.tail | apply Take.tail | apply Upd.tail))) (by first | exact bcells_get (by omega) | exact icells_get (by omega) | exact tcells_get (by omega)))) ?_
        refine vd_val rfl rfl rfl (.some rfl) (val_loadAgg Try.isAgg27 Try.sizeOf27 rfl (by first | exact cells_whole (by repeat (first | exact .head | apply In.tail | apply Take.tail | apply Upd.tail)) | exact cells_part (by repeat (first | exact .head | apply In.tail | apply Take.tail | apply Upd.tail)) rfl) rfl) ?_
        refine vd_val rfl rfl rfl (.some rfl) (val_move rfl) ?_
        refine vd_val rfl rfl rfl (.some rfl) (val_nil rfl rfl) ?_
        refine vd_val rfl rfl rfl (.some rfl) (by first | exact val_fieldAddr Try.runUnderlying52 rfl Try.sizeOf22 rfl | exact val_fieldAddrR Try.runUnderlying52 rfl Try.sizeOf22 rfl) ?_
        refine vd_val rfl rfl rfl (.some rfl) (val_load Try.isAgg22 rfl (by first | exact cell_cells (by repeat (first | exact .head | apply In.tail | apply Take.tail | apply Upd.tail)) rfl | exact cell_rd (rd_sl (by repeat (first | exact .head | apply In.tail | apply Take.tail | apply Upd.tail))) (by first | exact bcells_get (by omega) | exact icells_get (by omega) | exact tcells_get (by omega)))) ?_
        refine vd_val rfl rfl rfl (.some rfl) (val_lenSl Try.runUnderlying22 rfl) ?_
        refine vd_op rfl rfl ?_
        refine vl_mapNew kT rfl rfl .none rfl rfl rfl (kfind_none _ _ _ hc2) (by repeat (first | exact .head | apply In.tail | apply Take.tail | apply Upd.tail)) ?_
        rw [ids_push]
        refine vl_nil ?_
        refine ⟨fun h => (by cases h), ?_⟩
        refine vd_nil ?_
        refine vc_seq ?_
        refine vc_drawsS [0, 1, 2, 3, 4, 5, 9] [10] [0, 1, 2, 3, 4, 5, 6, 7, 8, 9, 10] [DC r m kd A vs.length c, cells r3 [.int .i64 p.k, .int .i64 p.n, .string p.s] 27] (by repeat (first | exact .nil | (apply Sub.cons; · repeat (first | exact .head | apply Take.tail)))) rfl (by kernel_rfl) (fun _ _ _ h => h) ?_
        refine vd_val rfl rfl rfl (.some rfl) (val_move rfl) ?_
        refine vd_val rfl rfl rfl (.some rfl) (val_move rfl) ?_
        refine vd_val rfl rfl rfl (.some rfl) (val_nil rfl rfl) ?_
        refine vd_val rfl rfl rfl (.some rfl) (by first | exact val_fieldAddr Try.runUnderlying52 rfl Try.sizeOf22 rfl | exact val_fieldAddrR Try.runUnderlying52 rfl Try.sizeOf22 rfl) ?_
        refine vd_val rfl rfl rfl (.some rfl) (val_load Try.isAgg22 rfl (by first | exact cell_cells (by repeat (first | exact .head | apply In.tail | apply Take.tail | apply Upd.tail)) rfl | exact cell_rd (rd_sl (by repeat (first | exact .head | apply In.tail | apply Take.tail | apply Upd.tail))) (by first | exact bcells_get (by omega) | exact icells_get (by omega) | exact tcells_get (by omega)))) ?_
        refine vd_val rfl rfl rfl (.some rfl) (val_loadAgg Try.isAgg27 Try.sizeOf27 rfl (by first | exact cells_whole (by repeat (first | exact .head | apply In.tail | apply Take.tail | apply Upd.tail)) | exact cells_part (by repeat (first | exact .head | apply In.tail | apply Take.tail | apply Upd.tail)) rfl) rfl) ?_
        refine vd_op rfl rfl ?_
        refine vl_lit sT22 rfl rfl (.some rfl) rfl rfl rfl (by decide) (by decide) rfl rfl (fun r50 => ?_)
        refine vl_nil ?_
        refine ⟨fun _ => ⟨_, (by repeat (first | exact .nil | (apply Sub.cons; · repeat (first | exact .head | apply Take.tail))))⟩, ?_⟩
        refine vd_op rfl rfl ?_
        refine vl_append sT22 rfl rfl (.some rfl) rfl rfl (by first | exact rd_sl (by repeat (first | exact .head | apply In.tail | apply Take.tail | apply Upd.tail)) | exact rd_slr (by repeat (first | exact .head | apply In.tail | apply Take.tail | apply Upd.tail)) | exact rd_old (by assumption) rfl) (by first | rfl | (simp; done) | (simp; omega)) rfl (by omega) (by omega) (by repeat (first | exact .head | apply In.tail | apply Take.tail | apply Upd.tail)) (fun A51 k51 => ?_)
        refine vl_nil ?_
        refine ⟨fun _ => ⟨_, (by repeat (first | exact .nil | (apply Sub.cons; · repeat (first | exact .head | apply Take.tail))))⟩, ?_⟩
        refine vd_op rfl rfl ?_
        refine vl_val rfl (.some rfl) (val_nil rfl rfl) ?_
        refine vl_nil ?_
        refine ⟨fun _ => ⟨_, (by repeat (first | exact .nil | (apply Sub.cons; · repeat (first | exact .head | apply Take.tail))))⟩, ?_⟩
        refine vd_val rfl rfl rfl (.some rfl) (by first | exact val_fieldAddr Try.runUnderlying52 rfl Try.sizeOf22 rfl | exact val_fieldAddrR Try.runUnderlying52 rfl Try.sizeOf22 rfl) ?_
        refine vd_op rfl rfl ?_
        first | refine vl_store rfl rfl .none rfl rfl Try.sizeOf22 rfl (by repeat (first | exact .head | apply In.tail | apply Take.tail | apply Upd.tail)) (by first | decide | exact Nat.le_refl _ | (simp; omega)) ?_ | refine vl_storeSl rfl rfl .none rfl rfl Try.sizeOf22 rfl (by simp [Value.cells]) (by repeat (first | exact .head | apply In.tail | apply Take.tail | apply Upd.tail)) (by first | decide | (simp [Value.cells]; omega)) ?_
        refine vl_nil ?_
        refine ⟨fun h => (by cases h), ?_⟩
        refine vd_nil ?_
        refine vc_seq ?_
        refine vc_region ?_
        refine vl_val rfl (.some rfl) (val_move rfl) ?_
        refine vl_val rfl (.some rfl) (val_nil rfl rfl) ?_
        refine vl_val rfl (.some rfl) (by first | exact val_fieldAddr Try.runUnderlying52 rfl Try.sizeOf22 rfl | exact val_fieldAddrR Try.runUnderlying52 rfl Try.sizeOf22 rfl) ?_
        refine vl_val rfl (.some rfl) (val_load Try.isAgg22 rfl (by first | exact cell_cells (by repeat (first | exact .head | apply In.tail | apply Take.tail | apply Upd.tail)) rfl | exact cell_rd (rd_sl (by repeat (first | exact .head | apply In.tail | apply Take.tail | apply Upd.tail))) (by first | exact bcells_get (by omega) | exact icells_get (by omega) | exact tcells_get (by omega)))) ?_
        refine vl_val rfl (.some rfl) (val_lenSl Try.runUnderlying22 rfl) ?_
        refine vl_val rfl (.some rfl) (val_sub rfl rfl (by first | exact w_i64 (by omega) (by omega) | rfl)) ?_
        refine vl_val rfl (.some rfl) (val_assign rfl) ?_
        refine vl_val rfl (.some rfl) (val_assign rfl) ?_
        refine vl_nil ?_
        refine vc_ret ?_
        refine ⟨_, [cells r [.int .i64 kd, .map (some m), .slice A51 (vs.length + 1) k51] 52, mp vk m (vs ++ [p]) (ids 0 (vs.length + 1)), sl A51 (vs.length + 1) k51 27 3 (flat vs ++ [.int .i64 p.k, .int .i64 p.n, .string p.s])], _, res2 Try.results16 rfl rfl, (by repeat (first | exact .nil | (apply Sub.cons; · repeat (first | exact .head | apply Take.tail)))), ?_⟩
        have hd : dadd kd vs p = ((((vs.length : Nat) : Int), 0), vs ++ [p]) := by unfold dadd; rw [if_neg (by simpa using hc1), if_neg hc2, if_neg (by omega)]
        show ∃ A' c', _ ∧ _
        rw [hd]
        refine ⟨A51, k51, ?_, ?_⟩
        · have e : (((vs.length + 1 : Nat) : Int) - 1) = (vs.length : Int) := by omega
          show Value.tuple #[.int .i64 (((vs.length + 1 : Nat) : Int) - 1), .int .i64 0] = _
          rw [e]
        · rw [flat_push, show (vs.length + 1) = (vs ++ [p]).length by simp]
set_option maxRecDepth 20000 in
set_option maxHeartbeats 1000000 in
theorem dLives (w : World) : FnV Try.prog 14 [] (.bool true) w := by
  refine fn_enter Try.func14 rfl Try.ntmps14 rfl ?_
  refine vc_seq ?_
  refine vc_region ?_
  refine vl_val rfl (.some rfl) (val_assign rfl) ?_
  refine vl_nil ?_
  refine vc_seq ?_
  refine vc_region ?_
  refine vl_call rfl rfl (.some rfl) Try.call13 rfl .nil (fun w hw => dNew 3 (by decide) (by decide) w) (fun v H' h => ?_)
  obtain ⟨r, m, rfl, rfl⟩ := h
  show VL _ _ _ _ _ (_ :: _ :: _ :: _)
  refine vl_val rfl (.some rfl) (val_assign rfl) ?_
  refine vl_nil ?_
  refine vc_seq ?_
  refine vc_seq ?_
  refine vc_region ?_
  refine vl_val rfl (.some rfl) (val_move rfl) ?_
  refine vl_val rfl (.some rfl) (val_opO rfl rfl guard_ptr (bin_ptr_eq Try.runUnderlying23)) ?_
  refine vl_nil ?_
  refine vc_cond rfl (fun h => by cases h) (fun _ => ?_)
  refine vc_skip ?_
  refine vc_seq ?_
  refine vc_region ?_
  refine vl_val rfl (.some rfl) (val_move rfl) ?_
  refine vl_callV rfl rfl (.some rfl) Try.call49 rfl (fun w hw => dStr _ w) ?_
  refine vl_call (C := DH r m 3 none 0 []) rfl rfl (.some rfl) Try.call16 rfl (by repeat (first | exact .nil | (apply Sub.cons; · repeat (first | exact .head | apply Take.tail)))) (fun w hw => dAdd r m 3 none 0 [] ⟨3, 0, ⟨#[97]⟩⟩ w) (fun v H' h => ?_)
  obtain ⟨A1, c1, rfl, rfl⟩ := h
  rw [show dadd 3 [] ⟨3, 0, ⟨#[97]⟩⟩ = ((0, 0), [⟨3, 0, ⟨#[97]⟩⟩]) by decide +kernel]
  show VL _ _ _ _ _ (_ :: _ :: _ :: _)
  refine vl_val rfl (.some rfl) (val_move rfl) ?_
  refine vl_val rfl (.some rfl) (val_extract rfl rfl) ?_
  refine vl_val rfl (.some rfl) (val_extract rfl rfl) ?_
  refine vl_val rfl (.some rfl) (val_assign rfl) ?_
  refine vl_val rfl (.some rfl) (val_assign rfl) ?_
  refine vl_nil ?_
  refine vc_seq ?_
  refine vc_region ?_
  refine vl_val rfl (.some rfl) (val_move rfl) ?_
  refine vl_callV rfl rfl (.some rfl) Try.call49 rfl (fun w hw => dStr _ w) ?_
  refine vl_call (C := DH r m 3 A1 c1 [⟨3, 0, ⟨#[97]⟩⟩]) rfl rfl (.some rfl) Try.call16 rfl (by repeat (first | exact .nil | (apply Sub.cons; · repeat (first | exact .head | apply Take.tail)))) (fun w hw => dAdd r m 3 A1 c1 [⟨3, 0, ⟨#[97]⟩⟩] ⟨3, 0, ⟨#[98]⟩⟩ w) (fun v H' h => ?_)
  obtain ⟨A2, c2, rfl, rfl⟩ := h
  rw [show dadd 3 [⟨3, 0, ⟨#[97]⟩⟩] ⟨3, 0, ⟨#[98]⟩⟩ = ((1, 0), [⟨3, 0, ⟨#[97]⟩⟩, ⟨3, 0, ⟨#[98]⟩⟩]) by decide +kernel]
  show VL _ _ _ _ _ (_ :: _ :: _ :: _)
  refine vl_val rfl (.some rfl) (val_move rfl) ?_
  refine vl_val rfl (.some rfl) (val_extract rfl rfl) ?_
  refine vl_val rfl (.some rfl) (val_extract rfl rfl) ?_
  refine vl_val rfl (.some rfl) (val_assign rfl) ?_
  refine vl_val rfl (.some rfl) (val_assign rfl) ?_
  refine vl_nil ?_
  refine vc_seq ?_
  refine vc_region ?_
  refine vl_val rfl (.some rfl) (val_move rfl) ?_
  refine vl_callV rfl rfl (.some rfl) Try.call49 rfl (fun w hw => dStr _ w) ?_
  refine vl_call (C := DH r m 3 A2 c2 [⟨3, 0, ⟨#[97]⟩⟩, ⟨3, 0, ⟨#[98]⟩⟩]) rfl rfl (.some rfl) Try.call16 rfl (by repeat (first | exact .nil | (apply Sub.cons; · repeat (first | exact .head | apply Take.tail)))) (fun w hw => dAdd r m 3 A2 c2 [⟨3, 0, ⟨#[97]⟩⟩, ⟨3, 0, ⟨#[98]⟩⟩] ⟨3, 0, ⟨#[97]⟩⟩ w) (fun v H' h => ?_)
  obtain ⟨A3, c3, rfl, rfl⟩ := h
  rw [show dadd 3 [⟨3, 0, ⟨#[97]⟩⟩, ⟨3, 0, ⟨#[98]⟩⟩] ⟨3, 0, ⟨#[97]⟩⟩ = ((0, 0), [⟨3, 0, ⟨#[97]⟩⟩, ⟨3, 0, ⟨#[98]⟩⟩]) by decide +kernel]
  show VL _ _ _ _ _ (_ :: _ :: _ :: _)
  refine vl_val rfl (.some rfl) (val_move rfl) ?_
  refine vl_val rfl (.some rfl) (val_extract rfl rfl) ?_
  refine vl_val rfl (.some rfl) (val_extract rfl rfl) ?_
  refine vl_val rfl (.some rfl) (val_assign rfl) ?_
  refine vl_val rfl (.some rfl) (val_assign rfl) ?_
  refine vl_nil ?_
  refine vc_seq ?_
  refine vc_region ?_
  refine vl_val rfl (.some rfl) (val_move rfl) ?_
  refine vl_callR [DC r m 3 A3 2 c3, DS A3 c3 [⟨3, 0, ⟨#[97]⟩⟩, ⟨3, 0, ⟨#[98]⟩⟩]] rfl rfl (.some rfl) Try.call17 rfl (by repeat (first | exact .nil | (apply Sub.cons; · repeat (first | exact .head | apply Take.tail)))) (fun w hw => dValue r m 3 A3 c3 [⟨3, 0, ⟨#[97]⟩⟩, ⟨3, 0, ⟨#[98]⟩⟩] 1 w) ?_
  refine vl_val rfl (.some rfl) (val_move rfl) ?_
  refine vl_val rfl (.some rfl) (val_extract rfl rfl) ?_
  refine vl_val rfl (.some rfl) (val_extract rfl (show _ = some (Value.bool true) from rfl)) ?_
  refine vl_alloc rfl rfl (.some rfl) Try.zeroValue27 (fun r8 => ?_)
  first | refine vl_store rfl rfl .none rfl rfl Try.sizeOf27 rfl (by repeat (first | exact .head | apply In.tail | apply Take.tail | apply Upd.tail)) (by first | decide | exact Nat.le_refl _ | (simp; omega)) ?_ | refine vl_storeSl rfl rfl .none rfl rfl Try.sizeOf27 rfl (by simp [Value.cells]) (by repeat (first | exact .head | apply In.tail | apply Take.tail | apply Upd.tail)) (by first | decide | (simp [Value.cells]; omega)) ?_
  refine vl_val rfl (.some rfl) (val_assign rfl) ?_
  refine vl_nil ?_
  refine vc_seq ?_
  refine vc_region ?_
  refine vl_val rfl (.some rfl) (val_move rfl) ?_
  refine vl_val rfl (.some rfl) (val_buildSt (pl := #[(0, 1), (1, 1), (2, 1)]) (cs := #[.int .i64 0, .int .i64 0, .string ⟨#[]⟩]) Try.runUnderlying27 Try.zeroValue27 (fun w => by kernel_rfl) rfl rfl) ?_
  refine vl_call (C := DH r m 3 A3 c3 [⟨3, 0, ⟨#[97]⟩⟩, ⟨3, 0, ⟨#[98]⟩⟩]) rfl rfl (.some rfl) Try.call16 rfl (by repeat (first | exact .nil | (apply Sub.cons; · repeat (first | exact .head | apply Take.tail)))) (fun w hw => dAdd r m 3 A3 c3 [⟨3, 0, ⟨#[97]⟩⟩, ⟨3, 0, ⟨#[98]⟩⟩] z3 w) (fun v H' h => ?_)
  obtain ⟨A4, c4, rfl, rfl⟩ := h
  rw [show dadd 3 [⟨3, 0, ⟨#[97]⟩⟩, ⟨3, 0, ⟨#[98]⟩⟩] z3 = ((0, 12), [⟨3, 0, ⟨#[97]⟩⟩, ⟨3, 0, ⟨#[98]⟩⟩]) by decide +kernel]
  show VL _ _ _ _ _ (_ :: _ :: _ :: _)
  refine vl_val rfl (.some rfl) (val_move rfl) ?_
  refine vl_val rfl (.some rfl) (val_extract rfl rfl) ?_
  refine vl_val rfl (.some rfl) (val_extract rfl rfl) ?_
  refine vl_val rfl (.some rfl) (val_assign rfl) ?_
  refine vl_val rfl (.some rfl) (val_assign rfl) ?_
  refine vl_nil ?_
  refine vc_seq ?_
  refine vc_draws [0, 1, 2, 3, 4, 5, 6, 7, 8, 9, 10, 11, 12, 13, 14, 15, 16, 17, 18, 19, 20, 21, 22, 24, 25, 26, 27, 28, 29, 30, 31, 33, 34, 35] [] [0, 1, 2, 3, 4, 5, 6, 7, 8, 9, 10, 11, 12, 13, 14, 15, 16, 17, 18, 19, 20, 21, 22, 23, 24, 25, 26, 27, 28, 29, 30, 31, 32, 33, 34, 35] rfl (by kernel_rfl) (fun _ _ _ h => h) ?_
  refine vd_val rfl rfl rfl (.some rfl) (val_move rfl) ?_
  refine vd_val rfl rfl rfl (.some rfl) (val_eqt rfl rfl (rfl)) ?_
  refine vd_val rfl rfl rfl (.some rfl) (val_move rfl) ?_
  refine vd_on rfl rfl rfl rfl rfl rfl (.some rfl) (val_move rfl) ?_
  refine vd_on rfl rfl rfl rfl rfl rfl (.some rfl) (val_eqt rfl rfl (rfl)) ?_
  refine vd_val rfl rfl rfl (.some rfl) (val_pick rfl rfl) ?_
  refine vd_val rfl rfl rfl (.some rfl) (val_move rfl) ?_
  refine vd_on rfl rfl rfl rfl rfl rfl (.some rfl) (val_move rfl) ?_
  refine vd_on rfl rfl rfl rfl rfl rfl (.some rfl) (val_eqt rfl rfl (rfl)) ?_
  refine vd_val rfl rfl rfl (.some rfl) (val_pick rfl rfl) ?_
  refine vd_val rfl rfl rfl (.some rfl) (val_move rfl) ?_
  refine vd_on rfl rfl rfl rfl rfl rfl (.some rfl) (val_move rfl) ?_
  refine vd_on rfl rfl rfl rfl rfl rfl (.some rfl) (val_move rfl) ?_
  refine vd_on rfl rfl rfl rfl rfl rfl (.some rfl) (val_add rfl rfl (by first | exact w_i64 (by omega) (by omega) | rfl)) ?_
  refine vd_on rfl rfl rfl rfl rfl rfl (.some rfl) (val_move rfl) ?_
  refine vd_on rfl rfl rfl rfl rfl rfl (.some rfl) (val_add rfl rfl (by first | exact w_i64 (by omega) (by omega) | rfl)) ?_
  refine vd_on rfl rfl rfl rfl rfl rfl (.some rfl) (val_eqt rfl rfl (rfl)) ?_
  refine vd_val rfl rfl rfl (.some rfl) (val_pick rfl rfl) ?_
  refine vd_val rfl rfl rfl (.some rfl) (val_move rfl) ?_
  refine vd_on rfl rfl rfl rfl rfl rfl (.some rfl) (val_move rfl) ?_
  refine vd_val rfl rfl rfl (.some rfl) (val_pick rfl rfl) ?_
  refine vd_val rfl rfl rfl (.some rfl) (val_move rfl) ?_
  refine vd_on rfl rfl rfl rfl rfl rfl (.some rfl) (val_loadAgg Try.isAgg27 Try.sizeOf27 rfl (by first | exact cells_whole (by repeat (first | exact .head | apply In.tail | apply Take.tail | apply Upd.tail)) | exact cells_part (by repeat (first | exact .head | apply In.tail | apply Take.tail | apply Upd.tail)) rfl) rfl) ?_
  refine vd_op rfl rfl ?_
  refine vl_on rfl rfl rfl rfl ?_
  refine vl_callV rfl rfl (.some rfl) Try.call49 rfl (fun w hw => dStr _ w) ?_
  refine vl_nil ?_
  refine ⟨fun _ => ⟨_, (by repeat (first | exact .nil | (apply Sub.cons; · repeat (first | exact .head | apply Take.tail))))⟩, ?_⟩
  refine vd_on rfl rfl rfl rfl rfl rfl (.some rfl) (val_opO rfl rfl (fun w => run_eqGuard_agg w _ _ _ _ _ _ (by kernel_rfl)) (bin_agg_eq (b := true) (vk_equal ⟨3, 0, ⟨#[98]⟩⟩ ⟨3, 0, ⟨#[98]⟩⟩))) ?_
  refine vd_val rfl rfl rfl (.some rfl) (val_pick rfl rfl) ?_
  refine vd_val rfl rfl rfl (.some rfl) (val_move rfl) ?_
  refine vd_on rfl rfl rfl rfl rfl rfl (.some rfl) (val_move rfl) ?_
  refine vd_on rfl rfl rfl rfl rfl rfl (.some rfl) (val_eqt rfl rfl (rfl)) ?_
  refine vd_val rfl rfl rfl (.some rfl) (val_pick rfl rfl) ?_
  refine vd_val rfl rfl rfl (.some rfl) (val_move rfl) ?_
  refine vd_on rfl rfl rfl rfl rfl rfl (.some rfl) (val_move rfl) ?_
  refine vd_op rfl rfl ?_
  refine vl_on rfl rfl rfl rfl ?_
  refine vl_callR [DC r m 3 A4 2 c4] rfl rfl (.some rfl) Try.call21 rfl (by repeat (first | exact .nil | (apply Sub.cons; · repeat (first | exact .head | apply Take.tail)))) (fun w hw => dKind r m 3 A4 c4 [⟨3, 0, ⟨#[97]⟩⟩, ⟨3, 0, ⟨#[98]⟩⟩] w) ?_
  refine vl_nil ?_
  refine ⟨fun _ => ⟨_, (by repeat (first | exact .nil | (apply Sub.cons; · repeat (first | exact .head | apply Take.tail))))⟩, ?_⟩
  refine vd_on rfl rfl rfl rfl rfl rfl (.some rfl) (val_eqt rfl rfl (rfl)) ?_
  refine vd_val rfl rfl rfl (.some rfl) (val_pick rfl rfl) ?_
  refine vd_val rfl rfl rfl (.some rfl) (val_assign rfl) ?_
  refine vd_nil ?_
  refine vc_ret ?_
  refine ⟨_, [], _, res1 Try.results14 rfl, .nil, ?_⟩
  rfl

end Go.Proofs.Ytibfngjfjddaiaa.K
