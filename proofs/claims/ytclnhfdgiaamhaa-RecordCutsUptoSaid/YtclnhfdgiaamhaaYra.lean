/- Walks of the program's functions, printed by a program of this session; Lean checks them. -/
import Derived.Test.YtclnhfdgiaamhaaKn
import Derived.Test.YtclnhfdgiaamhaaCd
import Derived.Test.YtclnhfdgiaamhaaKv
import Derived.Test.YtclnhfdgiaamhaaCl
import Derived.Test.YtclnhfdgiaamhaaCe
import Derived.Test.YtclnhfdgiaamhaaMb
import Derived.Test.YtclnhfdgiaamhaaMc
import Derived.Test.YtclnhfdgiaamhaaMg
import Derived.Test.YtclnhfdgiaamhaaKz
import Derived.Test.YtclnhfdgiaamhaaKw
import Derived.Test.YtclnhfdgiaamhaaCb
import Derived.Test.YtclnhfdgiaamhaaKy
import Derived.Test.YtclnhfdgiaamhaaProg
namespace Go.Proofs.Ytclnhfdgiaamhaa.K
open Go Go.RowKit Go.Proofs
set_option linter.unusedVariables false
set_option linter.unusedSimpArgs false

/-! floats: bits -/
theorem frombits_run (n : Int) (w : World) : (callFunc 155 #[.int .u64 n]).run Try.prog w = .ok (.value (.float .f64 n.toNat)) w := by
  rw [run_callFunc_extern (e := Extern.MathFloatBits.float64frombits) Try.func155 (by kernel_rfl) (by kernel_rfl) (by kernel_rfl) (by kernel_rfl)]; rfl
structure Vk where
  k : Int
  n : Int
  s : ByteArray
  deriving DecidableEq
abbrev vk (p : Vk) : Value := .agg #[.int .i64 p.k, .int .i64 p.n, .string p.s]
def WV (p : Vk) : Prop := -9223372036854775808 ≤ p.n ∧ p.n < 9223372036854775808
abbrev z3 : Vk := ⟨0, 0, ⟨#[]⟩⟩
theorem fsV : (Try.prog.fieldsOf 107).toList = [⟨"Kind", 3, 0, false, "", "", 0⟩, ⟨"N", 3, 1, false, "", "", 8⟩, ⟨"S", 9, 2, false, "", "", 16⟩] := by kernel_rfl
theorem vk_equal (p q : Vk) (w : World) : (Op.equal 107 (vk p) (vk q)).run Try.prog w = .ok (decide (p = q)) w := by
  obtain ⟨k, n, s⟩ := p
  obtain ⟨k', n', s'⟩ := q
  unfold Op.equal vk
  rw [show Op.maxDepth = 9999 + 1 from rfl, run_equalIn_agg w 9999 107 _ _ (by kernel_rfl) (by kernel_rfl), fsV]
  have e3 : ∀ a b : Int, (Op.equalIn 9999 3 (.int .i64 a) (.int .i64 b)).run Try.prog w = .ok (decide (a = b)) w := fun a b => by
    rw [show (9999 : Nat) = 9998 + 1 from rfl, run_equalIn_int w 9998 3 .i64 .i64 a b Try.underlying3, int_beq]
  have e9 : ∀ a b : ByteArray, (Op.equalIn 9999 9 (.string a) (.string b)).run Try.prog w = .ok (decide (a = b)) w := fun a b => by
    rw [show (9999 : Nat) = 9998 + 1 from rfl, run_equalIn_string w 9998 9 a b Try.underlying9, bytes_beq]
  simp only [Op.eqFields, part, Sem.run_bind, Try.isAgg3, Try.isAgg9, Result.andThen_ok]
  simp [e3, e9]
  by_cases h1 : k = k' <;> by_cases h2 : n = n' <;> simp [h1, h2, e3, e9]
  by_cases h3 : s = s' <;> simp [h3]
/-- What 'of' answers. -/
def ofV (p : Vk) : Value := if p.k = 0 then .iface 196 (.agg #[]) else if p.k = 1 then .iface 197 (.int .i64 p.n) else if p.k = 2 then .iface 198 (.int .i64 p.n) else if p.k = 3 then .iface 199 (.string p.s) else if p.k = 4 then .iface 200 (.bool (decide (p.n ≠ 0))) else .nilIface
section asks
variable {X : Cx} {E : Env} {H : List Chunk} {p : Vk}
theorem asks (T : TypeId) (j : Int) (z pl : Value) {x : Operand} {xT ty : TypeId} {d : TypeDesc} (hu : ∀ w, (underlying T).run X.P w = .ok d w) (hd : (match d with | .interface _ => false | _ => true) = true) (hz : ∀ w, (zeroValue T).run X.P w = .ok z w) (hx : E.ev x = some (ofV p))
    (h1 : p.k = j → ofV p = .iface T pl) (h2 : p.k ≠ j → ofV p = .nilIface ∨ ∃ t v, t ≠ T ∧ ofV p = .iface t v) : Val X E H (.typeAssert x xT T true) ty (.tuple #[if p.k = j then pl else z, .bool (decide (p.k = j))]) := by
  by_cases h : p.k = j
  · rw [h1 h] at hx
    have := val_isType (H := H) (xT := xT) (ty := ty) hu hd hz hx
    simpa [h] using this
  · rcases h2 h with e | ⟨t, v, ht, e⟩
    · rw [e] at hx
      have := val_isTypeNil (H := H) (xT := xT) (ty := ty) hu hz hx
      simpa [h] using this
    · rw [e] at hx
      have := val_isType (H := H) (xT := xT) (ty := ty) hu hd hz hx
      simpa [h, ht] using this
theorem other (T : TypeId) (j : Int) (hj : ∀ k : Int, k ≠ j → (k = 0 → 196 ≠ T) ∧ (k = 1 → 197 ≠ T) ∧ (k = 2 → 198 ≠ T) ∧ (k = 3 → 199 ≠ T) ∧ (k = 4 → 200 ≠ T)) (h : p.k ≠ j) : ofV p = .nilIface ∨ ∃ t v, t ≠ T ∧ ofV p = .iface t v := by
  obtain ⟨a0, a1, a2, a3, a4⟩ := hj p.k h
  unfold ofV
  split
  · exact .inr ⟨_, _, a0 (by assumption), rfl⟩
  · split
    · exact .inr ⟨_, _, a1 (by assumption), rfl⟩
    · split
      · exact .inr ⟨_, _, a2 (by assumption), rfl⟩
      · split
        · exact .inr ⟨_, _, a3 (by assumption), rfl⟩
        · split
          · exact .inr ⟨_, _, a4 (by assumption), rfl⟩
          · exact .inl rfl
end asks
def goodV (p : Vk) : Bool := if p.k = 0 then decide (p = z3) else if p.k = 1 then decide (p.s = ⟨#[]⟩) else if p.k = 2 then decide (p.s = ⟨#[]⟩) && decide (canS p.n = p.n) else if p.k = 3 then decide (p.n = 0) && decide (p.s.size ≤ 64) else if p.k = 4 then decide (p.s = ⟨#[]⟩) && (decide (p.n = 0) || decide (p.n = 1)) else false

set_option maxRecDepth 20000 in
theorem ofloat (n : Int) (w : World) : FnV Try.prog 154 [.int .i64 n] (.float .f64 (ub n)) w := by
  refine fn_enter Try.func154 rfl Try.ntmps154 rfl ?_
  refine vc_seq ?_
  refine vc_region ?_
  refine vl_val rfl (.some rfl) (val_assign rfl) ?_
  refine vl_nil ?_
  refine vc_seq ?_
  refine vc_region ?_
  refine vl_val rfl (.some rfl) (val_move rfl) ?_
  refine vl_val rfl (.some rfl) (val_convInt Try.runUnderlying3 Try.runUnderlying23 rfl (by first | exact w_u64 (by omega) (by omega) | rfl)) ?_
  refine vl_ext rfl rfl (.some rfl) rfl (frombits_run _) ?_
  refine vl_val rfl (.some rfl) (val_assign rfl) ?_
  refine vl_nil ?_
  refine vc_ret ?_
  refine ⟨_, [], _, res1 Try.results154 rfl, .nil, ?_⟩
  rfl
set_option maxRecDepth 20000 in
theorem oCanon (n : Int) (w : World) : FnV Try.prog 152 [.int .i64 n] (.int .i64 (canS n)) w := by
  refine fn_enter Try.func152 rfl Try.ntmps152 rfl ?_
  refine vc_seq ?_
  refine vc_region ?_
  refine vl_val rfl (.some rfl) (val_assign rfl) ?_
  refine vl_nil ?_
  refine vc_seq ?_
  refine vc_seq ?_
  refine vc_region ?_
  refine vl_val rfl (.some rfl) (val_move rfl) ?_
  refine vl_callV rfl rfl (.some rfl) Try.call154 rfl (fun w hw => ofloat _ w) ?_
  refine vl_val rfl (.some rfl) (val_assign rfl) ?_
  refine vl_nil ?_
  refine vc_block ?_
  refine vc_seq ?_
  refine vc_region ?_
  refine vl_val rfl (.some rfl) (val_move rfl) ?_
  refine vl_val rfl (.some rfl) (val_move rfl) ?_
  refine vl_val rfl (.some rfl) (val_fne rfl rfl) ?_
  refine vl_val rfl (.some rfl) (val_assign rfl) ?_
  refine vl_nil ?_
  refine vc_cond rfl (fun hc0 => ?_) (fun hc0 => ?_)
  · (try replace hc0 := of_decide_eq_true hc0)
    rw [self_is] at hc0; replace hc0 := of_decide_eq_true hc0
    refine vc_seq ?_
    refine vc_region ?_
    refine vl_val rfl (.some rfl) (val_assign rfl) ?_
    refine vl_nil ?_
    refine vc_ret ?_
    refine ⟨_, [], _, res1 Try.results152 rfl, .nil, ?_⟩
    show _ = _; simp [canS, hc0]
  · (try replace hc0 := of_decide_eq_false hc0)
    rw [self_is] at hc0; replace hc0 := of_decide_eq_false hc0
    refine vc_seq ?_
    refine vc_region ?_
    refine vl_val rfl (.some rfl) (val_move rfl) ?_
    refine vl_val rfl (.some rfl) (val_feq rfl rfl) ?_
    refine vl_val rfl (.some rfl) (val_assign rfl) ?_
    refine vl_nil ?_
    refine vc_cond rfl (fun hc1 => ?_) (fun hc1 => ?_)
    · (try replace hc1 := of_decide_eq_true hc1)
      rw [eq_is] at hc1; replace hc1 := of_decide_eq_true hc1
      refine vc_seq ?_
      refine vc_region ?_
      refine vl_val rfl (.some rfl) (val_assign rfl) ?_
      refine vl_nil ?_
      refine vc_ret ?_
      refine ⟨_, [], _, res1 Try.results152 rfl, .nil, ?_⟩
      show _ = _; have h0 : rg (ub n) = 0 := sv_zero.1 (hc1.2.2.trans sv0)
      simp [canS, hc0, h0]
    · (try replace hc1 := of_decide_eq_false hc1)
      rw [eq_is] at hc1; replace hc1 := of_decide_eq_false hc1
      refine vc_skip ?_
      refine vc_seq ?_
      refine vc_region ?_
      refine vl_val rfl (.some rfl) (val_move rfl) ?_
      refine vl_val rfl (.some rfl) (val_assign rfl) ?_
      refine vl_nil ?_
      refine vc_ret ?_
      refine ⟨_, [], _, res1 Try.results152 rfl, .nil, ?_⟩
      show _ = _; have h0 : ¬ rg (ub n) = 0 := fun e => hc1 ⟨hc0, isN0, (sv_zero.2 e).trans sv0.symm⟩
      simp [canS, hc0, h0]
set_option maxRecDepth 20000 in
theorem oGood (n : Int) (w : World) : FnV Try.prog 144 [.int .i64 n] (.bool (decide (canS n = n))) w := by
  refine fn_enter Try.func144 rfl Try.ntmps144 rfl ?_
  refine vc_seq ?_
  refine vc_region ?_
  refine vl_val rfl (.some rfl) (val_assign rfl) ?_
  refine vl_nil ?_
  refine vc_seq ?_
  refine vc_region ?_
  refine vl_val rfl (.some rfl) (val_move rfl) ?_
  refine vl_callV rfl rfl (.some rfl) Try.call152 rfl (fun w hw => oCanon _ w) ?_
  refine vl_val rfl (.some rfl) (val_move rfl) ?_
  refine vl_val rfl (.some rfl) (val_eq rfl rfl) ?_
  refine vl_val rfl (.some rfl) (val_assign rfl) ?_
  refine vl_nil ?_
  refine vc_ret ?_
  refine ⟨_, [], _, res1 Try.results144 rfl, .nil, ?_⟩
  rfl
set_option maxRecDepth 20000 in
theorem rNan (n : Int) (w : World) : FnV Try.prog 145 [.int .i64 n] (.bool (decide (isN (ub n)))) w := by
  have hu := ub_lt n
  have hI := @isN_bits n
  have hC := ub_cast n
  refine fn_enter Try.func145 rfl Try.ntmps145 rfl ?_
  refine vc_seq ?_
  refine vc_region ?_
  refine vl_val rfl (.some rfl) (val_assign rfl) ?_
  refine vl_nil ?_
  refine vc_seq ?_
  refine vc_region ?_
  refine vl_val rfl (.some rfl) (val_move rfl) ?_
  refine vl_val rfl (.some rfl) (val_convInt Try.runUnderlying3 Try.runUnderlying23 rfl (ub_cast n)) ?_
  refine vl_val rfl (.some rfl) (val_and rfl rfl (and_exp (by omega) (by omega))) ?_
  refine vl_val rfl (.some rfl) (val_eq rfl rfl) ?_
  refine vl_val rfl (.some rfl) (val_move rfl) ?_
  refine vl_split (t := 7) rfl (fun hg7 => ?_) (fun hg7 => ?_)
  · (try replace hg7 := of_decide_eq_true hg7)
    refine vl_on rfl rfl rfl rfl ?_
    refine vl_val rfl (.some rfl) (val_move rfl) ?_
    refine vl_on rfl rfl rfl rfl ?_
    refine vl_val rfl (.some rfl) (val_convInt Try.runUnderlying3 Try.runUnderlying23 rfl (ub_cast n)) ?_
    refine vl_on rfl rfl rfl rfl ?_
    refine vl_val rfl (.some rfl) (val_and rfl rfl (and_mask 52 4503599627370496 rfl (by decide) rfl rfl (by omega) (by simp [IntKind.bits]; omega))) ?_
    refine vl_on rfl rfl rfl rfl ?_
    refine vl_val rfl (.some rfl) (val_ne rfl rfl) ?_
    refine vl_val rfl (.some rfl) (val_pick rfl rfl) ?_
    refine vl_val rfl (.some rfl) (val_assign rfl) ?_
    refine vl_nil ?_
    refine vc_ret ?_
    refine ⟨_, [], _, res1 Try.results145 rfl, .nil, ?_⟩
    show _ = _
    first | exact congrArg Value.bool (decide_eq_decide.2 ⟨fun h => hI.1 ⟨hg7, h⟩, fun h => (hI.2 h).2⟩) | (congr 1; symm; exact decide_eq_false (fun h => hg7 (hI.2 h).1))
  · (try replace hg7 := of_decide_eq_false hg7)
    refine vl_off rfl rfl rfl rfl (.some rfl) ?_
    refine vl_off rfl rfl rfl rfl (.some rfl) ?_
    refine vl_off rfl rfl rfl rfl (.some rfl) ?_
    refine vl_off rfl rfl rfl rfl (.some rfl) ?_
    refine vl_val rfl (.some rfl) (val_pick rfl rfl) ?_
    refine vl_val rfl (.some rfl) (val_assign rfl) ?_
    refine vl_nil ?_
    refine vc_ret ?_
    refine ⟨_, [], _, res1 Try.results145 rfl, .nil, ?_⟩
    show _ = _
    first | exact congrArg Value.bool (decide_eq_decide.2 ⟨fun h => hI.1 ⟨hg7, h⟩, fun h => (hI.2 h).2⟩) | (congr 1; symm; exact decide_eq_false (fun h => hg7 (hI.2 h).1))
set_option maxRecDepth 20000 in
theorem rCanon (n : Int) (h1 : -9223372036854775808 ≤ n) (h2 : n < 9223372036854775808) (w : World) : FnV Try.prog 129 [.int .i64 n] (.int .i64 (canS n)) w := by
  refine fn_enter Try.func129 rfl Try.ntmps129 rfl ?_
  refine vc_seq ?_
  refine vc_region ?_
  refine vl_val rfl (.some rfl) (val_assign rfl) ?_
  refine vl_nil ?_
  refine vc_seq ?_
  refine vc_seq ?_
  refine vc_region ?_
  refine vl_val rfl (.some rfl) (val_move rfl) ?_
  refine vl_callV rfl rfl (.some rfl) Try.call145 rfl (fun w hw => rNan _ w) ?_
  refine vl_nil ?_
  refine vc_cond rfl (fun hc0 => ?_) (fun hc0 => ?_)
  · (try replace hc0 := of_decide_eq_true hc0)
    refine vc_seq ?_
    refine vc_region ?_
    refine vl_val rfl (.some rfl) (val_assign rfl) ?_
    refine vl_nil ?_
    refine vc_ret ?_
    refine ⟨_, [], _, res1 Try.results129 rfl, .nil, ?_⟩
    show _ = _; simp [canS, hc0]
  · (try replace hc0 := of_decide_eq_false hc0)
    refine vc_skip ?_
    refine vc_seq ?_
    refine vc_seq ?_
    refine vc_region ?_
    refine vl_val rfl (.some rfl) (val_move rfl) ?_
    refine vl_val rfl (.some rfl) (val_convInt Try.runUnderlying3 Try.runUnderlying23 rfl (ub_cast n)) ?_
    refine vl_val rfl (.some rfl) (val_eq rfl rfl) ?_
    refine vl_nil ?_
    refine vc_cond rfl (fun hc1 => ?_) (fun hc1 => ?_)
    · (try replace hc1 := of_decide_eq_true hc1)
      refine vc_seq ?_
      refine vc_region ?_
      refine vl_val rfl (.some rfl) (val_assign rfl) ?_
      refine vl_nil ?_
      refine vc_ret ?_
      refine ⟨_, [], _, res1 Try.results129 rfl, .nil, ?_⟩
      show _ = _; have h0 : rg (ub n) = 0 := by unfold rg; omega
      simp [canS, hc0, h0]
    · (try replace hc1 := of_decide_eq_false hc1)
      refine vc_skip ?_
      refine vc_seq ?_
      refine vc_region ?_
      refine vl_val rfl (.some rfl) (val_move rfl) ?_
      refine vl_val rfl (.some rfl) (val_assign rfl) ?_
      refine vl_nil ?_
      refine vc_ret ?_
      refine ⟨_, [], _, res1 Try.results129 rfl, .nil, ?_⟩
      show _ = _; have hs := ub_is n
      by_cases h0 : rg (ub n) = 0
      · have : n = 0 := by have := ub_lt n; unfold rg at h0; omega
        subst this; simp [canS, hc0]
      · simp [canS, hc0, h0]
set_option maxRecDepth 20000 in
theorem vOf (p : Vk) (w : World) : FnV Try.prog 143 [vk p] (ofV p) w := by
  refine fn_enter Try.func143 rfl Try.ntmps143 rfl ?_
  refine vc_seq ?_
  refine vc_region ?_
  refine vl_box rfl rfl (.some rfl) rfl (fun r1 => ?_)
  refine vl_val rfl (.some rfl) (val_assign rfl) ?_
  refine vl_nil ?_
  refine vc_seq ?_
  refine vc_seq ?_
  refine vc_region ?_
  refine vl_val rfl (.some rfl) (by first | exact val_fieldAddr Try.runUnderlying107 rfl Try.sizeOf3 rfl | exact val_fieldAddrR Try.runUnderlying107 rfl Try.sizeOf3 rfl) ?_
  refine vl_val rfl (.some rfl) (val_load Try.isAgg3 rfl (by first | exact cell_cells (by repeat constructor) rfl | exact cell_rd (by first | exact rd_sl (by repeat constructor) | exact rd_old (by assumption) rfl) (by first | exact bcells_at (by omega) | exact ucells_at (by omega) | exact icells_at (by omega) | exact tcells_at (by omega) | exact bcells_get (by omega) | exact icells_get (by omega) | exact tcells_get (by omega) | exact ucells_get (by omega)) | exact cell_old (by assumption) (by simp [fps]))) ?_
  refine vl_nil ?_
  refine vc_block ?_
  refine vc_seq ?_
  refine vc_region ?_
  refine vl_val rfl (.some rfl) (val_eq rfl rfl) ?_
  refine vl_val rfl (.some rfl) (val_assign rfl) ?_
  refine vl_nil ?_
  refine vc_cond rfl (fun hc0 => ?_) (fun hc0 => ?_)
  · (try replace hc0 := of_decide_eq_true hc0)
    refine vc_seq ?_
    refine vc_region ?_
    refine vl_val rfl (.some rfl) (val_buildSt (pl := #[]) (cs := #[]) Try.runUnderlying196 Try.zeroValue196 (fun w => by kernel_rfl) rfl rfl) ?_
    refine vl_val rfl (.some rfl) (val_mkIface Try.runUnderlying196 rfl rfl) ?_
    refine vl_val rfl (.some rfl) (val_assign rfl) ?_
    refine vl_nil ?_
    refine vc_ret ?_
    refine ⟨_, [], _, res1 Try.results143 rfl, .nil, ?_⟩
    show _ = _; unfold ofV; rw [if_pos hc0]
  · (try replace hc0 := of_decide_eq_false hc0)
    refine vc_seq ?_
    refine vc_region ?_
    refine vl_val rfl (.some rfl) (val_eq rfl rfl) ?_
    refine vl_val rfl (.some rfl) (val_assign rfl) ?_
    refine vl_nil ?_
    refine vc_cond rfl (fun hc1 => ?_) (fun hc1 => ?_)
    · (try replace hc1 := of_decide_eq_true hc1)
      refine vc_seq ?_
      refine vc_region ?_
      refine vl_val rfl (.some rfl) (by first | exact val_fieldAddr Try.runUnderlying107 rfl Try.sizeOf3 rfl | exact val_fieldAddrR Try.runUnderlying107 rfl Try.sizeOf3 rfl) ?_
      refine vl_val rfl (.some rfl) (val_load Try.isAgg3 rfl (by first | exact cell_cells (by repeat constructor) rfl | exact cell_rd (by first | exact rd_sl (by repeat constructor) | exact rd_old (by assumption) rfl) (by first | exact bcells_at (by omega) | exact ucells_at (by omega) | exact icells_at (by omega) | exact tcells_at (by omega) | exact bcells_get (by omega) | exact icells_get (by omega) | exact tcells_get (by omega) | exact ucells_get (by omega)) | exact cell_old (by assumption) (by simp [fps]))) ?_
      refine vl_val rfl (.some rfl) (val_mkIface Try.runUnderlying197 rfl rfl) ?_
      refine vl_val rfl (.some rfl) (val_assign rfl) ?_
      refine vl_nil ?_
      refine vc_ret ?_
      refine ⟨_, [], _, res1 Try.results143 rfl, .nil, ?_⟩
      show _ = _; unfold ofV; rw [if_neg hc0, if_pos hc1]
    · (try replace hc1 := of_decide_eq_false hc1)
      refine vc_seq ?_
      refine vc_region ?_
      refine vl_val rfl (.some rfl) (val_eq rfl rfl) ?_
      refine vl_val rfl (.some rfl) (val_assign rfl) ?_
      refine vl_nil ?_
      refine vc_cond rfl (fun hc2 => ?_) (fun hc2 => ?_)
      · (try replace hc2 := of_decide_eq_true hc2)
        refine vc_seq ?_
        refine vc_region ?_
        refine vl_val rfl (.some rfl) (by first | exact val_fieldAddr Try.runUnderlying107 rfl Try.sizeOf3 rfl | exact val_fieldAddrR Try.runUnderlying107 rfl Try.sizeOf3 rfl) ?_
        refine vl_val rfl (.some rfl) (val_load Try.isAgg3 rfl (by first | exact cell_cells (by repeat constructor) rfl | exact cell_rd (by first | exact rd_sl (by repeat constructor) | exact rd_old (by assumption) rfl) (by first | exact bcells_at (by omega) | exact ucells_at (by omega) | exact icells_at (by omega) | exact tcells_at (by omega) | exact bcells_get (by omega) | exact icells_get (by omega) | exact tcells_get (by omega) | exact ucells_get (by omega)) | exact cell_old (by assumption) (by simp [fps]))) ?_
        refine vl_val rfl (.some rfl) (val_mkIface Try.runUnderlying198 rfl rfl) ?_
        refine vl_val rfl (.some rfl) (val_assign rfl) ?_
        refine vl_nil ?_
        refine vc_ret ?_
        refine ⟨_, [], _, res1 Try.results143 rfl, .nil, ?_⟩
        show _ = _; unfold ofV; rw [if_neg hc0, if_neg hc1, if_pos hc2]
      · (try replace hc2 := of_decide_eq_false hc2)
        refine vc_seq ?_
        refine vc_region ?_
        refine vl_val rfl (.some rfl) (val_eq rfl rfl) ?_
        refine vl_val rfl (.some rfl) (val_assign rfl) ?_
        refine vl_nil ?_
        refine vc_cond rfl (fun hc3 => ?_) (fun hc3 => ?_)
        · (try replace hc3 := of_decide_eq_true hc3)
          refine vc_seq ?_
          refine vc_region ?_
          refine vl_val rfl (.some rfl) (by first | exact val_fieldAddr Try.runUnderlying107 rfl Try.sizeOf9 rfl | exact val_fieldAddrR Try.runUnderlying107 rfl Try.sizeOf9 rfl) ?_
          refine vl_val rfl (.some rfl) (val_load Try.isAgg9 rfl (by first | exact cell_cells (by repeat constructor) rfl | exact cell_rd (by first | exact rd_sl (by repeat constructor) | exact rd_old (by assumption) rfl) (by first | exact bcells_at (by omega) | exact ucells_at (by omega) | exact icells_at (by omega) | exact tcells_at (by omega) | exact bcells_get (by omega) | exact icells_get (by omega) | exact tcells_get (by omega) | exact ucells_get (by omega)) | exact cell_old (by assumption) (by simp [fps]))) ?_
          refine vl_val rfl (.some rfl) (val_mkIface Try.runUnderlying199 rfl rfl) ?_
          refine vl_val rfl (.some rfl) (val_assign rfl) ?_
          refine vl_nil ?_
          refine vc_ret ?_
          refine ⟨_, [], _, res1 Try.results143 rfl, .nil, ?_⟩
          show _ = _; unfold ofV; rw [if_neg hc0, if_neg hc1, if_neg hc2, if_pos hc3]
        · (try replace hc3 := of_decide_eq_false hc3)
          refine vc_seq ?_
          refine vc_region ?_
          refine vl_val rfl (.some rfl) (val_eq rfl rfl) ?_
          refine vl_val rfl (.some rfl) (val_assign rfl) ?_
          refine vl_nil ?_
          refine vc_cond rfl (fun hc4 => ?_) (fun hc4 => ?_)
          · (try replace hc4 := of_decide_eq_true hc4)
            refine vc_seq ?_
            refine vc_region ?_
            refine vl_val rfl (.some rfl) (by first | exact val_fieldAddr Try.runUnderlying107 rfl Try.sizeOf3 rfl | exact val_fieldAddrR Try.runUnderlying107 rfl Try.sizeOf3 rfl) ?_
            refine vl_val rfl (.some rfl) (val_load Try.isAgg3 rfl (by first | exact cell_cells (by repeat constructor) rfl | exact cell_rd (by first | exact rd_sl (by repeat constructor) | exact rd_old (by assumption) rfl) (by first | exact bcells_at (by omega) | exact ucells_at (by omega) | exact icells_at (by omega) | exact tcells_at (by omega) | exact bcells_get (by omega) | exact icells_get (by omega) | exact tcells_get (by omega) | exact ucells_get (by omega)) | exact cell_old (by assumption) (by simp [fps]))) ?_
            refine vl_val rfl (.some rfl) (val_ne rfl rfl) ?_
            refine vl_val rfl (.some rfl) (val_mkIface Try.runUnderlying200 rfl rfl) ?_
            refine vl_val rfl (.some rfl) (val_assign rfl) ?_
            refine vl_nil ?_
            refine vc_ret ?_
            refine ⟨_, [], _, res1 Try.results143 rfl, .nil, ?_⟩
            show _ = _; unfold ofV; rw [if_neg hc0, if_neg hc1, if_neg hc2, if_neg hc3, if_pos hc4]
          · (try replace hc4 := of_decide_eq_false hc4)
            refine vc_skip ?_
            refine vc_seq ?_
            refine vc_region ?_
            refine vl_val rfl (.some rfl) (val_assign rfl) ?_
            refine vl_nil ?_
            refine vc_ret ?_
            refine ⟨_, [], _, res1 Try.results143 rfl, .nil, ?_⟩
            show _ = _; unfold ofV; rw [if_neg hc0, if_neg hc1, if_neg hc2, if_neg hc3, if_neg hc4]
set_option maxRecDepth 20000 in
theorem vGood (p : Vk) (w : World) : FnV Try.prog 128 [vk p] (.bool (goodV p)) w := by
  refine fn_enter Try.func128 rfl Try.ntmps128 rfl ?_
  refine vc_seq ?_
  refine vc_region ?_
  refine vl_box rfl rfl (.some rfl) rfl (fun r1 => ?_)
  refine vl_val rfl (.some rfl) (val_assign rfl) ?_
  refine vl_nil ?_
  refine vc_seq ?_
  refine vc_seq ?_
  refine vc_region ?_
  refine vl_val rfl (.some rfl) (val_loadAgg Try.isAgg107 Try.sizeOf107 rfl (by first | exact cells_whole (by repeat constructor) | exact cells_part (by repeat constructor) rfl) rfl) ?_
  refine vl_callV rfl rfl (.some rfl) Try.call143 rfl (fun w hw => vOf _ w) ?_
  refine vl_nil ?_
  refine vc_block ?_
  refine vc_seq ?_
  refine vc_region ?_
  refine vl_val rfl (.some rfl) (asks 196 0 (.agg #[]) (.agg #[]) Try.runUnderlying196 rfl Try.zeroValue196 rfl (fun h => by unfold ofV; rw [h]; simp) (other _ _ (fun k hk => ⟨fun h => by first | decide | omega, fun h => by first | decide | omega, fun h => by first | decide | omega, fun h => by first | decide | omega, fun h => by first | decide | omega⟩))) ?_
  refine vl_val rfl (.some rfl) (val_extract rfl rfl) ?_
  refine vl_val rfl (.some rfl) (val_extract rfl rfl) ?_
  refine vl_nil ?_
  refine vc_cond rfl (fun hc0 => ?_) (fun hc0 => ?_)
  · (try replace hc0 := of_decide_eq_true hc0)
    rw [if_pos hc0]
    refine vc_seq ?_
    refine vc_region ?_
    refine vl_alloc rfl rfl (.some rfl) Try.zeroValue196 (fun r3 => ?_)
    first | refine vl_store rfl rfl .none rfl rfl Try.sizeOf196 rfl (by repeat constructor) (by first | decide | exact Nat.le_refl _ | exact Nat.le_of_ble_eq_true rfl | (simp; omega)) ?_ | refine vl_storeSl rfl rfl .none rfl rfl Try.sizeOf196 rfl (by simp [Value.cells]) (by repeat constructor) (by first | decide | (simp [Value.cells]; omega)) ?_
    refine vl_nil ?_
    refine vc_seq ?_
    refine vc_region ?_
    refine vl_val rfl (.some rfl) (val_loadAgg Try.isAgg107 Try.sizeOf107 rfl (by first | exact cells_whole (by repeat constructor) | exact cells_part (by repeat constructor) rfl) rfl) ?_
    refine vl_val rfl (.some rfl) (val_buildSt (pl := #[(0, 1), (1, 1), (2, 1)]) (cs := #[.int .i64 0, .int .i64 0, .string ⟨#[]⟩]) Try.runUnderlying107 Try.zeroValue107 (fun w => by kernel_rfl) rfl rfl) ?_
    refine vl_val rfl (.some rfl) (val_opO rfl rfl (fun w => run_eqGuard_agg w _ _ _ _ _ _ (by kernel_rfl)) (bin_agg_eq (vk_equal p z3))) ?_
    refine vl_val rfl (.some rfl) (val_assign rfl) ?_
    refine vl_nil ?_
    refine vc_ret ?_
    refine ⟨_, [], _, res1 Try.results128 rfl, .nil, ?_⟩
    show _ = _; unfold goodV; rw [if_pos hc0]
  · (try replace hc0 := of_decide_eq_false hc0)
    refine vc_seq ?_
    refine vc_region ?_
    refine vl_val rfl (.some rfl) (asks 197 1 (.int .i64 0) (.int .i64 p.n) Try.runUnderlying197 rfl Try.zeroValue197 rfl (fun h => by unfold ofV; rw [h]; simp) (other _ _ (fun k hk => ⟨fun h => by first | decide | omega, fun h => by first | decide | omega, fun h => by first | decide | omega, fun h => by first | decide | omega, fun h => by first | decide | omega⟩))) ?_
    refine vl_val rfl (.some rfl) (val_extract rfl rfl) ?_
    refine vl_val rfl (.some rfl) (val_extract rfl rfl) ?_
    refine vl_nil ?_
    refine vc_cond rfl (fun hc1 => ?_) (fun hc1 => ?_)
    · (try replace hc1 := of_decide_eq_true hc1)
      refine vc_seq ?_
      refine vc_region ?_
      refine vl_val rfl (.some rfl) (val_assign rfl) ?_
      refine vl_nil ?_
      refine vc_seq ?_
      refine vc_region ?_
      refine vl_val rfl (.some rfl) (by first | exact val_fieldAddr Try.runUnderlying107 rfl Try.sizeOf9 rfl | exact val_fieldAddrR Try.runUnderlying107 rfl Try.sizeOf9 rfl) ?_
      refine vl_val rfl (.some rfl) (val_load Try.isAgg9 rfl (by first | exact cell_cells (by repeat constructor) rfl | exact cell_rd (by first | exact rd_sl (by repeat constructor) | exact rd_old (by assumption) rfl) (by first | exact bcells_at (by omega) | exact ucells_at (by omega) | exact icells_at (by omega) | exact tcells_at (by omega) | exact bcells_get (by omega) | exact icells_get (by omega) | exact tcells_get (by omega) | exact ucells_get (by omega)) | exact cell_old (by assumption) (by simp [fps]))) ?_
      refine vl_val rfl (.some rfl) (val_seq rfl rfl) ?_
      refine vl_val rfl (.some rfl) (val_assign rfl) ?_
      refine vl_nil ?_
      refine vc_ret ?_
      refine ⟨_, [], _, res1 Try.results128 rfl, .nil, ?_⟩
      show _ = _; unfold goodV; rw [if_neg hc0, if_pos hc1]
    · (try replace hc1 := of_decide_eq_false hc1)
      refine vc_seq ?_
      refine vc_region ?_
      refine vl_val rfl (.some rfl) (asks 198 2 (.int .i64 0) (.int .i64 p.n) Try.runUnderlying198 rfl Try.zeroValue198 rfl (fun h => by unfold ofV; rw [h]; simp) (other _ _ (fun k hk => ⟨fun h => by first | decide | omega, fun h => by first | decide | omega, fun h => by first | decide | omega, fun h => by first | decide | omega, fun h => by first | decide | omega⟩))) ?_
      refine vl_val rfl (.some rfl) (val_extract rfl rfl) ?_
      refine vl_val rfl (.some rfl) (val_extract rfl rfl) ?_
      refine vl_nil ?_
      refine vc_cond rfl (fun hc2 => ?_) (fun hc2 => ?_)
      · (try replace hc2 := of_decide_eq_true hc2)
        refine vc_seq ?_
        refine vc_region ?_
        refine vl_val rfl (.some rfl) (val_assign rfl) ?_
        refine vl_nil ?_
        refine vc_seq ?_
        refine vc_region ?_
        refine vl_val rfl (.some rfl) (by first | exact val_fieldAddr Try.runUnderlying107 rfl Try.sizeOf9 rfl | exact val_fieldAddrR Try.runUnderlying107 rfl Try.sizeOf9 rfl) ?_
        refine vl_val rfl (.some rfl) (val_load Try.isAgg9 rfl (by first | exact cell_cells (by repeat constructor) rfl | exact cell_rd (by first | exact rd_sl (by repeat constructor) | exact rd_old (by assumption) rfl) (by first | exact bcells_at (by omega) | exact ucells_at (by omega) | exact icells_at (by omega) | exact tcells_at (by omega) | exact bcells_get (by omega) | exact icells_get (by omega) | exact tcells_get (by omega) | exact ucells_get (by omega)) | exact cell_old (by assumption) (by simp [fps]))) ?_
        refine vl_val rfl (.some rfl) (val_seq rfl rfl) ?_
        refine vl_val rfl (.some rfl) (val_move rfl) ?_
        refine vl_split (t := 28) rfl (fun hg28 => ?_) (fun hg28 => ?_)
        · (try replace hg28 := of_decide_eq_true hg28)
          refine vl_on rfl rfl rfl rfl ?_
          refine vl_val rfl (.some rfl) (by first | exact val_fieldAddr Try.runUnderlying107 rfl Try.sizeOf3 rfl | exact val_fieldAddrR Try.runUnderlying107 rfl Try.sizeOf3 rfl) ?_
          refine vl_on rfl rfl rfl rfl ?_
          refine vl_val rfl (.some rfl) (val_load Try.isAgg3 rfl (by first | exact cell_cells (by repeat constructor) rfl | exact cell_rd (by first | exact rd_sl (by repeat constructor) | exact rd_old (by assumption) rfl) (by first | exact bcells_at (by omega) | exact ucells_at (by omega) | exact icells_at (by omega) | exact tcells_at (by omega) | exact bcells_get (by omega) | exact icells_get (by omega) | exact tcells_get (by omega) | exact ucells_get (by omega)) | exact cell_old (by assumption) (by simp [fps]))) ?_
          refine vl_on rfl rfl rfl rfl ?_
          refine vl_callV rfl rfl (.some rfl) Try.call144 rfl (fun w hw => oGood _ w) ?_
          refine vl_val rfl (.some rfl) (val_pick rfl rfl) ?_
          refine vl_val rfl (.some rfl) (val_assign rfl) ?_
          refine vl_nil ?_
          refine vc_ret ?_
          refine ⟨_, [], _, res1 Try.results128 rfl, .nil, ?_⟩
          show _ = _; unfold goodV; rw [if_neg hc0, if_neg hc1, if_pos hc2]; first | (rw [decide_eq_true hg28]; rfl) | (rw [decide_eq_false hg28]; rfl)
        · (try replace hg28 := of_decide_eq_false hg28)
          refine vl_off rfl rfl rfl rfl (.some rfl) ?_
          refine vl_off rfl rfl rfl rfl (.some rfl) ?_
          refine vl_off rfl rfl rfl rfl (.some rfl) ?_
          refine vl_val rfl (.some rfl) (val_pick rfl rfl) ?_
          refine vl_val rfl (.some rfl) (val_assign rfl) ?_
          refine vl_nil ?_
          refine vc_ret ?_
          refine ⟨_, [], _, res1 Try.results128 rfl, .nil, ?_⟩
          show _ = _; unfold goodV; rw [if_neg hc0, if_neg hc1, if_pos hc2]; first | (rw [decide_eq_true hg28]; rfl) | (rw [decide_eq_false hg28]; rfl)
      · (try replace hc2 := of_decide_eq_false hc2)
        refine vc_seq ?_
        refine vc_region ?_
        refine vl_val rfl (.some rfl) (asks 199 3 (.string ⟨#[]⟩) (.string p.s) Try.runUnderlying199 rfl Try.zeroValue199 rfl (fun h => by unfold ofV; rw [h]; simp) (other _ _ (fun k hk => ⟨fun h => by first | decide | omega, fun h => by first | decide | omega, fun h => by first | decide | omega, fun h => by first | decide | omega, fun h => by first | decide | omega⟩))) ?_
        refine vl_val rfl (.some rfl) (val_extract rfl rfl) ?_
        refine vl_val rfl (.some rfl) (val_extract rfl rfl) ?_
        refine vl_nil ?_
        refine vc_cond rfl (fun hc3 => ?_) (fun hc3 => ?_)
        · (try replace hc3 := of_decide_eq_true hc3)
          rw [if_pos hc3]
          refine vc_seq ?_
          refine vc_region ?_
          refine vl_val rfl (.some rfl) (val_assign rfl) ?_
          refine vl_nil ?_
          refine vc_seq ?_
          refine vc_region ?_
          refine vl_val rfl (.some rfl) (by first | exact val_fieldAddr Try.runUnderlying107 rfl Try.sizeOf3 rfl | exact val_fieldAddrR Try.runUnderlying107 rfl Try.sizeOf3 rfl) ?_
          refine vl_val rfl (.some rfl) (val_load Try.isAgg3 rfl (by first | exact cell_cells (by repeat constructor) rfl | exact cell_rd (by first | exact rd_sl (by repeat constructor) | exact rd_old (by assumption) rfl) (by first | exact bcells_at (by omega) | exact ucells_at (by omega) | exact icells_at (by omega) | exact tcells_at (by omega) | exact bcells_get (by omega) | exact icells_get (by omega) | exact tcells_get (by omega) | exact ucells_get (by omega)) | exact cell_old (by assumption) (by simp [fps]))) ?_
          refine vl_val rfl (.some rfl) (val_eq rfl rfl) ?_
          refine vl_val rfl (.some rfl) (val_move rfl) ?_
          refine vl_split (t := 39) rfl (fun hg39 => ?_) (fun hg39 => ?_)
          · (try replace hg39 := of_decide_eq_true hg39)
            refine vl_on rfl rfl rfl rfl ?_
            refine vl_val rfl (.some rfl) (val_move rfl) ?_
            refine vl_on rfl rfl rfl rfl ?_
            refine vl_val rfl (.some rfl) (val_lenStr Try.runUnderlying199 rfl) ?_
            refine vl_on rfl rfl rfl rfl ?_
            refine vl_val rfl (.some rfl) (val_le rfl rfl) ?_
            refine vl_val rfl (.some rfl) (val_pick rfl rfl) ?_
            refine vl_val rfl (.some rfl) (val_assign rfl) ?_
            refine vl_nil ?_
            refine vc_ret ?_
            refine ⟨_, [], _, res1 Try.results128 rfl, .nil, ?_⟩
            show _ = _; unfold goodV; rw [if_neg hc0, if_neg hc1, if_neg hc2, if_pos hc3]; simp_all <;> omega
          · (try replace hg39 := of_decide_eq_false hg39)
            refine vl_off rfl rfl rfl rfl (.some rfl) ?_
            refine vl_off rfl rfl rfl rfl (.some rfl) ?_
            refine vl_off rfl rfl rfl rfl (.some rfl) ?_
            refine vl_val rfl (.some rfl) (val_pick rfl rfl) ?_
            refine vl_val rfl (.some rfl) (val_assign rfl) ?_
            refine vl_nil ?_
            refine vc_ret ?_
            refine ⟨_, [], _, res1 Try.results128 rfl, .nil, ?_⟩
            show _ = _; unfold goodV; rw [if_neg hc0, if_neg hc1, if_neg hc2, if_pos hc3]; simp_all <;> omega
        · (try replace hc3 := of_decide_eq_false hc3)
          refine vc_seq ?_
          refine vc_region ?_
          refine vl_val rfl (.some rfl) (asks 200 4 (.bool false) (.bool (decide (p.n ≠ 0))) Try.runUnderlying200 rfl Try.zeroValue200 rfl (fun h => by unfold ofV; rw [h]; simp) (other _ _ (fun k hk => ⟨fun h => by first | decide | omega, fun h => by first | decide | omega, fun h => by first | decide | omega, fun h => by first | decide | omega, fun h => by first | decide | omega⟩))) ?_
          refine vl_val rfl (.some rfl) (val_extract rfl rfl) ?_
          refine vl_val rfl (.some rfl) (val_extract rfl rfl) ?_
          refine vl_nil ?_
          refine vc_cond rfl (fun hc4 => ?_) (fun hc4 => ?_)
          · (try replace hc4 := of_decide_eq_true hc4)
            refine vc_seq ?_
            refine vc_region ?_
            refine vl_val rfl (.some rfl) (val_assign rfl) ?_
            refine vl_nil ?_
            refine vc_seq ?_
            refine vc_region ?_
            refine vl_val rfl (.some rfl) (by first | exact val_fieldAddr Try.runUnderlying107 rfl Try.sizeOf9 rfl | exact val_fieldAddrR Try.runUnderlying107 rfl Try.sizeOf9 rfl) ?_
            refine vl_val rfl (.some rfl) (val_load Try.isAgg9 rfl (by first | exact cell_cells (by repeat constructor) rfl | exact cell_rd (by first | exact rd_sl (by repeat constructor) | exact rd_old (by assumption) rfl) (by first | exact bcells_at (by omega) | exact ucells_at (by omega) | exact icells_at (by omega) | exact tcells_at (by omega) | exact bcells_get (by omega) | exact icells_get (by omega) | exact tcells_get (by omega) | exact ucells_get (by omega)) | exact cell_old (by assumption) (by simp [fps]))) ?_
            refine vl_val rfl (.some rfl) (val_seq rfl rfl) ?_
            refine vl_val rfl (.some rfl) (val_move rfl) ?_
            refine vl_split (t := 50) rfl (fun hg50 => ?_) (fun hg50 => ?_)
            · (try replace hg50 := of_decide_eq_true hg50)
              refine vl_on rfl rfl rfl rfl ?_
              refine vl_val rfl (.some rfl) (by first | exact val_fieldAddr Try.runUnderlying107 rfl Try.sizeOf3 rfl | exact val_fieldAddrR Try.runUnderlying107 rfl Try.sizeOf3 rfl) ?_
              refine vl_on rfl rfl rfl rfl ?_
              refine vl_val rfl (.some rfl) (val_load Try.isAgg3 rfl (by first | exact cell_cells (by repeat constructor) rfl | exact cell_rd (by first | exact rd_sl (by repeat constructor) | exact rd_old (by assumption) rfl) (by first | exact bcells_at (by omega) | exact ucells_at (by omega) | exact icells_at (by omega) | exact tcells_at (by omega) | exact bcells_get (by omega) | exact icells_get (by omega) | exact tcells_get (by omega) | exact ucells_get (by omega)) | exact cell_old (by assumption) (by simp [fps]))) ?_
              refine vl_on rfl rfl rfl rfl ?_
              refine vl_val rfl (.some rfl) (val_eq rfl rfl) ?_
              refine vl_on rfl rfl rfl rfl ?_
              refine vl_val rfl (.some rfl) (val_move rfl) ?_
              refine vl_split (t := 54) rfl (fun hg54 => ?_) (fun hg54 => ?_)
              · (try replace hg54 := of_decide_eq_true hg54)
                refine vl_off rfl rfl rfl rfl (.some rfl) ?_
                refine vl_off rfl rfl rfl rfl (.some rfl) ?_
                refine vl_off rfl rfl rfl rfl (.some rfl) ?_
                refine vl_on rfl rfl rfl rfl ?_
                refine vl_val rfl (.some rfl) (val_pick rfl rfl) ?_
                refine vl_val rfl (.some rfl) (val_pick rfl rfl) ?_
                refine vl_val rfl (.some rfl) (val_assign rfl) ?_
                refine vl_nil ?_
                refine vc_ret ?_
                refine ⟨_, [], _, res1 Try.results128 rfl, .nil, ?_⟩
                show _ = _; unfold goodV; rw [if_neg hc0, if_neg hc1, if_neg hc2, if_neg hc3, if_pos hc4]; simp_all
              · (try replace hg54 := of_decide_eq_false hg54)
                refine vl_on rfl rfl rfl rfl ?_
                refine vl_val rfl (.some rfl) (by first | exact val_fieldAddr Try.runUnderlying107 rfl Try.sizeOf3 rfl | exact val_fieldAddrR Try.runUnderlying107 rfl Try.sizeOf3 rfl) ?_
                refine vl_on rfl rfl rfl rfl ?_
                refine vl_val rfl (.some rfl) (val_load Try.isAgg3 rfl (by first | exact cell_cells (by repeat constructor) rfl | exact cell_rd (by first | exact rd_sl (by repeat constructor) | exact rd_old (by assumption) rfl) (by first | exact bcells_at (by omega) | exact ucells_at (by omega) | exact icells_at (by omega) | exact tcells_at (by omega) | exact bcells_get (by omega) | exact icells_get (by omega) | exact tcells_get (by omega) | exact ucells_get (by omega)) | exact cell_old (by assumption) (by simp [fps]))) ?_
                refine vl_on rfl rfl rfl rfl ?_
                refine vl_val rfl (.some rfl) (val_eq rfl rfl) ?_
                refine vl_on rfl rfl rfl rfl ?_
                refine vl_val rfl (.some rfl) (val_pick rfl rfl) ?_
                refine vl_val rfl (.some rfl) (val_pick rfl rfl) ?_
                refine vl_val rfl (.some rfl) (val_assign rfl) ?_
                refine vl_nil ?_
                refine vc_ret ?_
                refine ⟨_, [], _, res1 Try.results128 rfl, .nil, ?_⟩
                show _ = _; unfold goodV; rw [if_neg hc0, if_neg hc1, if_neg hc2, if_neg hc3, if_pos hc4]; simp_all
            · (try replace hg50 := of_decide_eq_false hg50)
              refine vl_off rfl rfl rfl rfl (.some rfl) ?_
              refine vl_off rfl rfl rfl rfl (.some rfl) ?_
              refine vl_off rfl rfl rfl rfl (.some rfl) ?_
              refine vl_off rfl rfl rfl rfl (.some rfl) ?_
              refine vl_offU rfl rfl rfl rfl (.some rfl) ?_
              refine vl_offU rfl rfl rfl rfl (.some rfl) ?_
              refine vl_offU rfl rfl rfl rfl (.some rfl) ?_
              refine vl_off rfl rfl rfl rfl (.some rfl) ?_
              refine vl_val rfl (.some rfl) (val_pick rfl rfl) ?_
              refine vl_val rfl (.some rfl) (val_assign rfl) ?_
              refine vl_nil ?_
              refine vc_ret ?_
              refine ⟨_, [], _, res1 Try.results128 rfl, .nil, ?_⟩
              show _ = _; unfold goodV; rw [if_neg hc0, if_neg hc1, if_neg hc2, if_neg hc3, if_pos hc4]; simp_all
          · (try replace hc4 := of_decide_eq_false hc4)
            refine vc_skip ?_
            refine vc_seq ?_
            refine vc_region ?_
            refine vl_val rfl (.some rfl) (val_assign rfl) ?_
            refine vl_nil ?_
            refine vc_ret ?_
            refine ⟨_, [], _, res1 Try.results128 rfl, .nil, ?_⟩
            show _ = _; unfold goodV; rw [if_neg hc0, if_neg hc1, if_neg hc2, if_neg hc3, if_neg hc4]


set_option maxRecDepth 20000 in
theorem sT22 : SlT Try.prog 22 5 1 1 (.int .u8 0) := ⟨Try.underlying22, ⟨Try.t5, Try.type5, rfl, rfl, rfl⟩, rfl, Nat.lt_of_sub_eq_succ rfl⟩
abbrev BY (A : Option Addr) (n c : Nat) (b : List UInt8) : Chunk := sl A n c 5 1 (bcells b)
theorem same_is (a b : List UInt8) : decide ((⟨a.toArray⟩ : ByteArray) = ⟨b.toArray⟩) = decide (a = b) := by
  rw [decide_eq_decide]
  exact ⟨mk_inj, fun h => by rw [h]⟩
set_option maxRecDepth 20000 in
theorem cput (A : Option Addr) (c : Nat) (b : List UInt8) (u : Nat) (hu : u < 18446744073709551616) (hb : b.length ≤ 1000000000000) (w : World) : Fn Try.prog 102 [.slice A b.length c, .int .u64 u] [BY A b.length c b] (ret fun v H' => ∃ A' c', v = .slice A' (b ++ putN u).length c' ∧ H' = [BY A' (b ++ putN u).length c' (b ++ putN u)]) w := by
  refine fn_enter Try.func102 rfl Try.ntmps102 rfl ?_
  refine vc_seq ?_
  refine vc_region ?_
  refine vl_val rfl (.some rfl) (val_assign rfl) ?_
  refine vl_nil ?_
  refine vc_seq ?_
  refine vc_block ?_
  refine vc_loopw (fun k E H => ∃ (j v n : Nat) (pre l : List UInt8) (A : Option Addr) (c : Nat), v = k ∧ j ≤ 9 ∧ v * 128 ^ j ≤ u ∧ pre.length = j ∧ pre ++ putF (10 - j) v = putN u ∧ n = b.length + j ∧ l = b ++ pre ∧ E = [(0, .slice A n c), (1, .int .u64 v)] ∧ H = [BY A n c l]) (u) ⟨_, _, _, ⟨0, u, b.length, [], b, A, c, rfl, by omega, by simp, rfl, rfl, rfl, by simp, rfl, rfl⟩, (by repeat (first | exact trivial | refine ⟨rfl, ?_⟩ | refine ⟨le_item rfl (by first | rfl | (congr 1; omega) | (simp; done) | (simp; omega)), ?_⟩)), (by repeat constructor)⟩ ?_
  intro k E H hI
  obtain ⟨j, v, n, pre, l, A, c, rfl, hj, hv, hp, hq, hn, hl, rfl, rfl⟩ := hI
  refine vc_seq ?_
  refine vc_seq ?_
  refine vc_region ?_
  refine vl_val rfl (.some rfl) (val_move rfl) ?_
  refine vl_val rfl (.some rfl) (val_gt rfl rfl) ?_
  refine vl_nil ?_
  refine vc_cond rfl (fun hc0 => ?_) (fun hc0 => ?_)
  · (try replace hc0 := of_decide_eq_true hc0)
    refine vc_skip ?_
    refine vc_seq ?_
    refine vc_block ?_
    refine vc_region ?_
    refine vl_val rfl (.some rfl) (val_move rfl) ?_
    refine vl_val rfl (.some rfl) (val_move rfl) ?_
    refine vl_val rfl (.some rfl) (val_convInt Try.runUnderlying23 Try.runUnderlying5 rfl rfl) ?_
    refine vl_val rfl (.some rfl) (val_or rfl rfl (or128 v)) ?_
    refine vl_lit sT22 rfl rfl (.some rfl) rfl rfl rfl (by decide) (by decide) rfl (flat_one rfl) (fun r13 => ?_)
    refine vl_append sT22 rfl rfl (.some rfl) rfl rfl (by first | exact rd_sl (by repeat constructor) | exact rd_slr (by repeat constructor) | exact rd_old (by assumption) rfl) (by first | rfl | (simp; done) | (simp; omega) | (simp only [bcells_length, icells_length, ucells_length, tcells_length]; omega)) (by first | rfl | exact one_b _ | exact one_u _ | exact one_i _ | exact one_t _) (by omega) (by omega) (by repeat constructor) (fun A14 k14 => ?_)
    refine vl_val rfl (.some rfl) (val_assign rfl) ?_
    refine vl_nil ?_
    refine vc_region ?_
    refine vl_val rfl (.some rfl) (val_move rfl) ?_
    refine vl_val rfl (.some rfl) (val_shr rfl rfl (by decide) (shr_lit 128 rfl (by decide))) ?_
    refine vl_val rfl (.some rfl) (val_assign rfl) ?_
    refine vl_nil ?_
    have hs := put_step hu hj hv (by omega)
    rw [bpush (by omega)]
    exact ⟨v / 128, _, _, _, (by omega : v / 128 < v), (by repeat (first | exact trivial | refine ⟨rfl, ?_⟩ | refine ⟨le_item rfl (by first | rfl | (congr 1; omega) | (simp; done) | (simp; omega)), ?_⟩)), (by repeat constructor), ⟨j + 1, v / 128, n + 1, pre ++ [UInt8.ofNat (v % 128 + 128)], _, _, _, rfl, hs.1, hs.2, by simp [hp], put_next hs.1 (by omega) hq, by omega, by rw [hl, List.append_assoc], rfl, rfl⟩⟩
  · (try replace hc0 := of_decide_eq_false hc0)
    refine vc_exit ?_
    refine vc_seq ?_
    refine vc_region ?_
    refine vl_val rfl (.some rfl) (val_move rfl) ?_
    refine vl_val rfl (.some rfl) (val_move rfl) ?_
    refine vl_val rfl (.some rfl) (val_convInt Try.runUnderlying23 Try.runUnderlying5 rfl (by first | exact w_u8 (by omega) (by omega) | rfl)) ?_
    refine vl_lit sT22 rfl rfl (.some rfl) rfl rfl rfl (by decide) (by decide) rfl (flat_one rfl) (fun r18 => ?_)
    refine vl_append sT22 rfl rfl (.some rfl) rfl rfl (by first | exact rd_sl (by repeat constructor) | exact rd_slr (by repeat constructor) | exact rd_old (by assumption) rfl) (by first | rfl | (simp; done) | (simp; omega) | (simp only [bcells_length, icells_length, ucells_length, tcells_length]; omega)) (by first | rfl | exact one_b _ | exact one_u _ | exact one_i _ | exact one_t _) (by omega) (by omega) (by repeat constructor) (fun A19 k19 => ?_)
    refine vl_val rfl (.some rfl) (val_assign rfl) ?_
    refine vl_nil ?_
    refine vc_ret ?_
    rw [bpush (by omega)]
    refine ⟨_, [BY A19 (n + 1) k19 (l ++ [UInt8.ofNat v])], _, res1 Try.results102 rfl, (by repeat constructor), ?_⟩
    have hend : l ++ [UInt8.ofNat v] = b ++ putN u := by rw [hl, List.append_assoc, put_end hj (by omega) hq]
    have hlen : n + 1 = (b ++ putN u).length := by rw [← hend, hl]; simp; omega
    exact ⟨A19, k19, by rw [hlen], by rw [hend, hlen]⟩
set_option maxRecDepth 20000 in
theorem cPut (A : Option Addr) (c : Nat) (b : List UInt8) (u : Nat) (hu : u < 18446744073709551616) (hb : b.length ≤ 1000000000000) (w : World) (hr : Reads w A (bcells b)) : Fn Try.prog 52 [.slice A b.length c, .int .u64 u] [] (ret fun v H' => ∃ A' c', v = .slice A' (b ++ putN u).length c' ∧ H' = [BY A' (b ++ putN u).length c' (b ++ putN u)]) w := by
  refine fn_enter Try.func52 rfl Try.ntmps52 rfl ?_
  refine vc_seq ?_
  refine vc_region ?_
  refine vl_val rfl (.some rfl) (val_assign rfl) ?_
  refine vl_nil ?_
  refine vc_seq ?_
  refine vc_region ?_
  refine vl_val rfl (.some rfl) (val_move rfl) ?_
  refine vl_nilSl 5 1 ?_
  refine vl_append sT22 rfl rfl (.some rfl) rfl rfl (rd_old hr rfl) (by simp [bcells_length]) (one_b _) (by omega) (by omega) (by repeat constructor) (fun A6 k6 => ?_)
  rw [Nat.zero_add, List.nil_append]
  refine vl_val rfl (.some rfl) (val_move rfl) ?_
  refine vl_call (C := [BY A6 (b).length k6 (b)]) rfl rfl (.some rfl) Try.call102 rfl (by repeat constructor) (fun w hw => cput A6 k6 (b) (u) hu hb w) (fun v H' h => ?_)
  obtain ⟨A2, c2, rfl, rfl⟩ := h
  refine vl_val rfl (.some rfl) (val_assign rfl) ?_
  refine vl_nil ?_
  refine vc_ret ?_
  refine ⟨_, [BY A2 (b ++ putN u).length c2 (b ++ putN u)], _, res1 Try.results52 rfl, (by repeat constructor), ?_⟩
  exact ⟨A2, c2, rfl, rfl⟩
set_option maxRecDepth 20000 in
theorem rPut (A : Option Addr) (c : Nat) (b : List UInt8) (u : Nat) (hu : u < 18446744073709551616) (hb : b.length ≤ 1000000000000) (w : World) (hr : Reads w A (bcells b)) : Fn Try.prog 54 [.slice A b.length c, .int .u64 u] [] (ret fun v H' => ∃ A' c', v = .slice A' (b ++ putN u).length c' ∧ H' = [BY A' (b ++ putN u).length c' (b ++ putN u)]) w := by
  refine fn_enter Try.func54 rfl Try.ntmps54 rfl ?_
  refine vc_seq ?_
  refine vc_region ?_
  refine vl_val rfl (.some rfl) (val_assign rfl) ?_
  refine vl_nil ?_
  refine vc_seq ?_
  refine vc_region ?_
  refine vl_lit0 sT22 Try.sizeOf5 rfl rfl (.some rfl) (fun r6 => ?_)
  refine vl_val rfl (.some rfl) (val_move rfl) ?_
  refine vl_append sT22 rfl rfl (.some rfl) rfl rfl (rd_old hr rfl) (by simp [bcells_length]) (one_b _) (by omega) (by omega) (by repeat constructor) (fun A8 k8 => ?_)
  rw [Nat.zero_add, List.nil_append]
  refine vl_val rfl (.some rfl) (val_assign rfl) ?_
  refine vl_nil ?_
  refine vc_seq ?_
  refine vc_block ?_
  refine vc_loopw (fun k E H => ∃ (j v n : Nat) (pre l : List UInt8) (A : Option Addr) (c : Nat), v = k ∧ j ≤ 9 ∧ v * 128 ^ j ≤ u ∧ pre.length = j ∧ pre ++ putF (10 - j) v = putN u ∧ n = b.length + j ∧ l = b ++ pre ∧ E = [(5, .slice A n c), (1, .int .u64 v)] ∧ H = [BY A n c l]) (u) ⟨_, _, _, ⟨0, u, b.length, [], b, A8, k8, rfl, by omega, by simp, rfl, rfl, rfl, by simp, rfl, rfl⟩, (by repeat (first | exact trivial | refine ⟨rfl, ?_⟩ | refine ⟨le_item rfl (by first | rfl | (congr 1; omega) | (simp; done) | (simp; omega)), ?_⟩)), (by repeat constructor)⟩ ?_
  intro k E H hI
  obtain ⟨j, v, n, pre, l, A, c, rfl, hj, hv, hp, hq, hn, hl, rfl, rfl⟩ := hI
  refine vc_seq ?_
  refine vc_seq ?_
  refine vc_region ?_
  refine vl_val rfl (.some rfl) (val_move rfl) ?_
  refine vl_val rfl (.some rfl) (val_ge rfl rfl) ?_
  refine vl_nil ?_
  refine vc_cond rfl (fun hc0 => ?_) (fun hc0 => ?_)
  · (try replace hc0 := of_decide_eq_true hc0)
    refine vc_skip ?_
    refine vc_block ?_
    refine vc_seq ?_
    refine vc_region ?_
    refine vl_val rfl (.some rfl) (val_move rfl) ?_
    refine vl_val rfl (.some rfl) (val_move rfl) ?_
    refine vl_val rfl (.some rfl) (val_rem rfl rfl (by omega) (by first | exact rem_nn (by omega) | rfl)) ?_
    refine vl_val rfl (.some rfl) (val_convInt Try.runUnderlying23 Try.runUnderlying5 rfl (show _ = ((v % 128 : Nat) : Int) by rw [wu8_mod]; omega)) ?_
    refine vl_val rfl (.some rfl) (val_add rfl rfl (show _ = ((v % 128 + 128 : Nat) : Int) by rw [wu8_mod]; omega)) ?_
    refine vl_lit sT22 rfl rfl (.some rfl) rfl rfl rfl (by decide) (by decide) rfl (flat_one rfl) (fun r16 => ?_)
    refine vl_append sT22 rfl rfl (.some rfl) rfl rfl (by first | exact rd_sl (by repeat constructor) | exact rd_slr (by repeat constructor) | exact rd_old (by assumption) rfl) (by first | rfl | (simp; done) | (simp; omega) | (simp only [bcells_length, icells_length, ucells_length, tcells_length]; omega)) (by first | rfl | exact one_b _ | exact one_u _ | exact one_i _ | exact one_t _) (by omega) (by omega) (by repeat constructor) (fun A17 k17 => ?_)
    refine vl_val rfl (.some rfl) (val_assign rfl) ?_
    refine vl_nil ?_
    refine vc_region ?_
    refine vl_val rfl (.some rfl) (val_move rfl) ?_
    refine vl_val rfl (.some rfl) (val_quo rfl rfl (by decide) (quo_nn (by omega) (w_u64 (by omega) (by have := put_le hv; omega)))) ?_
    refine vl_val rfl (.some rfl) (val_assign rfl) ?_
    refine vl_nil ?_
    have hs := put_step hu hj hv (by omega)
    rw [bpush (by omega)]
    exact ⟨v / 128, _, _, _, (by omega : v / 128 < v), (by repeat (first | exact trivial | refine ⟨rfl, ?_⟩ | refine ⟨le_item rfl (by first | rfl | (congr 1; omega) | (simp; done) | (simp; omega)), ?_⟩)), (by repeat constructor), ⟨j + 1, v / 128, n + 1, pre ++ [UInt8.ofNat (v % 128 + 128)], _, _, _, rfl, hs.1, hs.2, by simp [hp], put_next hs.1 (by omega) hq, by omega, by rw [hl, List.append_assoc], rfl, rfl⟩⟩
  · (try replace hc0 := of_decide_eq_false hc0)
    refine vc_exit ?_
    refine vc_seq ?_
    refine vc_region ?_
    refine vl_val rfl (.some rfl) (val_move rfl) ?_
    refine vl_val rfl (.some rfl) (val_move rfl) ?_
    refine vl_val rfl (.some rfl) (val_convInt Try.runUnderlying23 Try.runUnderlying5 rfl (by first | exact w_u8 (by omega) (by omega) | rfl)) ?_
    refine vl_lit sT22 rfl rfl (.some rfl) rfl rfl rfl (by decide) (by decide) rfl (flat_one rfl) (fun r23 => ?_)
    refine vl_append sT22 rfl rfl (.some rfl) rfl rfl (by first | exact rd_sl (by repeat constructor) | exact rd_slr (by repeat constructor) | exact rd_old (by assumption) rfl) (by first | rfl | (simp; done) | (simp; omega) | (simp only [bcells_length, icells_length, ucells_length, tcells_length]; omega)) (by first | rfl | exact one_b _ | exact one_u _ | exact one_i _ | exact one_t _) (by omega) (by omega) (by repeat constructor) (fun A24 k24 => ?_)
    refine vl_val rfl (.some rfl) (val_assign rfl) ?_
    refine vl_nil ?_
    refine vc_ret ?_
    rw [bpush (by omega)]
    refine ⟨_, [BY A24 (n + 1) k24 (l ++ [UInt8.ofNat v])], _, res1 Try.results54 rfl, (by repeat constructor), ?_⟩
    have hend : l ++ [UInt8.ofNat v] = b ++ putN u := by rw [hl, List.append_assoc, put_end hj (by omega) hq]
    have hlen : n + 1 = (b ++ putN u).length := by rw [← hend, hl]; simp; omega
    exact ⟨A24, k24, by rw [hlen], by rw [hend, hlen]⟩
set_option maxRecDepth 20000 in
theorem cGet (A : Option Addr) (c : Nat) (b : List UInt8) (hb : b.length ≤ 1000000000000) (w : World) (hr : Reads w A (bcells b)) : FnV Try.prog 109 [.slice A b.length c] (.tuple #[.int .u64 (getN b).1, .int .i64 (getN b).2]) w := by
  refine fn_enter Try.func109 rfl Try.ntmps109 rfl ?_
  refine vc_seq ?_
  refine vc_region ?_
  refine vl_val rfl (.some rfl) (val_assign rfl) ?_
  refine vl_val rfl (.some rfl) (val_assign rfl) ?_
  refine vl_nil ?_
  refine vc_seq ?_
  refine vc_region ?_
  refine vl_val rfl (.some rfl) (val_assign rfl) ?_
  refine vl_nil ?_
  refine vc_seq ?_
  refine vc_seq ?_
  refine vc_region ?_
  refine vl_val rfl (.some rfl) (val_move rfl) ?_
  refine vl_val rfl (.some rfl) (val_lenSl Try.runUnderlying22 rfl) ?_
  refine vl_val rfl (.some rfl) (val_move rfl) ?_
  refine vl_nil ?_
  refine vc_block ?_
  refine vc_loopw (fun k E H => ∃ i acc : Nat, i ≤ b.length ∧ i ≤ 9 ∧ k = 10 - i ∧ acc < 2 ^ (7 * i) ∧ getF i acc (b.drop i) = getN b ∧ E = [(7, .slice A b.length c), (8, .int .i64 b.length), (9, .int .i64 i), (4, .int .u64 acc)] ∧ H = []) (10) ⟨_, _, _, ⟨0, 0, by omega, by omega, rfl, by simp, rfl, rfl, rfl⟩, (by repeat (first | exact trivial | refine ⟨rfl, ?_⟩ | refine ⟨le_item rfl (by first | rfl | (congr 1; omega) | (simp; done) | (simp; omega)), ?_⟩)), (by repeat constructor)⟩ ?_
  intro k E H hI
  obtain ⟨i, acc, hib, hi9, rfl, ha, hg, rfl, rfl⟩ := hI
  refine vc_seq ?_
  refine vc_region ?_
  refine vl_val rfl (.some rfl) (val_lt rfl rfl) ?_
  refine vl_nil ?_
  refine vc_seq ?_
  refine vc_cond rfl (fun hc0 => ?_) (fun hc0 => ?_)
  · (try replace hc0 := of_decide_eq_true hc0)
    have hd := drop_cons (l := b) (i := i) 0 (by omega)
    rw [hd, getF_cons] at hg
    have hx := (b.getD i 0).toNat_lt
    refine vc_skip ?_
    refine vc_seq ?_
    refine vc_block ?_
    refine vc_seq ?_
    refine vc_region ?_
    refine vl_val rfl (.some rfl) (val_move rfl) ?_
    refine vl_val rfl (.some rfl) (val_indexAddr Try.runUnderlying22 Try.sizeOf5 rfl rfl (by first | exact rd_sl (by repeat constructor) | exact rd_slr (by repeat constructor) | exact rd_old (by assumption) rfl) (by omega) (by omega) (by first | omega | (simp only [bcells_length, icells_length, ucells_length, tcells_length]; omega) | (simp only [bcells_length, icells_length, ucells_length, tcells_length, fillG_length]; omega) | (simp; omega))) ?_
    refine vl_val rfl (.some rfl) (val_load Try.isAgg5 rfl (by first | exact cell_cells (by repeat constructor) rfl | exact cell_rd (by first | exact rd_sl (by repeat constructor) | exact rd_old (by assumption) rfl) (by first | exact bcells_at (by omega) | exact ucells_at (by omega) | exact icells_at (by omega) | exact tcells_at (by omega) | exact bcells_get (by omega) | exact icells_get (by omega) | exact tcells_get (by omega) | exact ucells_get (by omega)) | exact cell_old (by assumption) (by simp [fps]))) ?_
    refine vl_val rfl (.some rfl) (val_assign rfl) ?_
    refine vl_val rfl (.some rfl) (val_assign rfl) ?_
    refine vl_nil ?_
    refine vc_seq ?_
    refine vc_seq ?_
    refine vc_region ?_
    refine vl_val rfl (.some rfl) (val_move rfl) ?_
    refine vl_val rfl (.some rfl) (val_eq rfl rfl) ?_
    refine vl_val rfl (.some rfl) (val_move rfl) ?_
    refine vl_split (t := 16) rfl (fun hg16 => ?_) (fun hg16 => ?_)
    · (try replace hg16 := of_decide_eq_true hg16)
      refine vl_on rfl rfl rfl rfl ?_
      refine vl_val rfl (.some rfl) (val_move rfl) ?_
      refine vl_on rfl rfl rfl rfl ?_
      refine vl_val rfl (.some rfl) (val_gt rfl rfl) ?_
      refine vl_val rfl (.some rfl) (val_pick rfl rfl) ?_
      refine vl_val rfl (.some rfl) (val_move rfl) ?_
      refine vl_split (t := 20) rfl (fun hg20 => ?_) (fun hg20 => ?_)
      · (try replace hg20 := of_decide_eq_true hg20)
        refine vl_off rfl rfl rfl rfl (.some rfl) ?_
        refine vl_off rfl rfl rfl rfl (.some rfl) ?_
        refine vl_off rfl rfl rfl rfl (.some rfl) ?_
        refine vl_offU rfl rfl rfl rfl (.some rfl) ?_
        refine vl_offU rfl rfl rfl rfl (.some rfl) ?_
        refine vl_off rfl rfl rfl rfl (.some rfl) ?_
        refine vl_val rfl (.some rfl) (val_pick rfl rfl) ?_
        refine vl_nil ?_
        refine vc_cond rfl (fun _ => ?_) (fun h => by cases h)
        refine vc_exit ?_
        refine vc_seq ?_
        refine vc_region ?_
        refine vl_val rfl (.some rfl) (val_assign rfl) ?_
        refine vl_val rfl (.some rfl) (val_assign rfl) ?_
        refine vl_nil ?_
        refine vc_ret ?_
        refine ⟨_, [], _, res2 Try.results109 rfl rfl, .nil, ?_⟩
        show _ = _; rw [← hg]; first | (rw [List.drop_of_length_le (by omega)]; rfl) | (rw [if_pos (by omega)]; rfl)
      · (try replace hg20 := of_decide_eq_false hg20)
        refine vl_on rfl rfl rfl rfl ?_
        refine vl_val rfl (.some rfl) (val_move rfl) ?_
        refine vl_on rfl rfl rfl rfl ?_
        refine vl_val rfl (.some rfl) (val_gt rfl rfl) ?_
        refine vl_on rfl rfl rfl rfl ?_
        refine vl_val rfl (.some rfl) (val_move rfl) ?_
        refine vl_split (t := 23) rfl (fun hg23 => ?_) (fun hg23 => ?_)
        · (try replace hg23 := of_decide_eq_true hg23)
          refine vl_on rfl rfl rfl rfl ?_
          refine vl_val rfl (.some rfl) (val_move rfl) ?_
          refine vl_on rfl rfl rfl rfl ?_
          refine vl_val rfl (.some rfl) (val_eq rfl rfl) ?_
          refine vl_on rfl rfl rfl rfl ?_
          refine vl_val rfl (.some rfl) (val_pick rfl rfl) ?_
          refine vl_val rfl (.some rfl) (val_pick rfl rfl) ?_
          refine vl_nil ?_
          refine vc_cond rfl (fun hc1 => ?_) (fun hc1 => ?_)
          · (try replace hc1 := of_decide_eq_true hc1)
            refine vc_exit ?_
            refine vc_seq ?_
            refine vc_region ?_
            refine vl_val rfl (.some rfl) (val_assign rfl) ?_
            refine vl_val rfl (.some rfl) (val_assign rfl) ?_
            refine vl_nil ?_
            refine vc_ret ?_
            refine ⟨_, [], _, res2 Try.results109 rfl rfl, .nil, ?_⟩
            show _ = _; rw [← hg]; first | (rw [List.drop_of_length_le (by omega)]; rfl) | (rw [if_pos (by omega)]; rfl)
          · (try replace hc1 := of_decide_eq_false hc1)
            refine vc_skip ?_
            refine vc_seq ?_
            refine vc_region ?_
            have hn := get_next (i := i) (acc := acc) (x := b.getD i 0) (by omega) ha (by omega)
            refine vl_val rfl (.some rfl) (val_move rfl) ?_
            refine vl_val rfl (.some rfl) (val_move rfl) ?_
            refine vl_val rfl (.some rfl) (val_and rfl rfl (and127 _)) ?_
            refine vl_val rfl (.some rfl) (val_convInt Try.runUnderlying5 Try.runUnderlying23 rfl (by first | exact w_u64 (by omega) (by omega) | rfl)) ?_
            refine vl_val rfl (.some rfl) (val_move rfl) ?_
            refine vl_val rfl (.some rfl) (val_mul rfl rfl (by first | exact w_i64 (by omega) (by omega) | rfl)) ?_
            refine vl_val rfl (.some rfl) (val_shl rfl rfl (by omega) (shl7 (by omega) (by omega))) ?_
            refine vl_val rfl (.some rfl) (val_or rfl rfl (or7 ha (by omega))) ?_
            refine vl_val rfl (.some rfl) (val_assign rfl) ?_
            refine vl_nil ?_
            refine vc_seq ?_
            refine vc_region ?_
            refine vl_val rfl (.some rfl) (val_move rfl) ?_
            refine vl_val rfl (.some rfl) (val_lt rfl rfl) ?_
            refine vl_nil ?_
            refine vc_cond rfl (fun hc2 => ?_) (fun hc2 => ?_)
            · (try replace hc2 := of_decide_eq_true hc2)
              refine vc_seq ?_
              refine vc_region ?_
              refine vl_val rfl (.some rfl) (val_move rfl) ?_
              refine vl_val rfl (.some rfl) (val_move rfl) ?_
              refine vl_val rfl (.some rfl) (val_add rfl rfl (by first | exact w_i64 (by omega) (by omega) | rfl)) ?_
              refine vl_val rfl (.some rfl) (val_assign rfl) ?_
              refine vl_val rfl (.some rfl) (val_assign rfl) ?_
              refine vl_nil ?_
              refine vc_ret ?_
              refine ⟨_, [], _, res2 Try.results109 rfl rfl, .nil, ?_⟩
              show _ = _; rw [if_neg (by omega), if_pos (by omega)] at hg; rw [← hg]; rfl
            · (try replace hc2 := of_decide_eq_false hc2)
              refine vc_skip ?_
              refine vc_region ?_
              refine vl_val rfl (.some rfl) (val_add rfl rfl (by first | exact w_i64 (by omega) (by omega) | rfl)) ?_
              refine vl_val rfl (.some rfl) (val_move rfl) ?_
              refine vl_nil ?_
              exact ⟨10 - (i + 1), _, _, _, by omega, (by repeat (first | exact trivial | refine ⟨rfl, ?_⟩ | refine ⟨le_item rfl (by first | rfl | (congr 1; omega) | (simp; done) | (simp; omega)), ?_⟩)), (by repeat constructor), ⟨i + 1, acc + (b.getD i 0).toNat % 128 * 2 ^ (7 * i), by omega, by omega, rfl, hn.2 (by omega), by rw [if_neg (by omega), if_neg (by omega)] at hg; exact hg, rfl, rfl⟩⟩
        · (try replace hg23 := of_decide_eq_false hg23)
          refine vl_off rfl rfl rfl rfl (.some rfl) ?_
          refine vl_off rfl rfl rfl rfl (.some rfl) ?_
          refine vl_on rfl rfl rfl rfl ?_
          refine vl_val rfl (.some rfl) (val_pick rfl rfl) ?_
          refine vl_val rfl (.some rfl) (val_pick rfl rfl) ?_
          refine vl_nil ?_
          refine vc_cond rfl (fun h => by cases h) (fun _ => ?_)
          refine vc_skip ?_
          refine vc_seq ?_
          refine vc_region ?_
          have hn := get_next (i := i) (acc := acc) (x := b.getD i 0) (by omega) ha (by omega)
          refine vl_val rfl (.some rfl) (val_move rfl) ?_
          refine vl_val rfl (.some rfl) (val_move rfl) ?_
          refine vl_val rfl (.some rfl) (val_and rfl rfl (and127 _)) ?_
          refine vl_val rfl (.some rfl) (val_convInt Try.runUnderlying5 Try.runUnderlying23 rfl (by first | exact w_u64 (by omega) (by omega) | rfl)) ?_
          refine vl_val rfl (.some rfl) (val_move rfl) ?_
          refine vl_val rfl (.some rfl) (val_mul rfl rfl (by first | exact w_i64 (by omega) (by omega) | rfl)) ?_
          refine vl_val rfl (.some rfl) (val_shl rfl rfl (by omega) (shl7 (by omega) (by omega))) ?_
          refine vl_val rfl (.some rfl) (val_or rfl rfl (or7 ha (by omega))) ?_
          refine vl_val rfl (.some rfl) (val_assign rfl) ?_
          refine vl_nil ?_
          refine vc_seq ?_
          refine vc_region ?_
          refine vl_val rfl (.some rfl) (val_move rfl) ?_
          refine vl_val rfl (.some rfl) (val_lt rfl rfl) ?_
          refine vl_nil ?_
          refine vc_cond rfl (fun hc2 => ?_) (fun hc2 => ?_)
          · (try replace hc2 := of_decide_eq_true hc2)
            refine vc_seq ?_
            refine vc_region ?_
            refine vl_val rfl (.some rfl) (val_move rfl) ?_
            refine vl_val rfl (.some rfl) (val_move rfl) ?_
            refine vl_val rfl (.some rfl) (val_add rfl rfl (by first | exact w_i64 (by omega) (by omega) | rfl)) ?_
            refine vl_val rfl (.some rfl) (val_assign rfl) ?_
            refine vl_val rfl (.some rfl) (val_assign rfl) ?_
            refine vl_nil ?_
            refine vc_ret ?_
            refine ⟨_, [], _, res2 Try.results109 rfl rfl, .nil, ?_⟩
            show _ = _; rw [if_neg (by omega), if_pos (by omega)] at hg; rw [← hg]; rfl
          · (try replace hc2 := of_decide_eq_false hc2)
            refine vc_skip ?_
            refine vc_region ?_
            refine vl_val rfl (.some rfl) (val_add rfl rfl (by first | exact w_i64 (by omega) (by omega) | rfl)) ?_
            refine vl_val rfl (.some rfl) (val_move rfl) ?_
            refine vl_nil ?_
            exact ⟨10 - (i + 1), _, _, _, by omega, (by repeat (first | exact trivial | refine ⟨rfl, ?_⟩ | refine ⟨le_item rfl (by first | rfl | (congr 1; omega) | (simp; done) | (simp; omega)), ?_⟩)), (by repeat constructor), ⟨i + 1, acc + (b.getD i 0).toNat % 128 * 2 ^ (7 * i), by omega, by omega, rfl, hn.2 (by omega), by rw [if_neg (by omega), if_neg (by omega)] at hg; exact hg, rfl, rfl⟩⟩
    · (try replace hg16 := of_decide_eq_false hg16)
      refine vl_off rfl rfl rfl rfl (.some rfl) ?_
      refine vl_off rfl rfl rfl rfl (.some rfl) ?_
      refine vl_val rfl (.some rfl) (val_pick rfl rfl) ?_
      refine vl_val rfl (.some rfl) (val_move rfl) ?_
      refine vl_on rfl rfl rfl rfl ?_
      refine vl_val rfl (.some rfl) (val_move rfl) ?_
      refine vl_on rfl rfl rfl rfl ?_
      refine vl_val rfl (.some rfl) (val_gt rfl rfl) ?_
      refine vl_on rfl rfl rfl rfl ?_
      refine vl_val rfl (.some rfl) (val_move rfl) ?_
      refine vl_split (t := 23) rfl (fun hg23 => ?_) (fun hg23 => ?_)
      · (try replace hg23 := of_decide_eq_true hg23)
        refine vl_on rfl rfl rfl rfl ?_
        refine vl_val rfl (.some rfl) (val_move rfl) ?_
        refine vl_on rfl rfl rfl rfl ?_
        refine vl_val rfl (.some rfl) (val_eq rfl rfl) ?_
        refine vl_on rfl rfl rfl rfl ?_
        refine vl_val rfl (.some rfl) (val_pick rfl rfl) ?_
        refine vl_val rfl (.some rfl) (val_pick rfl rfl) ?_
        refine vl_nil ?_
        refine vc_cond rfl (fun hc1 => ?_) (fun hc1 => ?_)
        · (try replace hc1 := of_decide_eq_true hc1)
          refine vc_exit ?_
          refine vc_seq ?_
          refine vc_region ?_
          refine vl_val rfl (.some rfl) (val_assign rfl) ?_
          refine vl_val rfl (.some rfl) (val_assign rfl) ?_
          refine vl_nil ?_
          refine vc_ret ?_
          refine ⟨_, [], _, res2 Try.results109 rfl rfl, .nil, ?_⟩
          show _ = _; rw [← hg]; first | (rw [List.drop_of_length_le (by omega)]; rfl) | (rw [if_pos (by omega)]; rfl)
        · (try replace hc1 := of_decide_eq_false hc1)
          refine vc_skip ?_
          refine vc_seq ?_
          refine vc_region ?_
          have hn := get_next (i := i) (acc := acc) (x := b.getD i 0) (by omega) ha (by omega)
          refine vl_val rfl (.some rfl) (val_move rfl) ?_
          refine vl_val rfl (.some rfl) (val_move rfl) ?_
          refine vl_val rfl (.some rfl) (val_and rfl rfl (and127 _)) ?_
          refine vl_val rfl (.some rfl) (val_convInt Try.runUnderlying5 Try.runUnderlying23 rfl (by first | exact w_u64 (by omega) (by omega) | rfl)) ?_
          refine vl_val rfl (.some rfl) (val_move rfl) ?_
          refine vl_val rfl (.some rfl) (val_mul rfl rfl (by first | exact w_i64 (by omega) (by omega) | rfl)) ?_
          refine vl_val rfl (.some rfl) (val_shl rfl rfl (by omega) (shl7 (by omega) (by omega))) ?_
          refine vl_val rfl (.some rfl) (val_or rfl rfl (or7 ha (by omega))) ?_
          refine vl_val rfl (.some rfl) (val_assign rfl) ?_
          refine vl_nil ?_
          refine vc_seq ?_
          refine vc_region ?_
          refine vl_val rfl (.some rfl) (val_move rfl) ?_
          refine vl_val rfl (.some rfl) (val_lt rfl rfl) ?_
          refine vl_nil ?_
          refine vc_cond rfl (fun hc2 => ?_) (fun hc2 => ?_)
          · (try replace hc2 := of_decide_eq_true hc2)
            refine vc_seq ?_
            refine vc_region ?_
            refine vl_val rfl (.some rfl) (val_move rfl) ?_
            refine vl_val rfl (.some rfl) (val_move rfl) ?_
            refine vl_val rfl (.some rfl) (val_add rfl rfl (by first | exact w_i64 (by omega) (by omega) | rfl)) ?_
            refine vl_val rfl (.some rfl) (val_assign rfl) ?_
            refine vl_val rfl (.some rfl) (val_assign rfl) ?_
            refine vl_nil ?_
            refine vc_ret ?_
            refine ⟨_, [], _, res2 Try.results109 rfl rfl, .nil, ?_⟩
            show _ = _; rw [if_neg (by omega), if_pos (by omega)] at hg; rw [← hg]; rfl
          · (try replace hc2 := of_decide_eq_false hc2)
            refine vc_skip ?_
            refine vc_region ?_
            refine vl_val rfl (.some rfl) (val_add rfl rfl (by first | exact w_i64 (by omega) (by omega) | rfl)) ?_
            refine vl_val rfl (.some rfl) (val_move rfl) ?_
            refine vl_nil ?_
            exact ⟨10 - (i + 1), _, _, _, by omega, (by repeat (first | exact trivial | refine ⟨rfl, ?_⟩ | refine ⟨le_item rfl (by first | rfl | (congr 1; omega) | (simp; done) | (simp; omega)), ?_⟩)), (by repeat constructor), ⟨i + 1, acc + (b.getD i 0).toNat % 128 * 2 ^ (7 * i), by omega, by omega, rfl, hn.2 (by omega), by rw [if_neg (by omega), if_neg (by omega)] at hg; exact hg, rfl, rfl⟩⟩
      · (try replace hg23 := of_decide_eq_false hg23)
        refine vl_off rfl rfl rfl rfl (.some rfl) ?_
        refine vl_off rfl rfl rfl rfl (.some rfl) ?_
        refine vl_on rfl rfl rfl rfl ?_
        refine vl_val rfl (.some rfl) (val_pick rfl rfl) ?_
        refine vl_val rfl (.some rfl) (val_pick rfl rfl) ?_
        refine vl_nil ?_
        refine vc_cond rfl (fun h => by cases h) (fun _ => ?_)
        refine vc_skip ?_
        refine vc_seq ?_
        refine vc_region ?_
        have hn := get_next (i := i) (acc := acc) (x := b.getD i 0) (by omega) ha (by omega)
        refine vl_val rfl (.some rfl) (val_move rfl) ?_
        refine vl_val rfl (.some rfl) (val_move rfl) ?_
        refine vl_val rfl (.some rfl) (val_and rfl rfl (and127 _)) ?_
        refine vl_val rfl (.some rfl) (val_convInt Try.runUnderlying5 Try.runUnderlying23 rfl (by first | exact w_u64 (by omega) (by omega) | rfl)) ?_
        refine vl_val rfl (.some rfl) (val_move rfl) ?_
        refine vl_val rfl (.some rfl) (val_mul rfl rfl (by first | exact w_i64 (by omega) (by omega) | rfl)) ?_
        refine vl_val rfl (.some rfl) (val_shl rfl rfl (by omega) (shl7 (by omega) (by omega))) ?_
        refine vl_val rfl (.some rfl) (val_or rfl rfl (or7 ha (by omega))) ?_
        refine vl_val rfl (.some rfl) (val_assign rfl) ?_
        refine vl_nil ?_
        refine vc_seq ?_
        refine vc_region ?_
        refine vl_val rfl (.some rfl) (val_move rfl) ?_
        refine vl_val rfl (.some rfl) (val_lt rfl rfl) ?_
        refine vl_nil ?_
        refine vc_cond rfl (fun hc2 => ?_) (fun hc2 => ?_)
        · (try replace hc2 := of_decide_eq_true hc2)
          refine vc_seq ?_
          refine vc_region ?_
          refine vl_val rfl (.some rfl) (val_move rfl) ?_
          refine vl_val rfl (.some rfl) (val_move rfl) ?_
          refine vl_val rfl (.some rfl) (val_add rfl rfl (by first | exact w_i64 (by omega) (by omega) | rfl)) ?_
          refine vl_val rfl (.some rfl) (val_assign rfl) ?_
          refine vl_val rfl (.some rfl) (val_assign rfl) ?_
          refine vl_nil ?_
          refine vc_ret ?_
          refine ⟨_, [], _, res2 Try.results109 rfl rfl, .nil, ?_⟩
          show _ = _; rw [if_neg (by omega), if_pos (by omega)] at hg; rw [← hg]; rfl
        · (try replace hc2 := of_decide_eq_false hc2)
          refine vc_skip ?_
          refine vc_region ?_
          refine vl_val rfl (.some rfl) (val_add rfl rfl (by first | exact w_i64 (by omega) (by omega) | rfl)) ?_
          refine vl_val rfl (.some rfl) (val_move rfl) ?_
          refine vl_nil ?_
          exact ⟨10 - (i + 1), _, _, _, by omega, (by repeat (first | exact trivial | refine ⟨rfl, ?_⟩ | refine ⟨le_item rfl (by first | rfl | (congr 1; omega) | (simp; done) | (simp; omega)), ?_⟩)), (by repeat constructor), ⟨i + 1, acc + (b.getD i 0).toNat % 128 * 2 ^ (7 * i), by omega, by omega, rfl, hn.2 (by omega), by rw [if_neg (by omega), if_neg (by omega)] at hg; exact hg, rfl, rfl⟩⟩
  · (try replace hc0 := of_decide_eq_false hc0)
    refine vc_exit ?_
    refine vc_seq ?_
    refine vc_region ?_
    refine vl_val rfl (.some rfl) (val_assign rfl) ?_
    refine vl_val rfl (.some rfl) (val_assign rfl) ?_
    refine vl_nil ?_
    refine vc_ret ?_
    refine ⟨_, [], _, res2 Try.results109 rfl rfl, .nil, ?_⟩
    show _ = _; rw [← hg]; first | (rw [List.drop_of_length_le (by omega)]; rfl) | (rw [if_pos (by omega)]; rfl)
set_option maxRecDepth 20000 in
theorem cZig (n : Int) (h1 : -9223372036854775808 ≤ n) (h2 : n < 9223372036854775808) (w : World) : FnV Try.prog 183 [.int .i64 n] (.int .u64 (zigS n)) w := by
  refine fn_enter Try.func183 rfl Try.ntmps183 rfl ?_
  refine vc_seq ?_
  refine vc_region ?_
  refine vl_val rfl (.some rfl) (val_assign rfl) ?_
  refine vl_nil ?_
  refine vc_seq ?_
  refine vc_region ?_
  refine vl_val rfl (.some rfl) (val_move rfl) ?_
  refine vl_val rfl (.some rfl) (val_convInt Try.runUnderlying3 Try.runUnderlying23 rfl rfl) ?_
  refine vl_val rfl (.some rfl) (val_shl rfl rfl (by decide) (shl_lit 2 rfl rfl)) ?_
  refine vl_val rfl (.some rfl) (val_move rfl) ?_
  refine vl_val rfl (.some rfl) (val_shr rfl rfl (by decide) (shr_lit 9223372036854775808 rfl (by decide))) ?_
  refine vl_val rfl (.some rfl) (val_convInt Try.runUnderlying3 Try.runUnderlying23 rfl rfl) ?_
  refine vl_val rfl (.some rfl) (val_xor rfl rfl (zig_all h1 h2)) ?_
  refine vl_val rfl (.some rfl) (val_assign rfl) ?_
  refine vl_nil ?_
  refine vc_ret ?_
  refine ⟨_, [], _, res1 Try.results183 rfl, .nil, ?_⟩
  rfl
set_option maxRecDepth 20000 in
theorem rZig (n : Int) (h1 : -9223372036854775808 ≤ n) (h2 : n < 9223372036854775808) (w : World) : FnV Try.prog 125 [.int .i64 n] (.int .u64 (zigS n)) w := by
  refine fn_enter Try.func125 rfl Try.ntmps125 rfl ?_
  refine vc_seq ?_
  refine vc_region ?_
  refine vl_val rfl (.some rfl) (val_assign rfl) ?_
  refine vl_nil ?_
  refine vc_seq ?_
  refine vc_seq ?_
  refine vc_region ?_
  refine vl_val rfl (.some rfl) (val_move rfl) ?_
  refine vl_val rfl (.some rfl) (val_lt rfl rfl) ?_
  refine vl_nil ?_
  refine vc_cond rfl (fun hc0 => ?_) (fun hc0 => ?_)
  · (try replace hc0 := of_decide_eq_true hc0)
    refine vc_seq ?_
    refine vc_region ?_
    refine vl_val rfl (.some rfl) (val_move rfl) ?_
    refine vl_val rfl (.some rfl) (val_add rfl rfl (by first | exact w_i64 (by omega) (by omega) | rfl)) ?_
    refine vl_val rfl (.some rfl) (val_neg rfl (by first | exact w_i64 (by omega) (by omega) | rfl)) ?_
    refine vl_val rfl (.some rfl) (val_convInt Try.runUnderlying3 Try.runUnderlying23 rfl (by first | exact w_u64 (by omega) (by omega) | rfl)) ?_
    refine vl_val rfl (.some rfl) (val_mul rfl rfl (by first | exact w_u64 (by omega) (by omega) | rfl)) ?_
    refine vl_val rfl (.some rfl) (val_add rfl rfl (by first | exact w_u64 (by omega) (by omega) | rfl)) ?_
    refine vl_val rfl (.some rfl) (val_assign rfl) ?_
    refine vl_nil ?_
    refine vc_ret ?_
    refine ⟨_, [], _, res1 Try.results125 rfl, .nil, ?_⟩
    show _ = _; congr 1; unfold zigS; rw [if_pos hc0]; omega
  · (try replace hc0 := of_decide_eq_false hc0)
    refine vc_skip ?_
    refine vc_seq ?_
    refine vc_region ?_
    refine vl_val rfl (.some rfl) (val_move rfl) ?_
    refine vl_val rfl (.some rfl) (val_convInt Try.runUnderlying3 Try.runUnderlying23 rfl (by first | exact w_u64 (by omega) (by omega) | rfl)) ?_
    refine vl_val rfl (.some rfl) (val_mul rfl rfl (by first | exact w_u64 (by omega) (by omega) | rfl)) ?_
    refine vl_val rfl (.some rfl) (val_assign rfl) ?_
    refine vl_nil ?_
    refine vc_ret ?_
    refine ⟨_, [], _, res1 Try.results125 rfl, .nil, ?_⟩
    show _ = _; congr 1; unfold zigS; rw [if_neg hc0]; omega
set_option maxRecDepth 20000 in
theorem cZag (u : Nat) (hu : u < 18446744073709551616) (w : World) : FnV Try.prog 127 [.int .u64 u] (.int .i64 (zagS u)) w := by
  refine fn_enter Try.func127 rfl Try.ntmps127 rfl ?_
  refine vc_seq ?_
  refine vc_region ?_
  refine vl_val rfl (.some rfl) (val_assign rfl) ?_
  refine vl_nil ?_
  refine vc_seq ?_
  refine vc_region ?_
  refine vl_val rfl (.some rfl) (val_move rfl) ?_
  refine vl_val rfl (.some rfl) (val_shr rfl rfl (by decide) (shr_lit 2 rfl (by decide))) ?_
  refine vl_val rfl (.some rfl) (val_convInt Try.runUnderlying23 Try.runUnderlying3 rfl (by first | exact w_i64 (by omega) (by omega) | rfl)) ?_
  refine vl_val rfl (.some rfl) (val_move rfl) ?_
  refine vl_val rfl (.some rfl) (val_and rfl rfl (and1_u64 hu)) ?_
  refine vl_val rfl (.some rfl) (val_convInt Try.runUnderlying23 Try.runUnderlying3 rfl (by first | exact w_i64 (by omega) (by omega) | rfl)) ?_
  refine vl_val rfl (.some rfl) (val_neg rfl (by first | exact w_i64 (by omega) (by omega) | rfl)) ?_
  refine vl_val rfl (.some rfl) (val_xor rfl rfl (zag_all hu)) ?_
  refine vl_val rfl (.some rfl) (val_assign rfl) ?_
  refine vl_nil ?_
  refine vc_ret ?_
  refine ⟨_, [], _, res1 Try.results127 rfl, .nil, ?_⟩
  rfl
set_option maxRecDepth 20000 in
theorem rSame (A B : Option Addr) (c d : Nat) (a b : List UInt8) (w : World) (hr : Reads w A (bcells a)) (hr2 : Reads w B (bcells b)) : FnV Try.prog 17 [.slice A a.length c, .slice B b.length d] (.bool (decide (a = b))) w := by
  refine fn_enter Try.func17 rfl Try.ntmps17 rfl ?_
  refine vc_seq ?_
  refine vc_region ?_
  refine vl_val rfl (.some rfl) (val_assign rfl) ?_
  refine vl_nil ?_
  refine vc_seq ?_
  refine vc_region ?_
  refine vl_val rfl (.some rfl) (val_move rfl) ?_
  refine vl_val rfl (.some rfl) (val_bytesToStr Try.runUnderlying22 Try.runUnderlying5 Try.runUnderlying9 rfl (by first | exact rd_sl (by repeat constructor) | exact rd_slr (by repeat constructor) | exact rd_old (by assumption) rfl) (by first | rfl | (simp; done) | omega)) ?_
  refine vl_val rfl (.some rfl) (val_move rfl) ?_
  refine vl_val rfl (.some rfl) (val_bytesToStr Try.runUnderlying22 Try.runUnderlying5 Try.runUnderlying9 rfl (by first | exact rd_sl (by repeat constructor) | exact rd_slr (by repeat constructor) | exact rd_old (by assumption) rfl) (by first | rfl | (simp; done) | omega)) ?_
  refine vl_val rfl (.some rfl) (val_seq rfl rfl) ?_
  refine vl_val rfl (.some rfl) (val_assign rfl) ?_
  refine vl_nil ?_
  refine vc_ret ?_
  refine ⟨_, [], _, res1 Try.results17 rfl, .nil, ?_⟩
  show _ = _; rw [same_is]


end Go.Proofs.Ytclnhfdgiaamhaa.K
