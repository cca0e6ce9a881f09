/- Walks of the program's functions, printed by a program of this session; Lean checks them. -/
import Derived.Lib.Bytealg
import Derived.Test.YtdehjgpdcdjhjaaKu
import Derived.Test.YtdehjgpdcdjhjaaKv
import Derived.Test.YtdehjgpdcdjhjaaKt
import Derived.Test.YtdehjgpdcdjhjaaKr
import Derived.Test.YtdehjgpdcdjhjaaKq
import Derived.Test.YtdehjgpdcdjhjaaKn
import Derived.Test.YtdehjgpdcdjhjaaCa
import Derived.Test.YtdehjgpdcdjhjaaProg
namespace Go.Proofs.Ytdehjgpdcdjhjaa.K
open Go Go.RowKit Go.Proofs
set_option linter.unusedVariables false
set_option linter.unusedSimpArgs false

def sgnI (a b : Int) : Int := if a < b then -1 else if a > b then 1 else 0
set_option maxRecDepth 20000 in
theorem cNaN (a : Int) (w : World) : FnV Try.prog 95 [.int .i64 a] (.bool false) w := by
  refine fn_enter Try.func95 rfl Try.ntmps95 rfl ?_
  refine vc_seq ?_
  refine vc_region ?_
  refine vl_val rfl (.some rfl) (val_assign rfl) ?_
  refine vl_nil ?_
  refine vc_seq ?_
  refine vc_region ?_
  refine vl_val rfl (.some rfl) (val_move rfl) ?_
  refine vl_val rfl (.some rfl) (val_move rfl) ?_
  refine vl_val rfl (.some rfl) (val_net rfl rfl (rfl)) ?_
  refine vl_val rfl (.some rfl) (val_assign rfl) ?_
  refine vl_nil ?_
  refine vc_ret ?_
  refine ⟨_, [], _, res1 Try.results95 rfl, .nil, ?_⟩
  rfl
set_option maxRecDepth 20000 in
theorem cCompare (a b : Int) (w : World) : FnV Try.prog 81 [.int .i64 a, .int .i64 b] (.int .i64 (sgnI a b)) w := by
  refine fn_enter Try.func81 rfl Try.ntmps81 rfl ?_
  refine vc_seq ?_
  refine vc_region ?_
  refine vl_val rfl (.some rfl) (val_assign rfl) ?_
  refine vl_nil ?_
  refine vc_seq ?_
  refine vc_region ?_
  refine vl_val rfl (.some rfl) (val_move rfl) ?_
  refine vl_callV rfl rfl (.some rfl) Try.call95 rfl (fun w hw => cNaN _ w) ?_
  refine vl_val rfl (.some rfl) (val_assign rfl) ?_
  refine vl_nil ?_
  refine vc_seq ?_
  refine vc_region ?_
  refine vl_val rfl (.some rfl) (val_move rfl) ?_
  refine vl_callV rfl rfl (.some rfl) Try.call95 rfl (fun w hw => cNaN _ w) ?_
  refine vl_val rfl (.some rfl) (val_assign rfl) ?_
  refine vl_nil ?_
  refine vc_seq ?_
  refine vc_seq ?_
  refine vc_region ?_
  refine vl_val rfl (.some rfl) (val_move rfl) ?_
  refine vl_nil ?_
  refine vc_cond rfl (fun h => by cases h) (fun _ => ?_)
  refine vc_skip ?_
  refine vc_seq ?_
  refine vc_seq ?_
  refine vc_region ?_
  refine vl_val rfl (.some rfl) (val_move rfl) ?_
  refine vl_nil ?_
  refine vc_cond rfl (fun h => by cases h) (fun _ => ?_)
  refine vc_skip ?_
  refine vc_seq ?_
  refine vc_seq ?_
  refine vc_region ?_
  refine vl_val rfl (.some rfl) (val_move rfl) ?_
  refine vl_val rfl (.some rfl) (val_move rfl) ?_
  refine vl_val rfl (.some rfl) (val_lt rfl rfl) ?_
  refine vl_nil ?_
  refine vc_cond rfl (fun hc3 => ?_) (fun hc3 => ?_)
  · (try replace hc3 := of_decide_eq_true hc3)
    refine vc_seq ?_
    refine vc_region ?_
    refine vl_val rfl (.some rfl) (val_assign rfl) ?_
    refine vl_nil ?_
    refine vc_ret ?_
    refine ⟨_, [], _, res1 Try.results81 rfl, .nil, ?_⟩
    show _ = _; unfold sgnI; first | rw [if_pos (by omega)] | rw [if_neg (by omega), if_pos (by omega)] | rw [if_neg (by omega), if_neg (by omega)]
  · (try replace hc3 := of_decide_eq_false hc3)
    refine vc_skip ?_
    refine vc_seq ?_
    refine vc_seq ?_
    refine vc_region ?_
    refine vl_val rfl (.some rfl) (val_move rfl) ?_
    refine vl_val rfl (.some rfl) (val_move rfl) ?_
    refine vl_val rfl (.some rfl) (val_gt rfl rfl) ?_
    refine vl_nil ?_
    refine vc_cond rfl (fun hc4 => ?_) (fun hc4 => ?_)
    · (try replace hc4 := of_decide_eq_true hc4)
      refine vc_seq ?_
      refine vc_region ?_
      refine vl_val rfl (.some rfl) (val_assign rfl) ?_
      refine vl_nil ?_
      refine vc_ret ?_
      refine ⟨_, [], _, res1 Try.results81 rfl, .nil, ?_⟩
      show _ = _; unfold sgnI; first | rw [if_pos (by omega)] | rw [if_neg (by omega), if_pos (by omega)] | rw [if_neg (by omega), if_neg (by omega)]
    · (try replace hc4 := of_decide_eq_false hc4)
      refine vc_skip ?_
      refine vc_seq ?_
      refine vc_region ?_
      refine vl_val rfl (.some rfl) (val_assign rfl) ?_
      refine vl_nil ?_
      refine vc_ret ?_
      refine ⟨_, [], _, res1 Try.results81 rfl, .nil, ?_⟩
      show _ = _; unfold sgnI; first | rw [if_pos (by omega)] | rw [if_neg (by omega), if_pos (by omega)] | rw [if_neg (by omega), if_neg (by omega)]


set_option maxRecDepth 20000 in
theorem sT53 : SlT Try.prog 53 62 3 32 (.agg #[.int .i64 0, .int .i64 0, .string .empty]) := ⟨Try.underlying53, ⟨Try.t62, Try.type62, rfl, rfl, rfl⟩, rfl, Nat.lt_of_sub_eq_succ rfl⟩
/-! floats: bits -/
theorem frombits_run (n : Int) (w : World) : (callFunc 106 #[.int .u64 n]).run Try.prog w = .ok (.value (.float .f64 n.toNat)) w := by
  rw [run_callFunc_extern (e := Extern.MathFloatBits.float64frombits) Try.func106 (by kernel_rfl) (by kernel_rfl) (by kernel_rfl) (by kernel_rfl)]; rfl
structure Vk where
  k : Int
  n : Int
  s : ByteArray
  deriving DecidableEq
abbrev vk (p : Vk) : Value := .agg #[.int .i64 p.k, .int .i64 p.n, .string p.s]
abbrev z3 : Vk := ⟨0, 0, ⟨#[]⟩⟩
theorem fsV : (Try.prog.fieldsOf 62).toList = [⟨"Kind", 3, 0, false, "", "", 0⟩, ⟨"N", 3, 1, false, "", "", 8⟩, ⟨"S", 9, 2, false, "", "", 16⟩] := by kernel_rfl
theorem vk_chk (e : Bool) (p : Vk) (w : World) : (Instr.checkKey e 10000 62 (vk p)).run Try.prog w = .ok () w := by
  obtain ⟨k, n, s⟩ := p
  kernel_rfl
theorem vk_same (p : Vk) : Instr.sameBits 10000 (vk p) (vk p) = true := by
  simp [Instr.sameBits, beq_toListBytes]
theorem vk_equal (p q : Vk) (w : World) : (Op.equal 62 (vk p) (vk q)).run Try.prog w = .ok (decide (p = q)) w := by
  obtain ⟨k, n, s⟩ := p
  obtain ⟨k', n', s'⟩ := q
  unfold Op.equal vk
  rw [show Op.maxDepth = 9999 + 1 from rfl, run_equalIn_agg w 9999 62 _ _ (by kernel_rfl) (by kernel_rfl), fsV]
  have e3 : ∀ a b : Int, (Op.equalIn 9999 3 (.int .i64 a) (.int .i64 b)).run Try.prog w = .ok (decide (a = b)) w := fun a b => by
    rw [show (9999 : Nat) = 9998 + 1 from rfl, run_equalIn_int w 9998 3 .i64 .i64 a b Try.underlying3, int_beq]
  have e9 : ∀ a b : ByteArray, (Op.equalIn 9999 9 (.string a) (.string b)).run Try.prog w = .ok (decide (a = b)) w := fun a b => by
    rw [show (9999 : Nat) = 9998 + 1 from rfl, run_equalIn_string w 9998 9 a b Try.underlying9, bytes_beq]
  simp only [Op.eqFields, part, Sem.run_bind, Try.isAgg3, Try.isAgg9, Result.andThen_ok]
  simp [e3, e9]
  by_cases h1 : k = k' <;> by_cases h2 : n = n' <;> simp [h1, h2, e3, e9]
  by_cases h3 : s = s' <;> simp [h3]
theorem kT : KeyT Try.prog 101 62 3 vk (.int .i64 0) :=
  ⟨Try.runUnderlying101, Try.zeroValue3, vk_chk, vk_equal, ⟨_, Try.runUnderlying62, fun _ _ => rfl⟩, vk_same⟩
/-- What 'of' answers. -/
def ofV (p : Vk) : Value := if p.k = 0 then .iface 147 (.agg #[]) else if p.k = 1 then .iface 161 (.int .i64 p.n) else if p.k = 2 then .iface 162 (.int .i64 p.n) else if p.k = 3 then .iface 148 (.string p.s) else if p.k = 4 then .iface 163 (.bool (decide (p.n ≠ 0))) else .nilIface
section asks
variable {X : Cx} {E : Env} {H : List Chunk} {p : Vk}
theorem asks (T : TypeId) (j : Int) (z pl : Value) {x : Operand} {xT ty : TypeId} {d : TypeDesc} (hu : ∀ w, (underlying T).run X.P w = .ok d w) (hd : (match d with | .interface _ => false | _ => true) = true) (hz : ∀ w, (zeroValue T).run X.P w = .ok z w) (hx : E.ev x = some (ofV p))
    (h1 : p.k = j → ofV p = .iface T pl) (h2 : p.k ≠ j → ofV p = .nilIface ∨ ∃ t v, t ≠ T ∧ ofV p = .iface t v) : Val X E H (.typeAssert x xT T true) ty (.tuple #[if p.k = j then pl else z, .bool (decide (p.k = j))]) := by
  by_cases h : p.k = j
  · rw [h1 h] at hx
    have := val_isType (H := H) (xT := xT) (ty := ty) hu hd hz hx
    simpa [h] using this
  · rcases h2 h with e | ⟨t, v, ht, e⟩
    · rw [e] at hx
      have := val_isTypeNil (H := H) (xT := xT) (ty := ty) hu hz hx
      simpa [h] using this
    · rw [e] at hx
      have := val_isType (H := H) (xT := xT) (ty := ty) hu hd hz hx
      simpa [h, ht] using this
theorem other (T : TypeId) (j : Int) (hj : ∀ k : Int, k ≠ j → (k = 0 → 147 ≠ T) ∧ (k = 1 → 161 ≠ T) ∧ (k = 2 → 162 ≠ T) ∧ (k = 3 → 148 ≠ T) ∧ (k = 4 → 163 ≠ T)) (h : p.k ≠ j) : ofV p = .nilIface ∨ ∃ t v, t ≠ T ∧ ofV p = .iface t v := by
  obtain ⟨a0, a1, a2, a3, a4⟩ := hj p.k h
  unfold ofV
  split
  · exact .inr ⟨_, _, a0 (by assumption), rfl⟩
  · split
    · exact .inr ⟨_, _, a1 (by assumption), rfl⟩
    · split
      · exact .inr ⟨_, _, a2 (by assumption), rfl⟩
      · split
        · exact .inr ⟨_, _, a3 (by assumption), rfl⟩
        · split
          · exact .inr ⟨_, _, a4 (by assumption), rfl⟩
          · exact .inl rfl
end asks
def goodV (p : Vk) : Bool := if p.k = 0 then decide (p = z3) else if p.k = 1 then decide (p.s = ⟨#[]⟩) else if p.k = 2 then decide (p.s = ⟨#[]⟩) && decide (canS p.n = p.n) else if p.k = 3 then decide (p.n = 0) && decide (p.s.size ≤ 64) else if p.k = 4 then decide (p.s = ⟨#[]⟩) && (decide (p.n = 0) || decide (p.n = 1)) else false

def flat (vs : List Vk) : List Value := vs.flatMap fun p => [.int .i64 p.k, .int .i64 p.n, .string p.s]
theorem vflat_len (vs : List Vk) : (flat vs).length = vs.length * 3 := by
  induction vs with
  | nil => rfl
  | cons p vs ih => simp only [flat, List.flatMap_cons, List.length_append, List.length_cons, List.length_nil] at ih ⊢; omega
theorem flat_at : ∀ (vs : List Vk) (i : Nat), i < vs.length → ((flat vs).drop (i * 3)).take 3 = [.int .i64 (vs.getD i z3).k, .int .i64 (vs.getD i z3).n, .string (vs.getD i z3).s]
  | [], _, h => absurd h (Nat.not_lt_zero _)
  | p :: vs, 0, _ => rfl
  | p :: vs, i + 1, h => by
    have e : flat (p :: vs) = [.int .i64 p.k, .int .i64 p.n, .string p.s] ++ flat vs := rfl
    rw [e, Nat.add_mul, Nat.add_comm, Nat.one_mul, ← List.drop_drop]
    exact flat_at vs i (by simpa using h)
theorem flat_push (vs : List Vk) (p : Vk) : flat vs ++ [.int .i64 p.k, .int .i64 p.n, .string p.s] = flat (vs ++ [p]) := by simp [flat]
abbrev DC (r m : Nat) (kd : Int) (A : Option Addr) (n c : Nat) : Chunk := cells r [.int .i64 kd, .map (some m), .slice A n c] 103
abbrev DM (m : Nat) (vs : List Vk) : Chunk := mp vk m vs (ids 0 vs.length)
abbrev DS (A : Option Addr) (c : Nat) (vs : List Vk) : Chunk := sl A vs.length c 62 3 (flat vs)
abbrev DH (r m : Nat) (kd : Int) (A : Option Addr) (c : Nat) (vs : List Vk) : List Chunk := [DC r m kd A vs.length c, DM m vs, DS A c vs]
def takesB (kd : Int) (p : Vk) : Bool := decide (p.k = kd) && goodV p
def dadd (kd : Int) (vs : List Vk) (p : Vk) : (Int × Int) × List Vk := if takesB kd p = false then ((0, 12), vs) else if p ∈ vs then ((((vs.idxOf p : Nat) : Int), 0), vs) else if 512 ≤ vs.length then ((0, 7), vs) else ((vs.length, 0), vs ++ [p])
def WV (p : Vk) : Prop := -9223372036854775808 ≤ p.n ∧ p.n < 9223372036854775808
def cB (a b : ByteArray) : Int := Lib.compareBytes a.data.toList b.data.toList
theorem cmpstring_run (a b : ByteArray) (w : World) : (callFunc 107 #[.string a, .string b]).run Try.prog w = .ok (.value (.int .i64 (cB a b))) w := by
  rw [run_callFunc_extern (e := Extern.BytealgCompare.compare) Try.func107 (by kernel_rfl) (by kernel_rfl) (by kernel_rfl) (by kernel_rfl), Lib.run_compareString]
  rfl
def cmpV (p q : Vk) : Int := if p.k ≠ q.k then sgnI p.k q.k else if p.k = 0 then 0 else if p.k = 2 then cmpS (ub p.n) (ub q.n) else if p.k = 3 then cB p.s q.s else sgnI p.n q.n
theorem sgn_zero (a b : Int) : sgnI a b = 0 ↔ a = b := by unfold sgnI; split; omega; split <;> omega

set_option maxRecDepth 20000 in
theorem ofloat (n : Int) (w : World) : FnV Try.prog 96 [.int .i64 n] (.float .f64 (ub n)) w := by
  refine fn_enter Try.func96 rfl Try.ntmps96 rfl ?_
  refine vc_seq ?_
  refine vc_region ?_
  refine vl_val rfl (.some rfl) (val_assign rfl) ?_
  refine vl_nil ?_
  refine vc_seq ?_
  refine vc_region ?_
  refine vl_val rfl (.some rfl) (val_move rfl) ?_
  refine vl_val rfl (.some rfl) (val_convInt Try.runUnderlying3 Try.runUnderlying107 rfl (by first | exact w_u64 (by omega) (by omega) | rfl)) ?_
  refine vl_ext rfl rfl (.some rfl) rfl (frombits_run _) ?_
  refine vl_val rfl (.some rfl) (val_assign rfl) ?_
  refine vl_nil ?_
  refine vc_ret ?_
  refine ⟨_, [], _, res1 Try.results96 rfl, .nil, ?_⟩
  rfl
set_option maxRecDepth 20000 in
theorem oCanon (n : Int) (w : World) : FnV Try.prog 105 [.int .i64 n] (.int .i64 (canS n)) w := by
  refine fn_enter Try.func105 rfl Try.ntmps105 rfl ?_
  refine vc_seq ?_
  refine vc_region ?_
  refine vl_val rfl (.some rfl) (val_assign rfl) ?_
  refine vl_nil ?_
  refine vc_seq ?_
  refine vc_seq ?_
  refine vc_region ?_
  refine vl_val rfl (.some rfl) (val_move rfl) ?_
  refine vl_callV rfl rfl (.some rfl) Try.call96 rfl (fun w hw => ofloat _ w) ?_
  refine vl_val rfl (.some rfl) (val_assign rfl) ?_
  refine vl_nil ?_
  refine vc_block ?_
  refine vc_seq ?_
  refine vc_region ?_
  refine vl_val rfl (.some rfl) (val_move rfl) ?_
  refine vl_val rfl (.some rfl) (val_move rfl) ?_
  refine vl_val rfl (.some rfl) (val_fne rfl rfl) ?_
  refine vl_val rfl (.some rfl) (val_assign rfl) ?_
  refine vl_nil ?_
  refine vc_cond rfl (fun hc0 => ?_) (fun hc0 => ?_)
  · (try replace hc0 := of_decide_eq_true hc0)
    rw [self_is] at hc0; replace hc0 := of_decide_eq_true hc0
    refine vc_seq ?_
    refine vc_region ?_
    refine vl_val rfl (.some rfl) (val_assign rfl) ?_
    refine vl_nil ?_
    refine vc_ret ?_
    refine ⟨_, [], _, res1 Try.results105 rfl, .nil, ?_⟩
    show _ = _; simp [canS, hc0]
  · (try replace hc0 := of_decide_eq_false hc0)
    rw [self_is] at hc0; replace hc0 := of_decide_eq_false hc0
    refine vc_seq ?_
    refine vc_region ?_
    refine vl_val rfl (.some rfl) (val_move rfl) ?_
    refine vl_val rfl (.some rfl) (val_feq rfl rfl) ?_
    refine vl_val rfl (.some rfl) (val_assign rfl) ?_
    refine vl_nil ?_
    refine vc_cond rfl (fun hc1 => ?_) (fun hc1 => ?_)
    · (try replace hc1 := of_decide_eq_true hc1)
      rw [eq_is] at hc1; replace hc1 := of_decide_eq_true hc1
      refine vc_seq ?_
      refine vc_region ?_
      refine vl_val rfl (.some rfl) (val_assign rfl) ?_
      refine vl_nil ?_
      refine vc_ret ?_
      refine ⟨_, [], _, res1 Try.results105 rfl, .nil, ?_⟩
      show _ = _; have h0 : rg (ub n) = 0 := sv_zero.1 (hc1.2.2.trans sv0)
      simp [canS, hc0, h0]
    · (try replace hc1 := of_decide_eq_false hc1)
      rw [eq_is] at hc1; replace hc1 := of_decide_eq_false hc1
      refine vc_skip ?_
      refine vc_seq ?_
      refine vc_region ?_
      refine vl_val rfl (.some rfl) (val_move rfl) ?_
      refine vl_val rfl (.some rfl) (val_assign rfl) ?_
      refine vl_nil ?_
      refine vc_ret ?_
      refine ⟨_, [], _, res1 Try.results105 rfl, .nil, ?_⟩
      show _ = _; have h0 : ¬ rg (ub n) = 0 := fun e => hc1 ⟨hc0, isN0, (sv_zero.2 e).trans sv0.symm⟩
      simp [canS, hc0, h0]
set_option maxRecDepth 20000 in
theorem oGood (n : Int) (w : World) : FnV Try.prog 94 [.int .i64 n] (.bool (decide (canS n = n))) w := by
  refine fn_enter Try.func94 rfl Try.ntmps94 rfl ?_
  refine vc_seq ?_
  refine vc_region ?_
  refine vl_val rfl (.some rfl) (val_assign rfl) ?_
  refine vl_nil ?_
  refine vc_seq ?_
  refine vc_region ?_
  refine vl_val rfl (.some rfl) (val_move rfl) ?_
  refine vl_callV rfl rfl (.some rfl) Try.call105 rfl (fun w hw => oCanon _ w) ?_
  refine vl_val rfl (.some rfl) (val_move rfl) ?_
  refine vl_val rfl (.some rfl) (val_eq rfl rfl) ?_
  refine vl_val rfl (.some rfl) (val_assign rfl) ?_
  refine vl_nil ?_
  refine vc_ret ?_
  refine ⟨_, [], _, res1 Try.results94 rfl, .nil, ?_⟩
  rfl
set_option maxRecDepth 20000 in
theorem oCmp (a b : Int) (w : World) : FnV Try.prog 82 [.int .i64 a, .int .i64 b] (.int .i64 (cmpS (ub a) (ub b))) w := by
  refine fn_enter Try.func82 rfl Try.ntmps82 rfl ?_
  refine vc_seq ?_
  refine vc_region ?_
  refine vl_val rfl (.some rfl) (val_assign rfl) ?_
  refine vl_nil ?_
  refine vc_seq ?_
  refine vc_region ?_
  refine vl_val rfl (.some rfl) (val_move rfl) ?_
  refine vl_callV rfl rfl (.some rfl) Try.call96 rfl (fun w hw => ofloat _ w) ?_
  refine vl_val rfl (.some rfl) (val_move rfl) ?_
  refine vl_callV rfl rfl (.some rfl) Try.call96 rfl (fun w hw => ofloat _ w) ?_
  refine vl_val rfl (.some rfl) (val_assign rfl) ?_
  refine vl_val rfl (.some rfl) (val_assign rfl) ?_
  refine vl_nil ?_
  refine vc_seq ?_
  refine vc_block ?_
  refine vc_seq ?_
  refine vc_region ?_
  refine vl_val rfl (.some rfl) (val_move rfl) ?_
  refine vl_val rfl (.some rfl) (val_move rfl) ?_
  refine vl_val rfl (.some rfl) (val_flt rfl rfl) ?_
  refine vl_val rfl (.some rfl) (val_assign rfl) ?_
  refine vl_nil ?_
  refine vc_cond rfl (fun hc0 => ?_) (fun hc0 => ?_)
  · (try replace hc0 := of_decide_eq_true hc0)
    rw [lt_is] at hc0; replace hc0 := of_decide_eq_true hc0
    refine vc_seq ?_
    refine vc_region ?_
    refine vl_val rfl (.some rfl) (val_assign rfl) ?_
    refine vl_nil ?_
    refine vc_ret ?_
    refine ⟨_, [], _, res1 Try.results82 rfl, .nil, ?_⟩
    show _ = _; congr 1; unfold cmpS; (try (rw [self_is] at hc3)); by_cases ha : isN (ub a) <;> by_cases hb : isN (ub b) <;> simp_all <;> omega
  · (try replace hc0 := of_decide_eq_false hc0)
    rw [lt_is] at hc0; replace hc0 := of_decide_eq_false hc0
    refine vc_seq ?_
    refine vc_region ?_
    refine vl_val rfl (.some rfl) (val_move rfl) ?_
    refine vl_val rfl (.some rfl) (val_move rfl) ?_
    refine vl_val rfl (.some rfl) (val_fgt rfl rfl) ?_
    refine vl_val rfl (.some rfl) (val_assign rfl) ?_
    refine vl_nil ?_
    refine vc_cond rfl (fun hc1 => ?_) (fun hc1 => ?_)
    · (try replace hc1 := of_decide_eq_true hc1)
      rw [gt_is] at hc1; replace hc1 := of_decide_eq_true hc1
      refine vc_seq ?_
      refine vc_region ?_
      refine vl_val rfl (.some rfl) (val_assign rfl) ?_
      refine vl_nil ?_
      refine vc_ret ?_
      refine ⟨_, [], _, res1 Try.results82 rfl, .nil, ?_⟩
      show _ = _; congr 1; unfold cmpS; (try (rw [self_is] at hc3)); by_cases ha : isN (ub a) <;> by_cases hb : isN (ub b) <;> simp_all <;> omega
    · (try replace hc1 := of_decide_eq_false hc1)
      rw [gt_is] at hc1; replace hc1 := of_decide_eq_false hc1
      refine vc_seq ?_
      refine vc_region ?_
      refine vl_val rfl (.some rfl) (val_move rfl) ?_
      refine vl_val rfl (.some rfl) (val_move rfl) ?_
      refine vl_val rfl (.some rfl) (val_feq rfl rfl) ?_
      refine vl_val rfl (.some rfl) (val_assign rfl) ?_
      refine vl_nil ?_
      refine vc_cond rfl (fun hc2 => ?_) (fun hc2 => ?_)
      · (try replace hc2 := of_decide_eq_true hc2)
        rw [eq_is] at hc2; replace hc2 := of_decide_eq_true hc2
        refine vc_seq ?_
        refine vc_region ?_
        refine vl_val rfl (.some rfl) (val_assign rfl) ?_
        refine vl_nil ?_
        refine vc_ret ?_
        refine ⟨_, [], _, res1 Try.results82 rfl, .nil, ?_⟩
        show _ = _; congr 1; unfold cmpS; (try (rw [self_is] at hc3)); by_cases ha : isN (ub a) <;> by_cases hb : isN (ub b) <;> simp_all <;> omega
      · (try replace hc2 := of_decide_eq_false hc2)
        rw [eq_is] at hc2; replace hc2 := of_decide_eq_false hc2
        refine vc_seq ?_
        refine vc_region ?_
        refine vl_val rfl (.some rfl) (val_move rfl) ?_
        refine vl_val rfl (.some rfl) (val_move rfl) ?_
        refine vl_val rfl (.some rfl) (val_fne rfl rfl) ?_
        refine vl_val rfl (.some rfl) (val_move rfl) ?_
        refine vl_split (t := 27) rfl (fun hg27 => ?_) (fun hg27 => ?_)
        · (try replace hg27 := of_decide_eq_true hg27)
          rw [self_is] at hg27; replace hg27 := of_decide_eq_true hg27
          refine vl_on rfl rfl rfl rfl ?_
          refine vl_val rfl (.some rfl) (val_move rfl) ?_
          refine vl_on rfl rfl rfl rfl ?_
          refine vl_val rfl (.some rfl) (val_move rfl) ?_
          refine vl_on rfl rfl rfl rfl ?_
          refine vl_val rfl (.some rfl) (val_fne rfl rfl) ?_
          refine vl_val rfl (.some rfl) (val_pick rfl rfl) ?_
          refine vl_val rfl (.some rfl) (val_assign rfl) ?_
          refine vl_nil ?_
          refine vc_cond rfl (fun hc3 => ?_) (fun hc3 => ?_)
          · (try replace hc3 := of_decide_eq_true hc3)
            refine vc_seq ?_
            refine vc_region ?_
            refine vl_val rfl (.some rfl) (val_assign rfl) ?_
            refine vl_nil ?_
            refine vc_ret ?_
            refine ⟨_, [], _, res1 Try.results82 rfl, .nil, ?_⟩
            show _ = _; congr 1; unfold cmpS; (try (rw [self_is] at hc3)); by_cases ha : isN (ub a) <;> by_cases hb : isN (ub b) <;> simp_all <;> omega
          · (try replace hc3 := of_decide_eq_false hc3)
            refine vc_seq ?_
            refine vc_region ?_
            refine vl_val rfl (.some rfl) (val_move rfl) ?_
            refine vl_val rfl (.some rfl) (val_move rfl) ?_
            refine vl_val rfl (.some rfl) (val_fne rfl rfl) ?_
            refine vl_val rfl (.some rfl) (val_assign rfl) ?_
            refine vl_nil ?_
            refine vc_cond rfl (fun hc4 => ?_) (fun hc4 => ?_)
            · (try replace hc4 := of_decide_eq_true hc4)
              rw [self_is] at hc4; replace hc4 := of_decide_eq_true hc4
              refine vc_seq ?_
              refine vc_region ?_
              refine vl_val rfl (.some rfl) (val_assign rfl) ?_
              refine vl_nil ?_
              refine vc_ret ?_
              refine ⟨_, [], _, res1 Try.results82 rfl, .nil, ?_⟩
              show _ = _; congr 1; unfold cmpS; (try (rw [self_is] at hc3)); by_cases ha : isN (ub a) <;> by_cases hb : isN (ub b) <;> simp_all <;> omega
            · (try replace hc4 := of_decide_eq_false hc4)
              rw [self_is] at hc4; replace hc4 := of_decide_eq_false hc4
              refine vc_skip ?_
              refine vc_seq ?_
              refine vc_region ?_
              refine vl_val rfl (.some rfl) (val_assign rfl) ?_
              refine vl_nil ?_
              refine vc_ret ?_
              refine ⟨_, [], _, res1 Try.results82 rfl, .nil, ?_⟩
              show _ = _; congr 1; unfold cmpS; (try (rw [self_is] at hc3)); by_cases ha : isN (ub a) <;> by_cases hb : isN (ub b) <;> simp_all <;> omega
        · (try replace hg27 := of_decide_eq_false hg27)
          rw [self_is] at hg27; replace hg27 := of_decide_eq_false hg27
          refine vl_off rfl rfl rfl rfl (.some rfl) ?_
          refine vl_off rfl rfl rfl rfl (.some rfl) ?_
          refine vl_off rfl rfl rfl rfl (.some rfl) ?_
          refine vl_val rfl (.some rfl) (val_pick rfl rfl) ?_
          refine vl_val rfl (.some rfl) (val_assign rfl) ?_
          refine vl_nil ?_
          refine vc_cond rfl (fun h => by cases h) (fun _ => ?_)
          refine vc_seq ?_
          refine vc_region ?_
          refine vl_val rfl (.some rfl) (val_move rfl) ?_
          refine vl_val rfl (.some rfl) (val_move rfl) ?_
          refine vl_val rfl (.some rfl) (val_fne rfl rfl) ?_
          refine vl_val rfl (.some rfl) (val_assign rfl) ?_
          refine vl_nil ?_
          refine vc_cond rfl (fun hc4 => ?_) (fun hc4 => ?_)
          · (try replace hc4 := of_decide_eq_true hc4)
            rw [self_is] at hc4; replace hc4 := of_decide_eq_true hc4
            refine vc_seq ?_
            refine vc_region ?_
            refine vl_val rfl (.some rfl) (val_assign rfl) ?_
            refine vl_nil ?_
            refine vc_ret ?_
            refine ⟨_, [], _, res1 Try.results82 rfl, .nil, ?_⟩
            show _ = _; congr 1; unfold cmpS; (try (rw [self_is] at hc3)); by_cases ha : isN (ub a) <;> by_cases hb : isN (ub b) <;> simp_all <;> omega
          · (try replace hc4 := of_decide_eq_false hc4)
            rw [self_is] at hc4; replace hc4 := of_decide_eq_false hc4
            refine vc_skip ?_
            refine vc_seq ?_
            refine vc_region ?_
            refine vl_val rfl (.some rfl) (val_assign rfl) ?_
            refine vl_nil ?_
            refine vc_ret ?_
            refine ⟨_, [], _, res1 Try.results82 rfl, .nil, ?_⟩
            show _ = _; congr 1; unfold cmpS; (try (rw [self_is] at hc3)); by_cases ha : isN (ub a) <;> by_cases hb : isN (ub b) <;> simp_all <;> omega
set_option maxRecDepth 20000 in
theorem vOf (p : Vk) (w : World) : FnV Try.prog 77 [vk p] (ofV p) w := by
  refine fn_enter Try.func77 rfl Try.ntmps77 rfl ?_
  refine vc_seq ?_
  refine vc_region ?_
  refine vl_box rfl rfl (.some rfl) rfl (fun r1 => ?_)
  refine vl_val rfl (.some rfl) (val_assign rfl) ?_
  refine vl_nil ?_
  refine vc_seq ?_
  refine vc_seq ?_
  refine vc_region ?_
  refine vl_val rfl (.some rfl) (by first | exact val_fieldAddr Try.runUnderlying62 rfl Try.sizeOf3 rfl | exact val_fieldAddrR Try.runUnderlying62 rfl Try.sizeOf3 rfl) ?_
  refine vl_val rfl (.some rfl) (val_load Try.isAgg3 rfl (by first | exact cell_cells (by repeat constructor) rfl | exact cell_rd (by first | exact rd_sl (by repeat constructor) | exact rd_old (by assumption) rfl) (by first | exact bcells_at (by omega) | exact ucells_at (by omega) | exact icells_at (by omega) | exact tcells_at (by omega) | exact bcells_get (by omega) | exact icells_get (by omega) | exact tcells_get (by omega) | exact ucells_get (by omega)) | exact cell_old (by assumption) (by simp [fps]))) ?_
  refine vl_nil ?_
  refine vc_block ?_
  refine vc_seq ?_
  refine vc_region ?_
  refine vl_val rfl (.some rfl) (val_eq rfl rfl) ?_
  refine vl_val rfl (.some rfl) (val_assign rfl) ?_
  refine vl_nil ?_
  refine vc_cond rfl (fun hc0 => ?_) (fun hc0 => ?_)
  · (try replace hc0 := of_decide_eq_true hc0)
    refine vc_seq ?_
    refine vc_region ?_
    refine vl_val rfl (.some rfl) (val_buildSt (pl := #[]) (cs := #[]) Try.runUnderlying147 Try.zeroValue147 (fun w => by kernel_rfl) rfl rfl) ?_
    refine vl_val rfl (.some rfl) (val_mkIface Try.runUnderlying147 rfl rfl) ?_
    refine vl_val rfl (.some rfl) (val_assign rfl) ?_
    refine vl_nil ?_
    refine vc_ret ?_
    refine ⟨_, [], _, res1 Try.results77 rfl, .nil, ?_⟩
    show _ = _; unfold ofV; rw [if_pos hc0]
  · (try replace hc0 := of_decide_eq_false hc0)
    refine vc_seq ?_
    refine vc_region ?_
    refine vl_val rfl (.some rfl) (val_eq rfl rfl) ?_
    refine vl_val rfl (.some rfl) (val_assign rfl) ?_
    refine vl_nil ?_
    refine vc_cond rfl (fun hc1 => ?_) (fun hc1 => ?_)
    · (try replace hc1 := of_decide_eq_true hc1)
      refine vc_seq ?_
      refine vc_region ?_
      refine vl_val rfl (.some rfl) (by first | exact val_fieldAddr Try.runUnderlying62 rfl Try.sizeOf3 rfl | exact val_fieldAddrR Try.runUnderlying62 rfl Try.sizeOf3 rfl) ?_
      refine vl_val rfl (.some rfl) (val_load Try.isAgg3 rfl (by first | exact cell_cells (by repeat constructor) rfl | exact cell_rd (by first | exact rd_sl (by repeat constructor) | exact rd_old (by assumption) rfl) (by first | exact bcells_at (by omega) | exact ucells_at (by omega) | exact icells_at (by omega) | exact tcells_at (by omega) | exact bcells_get (by omega) | exact icells_get (by omega) | exact tcells_get (by omega) | exact ucells_get (by omega)) | exact cell_old (by assumption) (by simp [fps]))) ?_
      refine vl_val rfl (.some rfl) (val_mkIface Try.runUnderlying161 rfl rfl) ?_
      refine vl_val rfl (.some rfl) (val_assign rfl) ?_
      refine vl_nil ?_
      refine vc_ret ?_
      refine ⟨_, [], _, res1 Try.results77 rfl, .nil, ?_⟩
      show _ = _; unfold ofV; rw [if_neg hc0, if_pos hc1]
    · (try replace hc1 := of_decide_eq_false hc1)
      refine vc_seq ?_
      refine vc_region ?_
      refine vl_val rfl (.some rfl) (val_eq rfl rfl) ?_
      refine vl_val rfl (.some rfl) (val_assign rfl) ?_
      refine vl_nil ?_
      refine vc_cond rfl (fun hc2 => ?_) (fun hc2 => ?_)
      · (try replace hc2 := of_decide_eq_true hc2)
        refine vc_seq ?_
        refine vc_region ?_
        refine vl_val rfl (.some rfl) (by first | exact val_fieldAddr Try.runUnderlying62 rfl Try.sizeOf3 rfl | exact val_fieldAddrR Try.runUnderlying62 rfl Try.sizeOf3 rfl) ?_
        refine vl_val rfl (.some rfl) (val_load Try.isAgg3 rfl (by first | exact cell_cells (by repeat constructor) rfl | exact cell_rd (by first | exact rd_sl (by repeat constructor) | exact rd_old (by assumption) rfl) (by first | exact bcells_at (by omega) | exact ucells_at (by omega) | exact icells_at (by omega) | exact tcells_at (by omega) | exact bcells_get (by omega) | exact icells_get (by omega) | exact tcells_get (by omega) | exact ucells_get (by omega)) | exact cell_old (by assumption) (by simp [fps]))) ?_
        refine vl_val rfl (.some rfl) (val_mkIface Try.runUnderlying162 rfl rfl) ?_
        refine vl_val rfl (.some rfl) (val_assign rfl) ?_
        refine vl_nil ?_
        refine vc_ret ?_
        refine ⟨_, [], _, res1 Try.results77 rfl, .nil, ?_⟩
        show _ = _; unfold ofV; rw [if_neg hc0, if_neg hc1, if_pos hc2]
      · (try replace hc2 := of_decide_eq_false hc2)
        refine vc_seq ?_
        refine vc_region ?_
        refine vl_val rfl (.some rfl) (val_eq rfl rfl) ?_
        refine vl_val rfl (.some rfl) (val_assign rfl) ?_
        refine vl_nil ?_
        refine vc_cond rfl (fun hc3 => ?_) (fun hc3 => ?_)
        · (try replace hc3 := of_decide_eq_true hc3)
          refine vc_seq ?_
          refine vc_region ?_
          refine vl_val rfl (.some rfl) (by first | exact val_fieldAddr Try.runUnderlying62 rfl Try.sizeOf9 rfl | exact val_fieldAddrR Try.runUnderlying62 rfl Try.sizeOf9 rfl) ?_
          refine vl_val rfl (.some rfl) (val_load Try.isAgg9 rfl (by first | exact cell_cells (by repeat constructor) rfl | exact cell_rd (by first | exact rd_sl (by repeat constructor) | exact rd_old (by assumption) rfl) (by first | exact bcells_at (by omega) | exact ucells_at (by omega) | exact icells_at (by omega) | exact tcells_at (by omega) | exact bcells_get (by omega) | exact icells_get (by omega) | exact tcells_get (by omega) | exact ucells_get (by omega)) | exact cell_old (by assumption) (by simp [fps]))) ?_
          refine vl_val rfl (.some rfl) (val_mkIface Try.runUnderlying148 rfl rfl) ?_
          refine vl_val rfl (.some rfl) (val_assign rfl) ?_
          refine vl_nil ?_
          refine vc_ret ?_
          refine ⟨_, [], _, res1 Try.results77 rfl, .nil, ?_⟩
          show _ = _; unfold ofV; rw [if_neg hc0, if_neg hc1, if_neg hc2, if_pos hc3]
        · (try replace hc3 := of_decide_eq_false hc3)
          refine vc_seq ?_
          refine vc_region ?_
          refine vl_val rfl (.some rfl) (val_eq rfl rfl) ?_
          refine vl_val rfl (.some rfl) (val_assign rfl) ?_
          refine vl_nil ?_
          refine vc_cond rfl (fun hc4 => ?_) (fun hc4 => ?_)
          · (try replace hc4 := of_decide_eq_true hc4)
            refine vc_seq ?_
            refine vc_region ?_
            refine vl_val rfl (.some rfl) (by first | exact val_fieldAddr Try.runUnderlying62 rfl Try.sizeOf3 rfl | exact val_fieldAddrR Try.runUnderlying62 rfl Try.sizeOf3 rfl) ?_
            refine vl_val rfl (.some rfl) (val_load Try.isAgg3 rfl (by first | exact cell_cells (by repeat constructor) rfl | exact cell_rd (by first | exact rd_sl (by repeat constructor) | exact rd_old (by assumption) rfl) (by first | exact bcells_at (by omega) | exact ucells_at (by omega) | exact icells_at (by omega) | exact tcells_at (by omega) | exact bcells_get (by omega) | exact icells_get (by omega) | exact tcells_get (by omega) | exact ucells_get (by omega)) | exact cell_old (by assumption) (by simp [fps]))) ?_
            refine vl_val rfl (.some rfl) (val_ne rfl rfl) ?_
            refine vl_val rfl (.some rfl) (val_mkIface Try.runUnderlying163 rfl rfl) ?_
            refine vl_val rfl (.some rfl) (val_assign rfl) ?_
            refine vl_nil ?_
            refine vc_ret ?_
            refine ⟨_, [], _, res1 Try.results77 rfl, .nil, ?_⟩
            show _ = _; unfold ofV; rw [if_neg hc0, if_neg hc1, if_neg hc2, if_neg hc3, if_pos hc4]
          · (try replace hc4 := of_decide_eq_false hc4)
            refine vc_skip ?_
            refine vc_seq ?_
            refine vc_region ?_
            refine vl_val rfl (.some rfl) (val_assign rfl) ?_
            refine vl_nil ?_
            refine vc_ret ?_
            refine ⟨_, [], _, res1 Try.results77 rfl, .nil, ?_⟩
            show _ = _; unfold ofV; rw [if_neg hc0, if_neg hc1, if_neg hc2, if_neg hc3, if_neg hc4]
set_option maxRecDepth 20000 in
theorem vGood (p : Vk) (w : World) : FnV Try.prog 76 [vk p] (.bool (goodV p)) w := by
  refine fn_enter Try.func76 rfl Try.ntmps76 rfl ?_
  refine vc_seq ?_
  refine vc_region ?_
  refine vl_box rfl rfl (.some rfl) rfl (fun r1 => ?_)
  refine vl_val rfl (.some rfl) (val_assign rfl) ?_
  refine vl_nil ?_
  refine vc_seq ?_
  refine vc_seq ?_
  refine vc_region ?_
  refine vl_val rfl (.some rfl) (val_loadAgg Try.isAgg62 Try.sizeOf62 rfl (by first | exact cells_whole (by repeat constructor) | exact cells_part (by repeat constructor) rfl) rfl) ?_
  refine vl_callV rfl rfl (.some rfl) Try.call77 rfl (fun w hw => vOf _ w) ?_
  refine vl_nil ?_
  refine vc_block ?_
  refine vc_seq ?_
  refine vc_region ?_
  refine vl_val rfl (.some rfl) (asks 147 0 (.agg #[]) (.agg #[]) Try.runUnderlying147 rfl Try.zeroValue147 rfl (fun h => by unfold ofV; rw [h]; simp) (other _ _ (fun k hk => ⟨fun h => by first | decide | omega, fun h => by first | decide | omega, fun h => by first | decide | omega, fun h => by first | decide | omega, fun h => by first | decide | omega⟩))) ?_
  refine vl_val rfl (.some rfl) (val_extract rfl rfl) ?_
  refine vl_val rfl (.some rfl) (val_extract rfl rfl) ?_
  refine vl_nil ?_
  refine vc_cond rfl (fun hc0 => ?_) (fun hc0 => ?_)
  · (try replace hc0 := of_decide_eq_true hc0)
    rw [if_pos hc0]
    refine vc_seq ?_
    refine vc_region ?_
    refine vl_alloc rfl rfl (.some rfl) Try.zeroValue147 (fun r3 => ?_)
    first | refine vl_store rfl rfl .none rfl rfl Try.sizeOf147 rfl (by repeat constructor) (by first | decide | exact Nat.le_refl _ | exact Nat.le_of_ble_eq_true rfl | (simp; omega)) ?_ | refine vl_storeSl rfl rfl .none rfl rfl Try.sizeOf147 rfl (by simp [Value.cells]) (by repeat constructor) (by first | decide | (simp [Value.cells]; omega)) ?_
    refine vl_nil ?_
    refine vc_seq ?_
    refine vc_region ?_
    refine vl_val rfl (.some rfl) (val_loadAgg Try.isAgg62 Try.sizeOf62 rfl (by first | exact cells_whole (by repeat constructor) | exact cells_part (by repeat constructor) rfl) rfl) ?_
    refine vl_val rfl (.some rfl) (val_buildSt (pl := #[(0, 1), (1, 1), (2, 1)]) (cs := #[.int .i64 0, .int .i64 0, .string ⟨#[]⟩]) Try.runUnderlying62 Try.zeroValue62 (fun w => by kernel_rfl) rfl rfl) ?_
    refine vl_val rfl (.some rfl) (val_opO rfl rfl (fun w => run_eqGuard_agg w _ _ _ _ _ _ (by kernel_rfl)) (bin_agg_eq (vk_equal p z3))) ?_
    refine vl_val rfl (.some rfl) (val_assign rfl) ?_
    refine vl_nil ?_
    refine vc_ret ?_
    refine ⟨_, [], _, res1 Try.results76 rfl, .nil, ?_⟩
    show _ = _; unfold goodV; rw [if_pos hc0]
  · (try replace hc0 := of_decide_eq_false hc0)
    refine vc_seq ?_
    refine vc_region ?_
    refine vl_val rfl (.some rfl) (asks 161 1 (.int .i64 0) (.int .i64 p.n) Try.runUnderlying161 rfl Try.zeroValue161 rfl (fun h => by unfold ofV; rw [h]; simp) (other _ _ (fun k hk => ⟨fun h => by first | decide | omega, fun h => by first | decide | omega, fun h => by first | decide | omega, fun h => by first | decide | omega, fun h => by first | decide | omega⟩))) ?_
    refine vl_val rfl (.some rfl) (val_extract rfl rfl) ?_
    refine vl_val rfl (.some rfl) (val_extract rfl rfl) ?_
    refine vl_nil ?_
    refine vc_cond rfl (fun hc1 => ?_) (fun hc1 => ?_)
    · (try replace hc1 := of_decide_eq_true hc1)
      refine vc_seq ?_
      refine vc_region ?_
      refine vl_val rfl (.some rfl) (val_assign rfl) ?_
      refine vl_nil ?_
      refine vc_seq ?_
      refine vc_region ?_
      refine vl_val rfl (.some rfl) (by first | exact val_fieldAddr Try.runUnderlying62 rfl Try.sizeOf9 rfl | exact val_fieldAddrR Try.runUnderlying62 rfl Try.sizeOf9 rfl) ?_
      refine vl_val rfl (.some rfl) (val_load Try.isAgg9 rfl (by first | exact cell_cells (by repeat constructor) rfl | exact cell_rd (by first | exact rd_sl (by repeat constructor) | exact rd_old (by assumption) rfl) (by first | exact bcells_at (by omega) | exact ucells_at (by omega) | exact icells_at (by omega) | exact tcells_at (by omega) | exact bcells_get (by omega) | exact icells_get (by omega) | exact tcells_get (by omega) | exact ucells_get (by omega)) | exact cell_old (by assumption) (by simp [fps]))) ?_
      refine vl_val rfl (.some rfl) (val_seq rfl rfl) ?_
      refine vl_val rfl (.some rfl) (val_assign rfl) ?_
      refine vl_nil ?_
      refine vc_ret ?_
      refine ⟨_, [], _, res1 Try.results76 rfl, .nil, ?_⟩
      show _ = _; unfold goodV; rw [if_neg hc0, if_pos hc1]
    · (try replace hc1 := of_decide_eq_false hc1)
      refine vc_seq ?_
      refine vc_region ?_
      refine vl_val rfl (.some rfl) (asks 162 2 (.int .i64 0) (.int .i64 p.n) Try.runUnderlying162 rfl Try.zeroValue162 rfl (fun h => by unfold ofV; rw [h]; simp) (other _ _ (fun k hk => ⟨fun h => by first | decide | omega, fun h => by first | decide | omega, fun h => by first | decide | omega, fun h => by first | decide | omega, fun h => by first | decide | omega⟩))) ?_
      refine vl_val rfl (.some rfl) (val_extract rfl rfl) ?_
      refine vl_val rfl (.some rfl) (val_extract rfl rfl) ?_
      refine vl_nil ?_
      refine vc_cond rfl (fun hc2 => ?_) (fun hc2 => ?_)
      · (try replace hc2 := of_decide_eq_true hc2)
        refine vc_seq ?_
        refine vc_region ?_
        refine vl_val rfl (.some rfl) (val_assign rfl) ?_
        refine vl_nil ?_
        refine vc_seq ?_
        refine vc_region ?_
        refine vl_val rfl (.some rfl) (by first | exact val_fieldAddr Try.runUnderlying62 rfl Try.sizeOf9 rfl | exact val_fieldAddrR Try.runUnderlying62 rfl Try.sizeOf9 rfl) ?_
        refine vl_val rfl (.some rfl) (val_load Try.isAgg9 rfl (by first | exact cell_cells (by repeat constructor) rfl | exact cell_rd (by first | exact rd_sl (by repeat constructor) | exact rd_old (by assumption) rfl) (by first | exact bcells_at (by omega) | exact ucells_at (by omega) | exact icells_at (by omega) | exact tcells_at (by omega) | exact bcells_get (by omega) | exact icells_get (by omega) | exact tcells_get (by omega) | exact ucells_get (by omega)) | exact cell_old (by assumption) (by simp [fps]))) ?_
        refine vl_val rfl (.some rfl) (val_seq rfl rfl) ?_
        refine vl_val rfl (.some rfl) (val_move rfl) ?_
        refine vl_split (t := 28) rfl (fun hg28 => ?_) (fun hg28 => ?_)
        · (try replace hg28 := of_decide_eq_true hg28)
          refine vl_on rfl rfl rfl rfl ?_
          refine vl_val rfl (.some rfl) (by first | exact val_fieldAddr Try.runUnderlying62 rfl Try.sizeOf3 rfl | exact val_fieldAddrR Try.runUnderlying62 rfl Try.sizeOf3 rfl) ?_
          refine vl_on rfl rfl rfl rfl ?_
          refine vl_val rfl (.some rfl) (val_load Try.isAgg3 rfl (by first | exact cell_cells (by repeat constructor) rfl | exact cell_rd (by first | exact rd_sl (by repeat constructor) | exact rd_old (by assumption) rfl) (by first | exact bcells_at (by omega) | exact ucells_at (by omega) | exact icells_at (by omega) | exact tcells_at (by omega) | exact bcells_get (by omega) | exact icells_get (by omega) | exact tcells_get (by omega) | exact ucells_get (by omega)) | exact cell_old (by assumption) (by simp [fps]))) ?_
          refine vl_on rfl rfl rfl rfl ?_
          refine vl_callV rfl rfl (.some rfl) Try.call94 rfl (fun w hw => oGood _ w) ?_
          refine vl_val rfl (.some rfl) (val_pick rfl rfl) ?_
          refine vl_val rfl (.some rfl) (val_assign rfl) ?_
          refine vl_nil ?_
          refine vc_ret ?_
          refine ⟨_, [], _, res1 Try.results76 rfl, .nil, ?_⟩
          show _ = _; unfold goodV; rw [if_neg hc0, if_neg hc1, if_pos hc2]; first | (rw [decide_eq_true hg28]; rfl) | (rw [decide_eq_false hg28]; rfl)
        · (try replace hg28 := of_decide_eq_false hg28)
          refine vl_off rfl rfl rfl rfl (.some rfl) ?_
          refine vl_off rfl rfl rfl rfl (.some rfl) ?_
          refine vl_off rfl rfl rfl rfl (.some rfl) ?_
          refine vl_val rfl (.some rfl) (val_pick rfl rfl) ?_
          refine vl_val rfl (.some rfl) (val_assign rfl) ?_
          refine vl_nil ?_
          refine vc_ret ?_
          refine ⟨_, [], _, res1 Try.results76 rfl, .nil, ?_⟩
          show _ = _; unfold goodV; rw [if_neg hc0, if_neg hc1, if_pos hc2]; first | (rw [decide_eq_true hg28]; rfl) | (rw [decide_eq_false hg28]; rfl)
      · (try replace hc2 := of_decide_eq_false hc2)
        refine vc_seq ?_
        refine vc_region ?_
        refine vl_val rfl (.some rfl) (asks 148 3 (.string ⟨#[]⟩) (.string p.s) Try.runUnderlying148 rfl Try.zeroValue148 rfl (fun h => by unfold ofV; rw [h]; simp) (other _ _ (fun k hk => ⟨fun h => by first | decide | omega, fun h => by first | decide | omega, fun h => by first | decide | omega, fun h => by first | decide | omega, fun h => by first | decide | omega⟩))) ?_
        refine vl_val rfl (.some rfl) (val_extract rfl rfl) ?_
        refine vl_val rfl (.some rfl) (val_extract rfl rfl) ?_
        refine vl_nil ?_
        refine vc_cond rfl (fun hc3 => ?_) (fun hc3 => ?_)
        · (try replace hc3 := of_decide_eq_true hc3)
          rw [if_pos hc3]
          refine vc_seq ?_
          refine vc_region ?_
          refine vl_val rfl (.some rfl) (val_assign rfl) ?_
          refine vl_nil ?_
          refine vc_seq ?_
          refine vc_region ?_
          refine vl_val rfl (.some rfl) (by first | exact val_fieldAddr Try.runUnderlying62 rfl Try.sizeOf3 rfl | exact val_fieldAddrR Try.runUnderlying62 rfl Try.sizeOf3 rfl) ?_
          refine vl_val rfl (.some rfl) (val_load Try.isAgg3 rfl (by first | exact cell_cells (by repeat constructor) rfl | exact cell_rd (by first | exact rd_sl (by repeat constructor) | exact rd_old (by assumption) rfl) (by first | exact bcells_at (by omega) | exact ucells_at (by omega) | exact icells_at (by omega) | exact tcells_at (by omega) | exact bcells_get (by omega) | exact icells_get (by omega) | exact tcells_get (by omega) | exact ucells_get (by omega)) | exact cell_old (by assumption) (by simp [fps]))) ?_
          refine vl_val rfl (.some rfl) (val_eq rfl rfl) ?_
          refine vl_val rfl (.some rfl) (val_move rfl) ?_
          refine vl_split (t := 39) rfl (fun hg39 => ?_) (fun hg39 => ?_)
          · (try replace hg39 := of_decide_eq_true hg39)
            refine vl_on rfl rfl rfl rfl ?_
            refine vl_val rfl (.some rfl) (val_move rfl) ?_
            refine vl_on rfl rfl rfl rfl ?_
            refine vl_val rfl (.some rfl) (val_lenStr Try.runUnderlying148 rfl) ?_
            refine vl_on rfl rfl rfl rfl ?_
            refine vl_val rfl (.some rfl) (val_le rfl rfl) ?_
            refine vl_val rfl (.some rfl) (val_pick rfl rfl) ?_
            refine vl_val rfl (.some rfl) (val_assign rfl) ?_
            refine vl_nil ?_
            refine vc_ret ?_
            refine ⟨_, [], _, res1 Try.results76 rfl, .nil, ?_⟩
            show _ = _; unfold goodV; rw [if_neg hc0, if_neg hc1, if_neg hc2, if_pos hc3]; simp_all <;> omega
          · (try replace hg39 := of_decide_eq_false hg39)
            refine vl_off rfl rfl rfl rfl (.some rfl) ?_
            refine vl_off rfl rfl rfl rfl (.some rfl) ?_
            refine vl_off rfl rfl rfl rfl (.some rfl) ?_
            refine vl_val rfl (.some rfl) (val_pick rfl rfl) ?_
            refine vl_val rfl (.some rfl) (val_assign rfl) ?_
            refine vl_nil ?_
            refine vc_ret ?_
            refine ⟨_, [], _, res1 Try.results76 rfl, .nil, ?_⟩
            show _ = _; unfold goodV; rw [if_neg hc0, if_neg hc1, if_neg hc2, if_pos hc3]; simp_all <;> omega
        · (try replace hc3 := of_decide_eq_false hc3)
          refine vc_seq ?_
          refine vc_region ?_
          refine vl_val rfl (.some rfl) (asks 163 4 (.bool false) (.bool (decide (p.n ≠ 0))) Try.runUnderlying163 rfl Try.zeroValue163 rfl (fun h => by unfold ofV; rw [h]; simp) (other _ _ (fun k hk => ⟨fun h => by first | decide | omega, fun h => by first | decide | omega, fun h => by first | decide | omega, fun h => by first | decide | omega, fun h => by first | decide | omega⟩))) ?_
          refine vl_val rfl (.some rfl) (val_extract rfl rfl) ?_
          refine vl_val rfl (.some rfl) (val_extract rfl rfl) ?_
          refine vl_nil ?_
          refine vc_cond rfl (fun hc4 => ?_) (fun hc4 => ?_)
          · (try replace hc4 := of_decide_eq_true hc4)
            refine vc_seq ?_
            refine vc_region ?_
            refine vl_val rfl (.some rfl) (val_assign rfl) ?_
            refine vl_nil ?_
            refine vc_seq ?_
            refine vc_region ?_
            refine vl_val rfl (.some rfl) (by first | exact val_fieldAddr Try.runUnderlying62 rfl Try.sizeOf9 rfl | exact val_fieldAddrR Try.runUnderlying62 rfl Try.sizeOf9 rfl) ?_
            refine vl_val rfl (.some rfl) (val_load Try.isAgg9 rfl (by first | exact cell_cells (by repeat constructor) rfl | exact cell_rd (by first | exact rd_sl (by repeat constructor) | exact rd_old (by assumption) rfl) (by first | exact bcells_at (by omega) | exact ucells_at (by omega) | exact icells_at (by omega) | exact tcells_at (by omega) | exact bcells_get (by omega) | exact icells_get (by omega) | exact tcells_get (by omega) | exact ucells_get (by omega)) | exact cell_old (by assumption) (by simp [fps]))) ?_
            refine vl_val rfl (.some rfl) (val_seq rfl rfl) ?_
            refine vl_val rfl (.some rfl) (val_move rfl) ?_
            refine vl_split (t := 50) rfl (fun hg50 => ?_) (fun hg50 => ?_)
            · (try replace hg50 := of_decide_eq_true hg50)
              refine vl_on rfl rfl rfl rfl ?_
              refine vl_val rfl (.some rfl) (by first | exact val_fieldAddr Try.runUnderlying62 rfl Try.sizeOf3 rfl | exact val_fieldAddrR Try.runUnderlying62 rfl Try.sizeOf3 rfl) ?_
              refine vl_on rfl rfl rfl rfl ?_
              refine vl_val rfl (.some rfl) (val_load Try.isAgg3 rfl (by first | exact cell_cells (by repeat constructor) rfl | exact cell_rd (by first | exact rd_sl (by repeat constructor) | exact rd_old (by assumption) rfl) (by first | exact bcells_at (by omega) | exact ucells_at (by omega) | exact icells_at (by omega) | exact tcells_at (by omega) | exact bcells_get (by omega) | exact icells_get (by omega) | exact tcells_get (by omega) | exact ucells_get (by omega)) | exact cell_old (by assumption) (by simp [fps]))) ?_
              refine vl_on rfl rfl rfl rfl ?_
              refine vl_val rfl (.some rfl) (val_eq rfl rfl) ?_
              refine vl_on rfl rfl rfl rfl ?_
              refine vl_val rfl (.some rfl) (val_move rfl) ?_
              refine vl_split (t := 54) rfl (fun hg54 => ?_) (fun hg54 => ?_)
              · (try replace hg54 := of_decide_eq_true hg54)
                refine vl_off rfl rfl rfl rfl (.some rfl) ?_
                refine vl_off rfl rfl rfl rfl (.some rfl) ?_
                refine vl_off rfl rfl rfl rfl (.some rfl) ?_
                refine vl_on rfl rfl rfl rfl ?_
                refine vl_val rfl (.some rfl) (val_pick rfl rfl) ?_
                refine vl_val rfl (.some rfl) (val_pick rfl rfl) ?_
                refine vl_val rfl (.some rfl) (val_assign rfl) ?_
                refine vl_nil ?_
                refine vc_ret ?_
                refine ⟨_, [], _, res1 Try.results76 rfl, .nil, ?_⟩
                show _ = _; unfold goodV; rw [if_neg hc0, if_neg hc1, if_neg hc2, if_neg hc3, if_pos hc4]; simp_all
              · (try replace hg54 := of_decide_eq_false hg54)
                refine vl_on rfl rfl rfl rfl ?_
                refine vl_val rfl (.some rfl) (by first | exact val_fieldAddr Try.runUnderlying62 rfl Try.sizeOf3 rfl | exact val_fieldAddrR Try.runUnderlying62 rfl Try.sizeOf3 rfl) ?_
                refine vl_on rfl rfl rfl rfl ?_
                refine vl_val rfl (.some rfl) (val_load Try.isAgg3 rfl (by first | exact cell_cells (by repeat constructor) rfl | exact cell_rd (by first | exact rd_sl (by repeat constructor) | exact rd_old (by assumption) rfl) (by first | exact bcells_at (by omega) | exact ucells_at (by omega) | exact icells_at (by omega) | exact tcells_at (by omega) | exact bcells_get (by omega) | exact icells_get (by omega) | exact tcells_get (by omega) | exact ucells_get (by omega)) | exact cell_old (by assumption) (by simp [fps]))) ?_
                refine vl_on rfl rfl rfl rfl ?_
                refine vl_val rfl (.some rfl) (val_eq rfl rfl) ?_
                refine vl_on rfl rfl rfl rfl ?_
                refine vl_val rfl (.some rfl) (val_pick rfl rfl) ?_
                refine vl_val rfl (.some rfl) (val_pick rfl rfl) ?_
                refine vl_val rfl (.some rfl) (val_assign rfl) ?_
                refine vl_nil ?_
                refine vc_ret ?_
                refine ⟨_, [], _, res1 Try.results76 rfl, .nil, ?_⟩
                show _ = _; unfold goodV; rw [if_neg hc0, if_neg hc1, if_neg hc2, if_neg hc3, if_pos hc4]; simp_all
            · (try replace hg50 := of_decide_eq_false hg50)
              refine vl_off rfl rfl rfl rfl (.some rfl) ?_
              refine vl_off rfl rfl rfl rfl (.some rfl) ?_
              refine vl_off rfl rfl rfl rfl (.some rfl) ?_
              refine vl_off rfl rfl rfl rfl (.some rfl) ?_
              refine vl_offU rfl rfl rfl rfl (.some rfl) ?_
              refine vl_offU rfl rfl rfl rfl (.some rfl) ?_
              refine vl_offU rfl rfl rfl rfl (.some rfl) ?_
              refine vl_off rfl rfl rfl rfl (.some rfl) ?_
              refine vl_val rfl (.some rfl) (val_pick rfl rfl) ?_
              refine vl_val rfl (.some rfl) (val_assign rfl) ?_
              refine vl_nil ?_
              refine vc_ret ?_
              refine ⟨_, [], _, res1 Try.results76 rfl, .nil, ?_⟩
              show _ = _; unfold goodV; rw [if_neg hc0, if_neg hc1, if_neg hc2, if_neg hc3, if_pos hc4]; simp_all
          · (try replace hc4 := of_decide_eq_false hc4)
            refine vc_skip ?_
            refine vc_seq ?_
            refine vc_region ?_
            refine vl_val rfl (.some rfl) (val_assign rfl) ?_
            refine vl_nil ?_
            refine vc_ret ?_
            refine ⟨_, [], _, res1 Try.results76 rfl, .nil, ?_⟩
            show _ = _; unfold goodV; rw [if_neg hc0, if_neg hc1, if_neg hc2, if_neg hc3, if_neg hc4]
set_option maxRecDepth 20000 in
theorem dMade (r m : Nat) (kd : Int) (A : Option Addr) (n c : Nat) (w : World) : FnR Try.prog 40 [.pointer (some ⟨r, 0, none⟩)] [DC r m kd A n c] (.bool true) w := by
  refine fn_enter Try.func40 rfl Try.ntmps40 rfl ?_
  refine vc_seq ?_
  refine vc_region ?_
  refine vl_val rfl (.some rfl) (val_assign rfl) ?_
  refine vl_nil ?_
  refine vc_seq ?_
  refine vc_region ?_
  refine vl_val rfl (.some rfl) (val_move rfl) ?_
  refine vl_val rfl (.some rfl) (val_opO rfl rfl guard_ptr (bin_ptr_ne Try.runUnderlying51)) ?_
  refine vl_val rfl (.some rfl) (val_move rfl) ?_
  refine vl_on rfl rfl rfl rfl ?_
  refine vl_val rfl (.some rfl) (val_move rfl) ?_
  refine vl_on rfl rfl rfl rfl ?_
  refine vl_val rfl (.some rfl) (val_nil rfl rfl) ?_
  refine vl_on rfl rfl rfl rfl ?_
  refine vl_val rfl (.some rfl) (by first | exact val_fieldAddr Try.runUnderlying103 rfl Try.sizeOf101 rfl | exact val_fieldAddrR Try.runUnderlying103 rfl Try.sizeOf101 rfl) ?_
  refine vl_on rfl rfl rfl rfl ?_
  refine vl_val rfl (.some rfl) (val_load Try.isAgg101 rfl (by first | exact cell_cells (by repeat constructor) rfl | exact cell_rd (by first | exact rd_sl (by repeat constructor) | exact rd_old (by assumption) rfl) (by first | exact bcells_at (by omega) | exact ucells_at (by omega) | exact icells_at (by omega) | exact tcells_at (by omega) | exact bcells_get (by omega) | exact icells_get (by omega) | exact tcells_get (by omega) | exact ucells_get (by omega)) | exact cell_old (by assumption) (by simp [fps]))) ?_
  refine vl_on rfl rfl rfl rfl ?_
  refine vl_val rfl (.some rfl) (val_opO rfl rfl guard_map (bin_map_ne Try.runUnderlying101)) ?_
  refine vl_val rfl (.some rfl) (val_pick rfl rfl) ?_
  refine vl_val rfl (.some rfl) (val_assign rfl) ?_
  refine vl_nil ?_
  refine vc_ret ?_
  refine ⟨_, [DC r m kd A n c], _, res1 Try.results40 rfl, (by repeat constructor), ?_⟩
  exact ⟨rfl, rfl⟩
set_option maxRecDepth 20000 in
theorem dTakes (r m : Nat) (kd : Int) (A : Option Addr) (n c : Nat) (p : Vk) (w : World) : FnR Try.prog 66 [.pointer (some ⟨r, 0, none⟩), vk p] [DC r m kd A n c] (.bool (takesB kd p)) w := by
  refine fn_enter Try.func66 rfl Try.ntmps66 rfl ?_
  refine vc_seq ?_
  refine vc_region ?_
  refine vl_box rfl rfl (.some rfl) rfl (fun r3 => ?_)
  refine vl_val rfl (.some rfl) (val_assign rfl) ?_
  refine vl_nil ?_
  refine vc_seq ?_
  refine vc_draws [0, 1, 2, 3, 4, 5, 6, 7, 8, 10, 11] [] [0, 1, 2, 3, 4, 5, 6, 7, 8, 9, 10, 11] rfl (by kernel_rfl) (fun _ _ _ h => h) ?_
  refine vd_val rfl rfl rfl (.some rfl) (by first | exact val_fieldAddr Try.runUnderlying62 rfl Try.sizeOf3 rfl | exact val_fieldAddrR Try.runUnderlying62 rfl Try.sizeOf3 rfl) ?_
  refine vd_val rfl rfl rfl (.some rfl) (val_load Try.isAgg3 rfl (by first | exact cell_cells (by repeat constructor) rfl | exact cell_rd (by first | exact rd_sl (by repeat constructor) | exact rd_old (by assumption) rfl) (by first | exact bcells_at (by omega) | exact ucells_at (by omega) | exact icells_at (by omega) | exact tcells_at (by omega) | exact bcells_get (by omega) | exact icells_get (by omega) | exact tcells_get (by omega) | exact ucells_get (by omega)) | exact cell_old (by assumption) (by simp [fps]))) ?_
  refine vd_val rfl rfl rfl (.some rfl) (val_move rfl) ?_
  refine vd_val rfl rfl rfl (.some rfl) (val_nil rfl rfl) ?_
  refine vd_val rfl rfl rfl (.some rfl) (by first | exact val_fieldAddr Try.runUnderlying103 rfl Try.sizeOf3 rfl | exact val_fieldAddrR Try.runUnderlying103 rfl Try.sizeOf3 rfl) ?_
  refine vd_val rfl rfl rfl (.some rfl) (val_load Try.isAgg3 rfl (by first | exact cell_cells (by repeat constructor) rfl | exact cell_rd (by first | exact rd_sl (by repeat constructor) | exact rd_old (by assumption) rfl) (by first | exact bcells_at (by omega) | exact ucells_at (by omega) | exact icells_at (by omega) | exact tcells_at (by omega) | exact bcells_get (by omega) | exact icells_get (by omega) | exact tcells_get (by omega) | exact ucells_get (by omega)) | exact cell_old (by assumption) (by simp [fps]))) ?_
  refine vd_val rfl rfl rfl (.some rfl) (val_eq rfl rfl) ?_
  refine vd_val rfl rfl rfl (.some rfl) (val_move rfl) ?_
  refine vd_split (t := 12) rfl (fun hg12 => ?_) (fun hg12 => ?_)
  · (try replace hg12 := of_decide_eq_true hg12)
    refine vd_on rfl rfl rfl rfl rfl rfl (.some rfl) (val_loadAgg Try.isAgg62 Try.sizeOf62 rfl (by first | exact cells_whole (by repeat constructor) | exact cells_part (by repeat constructor) rfl) rfl) ?_
    refine vd_op rfl rfl ?_
    refine vl_on rfl rfl rfl rfl ?_
    refine vl_callV rfl rfl (.some rfl) Try.call76 rfl (fun w hw => vGood _ w) ?_
    refine vl_nil ?_
    refine ⟨fun _ => ⟨_, (by repeat (first | exact .nil | exact sub_self _ | exact sub_skip (sub_self _) | exact sub_skip (sub_skip (sub_self _)) | exact sub_skip (sub_skip (sub_skip (sub_self _))) | (apply Sub.cons; · repeat (first | exact .head | apply Take.tail))))⟩, ?_⟩
    refine vd_val rfl rfl rfl (.some rfl) (val_pick rfl rfl) ?_
    refine vd_val rfl rfl rfl (.some rfl) (val_assign rfl) ?_
    refine vd_nil ?_
    refine vc_ret ?_
    refine ⟨_, [DC r m kd A n c], _, res1 Try.results66 rfl, (by repeat constructor), ?_⟩
    refine ⟨?_, rfl⟩
    unfold takesB
    first | (rw [decide_eq_true hg12]; rfl) | (rw [decide_eq_false hg12]; rfl)
  · (try replace hg12 := of_decide_eq_false hg12)
    refine vd_off rfl rfl rfl rfl rfl rfl (.some rfl) ?_
    refine vd_op rfl rfl ?_
    refine vl_off rfl rfl rfl rfl (.some rfl) ?_
    refine vl_nil ?_
    refine ⟨fun _ => ⟨_, (by repeat (first | exact .nil | exact sub_self _ | exact sub_skip (sub_self _) | exact sub_skip (sub_skip (sub_self _)) | exact sub_skip (sub_skip (sub_skip (sub_self _))) | (apply Sub.cons; · repeat (first | exact .head | apply Take.tail))))⟩, ?_⟩
    refine vd_val rfl rfl rfl (.some rfl) (val_pick rfl rfl) ?_
    refine vd_val rfl rfl rfl (.some rfl) (val_assign rfl) ?_
    refine vd_nil ?_
    refine vc_ret ?_
    refine ⟨_, [DC r m kd A n c], _, res1 Try.results66 rfl, (by repeat constructor), ?_⟩
    refine ⟨?_, rfl⟩
    unfold takesB
    first | (rw [decide_eq_true hg12]; rfl) | (rw [decide_eq_false hg12]; rfl)
set_option maxRecDepth 20000 in
theorem dLen (r m : Nat) (kd : Int) (A : Option Addr) (c : Nat) (vs : List Vk) (w : World) : FnR Try.prog 15 [.pointer (some ⟨r, 0, none⟩)] [DC r m kd A vs.length c] (.int .i64 vs.length) w := by
  refine fn_enter Try.func15 rfl Try.ntmps15 rfl ?_
  refine vc_seq ?_
  refine vc_region ?_
  refine vl_val rfl (.some rfl) (val_assign rfl) ?_
  refine vl_nil ?_
  refine vc_seq ?_
  refine vc_seq ?_
  refine vc_region ?_
  refine vl_val rfl (.some rfl) (val_move rfl) ?_
  refine vl_callR [DC r m kd A vs.length c] rfl rfl (.some rfl) Try.call40 rfl (by repeat constructor) (fun w hw => dMade r m kd A vs.length c w) ?_
  refine vl_val rfl (.some rfl) (val_not rfl) ?_
  refine vl_nil ?_
  refine vc_cond rfl (fun h => by cases h) (fun _ => ?_)
  refine vc_skip ?_
  refine vc_seq ?_
  refine vc_region ?_
  refine vl_val rfl (.some rfl) (val_move rfl) ?_
  refine vl_val rfl (.some rfl) (val_nil rfl rfl) ?_
  refine vl_val rfl (.some rfl) (by first | exact val_fieldAddr Try.runUnderlying103 rfl Try.sizeOf53 rfl | exact val_fieldAddrR Try.runUnderlying103 rfl Try.sizeOf53 rfl) ?_
  refine vl_val rfl (.some rfl) (val_load Try.isAgg53 rfl (by first | exact cell_cells (by repeat constructor) rfl | exact cell_rd (by first | exact rd_sl (by repeat constructor) | exact rd_old (by assumption) rfl) (by first | exact bcells_at (by omega) | exact ucells_at (by omega) | exact icells_at (by omega) | exact tcells_at (by omega) | exact bcells_get (by omega) | exact icells_get (by omega) | exact tcells_get (by omega) | exact ucells_get (by omega)) | exact cell_old (by assumption) (by simp [fps]))) ?_
  refine vl_val rfl (.some rfl) (val_lenSl Try.runUnderlying53 rfl) ?_
  refine vl_val rfl (.some rfl) (val_assign rfl) ?_
  refine vl_nil ?_
  refine vc_ret ?_
  refine ⟨_, [DC r m kd A vs.length c], _, res1 Try.results15 rfl, (by repeat constructor), ?_⟩
  exact ⟨rfl, rfl⟩
set_option maxRecDepth 20000 in
theorem dKind (r m : Nat) (kd : Int) (A : Option Addr) (c : Nat) (vs : List Vk) (w : World) : FnR Try.prog 36 [.pointer (some ⟨r, 0, none⟩)] [DC r m kd A vs.length c] (.int .i64 kd) w := by
  refine fn_enter Try.func36 rfl Try.ntmps36 rfl ?_
  refine vc_seq ?_
  refine vc_region ?_
  refine vl_val rfl (.some rfl) (val_assign rfl) ?_
  refine vl_nil ?_
  refine vc_seq ?_
  refine vc_seq ?_
  refine vc_region ?_
  refine vl_val rfl (.some rfl) (val_move rfl) ?_
  refine vl_callR [DC r m kd A vs.length c] rfl rfl (.some rfl) Try.call40 rfl (by repeat constructor) (fun w hw => dMade r m kd A vs.length c w) ?_
  refine vl_val rfl (.some rfl) (val_not rfl) ?_
  refine vl_nil ?_
  refine vc_cond rfl (fun h => by cases h) (fun _ => ?_)
  refine vc_skip ?_
  refine vc_seq ?_
  refine vc_region ?_
  refine vl_val rfl (.some rfl) (val_move rfl) ?_
  refine vl_val rfl (.some rfl) (val_nil rfl rfl) ?_
  refine vl_val rfl (.some rfl) (by first | exact val_fieldAddr Try.runUnderlying103 rfl Try.sizeOf3 rfl | exact val_fieldAddrR Try.runUnderlying103 rfl Try.sizeOf3 rfl) ?_
  refine vl_val rfl (.some rfl) (val_load Try.isAgg3 rfl (by first | exact cell_cells (by repeat constructor) rfl | exact cell_rd (by first | exact rd_sl (by repeat constructor) | exact rd_old (by assumption) rfl) (by first | exact bcells_at (by omega) | exact ucells_at (by omega) | exact icells_at (by omega) | exact tcells_at (by omega) | exact bcells_get (by omega) | exact icells_get (by omega) | exact tcells_get (by omega) | exact ucells_get (by omega)) | exact cell_old (by assumption) (by simp [fps]))) ?_
  refine vl_val rfl (.some rfl) (val_assign rfl) ?_
  refine vl_nil ?_
  refine vc_ret ?_
  refine ⟨_, [DC r m kd A vs.length c], _, res1 Try.results36 rfl, (by repeat constructor), ?_⟩
  exact ⟨rfl, rfl⟩
set_option maxRecDepth 20000 in
theorem dNew (kd : Int) (h1 : 1 ≤ kd) (h2 : kd ≤ 4) (w : World) : Fn Try.prog 22 [.int .i64 kd] [] (ret fun u H' => ∃ r m, u = .pointer (some ⟨r, 0, none⟩) ∧ H' = DH r m kd none 0 []) w := by
  refine fn_enter Try.func22 rfl Try.ntmps22 rfl ?_
  refine vc_seq ?_
  refine vc_region ?_
  refine vl_val rfl (.some rfl) (val_assign rfl) ?_
  refine vl_nil ?_
  refine vc_seq ?_
  refine vc_seq ?_
  refine vc_region ?_
  refine vl_val rfl (.some rfl) (val_move rfl) ?_
  refine vl_val rfl (.some rfl) (val_lt rfl rfl) ?_
  refine vl_val rfl (.some rfl) (val_move rfl) ?_
  refine vl_split (t := 5) rfl (fun hg5 => ?_) (fun hg5 => ?_)
  · (try replace hg5 := of_decide_eq_true hg5)
    exfalso
    omega
  · (try replace hg5 := of_decide_eq_false hg5)
    refine vl_on rfl rfl rfl rfl ?_
    refine vl_val rfl (.some rfl) (val_move rfl) ?_
    refine vl_on rfl rfl rfl rfl ?_
    refine vl_val rfl (.some rfl) (val_gt rfl rfl) ?_
    refine vl_val rfl (.some rfl) (val_pick rfl rfl) ?_
    refine vl_nil ?_
    refine vc_cond rfl (fun hc0 => False.elim (by (try replace hc0 := of_decide_eq_true hc0); omega)) (fun hc0 => ?_)
    (try replace hc0 := of_decide_eq_false hc0)
    refine vc_skip ?_
    refine vc_seq ?_
    refine vc_region ?_
    refine vl_val rfl (.some rfl) (val_move rfl) ?_
    refine vl_makeMap vk rfl rfl (.some rfl) (fun r10 => ?_)
    refine vl_val rfl (.some rfl) (val_buildSt (pl := #[(0, 1), (1, 1), (2, 1)]) (cs := #[.int .i64 kd, .map (some r10), .slice none 0 0]) Try.runUnderlying103 Try.zeroValue103 (fun w => by kernel_rfl) rfl rfl) ?_
    refine vl_box rfl rfl (.some rfl) rfl (fun r12 => ?_)
    refine vl_val rfl (.some rfl) (val_assign rfl) ?_
    refine vl_nilSl 62 3 ?_
    refine vl_nil ?_
    refine vc_ret ?_
    refine ⟨_, DH r12 r10 kd none 0 [], _, res1 Try.results22 rfl, (by repeat constructor), ?_⟩
    exact ⟨r12, r10, rfl, rfl⟩
set_option maxRecDepth 20000 in
theorem dAdd (r m : Nat) (kd : Int) (A : Option Addr) (c : Nat) (vs : List Vk) (p : Vk) (w : World) : Fn Try.prog 41 [.pointer (some ⟨r, 0, none⟩), vk p] (DH r m kd A c vs) (ret fun u H' => ∃ A' c', u = .tuple #[.int .i64 (dadd kd vs p).1.1, .int .i64 (dadd kd vs p).1.2] ∧ H' = DH r m kd A' c' (dadd kd vs p).2) w := by
  refine fn_enter Try.func41 rfl Try.ntmps41 rfl ?_
  refine vc_seq ?_
  refine vc_region ?_
  refine vl_box rfl rfl (.some rfl) rfl (fun r3 => ?_)
  refine vl_val rfl (.some rfl) (val_assign rfl) ?_
  refine vl_val rfl (.some rfl) (val_assign rfl) ?_
  refine vl_nil ?_
  refine vc_seq ?_
  refine vc_block ?_
  refine vc_seq ?_
  refine vc_region ?_
  refine vl_val rfl (.some rfl) (val_move rfl) ?_
  refine vl_callR [DC r m kd A vs.length c] rfl rfl (.some rfl) Try.call40 rfl (by repeat constructor) (fun w hw => dMade r m kd A vs.length c w) ?_
  refine vl_val rfl (.some rfl) (val_not rfl) ?_
  refine vl_val rfl (.some rfl) (val_assign rfl) ?_
  refine vl_nil ?_
  refine vc_cond rfl (fun h => by cases h) (fun _ => ?_)
  refine vc_seq ?_
  refine vc_region ?_
  refine vl_val rfl (.some rfl) (val_move rfl) ?_
  refine vl_val rfl (.some rfl) (val_loadAgg Try.isAgg62 Try.sizeOf62 rfl (by first | exact cells_whole (by repeat constructor) | exact cells_part (by repeat constructor) rfl) rfl) ?_
  refine vl_callR [DC r m kd A vs.length c] rfl rfl (.some rfl) Try.call66 rfl (by repeat constructor) (fun w hw => dTakes r m kd A vs.length c p w) ?_
  refine vl_val rfl (.some rfl) (val_not rfl) ?_
  refine vl_val rfl (.some rfl) (val_assign rfl) ?_
  refine vl_nil ?_
  refine vc_cond rfl (fun hc1 => ?_) (fun hc1 => ?_)
  · (try replace hc1 := of_decide_eq_true hc1)
    refine vc_seq ?_
    refine vc_region ?_
    refine vl_val rfl (.some rfl) (val_assign rfl) ?_
    refine vl_val rfl (.some rfl) (val_assign rfl) ?_
    refine vl_nil ?_
    refine vc_ret ?_
    refine ⟨_, DH r m kd A c vs, _, res2 Try.results41 rfl rfl, (by repeat constructor), ?_⟩
    have hd : dadd kd vs p = ((0, 12), vs) := by unfold dadd; rw [if_pos (by simpa using hc1)]
    show ∃ A' c', _ ∧ _
    rw [hd]
    exact ⟨A, c, rfl, rfl⟩
  · (try replace hc1 := of_decide_eq_false hc1)
    refine vc_skip ?_
    refine vc_seq ?_
    refine vc_seq ?_
    refine vc_draws [0, 1, 2, 3, 4, 5, 6, 7, 8, 9, 10] [] [0, 1, 2, 3, 4, 5, 6, 7, 8, 9, 10] rfl (by kernel_rfl) (fun _ _ _ h => h) ?_
    refine vd_val rfl rfl rfl (.some rfl) (val_move rfl) ?_
    refine vd_val rfl rfl rfl (.some rfl) (val_nil rfl rfl) ?_
    refine vd_val rfl rfl rfl (.some rfl) (by first | exact val_fieldAddr Try.runUnderlying103 rfl Try.sizeOf101 rfl | exact val_fieldAddrR Try.runUnderlying103 rfl Try.sizeOf101 rfl) ?_
    refine vd_val rfl rfl rfl (.some rfl) (val_load Try.isAgg101 rfl (by first | exact cell_cells (by repeat constructor) rfl | exact cell_rd (by first | exact rd_sl (by repeat constructor) | exact rd_old (by assumption) rfl) (by first | exact bcells_at (by omega) | exact ucells_at (by omega) | exact icells_at (by omega) | exact tcells_at (by omega) | exact bcells_get (by omega) | exact icells_get (by omega) | exact tcells_get (by omega) | exact ucells_get (by omega)) | exact cell_old (by assumption) (by simp [fps]))) ?_
    refine vd_val rfl rfl rfl (.some rfl) (val_loadAgg Try.isAgg62 Try.sizeOf62 rfl (by first | exact cells_whole (by repeat constructor) | exact cells_part (by repeat constructor) rfl) rfl) ?_
    refine vd_val rfl rfl rfl (.some rfl) (val_lookupIds (k := p) kT rfl rfl (by repeat constructor)) ?_
    refine vd_val rfl rfl rfl (.some rfl) (val_move rfl) ?_
    refine vd_val rfl rfl rfl (.some rfl) (val_extract rfl rfl) ?_
    refine vd_val rfl rfl rfl (.some rfl) (val_extract rfl rfl) ?_
    refine vd_val rfl rfl rfl (.some rfl) (val_assign rfl) ?_
    refine vd_val rfl rfl rfl (.some rfl) (val_assign rfl) ?_
    refine vd_nil ?_
    refine vc_seq ?_
    refine vc_region ?_
    refine vl_val rfl (.some rfl) (val_move rfl) ?_
    refine vl_nil ?_
    refine vc_cond rfl (fun hc2 => ?_) (fun hc2 => ?_)
    · (try replace hc2 := of_decide_eq_true hc2)
      refine vc_seq ?_
      refine vc_region ?_
      refine vl_val rfl (.some rfl) (val_move rfl) ?_
      refine vl_val rfl (.some rfl) (val_assign rfl) ?_
      refine vl_val rfl (.some rfl) (val_assign rfl) ?_
      refine vl_nil ?_
      refine vc_ret ?_
      refine ⟨_, DH r m kd A c vs, _, res2 Try.results41 rfl rfl, (by repeat constructor), ?_⟩
      have hd : dadd kd vs p = ((((vs.idxOf p : Nat) : Int), 0), vs) := by unfold dadd; rw [if_neg (by simpa using hc1), if_pos hc2]
      show ∃ A' c', _ ∧ _
      rw [hd]
      refine ⟨A, c, ?_, rfl⟩
      show Value.tuple #[.int .i64 ((if p ∈ vs then vs.idxOf p else 0 : Nat) : Int), .int .i64 0] = _
      rw [if_pos hc2]
    · (try replace hc2 := of_decide_eq_false hc2)
      refine vc_skip ?_
      refine vc_seq ?_
      refine vc_seq ?_
      refine vc_region ?_
      refine vl_val rfl (.some rfl) (val_move rfl) ?_
      refine vl_val rfl (.some rfl) (val_nil rfl rfl) ?_
      refine vl_val rfl (.some rfl) (by first | exact val_fieldAddr Try.runUnderlying103 rfl Try.sizeOf53 rfl | exact val_fieldAddrR Try.runUnderlying103 rfl Try.sizeOf53 rfl) ?_
      refine vl_val rfl (.some rfl) (val_load Try.isAgg53 rfl (by first | exact cell_cells (by repeat constructor) rfl | exact cell_rd (by first | exact rd_sl (by repeat constructor) | exact rd_old (by assumption) rfl) (by first | exact bcells_at (by omega) | exact ucells_at (by omega) | exact icells_at (by omega) | exact tcells_at (by omega) | exact bcells_get (by omega) | exact icells_get (by omega) | exact tcells_get (by omega) | exact ucells_get (by omega)) | exact cell_old (by assumption) (by simp [fps]))) ?_
      refine vl_val rfl (.some rfl) (val_lenSl Try.runUnderlying53 rfl) ?_
      refine vl_val rfl (.some rfl) (val_ge rfl rfl) ?_
      refine vl_nil ?_
      refine vc_cond rfl (fun hc3 => ?_) (fun hc3 => ?_)
      · (try replace hc3 := of_decide_eq_true hc3)
        refine vc_seq ?_
        refine vc_region ?_
        refine vl_val rfl (.some rfl) (val_assign rfl) ?_
        refine vl_val rfl (.some rfl) (val_assign rfl) ?_
        refine vl_nil ?_
        refine vc_ret ?_
        refine ⟨_, DH r m kd A c vs, _, res2 Try.results41 rfl rfl, (by repeat constructor), ?_⟩
        have hd : dadd kd vs p = ((0, 7), vs) := by unfold dadd; rw [if_neg (by simpa using hc1), if_neg hc2, if_pos (by omega)]
        show ∃ A' c', _ ∧ _
        rw [hd]
        exact ⟨A, c, rfl, rfl⟩
      · (try replace hc3 := of_decide_eq_false hc3)
        refine vc_skip ?_
        refine vc_seq ?_
        refine vc_draws [0, 1, 2, 3, 4, 5, 6, 7, 8, 9] [10] [0, 1, 2, 3, 4, 5, 6, 7, 8, 9, 10] rfl (by kernel_rfl) (fun _ _ _ h => h) ?_
        refine vd_val rfl rfl rfl (.some rfl) (val_move rfl) ?_
        refine vd_val rfl rfl rfl (.some rfl) (val_nil rfl rfl) ?_
        refine vd_val rfl rfl rfl (.some rfl) (by first | exact val_fieldAddr Try.runUnderlying103 rfl Try.sizeOf101 rfl | exact val_fieldAddrR Try.runUnderlying103 rfl Try.sizeOf101 rfl) ?_
        refine vd_val rfl rfl rfl (.some rfl) (val_load Try.isAgg101 rfl (by first | exact cell_cells (by repeat constructor) rfl | exact cell_rd (by first | exact rd_sl (by repeat constructor) | exact rd_old (by assumption) rfl) (by first | exact bcells_at (by omega) | exact ucells_at (by omega) | exact icells_at (by omega) | exact tcells_at (by omega) | exact bcells_get (by omega) | exact icells_get (by omega) | exact tcells_get (by omega) | exact ucells_get (by omega)) | exact cell_old (by assumption) (by simp [fps]))) ?_
        refine vd_val rfl rfl rfl (.some rfl) (val_loadAgg Try.isAgg62 Try.sizeOf62 rfl (by first | exact cells_whole (by repeat constructor) | exact cells_part (by repeat constructor) rfl) rfl) ?_
        refine vd_val rfl rfl rfl (.some rfl) (val_move rfl) ?_
        refine vd_val rfl rfl rfl (.some rfl) (val_nil rfl rfl) ?_
        refine vd_val rfl rfl rfl (.some rfl) (by first | exact val_fieldAddr Try.runUnderlying103 rfl Try.sizeOf53 rfl | exact val_fieldAddrR Try.runUnderlying103 rfl Try.sizeOf53 rfl) ?_
        refine vd_val rfl rfl rfl (.some rfl) (val_load Try.isAgg53 rfl (by first | exact cell_cells (by repeat constructor) rfl | exact cell_rd (by first | exact rd_sl (by repeat constructor) | exact rd_old (by assumption) rfl) (by first | exact bcells_at (by omega) | exact ucells_at (by omega) | exact icells_at (by omega) | exact tcells_at (by omega) | exact bcells_get (by omega) | exact icells_get (by omega) | exact tcells_get (by omega) | exact ucells_get (by omega)) | exact cell_old (by assumption) (by simp [fps]))) ?_
        refine vd_val rfl rfl rfl (.some rfl) (val_lenSl Try.runUnderlying53 rfl) ?_
        refine vd_op rfl rfl ?_
        refine vl_mapNew kT rfl rfl .none rfl rfl rfl (kfind_none _ _ _ hc2) (by repeat constructor) ?_
        rw [ids_push]
        refine vl_nil ?_
        refine ⟨fun h => (by cases h), ?_⟩
        refine vd_nil ?_
        refine vc_seq ?_
        refine vc_drawsS [0, 1, 2, 3, 4, 5, 9] [10] [0, 1, 2, 3, 4, 5, 6, 7, 8, 9, 10] [DC r m kd A vs.length c, cells r3 [.int .i64 p.k, .int .i64 p.n, .string p.s] 62] (by repeat constructor) rfl (by kernel_rfl) (fun _ _ _ h => h) ?_
        refine vd_val rfl rfl rfl (.some rfl) (val_move rfl) ?_
        refine vd_val rfl rfl rfl (.some rfl) (val_move rfl) ?_
        refine vd_val rfl rfl rfl (.some rfl) (val_nil rfl rfl) ?_
        refine vd_val rfl rfl rfl (.some rfl) (by first | exact val_fieldAddr Try.runUnderlying103 rfl Try.sizeOf53 rfl | exact val_fieldAddrR Try.runUnderlying103 rfl Try.sizeOf53 rfl) ?_
        refine vd_val rfl rfl rfl (.some rfl) (val_load Try.isAgg53 rfl (by first | exact cell_cells (by repeat constructor) rfl | exact cell_rd (by first | exact rd_sl (by repeat constructor) | exact rd_old (by assumption) rfl) (by first | exact bcells_at (by omega) | exact ucells_at (by omega) | exact icells_at (by omega) | exact tcells_at (by omega) | exact bcells_get (by omega) | exact icells_get (by omega) | exact tcells_get (by omega) | exact ucells_get (by omega)) | exact cell_old (by assumption) (by simp [fps]))) ?_
        refine vd_val rfl rfl rfl (.some rfl) (val_loadAgg Try.isAgg62 Try.sizeOf62 rfl (by first | exact cells_whole (by repeat constructor) | exact cells_part (by repeat constructor) rfl) rfl) ?_
        refine vd_op rfl rfl ?_
        refine vl_lit sT53 rfl rfl (.some rfl) rfl rfl rfl (by decide) (by decide) rfl rfl (fun r50 => ?_)
        refine vl_nil ?_
        refine ⟨fun _ => ⟨_, (by repeat (first | exact .nil | exact sub_self _ | exact sub_skip (sub_self _) | exact sub_skip (sub_skip (sub_self _)) | exact sub_skip (sub_skip (sub_skip (sub_self _))) | (apply Sub.cons; · repeat (first | exact .head | apply Take.tail))))⟩, ?_⟩
        refine vd_op rfl rfl ?_
        refine vl_append sT53 rfl rfl (.some rfl) rfl rfl (by first | exact rd_sl (by repeat constructor) | exact rd_slr (by repeat constructor) | exact rd_old (by assumption) rfl) (by first | rfl | (simp; done) | (simp; omega) | (simp only [bcells_length, icells_length, ucells_length, tcells_length]; omega)) (by first | rfl | exact one_b _ | exact one_u _ | exact one_i _ | exact one_t _) (by omega) (by omega) (by repeat constructor) (fun A51 k51 => ?_)
        refine vl_nil ?_
        refine ⟨fun _ => ⟨_, (by repeat (first | exact .nil | exact sub_self _ | exact sub_skip (sub_self _) | exact sub_skip (sub_skip (sub_self _)) | exact sub_skip (sub_skip (sub_skip (sub_self _))) | (apply Sub.cons; · repeat (first | exact .head | apply Take.tail))))⟩, ?_⟩
        refine vd_op rfl rfl ?_
        refine vl_val rfl (.some rfl) (val_nil rfl rfl) ?_
        refine vl_nil ?_
        refine ⟨fun _ => ⟨_, (by repeat (first | exact .nil | exact sub_self _ | exact sub_skip (sub_self _) | exact sub_skip (sub_skip (sub_self _)) | exact sub_skip (sub_skip (sub_skip (sub_self _))) | (apply Sub.cons; · repeat (first | exact .head | apply Take.tail))))⟩, ?_⟩
        refine vd_val rfl rfl rfl (.some rfl) (by first | exact val_fieldAddr Try.runUnderlying103 rfl Try.sizeOf53 rfl | exact val_fieldAddrR Try.runUnderlying103 rfl Try.sizeOf53 rfl) ?_
        refine vd_op rfl rfl ?_
        first | refine vl_store rfl rfl .none rfl rfl Try.sizeOf53 rfl (by repeat constructor) (by first | decide | exact Nat.le_refl _ | exact Nat.le_of_ble_eq_true rfl | (simp; omega)) ?_ | refine vl_storeSl rfl rfl .none rfl rfl Try.sizeOf53 rfl (by simp [Value.cells]) (by repeat constructor) (by first | decide | (simp [Value.cells]; omega)) ?_
        refine vl_nil ?_
        refine ⟨fun h => (by cases h), ?_⟩
        refine vd_nil ?_
        refine vc_seq ?_
        refine vc_region ?_
        refine vl_val rfl (.some rfl) (val_move rfl) ?_
        refine vl_val rfl (.some rfl) (val_nil rfl rfl) ?_
        refine vl_val rfl (.some rfl) (by first | exact val_fieldAddr Try.runUnderlying103 rfl Try.sizeOf53 rfl | exact val_fieldAddrR Try.runUnderlying103 rfl Try.sizeOf53 rfl) ?_
        refine vl_val rfl (.some rfl) (val_load Try.isAgg53 rfl (by first | exact cell_cells (by repeat constructor) rfl | exact cell_rd (by first | exact rd_sl (by repeat constructor) | exact rd_old (by assumption) rfl) (by first | exact bcells_at (by omega) | exact ucells_at (by omega) | exact icells_at (by omega) | exact tcells_at (by omega) | exact bcells_get (by omega) | exact icells_get (by omega) | exact tcells_get (by omega) | exact ucells_get (by omega)) | exact cell_old (by assumption) (by simp [fps]))) ?_
        refine vl_val rfl (.some rfl) (val_lenSl Try.runUnderlying53 rfl) ?_
        refine vl_val rfl (.some rfl) (val_sub rfl rfl (by first | exact w_i64 (by omega) (by omega) | rfl)) ?_
        refine vl_val rfl (.some rfl) (val_assign rfl) ?_
        refine vl_val rfl (.some rfl) (val_assign rfl) ?_
        refine vl_nil ?_
        refine vc_ret ?_
        refine ⟨_, [cells r [.int .i64 kd, .map (some m), .slice A51 (vs.length + 1) k51] 103, mp vk m (vs ++ [p]) (ids 0 (vs.length + 1)), sl A51 (vs.length + 1) k51 62 3 (flat vs ++ [.int .i64 p.k, .int .i64 p.n, .string p.s])], _, res2 Try.results41 rfl rfl, (by repeat constructor), ?_⟩
        have hd : dadd kd vs p = ((((vs.length : Nat) : Int), 0), vs ++ [p]) := by unfold dadd; rw [if_neg (by simpa using hc1), if_neg hc2, if_neg (by omega)]
        show ∃ A' c', _ ∧ _
        rw [hd]
        refine ⟨A51, k51, ?_, ?_⟩
        · have e : (((vs.length + 1 : Nat) : Int) - 1) = (vs.length : Int) := by omega
          show Value.tuple #[.int .i64 (((vs.length + 1 : Nat) : Int) - 1), .int .i64 0] = _
          rw [e]
        · rw [flat_push, show (vs.length + 1) = (vs ++ [p]).length by simp]
set_option maxRecDepth 20000 in
theorem bCompare (a b : ByteArray) (w : World) : FnV Try.prog 97 [.string a, .string b] (.int .i64 (cB a b)) w := by
  refine fn_enter Try.func97 rfl Try.ntmps97 rfl ?_
  refine vc_seq ?_
  refine vc_region ?_
  refine vl_val rfl (.some rfl) (val_assign rfl) ?_
  refine vl_nil ?_
  refine vc_seq ?_
  refine vc_region ?_
  refine vl_val rfl (.some rfl) (val_move rfl) ?_
  refine vl_val rfl (.some rfl) (val_move rfl) ?_
  refine vl_ext rfl rfl (.some rfl) rfl (cmpstring_run _ _) ?_
  refine vl_val rfl (.some rfl) (val_assign rfl) ?_
  refine vl_nil ?_
  refine vc_ret ?_
  refine ⟨_, [], _, res1 Try.results97 rfl, .nil, ?_⟩
  rfl
set_option maxRecDepth 20000 in
theorem sCompare (a b : ByteArray) (w : World) : FnV Try.prog 83 [.string a, .string b] (.int .i64 (cB a b)) w := by
  refine fn_enter Try.func83 rfl Try.ntmps83 rfl ?_
  refine vc_seq ?_
  refine vc_region ?_
  refine vl_val rfl (.some rfl) (val_assign rfl) ?_
  refine vl_nil ?_
  refine vc_seq ?_
  refine vc_region ?_
  refine vl_val rfl (.some rfl) (val_move rfl) ?_
  refine vl_val rfl (.some rfl) (val_move rfl) ?_
  refine vl_callV rfl rfl (.some rfl) Try.call97 rfl (fun w hw => bCompare _ _ w) ?_
  refine vl_val rfl (.some rfl) (val_assign rfl) ?_
  refine vl_nil ?_
  refine vc_ret ?_
  refine ⟨_, [], _, res1 Try.results83 rfl, .nil, ?_⟩
  rfl
set_option maxRecDepth 20000 in
theorem vCmp (p q : Vk) (w : World) : FnV Try.prog 47 [vk p, vk q] (.int .i64 (cmpV p q)) w := by
  refine fn_enter Try.func47 rfl Try.ntmps47 rfl ?_
  refine vc_seq ?_
  refine vc_region ?_
  refine vl_box rfl rfl (.some rfl) rfl (fun r2 => ?_)
  refine vl_box rfl rfl (.some rfl) rfl (fun r3 => ?_)
  refine vl_val rfl (.some rfl) (val_assign rfl) ?_
  refine vl_nil ?_
  refine vc_seq ?_
  refine vc_seq ?_
  refine vc_region ?_
  refine vl_val rfl (.some rfl) (by first | exact val_fieldAddr Try.runUnderlying62 rfl Try.sizeOf3 rfl | exact val_fieldAddrR Try.runUnderlying62 rfl Try.sizeOf3 rfl) ?_
  refine vl_val rfl (.some rfl) (val_load Try.isAgg3 rfl (by first | exact cell_cells (by repeat constructor) rfl | exact cell_rd (by first | exact rd_sl (by repeat constructor) | exact rd_old (by assumption) rfl) (by first | exact bcells_at (by omega) | exact ucells_at (by omega) | exact icells_at (by omega) | exact tcells_at (by omega) | exact bcells_get (by omega) | exact icells_get (by omega) | exact tcells_get (by omega) | exact ucells_get (by omega)) | exact cell_old (by assumption) (by simp [fps]))) ?_
  refine vl_val rfl (.some rfl) (by first | exact val_fieldAddr Try.runUnderlying62 rfl Try.sizeOf3 rfl | exact val_fieldAddrR Try.runUnderlying62 rfl Try.sizeOf3 rfl) ?_
  refine vl_val rfl (.some rfl) (val_load Try.isAgg3 rfl (by first | exact cell_cells (by repeat constructor) rfl | exact cell_rd (by first | exact rd_sl (by repeat constructor) | exact rd_old (by assumption) rfl) (by first | exact bcells_at (by omega) | exact ucells_at (by omega) | exact icells_at (by omega) | exact tcells_at (by omega) | exact bcells_get (by omega) | exact icells_get (by omega) | exact tcells_get (by omega) | exact ucells_get (by omega)) | exact cell_old (by assumption) (by simp [fps]))) ?_
  refine vl_callV rfl rfl (.some rfl) Try.call81 rfl (fun w hw => cCompare _ _ w) ?_
  refine vl_val rfl (.some rfl) (val_assign rfl) ?_
  refine vl_nil ?_
  refine vc_seq ?_
  refine vc_region ?_
  refine vl_val rfl (.some rfl) (val_move rfl) ?_
  refine vl_val rfl (.some rfl) (val_ne rfl rfl) ?_
  refine vl_nil ?_
  refine vc_cond rfl (fun hc0 => ?_) (fun hc0 => ?_)
  · (try replace hc0 := of_decide_eq_true hc0)
    have hne : p.k ≠ q.k := fun e => hc0 ((sgn_zero _ _).2 e)
    refine vc_seq ?_
    refine vc_region ?_
    refine vl_val rfl (.some rfl) (val_move rfl) ?_
    refine vl_val rfl (.some rfl) (val_assign rfl) ?_
    refine vl_nil ?_
    refine vc_ret ?_
    refine ⟨_, [], _, res1 Try.results47 rfl, .nil, ?_⟩
    show _ = _; unfold cmpV; rw [if_pos hne]
  · (try replace hc0 := of_decide_eq_false hc0)
    have heq : ¬ p.k ≠ q.k := fun e => hc0 (fun h => e ((sgn_zero _ _).1 h))
    refine vc_skip ?_
    refine vc_seq ?_
    refine vc_seq ?_
    refine vc_region ?_
    refine vl_val rfl (.some rfl) (by first | exact val_fieldAddr Try.runUnderlying62 rfl Try.sizeOf3 rfl | exact val_fieldAddrR Try.runUnderlying62 rfl Try.sizeOf3 rfl) ?_
    refine vl_val rfl (.some rfl) (val_load Try.isAgg3 rfl (by first | exact cell_cells (by repeat constructor) rfl | exact cell_rd (by first | exact rd_sl (by repeat constructor) | exact rd_old (by assumption) rfl) (by first | exact bcells_at (by omega) | exact ucells_at (by omega) | exact icells_at (by omega) | exact tcells_at (by omega) | exact bcells_get (by omega) | exact icells_get (by omega) | exact tcells_get (by omega) | exact ucells_get (by omega)) | exact cell_old (by assumption) (by simp [fps]))) ?_
    refine vl_nil ?_
    refine vc_block ?_
    refine vc_seq ?_
    refine vc_region ?_
    refine vl_val rfl (.some rfl) (val_eq rfl rfl) ?_
    refine vl_val rfl (.some rfl) (val_assign rfl) ?_
    refine vl_nil ?_
    refine vc_cond rfl (fun hc1 => ?_) (fun hc1 => ?_)
    · (try replace hc1 := of_decide_eq_true hc1)
      refine vc_seq ?_
      refine vc_region ?_
      refine vl_val rfl (.some rfl) (val_assign rfl) ?_
      refine vl_nil ?_
      refine vc_ret ?_
      refine ⟨_, [], _, res1 Try.results47 rfl, .nil, ?_⟩
      show _ = _; unfold cmpV; rw [if_neg heq, if_pos hc1]
    · (try replace hc1 := of_decide_eq_false hc1)
      refine vc_seq ?_
      refine vc_region ?_
      refine vl_val rfl (.some rfl) (val_eq rfl rfl) ?_
      refine vl_val rfl (.some rfl) (val_assign rfl) ?_
      refine vl_nil ?_
      refine vc_cond rfl (fun hc2 => ?_) (fun hc2 => ?_)
      · (try replace hc2 := of_decide_eq_true hc2)
        refine vc_seq ?_
        refine vc_region ?_
        refine vl_val rfl (.some rfl) (by first | exact val_fieldAddr Try.runUnderlying62 rfl Try.sizeOf3 rfl | exact val_fieldAddrR Try.runUnderlying62 rfl Try.sizeOf3 rfl) ?_
        refine vl_val rfl (.some rfl) (val_load Try.isAgg3 rfl (by first | exact cell_cells (by repeat constructor) rfl | exact cell_rd (by first | exact rd_sl (by repeat constructor) | exact rd_old (by assumption) rfl) (by first | exact bcells_at (by omega) | exact ucells_at (by omega) | exact icells_at (by omega) | exact tcells_at (by omega) | exact bcells_get (by omega) | exact icells_get (by omega) | exact tcells_get (by omega) | exact ucells_get (by omega)) | exact cell_old (by assumption) (by simp [fps]))) ?_
        refine vl_val rfl (.some rfl) (by first | exact val_fieldAddr Try.runUnderlying62 rfl Try.sizeOf3 rfl | exact val_fieldAddrR Try.runUnderlying62 rfl Try.sizeOf3 rfl) ?_
        refine vl_val rfl (.some rfl) (val_load Try.isAgg3 rfl (by first | exact cell_cells (by repeat constructor) rfl | exact cell_rd (by first | exact rd_sl (by repeat constructor) | exact rd_old (by assumption) rfl) (by first | exact bcells_at (by omega) | exact ucells_at (by omega) | exact icells_at (by omega) | exact tcells_at (by omega) | exact bcells_get (by omega) | exact icells_get (by omega) | exact tcells_get (by omega) | exact ucells_get (by omega)) | exact cell_old (by assumption) (by simp [fps]))) ?_
        refine vl_callV rfl rfl (.some rfl) Try.call82 rfl (fun w hw => oCmp _ _ w) ?_
        refine vl_val rfl (.some rfl) (val_assign rfl) ?_
        refine vl_nil ?_
        refine vc_ret ?_
        refine ⟨_, [], _, res1 Try.results47 rfl, .nil, ?_⟩
        show _ = _; unfold cmpV; rw [if_neg heq, if_neg hc1, if_pos hc2]
      · (try replace hc2 := of_decide_eq_false hc2)
        refine vc_seq ?_
        refine vc_region ?_
        refine vl_val rfl (.some rfl) (val_eq rfl rfl) ?_
        refine vl_val rfl (.some rfl) (val_assign rfl) ?_
        refine vl_nil ?_
        refine vc_cond rfl (fun hc3 => ?_) (fun hc3 => ?_)
        · (try replace hc3 := of_decide_eq_true hc3)
          refine vc_seq ?_
          refine vc_region ?_
          refine vl_val rfl (.some rfl) (by first | exact val_fieldAddr Try.runUnderlying62 rfl Try.sizeOf9 rfl | exact val_fieldAddrR Try.runUnderlying62 rfl Try.sizeOf9 rfl) ?_
          refine vl_val rfl (.some rfl) (val_load Try.isAgg9 rfl (by first | exact cell_cells (by repeat constructor) rfl | exact cell_rd (by first | exact rd_sl (by repeat constructor) | exact rd_old (by assumption) rfl) (by first | exact bcells_at (by omega) | exact ucells_at (by omega) | exact icells_at (by omega) | exact tcells_at (by omega) | exact bcells_get (by omega) | exact icells_get (by omega) | exact tcells_get (by omega) | exact ucells_get (by omega)) | exact cell_old (by assumption) (by simp [fps]))) ?_
          refine vl_val rfl (.some rfl) (by first | exact val_fieldAddr Try.runUnderlying62 rfl Try.sizeOf9 rfl | exact val_fieldAddrR Try.runUnderlying62 rfl Try.sizeOf9 rfl) ?_
          refine vl_val rfl (.some rfl) (val_load Try.isAgg9 rfl (by first | exact cell_cells (by repeat constructor) rfl | exact cell_rd (by first | exact rd_sl (by repeat constructor) | exact rd_old (by assumption) rfl) (by first | exact bcells_at (by omega) | exact ucells_at (by omega) | exact icells_at (by omega) | exact tcells_at (by omega) | exact bcells_get (by omega) | exact icells_get (by omega) | exact tcells_get (by omega) | exact ucells_get (by omega)) | exact cell_old (by assumption) (by simp [fps]))) ?_
          refine vl_callV rfl rfl (.some rfl) Try.call83 rfl (fun w hw => sCompare _ _ w) ?_
          refine vl_val rfl (.some rfl) (val_assign rfl) ?_
          refine vl_nil ?_
          refine vc_ret ?_
          refine ⟨_, [], _, res1 Try.results47 rfl, .nil, ?_⟩
          show _ = _; unfold cmpV; rw [if_neg heq, if_neg hc1, if_neg hc2, if_pos hc3]
        · (try replace hc3 := of_decide_eq_false hc3)
          refine vc_skip ?_
          refine vc_seq ?_
          refine vc_region ?_
          refine vl_val rfl (.some rfl) (by first | exact val_fieldAddr Try.runUnderlying62 rfl Try.sizeOf3 rfl | exact val_fieldAddrR Try.runUnderlying62 rfl Try.sizeOf3 rfl) ?_
          refine vl_val rfl (.some rfl) (val_load Try.isAgg3 rfl (by first | exact cell_cells (by repeat constructor) rfl | exact cell_rd (by first | exact rd_sl (by repeat constructor) | exact rd_old (by assumption) rfl) (by first | exact bcells_at (by omega) | exact ucells_at (by omega) | exact icells_at (by omega) | exact tcells_at (by omega) | exact bcells_get (by omega) | exact icells_get (by omega) | exact tcells_get (by omega) | exact ucells_get (by omega)) | exact cell_old (by assumption) (by simp [fps]))) ?_
          refine vl_val rfl (.some rfl) (by first | exact val_fieldAddr Try.runUnderlying62 rfl Try.sizeOf3 rfl | exact val_fieldAddrR Try.runUnderlying62 rfl Try.sizeOf3 rfl) ?_
          refine vl_val rfl (.some rfl) (val_load Try.isAgg3 rfl (by first | exact cell_cells (by repeat constructor) rfl | exact cell_rd (by first | exact rd_sl (by repeat constructor) | exact rd_old (by assumption) rfl) (by first | exact bcells_at (by omega) | exact ucells_at (by omega) | exact icells_at (by omega) | exact tcells_at (by omega) | exact bcells_get (by omega) | exact icells_get (by omega) | exact tcells_get (by omega) | exact ucells_get (by omega)) | exact cell_old (by assumption) (by simp [fps]))) ?_
          refine vl_callV rfl rfl (.some rfl) Try.call81 rfl (fun w hw => cCompare _ _ w) ?_
          refine vl_val rfl (.some rfl) (val_assign rfl) ?_
          refine vl_nil ?_
          refine vc_ret ?_
          refine ⟨_, [], _, res1 Try.results47 rfl, .nil, ?_⟩
          show _ = _; unfold cmpV; rw [if_neg heq, if_neg hc1, if_neg hc2, if_neg hc3]
abbrev RC (r : Nat) (kd : Int) (A : Option Addr) (n c : Nat) : Chunk := cells r [.int .i64 kd, .slice A n c] 55
theorem val_eqv {X : Cx} {E : Env} {H : List Chunk} {op : Op} {ty : TypeId} {v v' : Value} (h : v = v') (hv : Val X E H op ty v) : Val X E H op ty v' := h ▸ hv
theorem ints_val {x : Vk} {ks : List Vk} {ns : List Int} : ∃ a : Int, kval x ks (ns.map (Value.int .i64)) (.int .i64 0) = .int .i64 a := by
  unfold kval
  cases h : kfind x ks (ns.map (Value.int .i64)) 0 with
  | none => exact ⟨0, rfl⟩
  | some p =>
    have := (kfind_at _ _ _ _ h).2.2
    rw [List.getElem?_map] at this
    cases e : ns[p.1 - 0]? with
    | none => rw [e] at this; cases this
    | some a => rw [e] at this; simp at this; exact ⟨a, this.symm⟩
theorem kfind_mem {x : Vk} : ∀ {ks : List Vk} {vs : List Value} {i : Nat}, ks.length = vs.length → ((kfind x ks vs i).isSome = true ↔ x ∈ ks)
  | [], [], _, _ => by simp [kfind]
  | [], _ :: _, _, h => by simp at h
  | _ :: _, [], _, h => by simp at h
  | k :: ks, v :: vs, i, h => by
    unfold kfind
    by_cases e : x = k
    · simp [e]
    · rw [if_neg e, kfind_mem (by simpa using h)]; simp [e]
theorem kmore_is {x : Vk} {ks : List Vk} {ns : List Int} (h : ks.length = ns.length) : kmore x ks (ns.map (Value.int .i64)) = (if x ∈ ks then ks else ks ++ [x]) := by
  unfold kmore
  have := kfind_mem (x := x) (i := 0) (show ks.length = (ns.map (Value.int .i64)).length by simpa using h)
  by_cases hm : x ∈ ks
  · rw [if_pos (this.2 hm), if_pos hm]
  · rw [if_neg (fun h' => hm (this.1 h')), if_neg hm]
theorem vmore_is {x : Vk} {ks : List Vk} {ns : List Int} : ∃ ms : List Int, vmore x ks (ns.map (Value.int .i64)) (.int .i64 0) = ms.map (Value.int .i64) ∧ (ks.length = ns.length → ms.length = (kmore x ks (ns.map (Value.int .i64))).length) := by
  unfold vmore kmore
  split
  · exact ⟨ns, rfl, fun h => h.symm⟩
  · exact ⟨ns ++ [0], by simp, fun h => by simp [h]⟩
theorem kpos_lt {x : Vk} {ks : List Vk} {ns : List Int} (h : ks.length = ns.length) : kpos x ks (ns.map (Value.int .i64)) < (kmore x ks (ns.map (Value.int .i64))).length := by
  unfold kpos kmore
  cases e : kfind x ks (ns.map (Value.int .i64)) 0 with
  | none => simp
  | some p =>
    have := (kfind_at _ _ _ _ e).2.1
    have := (List.getElem?_eq_some_iff.1 this).1
    simpa using this
theorem kval_more {x : Vk} {ks : List Vk} {ns : List Int} (h : ks.length = ns.length) : kval x (kmore x ks (ns.map (Value.int .i64))) (vmore x ks (ns.map (Value.int .i64)) (.int .i64 0)) (.int .i64 0) = kval x ks (ns.map (Value.int .i64)) (.int .i64 0) := by
  unfold kmore vmore
  by_cases hs : (kfind x ks (ns.map (Value.int .i64)) 0).isSome = true
  · rw [if_pos hs, if_pos hs]
  · rw [if_neg hs, if_neg hs]
    have hn : kfind x ks (ns.map (Value.int .i64)) 0 = none := by simpa using hs
    have : ∀ (ks : List Vk) (vs : List Value) (i : Nat), ks.length = vs.length → kfind x ks vs i = none → kfind x (ks ++ [x]) (vs ++ [.int .i64 0]) i = some (i + ks.length, .int .i64 0) := by
      intro ks
      induction ks with
      | nil => intro vs i hl _; cases vs with
        | nil => simp [kfind]
        | cons => simp at hl
      | cons k ks ih => intro vs i hl hk; cases vs with
        | nil => simp at hl
        | cons v vs =>
          simp only [List.cons_append]
          unfold kfind at hk ⊢
          split at hk
          · cases hk
          · rename_i e
            rw [if_neg e, ih vs (i + 1) (by simpa using hl) hk]
            simp; omega
    unfold kval
    rw [this _ _ 0 (by simpa using h) hn, hn]
theorem set_ints {ms : List Int} {i : Nat} {a : Int} : (ms.map (Value.int .i64)).set i (.int .i64 a) = (ms.set i a).map (Value.int .i64) := by simp

def newsT (kd : Int) (S : List Vk) : List Vk → List Vk → List Vk
  | [], acc => acc
  | p :: us, acc => if p ∈ S ∨ takesB kd p = false ∨ p ∈ acc then newsT kd S us acc else newsT kd S us (acc ++ [p])
theorem newsT_cons {kd : Int} {S us acc : List Vk} {p : Vk} : newsT kd S (p :: us) acc = if p ∈ S ∨ takesB kd p = false ∨ p ∈ acc then newsT kd S us acc else newsT kd S us (acc ++ [p]) := rfl
theorem newsT_app {kd : Int} {S : List Vk} : ∀ (us us' acc : List Vk), newsT kd S (us ++ us') acc = newsT kd S us' (newsT kd S us acc)
  | [], us', acc => rfl
  | q :: us, us', acc => by
    rw [List.cons_append, newsT_cons, newsT_cons]
    split
    · exact newsT_app us us' acc
    · exact newsT_app us us' _
theorem newsT_snoc {kd : Int} {S : List Vk} (us acc : List Vk) (p : Vk) : newsT kd S (us ++ [p]) acc = if p ∈ S ∨ takesB kd p = false ∨ p ∈ newsT kd S us acc then newsT kd S us acc else newsT kd S us acc ++ [p] := by
  rw [newsT_app]
  rfl
theorem newsT_ge {kd : Int} {S : List Vk} : ∀ (us acc : List Vk), acc.length ≤ (newsT kd S us acc).length ∧ (newsT kd S us acc).length ≤ acc.length + us.length
  | [], acc => by simp [newsT]
  | q :: us, acc => by
    unfold newsT
    split
    · have := newsT_ge (kd := kd) (S := S) us acc; simp only [List.length_cons]; omega
    · have := newsT_ge (kd := kd) (S := S) us (acc ++ [q]); simp only [List.length_append, List.length_cons, List.length_nil] at this ⊢; omega
def roomT (kd : Int) (vs us : List Vk) : Bool := decide (vs.length + (newsT kd vs us []).length ≤ 512)
theorem take_snoc {us : List Vk} {i : Nat} {p : Vk} (h : i < us.length) (hp : us.getD i z3 = p) : us.take (i + 1) = us.take i ++ [p] := by
  rw [List.take_add_one, ← hp]; simp [List.getD, List.getElem?_eq_getElem h]

theorem dadd_news {kd : Int} {vs us xs : List Vk} {p : Vk} (hx : xs = vs ++ newsT kd vs us []) (hl : xs.length ≤ 512) :
    ((dadd kd xs p).1.2 = 7 → 512 < vs.length + (newsT kd vs (us ++ [p]) []).length) ∧ ((dadd kd xs p).1.2 ≠ 7 → (dadd kd xs p).2 = vs ++ newsT kd vs (us ++ [p]) [] ∧ (dadd kd xs p).2.length ≤ 512) := by
  have hlen : xs.length = vs.length + (newsT kd vs us []).length := by rw [hx, List.length_append]
  have hmem : p ∈ xs ↔ p ∈ vs ∨ p ∈ newsT kd vs us [] := by rw [hx, List.mem_append]
  rw [newsT_snoc]
  by_cases ht : takesB kd p = false
  · have e : dadd kd xs p = ((0, 12), xs) := by unfold dadd; rw [if_pos ht]
    rw [e, if_pos (.inr (.inl ht))]
    exact ⟨fun h => by simp at h, fun _ => ⟨hx, hl⟩⟩
  · by_cases hm : p ∈ xs
    · have e : dadd kd xs p = ((((xs.idxOf p : Nat) : Int), 0), xs) := by unfold dadd; rw [if_neg ht, if_pos hm]
      rw [e, if_pos (by rcases hmem.1 hm with h | h; exact .inl h; exact .inr (.inr h))]
      exact ⟨fun h => by simp at h, fun _ => ⟨hx, hl⟩⟩
    · have hne : ¬ (p ∈ vs ∨ takesB kd p = false ∨ p ∈ newsT kd vs us []) := by
        intro h; rcases h with h | h | h; exact hm (hmem.2 (.inl h)); exact ht h; exact hm (hmem.2 (.inr h))
      by_cases hb : 512 ≤ xs.length
      · have e : dadd kd xs p = ((0, 7), xs) := by unfold dadd; rw [if_neg ht, if_neg hm, if_pos hb]
        rw [e, if_neg hne]
        exact ⟨fun _ => by simp only [List.length_append, List.length_cons, List.length_nil]; omega, fun h => by simp at h⟩
      · have e : dadd kd xs p = ((((xs.length : Nat) : Int), 0), xs ++ [p]) := by unfold dadd; rw [if_neg ht, if_neg hm, if_neg hb]
        rw [e, if_neg hne]
        exact ⟨fun h => by simp at h, fun _ => ⟨by rw [hx, List.append_assoc], by simp only [List.length_append, List.length_cons, List.length_nil]; omega⟩⟩

set_option maxRecDepth 20000 in
theorem xNew (kd : Int) (h1 : 1 ≤ kd) (h2 : kd ≤ 4) (w : World) : Fn Try.prog 25 [.int .i64 kd] [] (ret fun u H' => ∃ r, u = .pointer (some ⟨r, 0, none⟩) ∧ H' = [RC r kd none 0 0, DS none 0 []]) w := by
  refine fn_enter Try.func25 rfl Try.ntmps25 rfl ?_
  refine vc_seq ?_
  refine vc_region ?_
  refine vl_val rfl (.some rfl) (val_assign rfl) ?_
  refine vl_nil ?_
  refine vc_seq ?_
  refine vc_seq ?_
  refine vc_region ?_
  refine vl_val rfl (.some rfl) (val_move rfl) ?_
  refine vl_val rfl (.some rfl) (val_lt rfl rfl) ?_
  refine vl_val rfl (.some rfl) (val_move rfl) ?_
  refine vl_split (t := 5) rfl (fun hg5 => ?_) (fun hg5 => ?_)
  · (try replace hg5 := of_decide_eq_true hg5)
    exfalso
    omega
  · (try replace hg5 := of_decide_eq_false hg5)
    refine vl_on rfl rfl rfl rfl ?_
    refine vl_val rfl (.some rfl) (val_move rfl) ?_
    refine vl_on rfl rfl rfl rfl ?_
    refine vl_val rfl (.some rfl) (val_gt rfl rfl) ?_
    refine vl_val rfl (.some rfl) (val_pick rfl rfl) ?_
    refine vl_nil ?_
    refine vc_cond rfl (fun hc0 => False.elim (by (try replace hc0 := of_decide_eq_true hc0); omega)) (fun hc0 => ?_)
    (try replace hc0 := of_decide_eq_false hc0)
    refine vc_skip ?_
    refine vc_seq ?_
    refine vc_region ?_
    refine vl_val rfl (.some rfl) (val_move rfl) ?_
    refine vl_val rfl (.some rfl) (val_buildSt (pl := #[(0, 1), (1, 1)]) (cs := #[.int .i64 kd, .slice none 0 0]) Try.runUnderlying55 Try.zeroValue55 (fun w => by kernel_rfl) rfl rfl) ?_
    refine vl_box rfl rfl (.some rfl) rfl (fun r11 => ?_)
    refine vl_val rfl (.some rfl) (val_assign rfl) ?_
    refine vl_nilSl 62 3 ?_
    refine vl_nil ?_
    refine vc_ret ?_
    refine ⟨_, [RC r11 kd none 0 0, DS none 0 []], _, res1 Try.results25 rfl, (by repeat constructor), ?_⟩
    exact ⟨r11, rfl, rfl⟩
set_option maxRecDepth 20000 in
theorem xNewBad (kd : Int) (h : ¬ (1 ≤ kd ∧ kd ≤ 4)) (w : World) : FnV Try.prog 25 [.int .i64 kd] (.pointer none) w := by
  refine fn_enter Try.func25 rfl Try.ntmps25 rfl ?_
  refine vc_seq ?_
  refine vc_region ?_
  refine vl_val rfl (.some rfl) (val_assign rfl) ?_
  refine vl_nil ?_
  refine vc_seq ?_
  refine vc_seq ?_
  refine vc_region ?_
  refine vl_val rfl (.some rfl) (val_move rfl) ?_
  refine vl_val rfl (.some rfl) (val_lt rfl rfl) ?_
  refine vl_val rfl (.some rfl) (val_move rfl) ?_
  refine vl_split (t := 5) rfl (fun hg5 => ?_) (fun hg5 => ?_)
  · (try replace hg5 := of_decide_eq_true hg5)
    refine vl_off rfl rfl rfl rfl (.some rfl) ?_
    refine vl_off rfl rfl rfl rfl (.some rfl) ?_
    refine vl_val rfl (.some rfl) (val_pick rfl rfl) ?_
    refine vl_nil ?_
    refine vc_cond rfl (fun _ => ?_) (fun h => by cases h)
    refine vc_seq ?_
    refine vc_region ?_
    refine vl_val rfl (.some rfl) (val_assign rfl) ?_
    refine vl_nil ?_
    refine vc_ret ?_
    refine ⟨_, [], _, res1 Try.results25 rfl, .nil, ?_⟩
    rfl
  · (try replace hg5 := of_decide_eq_false hg5)
    refine vl_on rfl rfl rfl rfl ?_
    refine vl_val rfl (.some rfl) (val_move rfl) ?_
    refine vl_on rfl rfl rfl rfl ?_
    refine vl_val rfl (.some rfl) (val_gt rfl rfl) ?_
    refine vl_val rfl (.some rfl) (val_pick rfl rfl) ?_
    refine vl_nil ?_
    refine vc_cond rfl (fun hc0 => ?_) (fun hc0 => False.elim (by (try replace hc0 := of_decide_eq_false hc0); omega))
    (try replace hc0 := of_decide_eq_true hc0)
    refine vc_seq ?_
    refine vc_region ?_
    refine vl_val rfl (.some rfl) (val_assign rfl) ?_
    refine vl_nil ?_
    refine vc_ret ?_
    refine ⟨_, [], _, res1 Try.results25 rfl, .nil, ?_⟩
    rfl
set_option maxRecDepth 20000 in
set_option maxHeartbeats 1000000 in
theorem dRoomT (r m : Nat) (kd : Int) (A : Option Addr) (c : Nat) (vs : List Vk) (hvs : vs.length ≤ 512) (L : Option Addr) (cl : Nat) (us : List Vk) (hus : us.length ≤ 4611686018427387904) (w : World) (hL : ReadsM w (fps [DC r m kd A vs.length c, DM m vs]) L (flat us)) : FnR Try.prog 58 [.pointer (some ⟨r, 0, none⟩), .slice L us.length cl] [DC r m kd A vs.length c, DM m vs] (.bool (roomT kd vs us)) w := by
  refine fn_enter Try.func58 rfl Try.ntmps58 rfl ?_
  refine vc_seq ?_
  refine vc_region ?_
  refine vl_val rfl (.some rfl) (val_assign rfl) ?_
  refine vl_nil ?_
  refine vc_seq ?_
  refine vc_seq ?_
  refine vc_region ?_
  refine vl_val rfl (.some rfl) (val_move rfl) ?_
  refine vl_callR [DC r m kd A vs.length c] rfl rfl (.some rfl) Try.call40 rfl (by repeat constructor) (fun w hw => dMade r m kd A vs.length c w) ?_
  refine vl_val rfl (.some rfl) (val_not rfl) ?_
  refine vl_nil ?_
  refine vc_cond rfl (fun h => by cases h) (fun _ => ?_)
  refine vc_skip ?_
  refine vc_seq ?_
  refine vc_region ?_
  refine vl_makeMap vk rfl rfl (.some rfl) (fun r13 => ?_)
  refine vl_val rfl (.some rfl) (val_assign rfl) ?_
  refine vl_nil ?_
  refine vc_seq ?_
  refine vc_seq ?_
  refine vc_region ?_
  refine vl_val rfl (.some rfl) (val_move rfl) ?_
  refine vl_val rfl (.some rfl) (val_lenSl Try.runUnderlying53 rfl) ?_
  refine vl_val rfl (.some rfl) (val_move rfl) ?_
  refine vl_nil ?_
  refine vc_block ?_
  refine vc_loopw (fun k E H => ∃ (i : Nat) (ks : List Vk) (ns : List Int), i ≤ us.length ∧ k = us.length - i ∧ ks = newsT kd vs (us.take i) [] ∧ ks.length = ns.length ∧ E = [(0, .pointer (some ⟨r, 0, none⟩)), (5, .map (some r13)), (14, .slice L us.length cl), (15, .int .i64 us.length), (16, .int .i64 i)] ∧ H = [DC r m kd A vs.length c, DM m vs, mp vk r13 ks (ns.map (Value.int .i64))]) (us.length) ⟨_, _, _, ⟨0, [], [], by omega, rfl, rfl, rfl, rfl, rfl⟩, (by repeat (first | exact trivial | refine ⟨rfl, ?_⟩ | refine ⟨le_item rfl (by first | rfl | (congr 1; omega) | (simp; done) | (simp; omega)), ?_⟩)), (by repeat constructor)⟩ ?_
  intro k E H hI
  obtain ⟨i, ks, ns, hi, rfl, hks0, hks, rfl, rfl⟩ := hI
  refine vc_seq ?_
  refine vc_region ?_
  refine vl_val rfl (.some rfl) (val_lt rfl rfl) ?_
  refine vl_nil ?_
  refine vc_seq ?_
  refine vc_cond rfl (fun hc1 => ?_) (fun hc1 => ?_)
  · (try replace hc1 := of_decide_eq_true hc1)
    have hf := flat_at us i (by omega)
    obtain ⟨p, hp⟩ : ∃ p, us.getD i z3 = p := ⟨_, rfl⟩
    rw [hp] at hf
    have htake := take_snoc (us := us) (i := i) (p := p) (by omega) hp
    refine vc_skip ?_
    refine vc_seq ?_
    refine vc_block ?_
    refine vc_seq ?_
    refine vc_region ?_
    refine vl_val rfl (.some rfl) (val_indexAddr Try.runUnderlying53 Try.sizeOf62 rfl rfl (rd_oldM hL) (by omega) (by omega) (by rw [vflat_len]; omega)) ?_
    refine vl_val rfl (.some rfl) (val_loadAgg Try.isAgg62 Try.sizeOf62 rfl (rd_part (us := [.int .i64 p.k, .int .i64 p.n, .string p.s]) (rd_oldM hL) hf) rfl) ?_
    refine vl_alloc rfl rfl (.some rfl) Try.zeroValue62 (fun r7 => ?_)
    first | refine vl_store rfl rfl .none rfl rfl Try.sizeOf62 rfl (by repeat constructor) (by first | decide | exact Nat.le_refl _ | exact Nat.le_of_ble_eq_true rfl | (simp; omega)) ?_ | refine vl_storeSl rfl rfl .none rfl rfl Try.sizeOf62 rfl (by simp [Value.cells]) (by repeat constructor) (by first | decide | (simp [Value.cells]; omega)) ?_
    refine vl_nil ?_
    refine vc_seq ?_
    refine vc_draws [0, 1, 2, 3, 4, 5, 6, 7, 8, 9, 10] [] [0, 1, 2, 3, 4, 5, 6, 7, 8, 9, 10] rfl (by kernel_rfl) (fun _ _ _ h => h) ?_
    refine vd_val rfl rfl rfl (.some rfl) (val_move rfl) ?_
    refine vd_val rfl rfl rfl (.some rfl) (val_nil rfl rfl) ?_
    refine vd_val rfl rfl rfl (.some rfl) (by first | exact val_fieldAddr Try.runUnderlying103 rfl Try.sizeOf101 rfl | exact val_fieldAddrR Try.runUnderlying103 rfl Try.sizeOf101 rfl) ?_
    refine vd_val rfl rfl rfl (.some rfl) (val_load Try.isAgg101 rfl (by first | exact cell_cells (by repeat constructor) rfl | exact cell_rd (by first | exact rd_sl (by repeat constructor) | exact rd_old (by assumption) rfl) (by first | exact bcells_at (by omega) | exact ucells_at (by omega) | exact icells_at (by omega) | exact tcells_at (by omega) | exact bcells_get (by omega) | exact icells_get (by omega) | exact tcells_get (by omega) | exact ucells_get (by omega)) | exact cell_old (by assumption) (by simp [fps]))) ?_
    refine vd_val rfl rfl rfl (.some rfl) (val_loadAgg Try.isAgg62 Try.sizeOf62 rfl (by first | exact cells_whole (by repeat constructor) | exact cells_part (by repeat constructor) rfl) rfl) ?_
    refine vd_val rfl rfl rfl (.some rfl) (val_lookupIds (k := p) kT rfl rfl (by repeat constructor)) ?_
    refine vd_val rfl rfl rfl (.some rfl) (val_move rfl) ?_
    refine vd_val rfl rfl rfl (.some rfl) (val_extract rfl rfl) ?_
    refine vd_val rfl rfl rfl (.some rfl) (val_extract rfl rfl) ?_
    refine vd_val rfl rfl rfl (.some rfl) (val_assign rfl) ?_
    refine vd_val rfl rfl rfl (.some rfl) (val_assign rfl) ?_
    refine vd_nil ?_
    refine vc_seq ?_
    refine vc_region ?_
    refine vl_val rfl (.some rfl) (val_move rfl) ?_
    refine vl_val rfl (.some rfl) (val_not rfl) ?_
    refine vl_val rfl (.some rfl) (val_move rfl) ?_
    refine vl_split (t := 31) rfl (fun hg31 => ?_) (fun hg31 => ?_)
    · (try replace hg31 := of_decide_eq_true hg31)
      have hout : p ∉ vs := by simpa using hg31
      refine vl_on rfl rfl rfl rfl ?_
      refine vl_val rfl (.some rfl) (val_move rfl) ?_
      refine vl_on rfl rfl rfl rfl ?_
      refine vl_val rfl (.some rfl) (val_loadAgg Try.isAgg62 Try.sizeOf62 rfl (by first | exact cells_whole (by repeat constructor) | exact cells_part (by repeat constructor) rfl) rfl) ?_
      refine vl_on rfl rfl rfl rfl ?_
      refine vl_callR [DC r m kd A vs.length c] rfl rfl (.some rfl) Try.call66 rfl (by repeat constructor) (fun w hw => dTakes r m kd A vs.length c p w) ?_
      refine vl_val rfl (.some rfl) (val_pick rfl rfl) ?_
      refine vl_nil ?_
      refine vc_cond rfl (fun hc2 => ?_) (fun hc2 => ?_)
      · (try replace hc2 := of_decide_eq_true hc2)
        
        obtain ⟨x, hx⟩ := ints_val (x := p) (ks := ks) (ns := ns)
        have hx2 := (kval_more (x := p) hks).trans hx
        obtain ⟨ms, hms, hml⟩ := vmore_is (x := p) (ks := ks) (ns := ns)
        refine vc_draws2 [0, 1, 2, 3] [6] [0, 1, 2, 3, 4, 5, 6] (fun w' => Holds w (fps [DC r m kd A vs.length c, DM m vs]) [cells r7 [.int .i64 p.k, .int .i64 p.n, .string p.s] 62, DC r m kd A vs.length c, DM m vs, mp vk r13 ks (ns.map (Value.int .i64))] w' ∨ Holds w (fps [DC r m kd A vs.length c, DM m vs]) [cells r7 [.int .i64 p.k, .int .i64 p.n, .string p.s] 62, DC r m kd A vs.length c, DM m vs, mp vk r13 (kmore p ks (ns.map (Value.int .i64))) (vmore p ks (ns.map (Value.int .i64)) (.int .i64 0))] w') (fun w' h => .inl h) rfl (by kernel_rfl) (fun _ _ _ h => h) ?_
        refine vd2_val rfl rfl rfl (.some rfl) (val_move rfl) (val_move rfl) ?_
        refine vd2_val (v := vk p) rfl rfl rfl (.some rfl) (val_loadAgg Try.isAgg62 Try.sizeOf62 rfl (cells_whole .head) rfl) (val_loadAgg Try.isAgg62 Try.sizeOf62 rfl (cells_whole .head) rfl) ?_
        refine vd2_val (v := .int .i64 x) rfl rfl rfl (.some rfl) (val_eqv hx (val_lookup (k := p) kT rfl rfl (by repeat constructor))) (val_eqv hx2 (val_lookup (k := p) kT rfl rfl (by repeat constructor))) ?_
        refine vd2_val rfl rfl rfl (.some rfl) (val_add rfl rfl rfl) (val_add rfl rfl rfl) ?_
        refine vd2_op rfl rfl ?_
        refine vl_mapEntry (k := p) kT rfl rfl (.some rfl) rfl rfl (by repeat constructor) ?_
        refine vl_nil ?_
        refine ⟨fun _ w' h => .inr h, ?_⟩
        refine vd2_op rfl rfl ?_
        refine vl_val rfl (.some rfl) (val_extract rfl rfl) ?_
        refine vl_nil ?_
        refine ⟨fun _ w' h => .inr h, ?_⟩
        refine vd2_op rfl rfl ?_
        refine vl_entryStore (vs := vmore p ks (ns.map (Value.int .i64)) (.int .i64 0)) rfl rfl .none rfl rfl rfl (by rw [hms, List.length_map, hml hks]; exact kpos_lt hks) (by repeat constructor) ?_
        rw [hms, set_ints]
        refine vl_nil ?_
        refine ⟨fun h => (by cases h), ?_⟩
        refine vd2_nil ?_
        have hnext : kmore p ks (ns.map (Value.int .i64)) = newsT kd vs (us.take (i + 1)) [] := by
          rw [kmore_is hks, htake, newsT_snoc, ← hks0]
          by_cases hm : p ∈ ks
          · rw [if_pos hm, if_pos (.inr (.inr hm))]
          · rw [if_neg hm, if_neg (by simp [hout, hm, hc2])]
        have hlnext := hml hks
        rw [← List.length_set (i := kpos p ks (ns.map (Value.int .i64))) (a := IntKind.i64.wrap (x + 1))] at hlnext
        replace hlnext := hlnext.symm
        refine vc_region ?_
        refine vl_val rfl (.some rfl) (val_add rfl rfl (by first | exact w_i64 (by omega) (by omega) | rfl)) ?_
        refine vl_val rfl (.some rfl) (val_move rfl) ?_
        refine vl_nil ?_
        exact ⟨us.length - (i + 1), _, _, _, by omega, (by repeat (first | exact trivial | refine ⟨rfl, ?_⟩ | refine ⟨le_item rfl (by first | rfl | (congr 1; omega) | (simp; done) | (simp; omega)), ?_⟩)), (by repeat constructor), ⟨i + 1, _, _, by omega, rfl, hnext, hlnext, rfl, rfl⟩⟩
      · (try replace hc2 := of_decide_eq_false hc2)
        replace hc2 : takesB kd p = false := by simpa using hc2
        have hnext : ks = newsT kd vs (us.take (i + 1)) [] := by rw [htake, newsT_snoc, if_pos (.inr (.inl hc2)), ← hks0]
        have hlnext := hks
        refine vc_skip ?_
        refine vc_region ?_
        refine vl_val rfl (.some rfl) (val_add rfl rfl (by first | exact w_i64 (by omega) (by omega) | rfl)) ?_
        refine vl_val rfl (.some rfl) (val_move rfl) ?_
        refine vl_nil ?_
        exact ⟨us.length - (i + 1), _, _, _, by omega, (by repeat (first | exact trivial | refine ⟨rfl, ?_⟩ | refine ⟨le_item rfl (by first | rfl | (congr 1; omega) | (simp; done) | (simp; omega)), ?_⟩)), (by repeat constructor), ⟨i + 1, _, _, by omega, rfl, hnext, hlnext, rfl, rfl⟩⟩
    · (try replace hg31 := of_decide_eq_false hg31)
      have hin : p ∈ vs := by simpa using hg31
      have hnext : ks = newsT kd vs (us.take (i + 1)) [] := by rw [htake, newsT_snoc, if_pos (.inl hin), ← hks0]
      have hlnext := hks
      refine vl_off rfl rfl rfl rfl (.some rfl) ?_
      refine vl_off rfl rfl rfl rfl (.some rfl) ?_
      refine vl_off rfl rfl rfl rfl (.some rfl) ?_
      refine vl_val rfl (.some rfl) (val_pick rfl rfl) ?_
      refine vl_nil ?_
      refine vc_cond rfl (fun h => by cases h) (fun _ => ?_)
      refine vc_skip ?_
      refine vc_region ?_
      refine vl_val rfl (.some rfl) (val_add rfl rfl (by first | exact w_i64 (by omega) (by omega) | rfl)) ?_
      refine vl_val rfl (.some rfl) (val_move rfl) ?_
      refine vl_nil ?_
      exact ⟨us.length - (i + 1), _, _, _, by omega, (by repeat (first | exact trivial | refine ⟨rfl, ?_⟩ | refine ⟨le_item rfl (by first | rfl | (congr 1; omega) | (simp; done) | (simp; omega)), ?_⟩)), (by repeat constructor), ⟨i + 1, _, _, by omega, rfl, hnext, hlnext, rfl, rfl⟩⟩
  · (try replace hc1 := of_decide_eq_false hc1)
    obtain rfl : i = us.length := by omega
    rw [List.take_length] at hks0
    have hkl := congrArg List.length hks0
    have hfl := newsT_ge (kd := kd) (S := vs) us []
    simp only [List.length_nil, Nat.zero_add] at hfl
    refine vc_exit ?_
    refine vc_seq ?_
    refine vc_draws [0, 1, 2, 3, 4, 5, 6, 7, 8, 9] [] [0, 1, 2, 3, 4, 5, 6, 7, 8, 9] rfl (by kernel_rfl) (fun _ _ _ h => h) ?_
    refine vd_val rfl rfl rfl (.some rfl) (val_move rfl) ?_
    refine vd_val rfl rfl rfl (.some rfl) (val_nil rfl rfl) ?_
    refine vd_val rfl rfl rfl (.some rfl) (by first | exact val_fieldAddr Try.runUnderlying103 rfl Try.sizeOf53 rfl | exact val_fieldAddrR Try.runUnderlying103 rfl Try.sizeOf53 rfl) ?_
    refine vd_val rfl rfl rfl (.some rfl) (val_load Try.isAgg53 rfl (by first | exact cell_cells (by repeat constructor) rfl | exact cell_rd (by first | exact rd_sl (by repeat constructor) | exact rd_old (by assumption) rfl) (by first | exact bcells_at (by omega) | exact ucells_at (by omega) | exact icells_at (by omega) | exact tcells_at (by omega) | exact bcells_get (by omega) | exact icells_get (by omega) | exact tcells_get (by omega) | exact ucells_get (by omega)) | exact cell_old (by assumption) (by simp [fps]))) ?_
    refine vd_val rfl rfl rfl (.some rfl) (val_lenSl Try.runUnderlying53 rfl) ?_
    refine vd_val rfl rfl rfl (.some rfl) (val_move rfl) ?_
    refine vd_val rfl rfl rfl (.some rfl) (val_lenMap Try.runUnderlying101 rfl (by repeat constructor)) ?_
    refine vd_val rfl rfl rfl (.some rfl) (val_add rfl rfl (by first | exact w_i64 (by omega) (by omega) | rfl)) ?_
    refine vd_val rfl rfl rfl (.some rfl) (val_le rfl rfl) ?_
    refine vd_val rfl rfl rfl (.some rfl) (val_assign rfl) ?_
    refine vd_nil ?_
    refine vc_ret ?_
    refine ⟨_, [DC r m kd A vs.length c, DM m vs], _, res1 Try.results58 rfl, (by repeat constructor), ?_⟩
    refine ⟨?_, rfl⟩
    unfold roomT
    congr 1
    rw [decide_eq_decide]
    omega
end Go.Proofs.Ytdehjgpdcdjhjaa.K
