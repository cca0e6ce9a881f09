/- Walks of the program's functions, printed by a program of this session; Lean checks them. -/
import Derived.Test.YtclnhfdgiaamhaaMm
import Derived.Test.YtclnhfdgiaamhaaYrg
namespace Go.Proofs.Ytclnhfdgiaamhaa.K
open Go Go.RowKit Go.Proofs
set_option linter.unusedVariables false
set_option linter.unusedSimpArgs false


abbrev wrong13V : Value := .iface 114 (.agg #[])
abbrev wrong13 : List PanicEntry := [{ v := wrong13V, recovered := false }]
abbrev RC (r : Nat) (A : Option Addr) (n c : Nat) : Chunk := cells r [.slice A n c] 117
/-- What reading does: a value and the rest of the bytes, or a panic. -/
def rdR {α : Type} (r : Nat) (A : Option Addr) (b : Tx) (res : Option (α × Tx)) (val : α → Value) : Ending → List Chunk → Prop := fun e H' => match res with
  | some p => ∃ A2 c2, e = .returned (val p.1) ∧ Sfx A b A2 c2 p.2 ∧ H' = [RC r A2 p.2.length c2]
  | none => e = .panicked wrong13
theorem rdR_some {α : Type} {r : Nat} {A : Option Addr} {b : Tx} {res : Option (α × Tx)} {val : α → Value} {p : α × Tx} {A2 : Option Addr} {c2 : Nat} (h : res = some p) (hS : Sfx A b A2 c2 p.2) : rdR r A b res val (.returned (val p.1)) [RC r A2 p.2.length c2] := by
  rw [h]; exact ⟨A2, c2, rfl, hS, rfl⟩
theorem rdR_none {α : Type} {r : Nat} {A : Option Addr} {b : Tx} {res : Option (α × Tx)} {val : α → Value} {H' : List Chunk} (h : res = none) : rdR r A b res val (.panicked wrong13) H' := by
  rw [h]; rfl
theorem vl_callRd {α : Type} {X : Cx} {Q : Post} {E : Env} {H F : List Chunk} {ops : Array Oper} {rest : List Oper} {fE : Value → Env} {o : Oper} {f : FuncId} {xs : Array Operand} {ats : Array TypeId} {r : Nat} {A : Option Addr} {b : Tx} {c : Nat} {res : Option (α × Tx)} {val : α → Value}
    (ho : o.op = .call { callee := .value (.func f), args := xs, argTypes := ats }) (hg : o.guard = none) (hd : DstF X E o.dst fE) (hc : ∀ args w, (callFunc f args).run X.P w = .ok (.enter f args) w) (hx : E.evs xs.toList = some [.pointer (some ⟨r, 0, none⟩)]) (hs : Sub [RC r A b.length c] H F)
    (hf : ∀ w, Holds X.w0 X.M H w → Fn X.P f [.pointer (some ⟨r, 0, none⟩)] [RC r A b.length c] (rdR r A b res val) w)
    (h : ∀ p A2 c2, res = some p → Sfx A b A2 c2 p.2 → VL X ops rest Q (fE (val p.1)) (RC r A2 p.2.length c2 :: F))
    (hp : res = none → ∀ H', Q (.panic wrong13) E (H' ++ F)) : VL X ops (o :: rest) Q E H := by
  refine vl_callA (run_call ho hc hx) hg hd hs hf (fun v H' hh => ?_) (fun ch H' hh => ?_) (fun H' hh => ?_)
  · cases res with
    | none => cases hh
    | some p =>
      obtain ⟨A2, c2, e, hS, rfl⟩ := hh
      cases e
      exact h p A2 c2 rfl hS
  · cases res with
    | none =>
      cases hh
      exact hp rfl H'
    | some p =>
      obtain ⟨A2, c2, e, _⟩ := hh
      cases e
  · cases res with
    | none => cases hh
    | some p =>
      obtain ⟨A2, c2, e, _⟩ := hh
      cases e
theorem readsM_takeB {w : World} {M : List Nat} {A : Option Addr} {b : Tx} (h : ReadsM w M A (bcells b)) (n : Nat) : ReadsM w M A (bcells (b.take n)) := by
  intro j u hu
  refine h j u ?_
  rw [bcells_take, List.getElem?_take] at hu
  split at hu
  · exact hu
  · cases hu
theorem w_i64N {u : Nat} (h : u < 18446744073709551616) : IntKind.i64.wrap (u : Int) = i64N u := by
  unfold i64N IntKind.wrap
  simp [IntKind.signed, IntKind.bits]
  split <;> omega
theorem rNum_is {b : Tx} {p : Nat × Tx} (h : rNum b = some p) : p.1 < 18446744073709551616 ∧ p.2.length ≤ b.length := by
  unfold rNum at h
  have hb := getN_bd b
  split at h
  · cases h
  · cases h; exact ⟨hb.1, by rw [List.length_drop]; omega⟩
theorem rCnt_is {b : Tx} {p : Nat × Tx} (h : rCnt b = some p) : p.1 ≤ p.2.length ∧ p.2.length ≤ b.length := by
  unfold rCnt at h
  cases hn : rNum b with
  | none => rw [hn] at h; cases h
  | some q =>
    rw [hn] at h
    have h : (if q.2.length < q.1 then none else some q) = some p := h
    split at h
    · cases h
    · cases h; exact ⟨by omega, (rNum_is hn).2⟩
theorem rTx_is {b : Tx} {p : Tx × Tx} (h : rTx b = some p) : p.1.length + p.2.length ≤ b.length := by
  unfold rTx at h
  cases hn : rCnt b with
  | none => rw [hn] at h; cases h
  | some q =>
    rw [hn] at h
    have := rCnt_is hn
    cases h
    rw [List.length_take, List.length_drop]; omega

set_option maxRecDepth 20000 in
theorem pNum (r : Nat) (A : Option Addr) (c : Nat) (b : Tx) (hb : b.length ≤ 1000000000) (hbc : b.length ≤ c) (w : World) (hr : ReadsM w (fps [RC r A b.length c]) A (bcells b)) : Fn Try.prog 60 [.pointer (some ⟨r, 0, none⟩)] [RC r A b.length c] (rdR r A b (rNum b) (fun u : Nat => .int .u64 (u : Int))) w := by
  have hbd := getN_bd b
  refine fn_enter Try.func60 rfl Try.ntmps60 rfl ?_
  refine vc_seq ?_
  refine vc_region ?_
  refine vl_val rfl (.some rfl) (val_assign rfl) ?_
  refine vl_nil ?_
  refine vc_seq ?_
  refine vc_region ?_
  refine vl_val rfl (.some rfl) (val_move rfl) ?_
  refine vl_val rfl (.some rfl) (val_nil rfl rfl) ?_
  refine vl_val rfl (.some rfl) (by first | exact val_fieldAddr Try.runUnderlying117 rfl Try.sizeOf22 rfl | exact val_fieldAddrR Try.runUnderlying117 rfl Try.sizeOf22 rfl) ?_
  refine vl_val rfl (.some rfl) (val_load Try.isAgg22 rfl (by first | exact cell_cells (by repeat constructor) rfl | exact cell_rd (by first | exact rd_sl (by repeat constructor) | exact rd_old (by assumption) rfl) (by first | exact bcells_at (by omega) | exact ucells_at (by omega) | exact icells_at (by omega) | exact tcells_at (by omega) | exact bcells_get (by omega) | exact icells_get (by omega) | exact tcells_get (by omega) | exact ucells_get (by omega)) | exact cell_old (by assumption) (by simp [fps]))) ?_
  refine vl_callV rfl rfl (.some rfl) Try.call109 rfl (fun w' hw => cGet A c b (by omega) w' (rdw (rd_oldM hr) hw)) ?_
  refine vl_val rfl (.some rfl) (val_move rfl) ?_
  refine vl_val rfl (.some rfl) (val_extract rfl rfl) ?_
  refine vl_val rfl (.some rfl) (val_extract rfl rfl) ?_
  refine vl_val rfl (.some rfl) (val_assign rfl) ?_
  refine vl_val rfl (.some rfl) (val_assign rfl) ?_
  refine vl_nil ?_
  refine vc_seq ?_
  refine vc_seq ?_
  refine vc_region ?_
  refine vl_val rfl (.some rfl) (val_move rfl) ?_
  refine vl_val rfl (.some rfl) (val_eq rfl rfl) ?_
  refine vl_nil ?_
  refine vc_cond rfl (fun hc0 => ?_) (fun hc0 => ?_)
  · (try replace hc0 := of_decide_eq_true hc0)
    refine vc_region ?_
    refine vl_val rfl (.some rfl) (val_buildSt (pl := #[]) (cs := #[]) Try.runUnderlying114 Try.zeroValue114 (fun w => by kernel_rfl) rfl rfl) ?_
    refine vl_val rfl (.some rfl) (val_mkIface Try.runUnderlying114 rfl rfl) ?_
    refine vl_panic (fE := fun _ => []) rfl rfl rfl ?_
    exact ⟨[], _, .nil, rdR_none (by unfold rNum; exact if_pos (by omega))⟩
  · (try replace hc0 := of_decide_eq_false hc0)
    refine vc_skip ?_
    refine vc_seq ?_
    refine vc_region ?_
    refine vl_val rfl (.some rfl) (val_move rfl) ?_
    refine vl_val rfl (.some rfl) (val_move rfl) ?_
    refine vl_val rfl (.some rfl) (val_nil rfl rfl) ?_
    refine vl_val rfl (.some rfl) (by first | exact val_fieldAddr Try.runUnderlying117 rfl Try.sizeOf22 rfl | exact val_fieldAddrR Try.runUnderlying117 rfl Try.sizeOf22 rfl) ?_
    refine vl_val rfl (.some rfl) (val_load Try.isAgg22 rfl (by first | exact cell_cells (by repeat constructor) rfl | exact cell_rd (by first | exact rd_sl (by repeat constructor) | exact rd_old (by assumption) rfl) (by first | exact bcells_at (by omega) | exact ucells_at (by omega) | exact icells_at (by omega) | exact tcells_at (by omega) | exact bcells_get (by omega) | exact icells_get (by omega) | exact tcells_get (by omega) | exact ucells_get (by omega)) | exact cell_old (by assumption) (by simp [fps]))) ?_
    refine vl_val rfl (.some rfl) (val_move rfl) ?_
    refine vl_val rfl (.some rfl) (val_cutFrom Try.runUnderlying22 Try.sizeOf5 rfl rfl (by omega) (by omega)) ?_
    refine vl_val rfl (.some rfl) (val_nil rfl rfl) ?_
    refine vl_val rfl (.some rfl) (by first | exact val_fieldAddr Try.runUnderlying117 rfl Try.sizeOf22 rfl | exact val_fieldAddrR Try.runUnderlying117 rfl Try.sizeOf22 rfl) ?_
    first | refine vl_store rfl rfl .none rfl rfl Try.sizeOf22 rfl (by repeat constructor) (by first | decide | exact Nat.le_refl _ | exact Nat.le_of_ble_eq_true rfl | (simp; omega)) ?_ | refine vl_storeSl rfl rfl .none rfl rfl Try.sizeOf22 rfl (by simp [Value.cells]) (by repeat constructor) (by first | decide | (simp [Value.cells]; omega)) ?_
    refine vl_nil ?_
    refine vc_seq ?_
    refine vc_region ?_
    refine vl_val rfl (.some rfl) (val_move rfl) ?_
    refine vl_val rfl (.some rfl) (val_assign rfl) ?_
    refine vl_nil ?_
    refine vc_ret ?_
    rw [Int.toNat_natCast, show b.length - (getN b).2 = (b.drop (getN b).2).length from List.length_drop.symm]
    refine ⟨_, [RC r (cutA A c (getN b).2 1) (b.drop (getN b).2).length (c - (getN b).2)], _, res1 Try.results60 rfl, (by repeat constructor), ?_⟩
    have e : rNum b = some ((getN b).1, b.drop (getN b).2) := by unfold rNum; exact if_neg (by omega)
    exact rdR_some (val := fun u : Nat => .int .u64 (u : Int)) e (Sfx.cut hbc)
set_option maxRecDepth 20000 in
theorem pCnt (r : Nat) (A : Option Addr) (c : Nat) (b : Tx) (hb : b.length ≤ 1000000000) (hbc : b.length ≤ c) (w : World) (hr : ReadsM w (fps [RC r A b.length c]) A (bcells b)) : Fn Try.prog 107 [.pointer (some ⟨r, 0, none⟩)] [RC r A b.length c] (rdR r A b (rCnt b) (fun u : Nat => .int .i64 (u : Int))) w := by
  refine fn_enter Try.func107 rfl Try.ntmps107 rfl ?_
  refine vc_seq ?_
  refine vc_region ?_
  refine vl_val rfl (.some rfl) (val_assign rfl) ?_
  refine vl_nil ?_
  refine vc_seq ?_
  refine vc_region ?_
  refine vl_val rfl (.some rfl) (val_move rfl) ?_
  refine vl_callRd (A := A) (b := b) (c := c) rfl rfl (.some rfl) Try.call60 rfl (by repeat constructor) (fun w' hw => pNum r A c b (by omega) hbc w' (readsM_old (hr) (by repeat constructor) hw)) (fun p1 A1 c1 he1 hS1 => ?_) (fun hn H' => ⟨[], _, .nil, rdR_none (by unfold rCnt; rw [hn]; rfl)⟩)
  obtain ⟨hu1, hl1⟩ := rNum_is he1
  refine vl_val rfl (.some rfl) (val_assign rfl) ?_
  refine vl_nil ?_
  refine vc_seq ?_
  refine vc_seq ?_
  refine vc_region ?_
  refine vl_val rfl (.some rfl) (val_move rfl) ?_
  refine vl_val rfl (.some rfl) (val_move rfl) ?_
  refine vl_val rfl (.some rfl) (val_nil rfl rfl) ?_
  refine vl_val rfl (.some rfl) (by first | exact val_fieldAddr Try.runUnderlying117 rfl Try.sizeOf22 rfl | exact val_fieldAddrR Try.runUnderlying117 rfl Try.sizeOf22 rfl) ?_
  refine vl_val rfl (.some rfl) (val_load Try.isAgg22 rfl (by first | exact cell_cells (by repeat constructor) rfl | exact cell_rd (by first | exact rd_sl (by repeat constructor) | exact rd_old (by assumption) rfl) (by first | exact bcells_at (by omega) | exact ucells_at (by omega) | exact icells_at (by omega) | exact tcells_at (by omega) | exact bcells_get (by omega) | exact icells_get (by omega) | exact tcells_get (by omega) | exact ucells_get (by omega)) | exact cell_old (by assumption) (by simp [fps]))) ?_
  refine vl_val rfl (.some rfl) (val_lenSl Try.runUnderlying22 rfl) ?_
  refine vl_val rfl (.some rfl) (val_convInt Try.runUnderlying3 Try.runUnderlying23 rfl (by first | exact w_u64 (by omega) (by omega) | rfl)) ?_
  refine vl_val rfl (.some rfl) (val_gt rfl rfl) ?_
  refine vl_nil ?_
  refine vc_cond rfl (fun hc0 => ?_) (fun hc0 => ?_)
  · (try replace hc0 := of_decide_eq_true hc0)
    refine vc_region ?_
    refine vl_val rfl (.some rfl) (val_buildSt (pl := #[]) (cs := #[]) Try.runUnderlying114 Try.zeroValue114 (fun w => by kernel_rfl) rfl rfl) ?_
    refine vl_val rfl (.some rfl) (val_mkIface Try.runUnderlying114 rfl rfl) ?_
    refine vl_panic (fE := fun _ => []) rfl rfl rfl ?_
    exact ⟨[], _, .nil, rdR_none (by unfold rCnt; rw [he1]; exact if_pos (by omega))⟩
  · (try replace hc0 := of_decide_eq_false hc0)
    refine vc_skip ?_
    refine vc_seq ?_
    refine vc_region ?_
    refine vl_val rfl (.some rfl) (val_move rfl) ?_
    refine vl_val rfl (.some rfl) (val_convInt Try.runUnderlying23 Try.runUnderlying3 rfl (by first | exact w_i64 (by omega) (by omega) | rfl)) ?_
    refine vl_val rfl (.some rfl) (val_assign rfl) ?_
    refine vl_nil ?_
    refine vc_ret ?_
    refine ⟨_, [RC r A1 p1.2.length c1], _, res1 Try.results107 rfl, (by repeat constructor), ?_⟩
    have e : rCnt b = some p1 := by unfold rCnt; rw [he1]; exact if_neg (by omega)
    exact rdR_some (val := fun u : Nat => .int .i64 (u : Int)) e hS1
set_option maxRecDepth 20000 in
theorem pTxt (r : Nat) (A : Option Addr) (c : Nat) (b : Tx) (hb : b.length ≤ 1000000000) (hbc : b.length ≤ c) (w : World) (hr : ReadsM w (fps [RC r A b.length c]) A (bcells b)) : Fn Try.prog 106 [.pointer (some ⟨r, 0, none⟩)] [RC r A b.length c] (rdR r A b (rTx b) (fun s : Tx => .string (sL s))) w := by
  refine fn_enter Try.func106 rfl Try.ntmps106 rfl ?_
  refine vc_seq ?_
  refine vc_region ?_
  refine vl_val rfl (.some rfl) (val_assign rfl) ?_
  refine vl_nil ?_
  refine vc_seq ?_
  refine vc_region ?_
  refine vl_val rfl (.some rfl) (val_move rfl) ?_
  refine vl_callRd (A := A) (b := b) (c := c) rfl rfl (.some rfl) Try.call107 rfl (by repeat constructor) (fun w' hw => pCnt r A c b (by omega) hbc w' (readsM_old (hr) (by repeat constructor) hw)) (fun p1 A1 c1 he1 hS1 => ?_) (fun hn H' => ⟨[], _, .nil, rdR_none (by unfold rTx; rw [hn]; rfl)⟩)
  obtain ⟨hu1, hl1⟩ := rCnt_is he1
  have hc1 := hS1.cap
  refine vl_val rfl (.some rfl) (val_assign rfl) ?_
  refine vl_nil ?_
  refine vc_seq ?_
  refine vc_region ?_
  refine vl_val rfl (.some rfl) (val_move rfl) ?_
  refine vl_val rfl (.some rfl) (val_nil rfl rfl) ?_
  refine vl_val rfl (.some rfl) (by first | exact val_fieldAddr Try.runUnderlying117 rfl Try.sizeOf22 rfl | exact val_fieldAddrR Try.runUnderlying117 rfl Try.sizeOf22 rfl) ?_
  refine vl_val rfl (.some rfl) (val_load Try.isAgg22 rfl (by first | exact cell_cells (by repeat constructor) rfl | exact cell_rd (by first | exact rd_sl (by repeat constructor) | exact rd_old (by assumption) rfl) (by first | exact bcells_at (by omega) | exact ucells_at (by omega) | exact icells_at (by omega) | exact tcells_at (by omega) | exact bcells_get (by omega) | exact icells_get (by omega) | exact tcells_get (by omega) | exact ucells_get (by omega)) | exact cell_old (by assumption) (by simp [fps]))) ?_
  refine vl_val rfl (.some rfl) (val_move rfl) ?_
  refine vl_val rfl (.some rfl) (val_cutTo Try.runUnderlying22 Try.sizeOf5 rfl rfl (by omega) (by omega)) ?_
  rw [Int.toNat_natCast]
  refine vl_val rfl (.some rfl) (val_bytesToStr Try.runUnderlying22 Try.runUnderlying5 Try.runUnderlying9 rfl (rd_oldM (readsM_takeB (hS1.rd _ _ hr) p1.1)) (by rw [List.length_take]; omega)) ?_
  refine vl_val rfl (.some rfl) (val_assign rfl) ?_
  refine vl_nil ?_
  refine vc_seq ?_
  refine vc_region ?_
  refine vl_val rfl (.some rfl) (val_move rfl) ?_
  refine vl_val rfl (.some rfl) (val_move rfl) ?_
  refine vl_val rfl (.some rfl) (val_nil rfl rfl) ?_
  refine vl_val rfl (.some rfl) (by first | exact val_fieldAddr Try.runUnderlying117 rfl Try.sizeOf22 rfl | exact val_fieldAddrR Try.runUnderlying117 rfl Try.sizeOf22 rfl) ?_
  refine vl_val rfl (.some rfl) (val_load Try.isAgg22 rfl (by first | exact cell_cells (by repeat constructor) rfl | exact cell_rd (by first | exact rd_sl (by repeat constructor) | exact rd_old (by assumption) rfl) (by first | exact bcells_at (by omega) | exact ucells_at (by omega) | exact icells_at (by omega) | exact tcells_at (by omega) | exact bcells_get (by omega) | exact icells_get (by omega) | exact tcells_get (by omega) | exact ucells_get (by omega)) | exact cell_old (by assumption) (by simp [fps]))) ?_
  refine vl_val rfl (.some rfl) (val_move rfl) ?_
  refine vl_val rfl (.some rfl) (val_cutFrom Try.runUnderlying22 Try.sizeOf5 rfl rfl (by omega) (by omega)) ?_
  refine vl_val rfl (.some rfl) (val_nil rfl rfl) ?_
  refine vl_val rfl (.some rfl) (by first | exact val_fieldAddr Try.runUnderlying117 rfl Try.sizeOf22 rfl | exact val_fieldAddrR Try.runUnderlying117 rfl Try.sizeOf22 rfl) ?_
  first | refine vl_store rfl rfl .none rfl rfl Try.sizeOf22 rfl (by repeat constructor) (by first | decide | exact Nat.le_refl _ | exact Nat.le_of_ble_eq_true rfl | (simp; omega)) ?_ | refine vl_storeSl rfl rfl .none rfl rfl Try.sizeOf22 rfl (by simp [Value.cells]) (by repeat constructor) (by first | decide | (simp [Value.cells]; omega)) ?_
  refine vl_nil ?_
  refine vc_seq ?_
  refine vc_region ?_
  refine vl_val rfl (.some rfl) (val_move rfl) ?_
  refine vl_val rfl (.some rfl) (val_assign rfl) ?_
  refine vl_nil ?_
  refine vc_ret ?_
  rw [Int.toNat_natCast, show p1.2.length - p1.1 = (p1.2.drop p1.1).length from List.length_drop.symm]
  refine ⟨_, [RC r (cutA A1 c1 p1.1 1) (p1.2.drop p1.1).length (c1 - p1.1)], _, res1 Try.results106 rfl, (by repeat constructor), ?_⟩
  have e : rTx b = some (p1.2.take p1.1, p1.2.drop p1.1) := by unfold rTx; rw [he1]; rfl
  exact rdR_some (val := fun s : Tx => .string (sL s)) e (hS1.trans (Sfx.cut hS1.cap))


set_option maxRecDepth 20000 in
theorem sT34 : SlT Try.prog 34 96 2 24 (.agg #[.string .empty, .int .i64 0]) := ⟨Try.underlying34, ⟨Try.t96, Try.type96, rfl, rfl, rfl⟩, rfl, Nat.lt_of_sub_eq_succ rfl⟩
set_option maxRecDepth 20000 in
theorem sT37 : SlT Try.prog 37 9 1 16 (.string .empty) := ⟨Try.underlying37, ⟨Try.t9, Try.type9, rfl, rfl, rfl⟩, rfl, Nat.lt_of_sub_eq_succ rfl⟩
set_option maxRecDepth 20000 in
theorem sT38 : SlT Try.prog 38 104 2 24 (.agg #[.int .i64 0, .string .empty]) := ⟨Try.underlying38, ⟨Try.t104, Try.type104, rfl, rfl, rfl⟩, rfl, Nat.lt_of_sub_eq_succ rfl⟩
set_option maxRecDepth 20000 in
theorem sT41 : SlT Try.prog 41 105 1 24 (.slice none 0 0) := ⟨Try.underlying41, ⟨Try.t105, Try.type105, rfl, rfl, rfl⟩, rfl, Nat.lt_of_sub_eq_succ rfl⟩

/-- What the chunks tell of a record's slices. -/
def RecD (l : List Chunk) (m : RecM) : Prop := ∀ w, (∀ c ∈ l, c.A w) → RecR w m
/-- What a kind's part bears, and nothing else. -/
def whM (m : RecM) : RecM := if m.k = 1 then ⟨1, m.tn, m.Ac, m.cc, m.cs, [], [], none, 0, [], none, 0, [], [], none, 0, []⟩ else if m.k = 2 then ⟨2, [], none, 0, [], m.rn, m.rt, m.Ad, m.cd, m.ds, m.Am, m.cm, m.ms, [], none, 0, []⟩ else ⟨3, [], none, 0, [], [], [], none, 0, [], none, 0, [], m.nm, m.Ar, m.cr, m.rs⟩
def ptR (r : Nat) (A : Option Addr) (b : Tx) (k : Nat) : Ending → List Chunk → Prop := fun e H' => match rPart k b with
  | some p => ∃ m A2 c2 l, recOf m = p.1 ∧ whM m = m ∧ e = .returned (ofR m) ∧ Sfx A b A2 c2 p.2 ∧ RecD l m ∧ H' = RC r A2 p.2.length c2 :: l
  | none => e = .panicked wrong13
theorem ptR_none {r : Nat} {A : Option Addr} {b : Tx} {k : Nat} {H' : List Chunk} (h : rPart k b = none) : ptR r A b k (.panicked wrong13) H' := by
  unfold ptR; rw [h]
theorem ptR_some {r : Nat} {A : Option Addr} {b : Tx} {k : Nat} {m : RecM} {b2 : Tx} {A2 : Option Addr} {c2 : Nat} {l : List Chunk} (h : rPart k b = some (recOf m, b2)) (hw : whM m = m) (hS : Sfx A b A2 c2 b2) (hD : RecD l m) : ptR r A b k (.returned (ofR m)) (RC r A2 b2.length c2 :: l) := by
  unfold ptR; rw [h]; exact ⟨m, A2, c2, l, rfl, hw, rfl, hS, hD, rfl⟩
theorem reads_chunkR {w : World} {A : Option Addr} {n c sz : Nat} {e : TypeId} {vs : List Value} {C : List Chunk} (hk : ∀ k ∈ C, k.A w) (hm : sl A n c e sz vs ∈ C) : Reads w A vs := reads_own (n := n) (c := c) (e := e) (sz := sz) (hk _ hm)
theorem reads_nilR {w : World} {A : Option Addr} {vs : List Value} (h : vs = []) : Reads w A vs := fun j u hu => by rw [h] at hu; cases hu
/-! Reading many things, one by one. -/
def ManyI {α : Type} (f : Tx → Option (α × Tx)) (n : Nat) (b0 : Tx) (i : Nat) (acc : List α) (b2 : Tx) : Prop := (rMany f (n - i) b2).map (fun q => (acc ++ q.1, q.2)) = rMany f n b0
theorem many_i0 {α : Type} {f : Tx → Option (α × Tx)} {n : Nat} {b : Tx} : ManyI f n b 0 [] b := by
  unfold ManyI
  rw [Nat.sub_zero]
  cases rMany f n b <;> rfl
theorem many_is {α : Type} {f : Tx → Option (α × Tx)} {n i : Nat} {b0 b2 b3 : Tx} {acc : List α} {x : α} (h : ManyI f n b0 i acc b2) (hi : i < n) (h1 : f b2 = some (x, b3)) : ManyI f n b0 (i + 1) (acc ++ [x]) b3 := by
  unfold ManyI at *
  rw [show n - i = (n - (i + 1)) + 1 by omega] at h
  have h : ((f b2).bind fun p => (rMany f (n - (i + 1)) p.2).map fun q => (p.1 :: q.1, q.2)).map (fun q => (acc ++ q.1, q.2)) = rMany f n b0 := h
  rw [h1] at h
  rw [← h]
  show _ = ((rMany f (n - (i + 1)) b3).map fun q => (x :: q.1, q.2)).map (fun q => (acc ++ q.1, q.2))
  rw [Option.map_map]
  congr 1
  funext q
  simp
theorem many_in {α : Type} {f : Tx → Option (α × Tx)} {n i : Nat} {b0 b2 : Tx} {acc : List α} (h : ManyI f n b0 i acc b2) (hi : i < n) (h1 : f b2 = none) : rMany f n b0 = none := by
  unfold ManyI at h
  rw [show n - i = (n - (i + 1)) + 1 by omega] at h
  rw [← h]
  show ((f b2).bind fun p => (rMany f (n - (i + 1)) p.2).map fun q => (p.1 :: q.1, q.2)).map _ = none
  rw [h1]; rfl
theorem many_ie {α : Type} {f : Tx → Option (α × Tx)} {n i : Nat} {b0 b2 : Tx} {acc : List α} (h : ManyI f n b0 i acc b2) (hi : i = n) : rMany f n b0 = some (acc, b2) := by
  unfold ManyI at h
  rw [← h, hi, Nat.sub_self]
  show some (acc ++ [], b2) = _
  rw [List.append_nil]
theorem ptab {b : Tx} {p1 : Tx × Tx} {p2 : Nat × Tx} (h1 : rTx b = some p1) (h2 : rCnt p1.2 = some p2) : rPart 1 b = (rMany rCol p2.1 p2.2).map fun s => (⟨1, ⟨p1.1, s.1⟩, r0, [], []⟩, s.2) := by
  unfold rPart rTab
  rw [if_pos rfl, h1]
  show ((rCnt p1.2).bind _).map _ = _
  rw [h2]
  show ((rMany rCol p2.1 p2.2).map _).map _ = _
  rw [Option.map_map]; rfl
theorem ptab1 {b : Tx} (h1 : rTx b = none) : rPart 1 b = none := by unfold rPart rTab; rw [if_pos rfl, h1]; rfl
theorem ptab2 {b : Tx} {p1 : Tx × Tx} (h1 : rTx b = some p1) (h2 : rCnt p1.2 = none) : rPart 1 b = none := by
  unfold rPart rTab
  rw [if_pos rfl, h1]
  show ((rCnt p1.2).bind _).map _ = _
  rw [h2]; rfl
theorem prol {b : Tx} {p1 p2 : Tx × Tx} {p3 : Nat × Tx} (h1 : rTx b = some p1) (h2 : rTx p1.2 = some p2) (h3 : rCnt p2.2 = some p3) : rPart 2 b = (rMany rTx p3.1 p3.2).bind fun d => (rCnt d.2).bind fun e => (rMany rMea e.1 e.2).map fun m => (⟨2, t0, ⟨p1.1, p2.1, d.1, m.1⟩, [], []⟩, m.2) := by
  unfold rPart rRol
  rw [if_neg (by decide), if_pos rfl, h1]
  show ((rTx p1.2).bind _).map _ = _
  rw [h2]
  show ((rCnt p2.2).bind _).map _ = _
  rw [h3]
  show ((rMany rTx p3.1 p3.2).bind _).map _ = _
  cases rMany rTx p3.1 p3.2 with
  | none => rfl
  | some d =>
    show ((rCnt d.2).bind _).map _ = (rCnt d.2).bind _
    cases rCnt d.2 with
    | none => rfl
    | some e =>
      show ((rMany rMea e.1 e.2).map _).map _ = (rMany rMea e.1 e.2).map _
      rw [Option.map_map]; rfl
theorem prol1 {b : Tx} (h1 : rTx b = none) : rPart 2 b = none := by unfold rPart rRol; rw [if_neg (by decide), if_pos rfl, h1]; rfl
theorem prol2 {b : Tx} {p1 : Tx × Tx} (h1 : rTx b = some p1) (h2 : rTx p1.2 = none) : rPart 2 b = none := by
  unfold rPart rRol
  rw [if_neg (by decide), if_pos rfl, h1]
  show ((rTx p1.2).bind _).map _ = _
  rw [h2]; rfl
theorem prol3 {b : Tx} {p1 p2 : Tx × Tx} (h1 : rTx b = some p1) (h2 : rTx p1.2 = some p2) (h3 : rCnt p2.2 = none) : rPart 2 b = none := by
  unfold rPart rRol
  rw [if_neg (by decide), if_pos rfl, h1]
  show ((rTx p1.2).bind _).map _ = _
  rw [h2]
  show ((rCnt p2.2).bind _).map _ = _
  rw [h3]; rfl
theorem pbat {b : Tx} {p1 : Tx × Tx} {p2 : Nat × Tx} (h1 : rTx b = some p1) (h2 : rCnt p1.2 = some p2) : rPart 3 b = (rMany rRow p2.1 p2.2).map fun s => (⟨3, t0, r0, p1.1, s.1⟩, s.2) := by
  unfold rPart rBat
  rw [if_neg (by decide), if_neg (by decide), if_pos rfl, h1]
  show ((rCnt p1.2).bind _).map _ = _
  rw [h2]
  show ((rMany rRow p2.1 p2.2).map _).map _ = _
  rw [Option.map_map]; rfl
theorem pbat1 {b : Tx} (h1 : rTx b = none) : rPart 3 b = none := by unfold rPart rBat; rw [if_neg (by decide), if_neg (by decide), if_pos rfl, h1]; rfl
theorem pbat2 {b : Tx} {p1 : Tx × Tx} (h1 : rTx b = some p1) (h2 : rCnt p1.2 = none) : rPart 3 b = none := by
  unfold rPart rBat
  rw [if_neg (by decide), if_neg (by decide), if_pos rfl, h1]
  show ((rCnt p1.2).bind _).map _ = _
  rw [h2]; rfl
theorem pno {b : Tx} {k : Nat} (h1 : k ≠ 1) (h2 : k ≠ 2) (h3 : k ≠ 3) : rPart k b = none := by unfold rPart; rw [if_neg h1, if_neg h2, if_neg h3]
theorem rCol_1 {b : Tx} (h : rTx b = none) : rCol b = none := by unfold rCol; rw [h]; rfl
theorem rCol_2 {b : Tx} {p : Tx × Tx} (h : rTx b = some p) (h2 : rNum p.2 = none) : rCol b = none := by
  unfold rCol
  rw [h]
  show (rNum p.2).map _ = _
  rw [h2]; rfl
theorem rCol_3 {b : Tx} {p : Tx × Tx} {q : Nat × Tx} (h : rTx b = some p) (h2 : rNum p.2 = some q) : rCol b = some ((p.1, i64N q.1), q.2) := by
  unfold rCol
  rw [h]
  show (rNum p.2).map _ = _
  rw [h2]; rfl
theorem rMea_1 {b : Tx} (h : rNum b = none) : rMea b = none := by unfold rMea; rw [h]; rfl
theorem rMea_2 {b : Tx} {p : Nat × Tx} (h : rNum b = some p) (h2 : rTx p.2 = none) : rMea b = none := by
  unfold rMea
  rw [h]
  show (rTx p.2).map _ = _
  rw [h2]; rfl
theorem rMea_3 {b : Tx} {p : Nat × Tx} {q : Tx × Tx} (h : rNum b = some p) (h2 : rTx p.2 = some q) : rMea b = some ((i64N p.1, q.1), q.2) := by
  unfold rMea
  rw [h]
  show (rTx p.2).map _ = _
  rw [h2]; rfl
theorem rRow_1 {b : Tx} (h : rTx b = none) : rRow b = none := by unfold rRow; rw [h]; rfl
theorem rRow_2 {b : Tx} {p : Tx × Tx} (h : rTx b = some p) (h2 : loadV p.1 = none) : rRow b = none := by
  unfold rRow
  rw [h]
  show (loadV p.1).map _ = _
  rw [h2]; rfl
theorem rRow_3 {b : Tx} {p : Tx × Tx} {l : List Vk} (h : rTx b = some p) (h2 : loadV p.1 = some l) : rRow b = some (l, p.2) := by
  unfold rRow
  rw [h]
  show (loadV p.1).map _ = _
  rw [h2]; rfl
theorem prol4 {b : Tx} {p1 p2 : Tx × Tx} {p3 : Nat × Tx} (h1 : rTx b = some p1) (h2 : rTx p1.2 = some p2) (h3 : rCnt p2.2 = some p3) (h4 : rMany rTx p3.1 p3.2 = none) : rPart 2 b = none := by rw [prol h1 h2 h3, h4]; rfl
theorem prol5 {b : Tx} {p1 p2 : Tx × Tx} {p3 : Nat × Tx} {ds : List Tx} {b4 : Tx} (h1 : rTx b = some p1) (h2 : rTx p1.2 = some p2) (h3 : rCnt p2.2 = some p3) (h4 : rMany rTx p3.1 p3.2 = some (ds, b4)) : rPart 2 b = (rCnt b4).bind fun e => (rMany rMea e.1 e.2).map fun m => (⟨2, t0, ⟨p1.1, p2.1, ds, m.1⟩, [], []⟩, m.2) := by rw [prol h1 h2 h3, h4]; rfl
/-! Loaded values are in bounds. -/
theorem one_wv {b r : Tx} {v : Vk} (h : oneV b = some (v, r)) : WV v := by
  unfold oneV at h
  have hb2 := getN_bd (b.drop (getN b).2)
  split at h
  · cases h
  · split at h
    · cases h; exact ⟨by decide, by decide⟩
    · split at h
      · cases h
      · split at h
        · cases h
        · split at h
          · split at h
            · cases h
            · cases h; exact ⟨by show (-9223372036854775808 : Int) ≤ 0; decide, by show (0 : Int) < 9223372036854775808; decide⟩
          · split at h
            · cases h; exact zagS_bd hb2.1
            · cases h
theorem many_wv : ∀ (q c : Nat) (b : Tx) (l : List Vk), manyV q c b = some l → ∀ v ∈ l, WV v := by
  intro q
  induction q with
  | zero =>
    intro c b l h
    cases c with
    | zero => unfold manyV at h; split at h <;> cases h; simp
    | succ c => cases h
  | succ q ih =>
    intro c b l h
    cases c with
    | zero => unfold manyV at h; split at h <;> cases h; simp
    | succ c =>
      have h : (match oneV b with | none => none | some (v, r) => (manyV q c r).map (v :: ·)) = some l := h
      cases h1 : oneV b with
      | none => rw [h1] at h; cases h
      | some p =>
        obtain ⟨v, r⟩ := p
        rw [h1] at h
        have h : (manyV q c r).map (v :: ·) = some l := h
        cases h2 : manyV q c r with
        | none => rw [h2] at h; cases h
        | some l2 =>
          rw [h2] at h
          cases h
          intro u hu
          rcases List.mem_cons.1 hu with rfl | hu
          · exact one_wv h1
          · exact ih c r l2 h2 u hu
theorem load_wv {b : Tx} {l : List Vk} (h : loadV b = some l) : ∀ v ∈ l, WV v := by
  unfold loadV at h
  split at h
  · cases h
  · exact many_wv _ _ _ _ h
theorem load_cases (b : Tx) : loadE9 b ≠ 0 ∧ loadV b = none ∨ loadE9 b = 0 ∧ ∃ l, loadV b = some l := by
  cases h : loadV b with
  | none => left; exact ⟨by rw [(load9_none h).2]; decide, rfl⟩
  | some l => right; exact ⟨(load9_some h).2, l, rfl⟩

theorem vc_nilSl {X : Cx} {Q : Post} {E : Env} {H : List Chunk} {c : Code} (e sz : Nat) (h : VC X c Q E (sl none 0 0 e sz [] :: H)) : VC X c Q E H := by
  intro a w ha hw
  refine h a w ha ?_
  have := Holds.change (w := w) (C := []) (C' := [sl none 0 0 e sz []]) (F := H) (w' := w) (by simpa using hw) (Nat.le_refl _) rfl rfl rfl (fun _ _ _ => rfl) (by
    intro c hc
    simp at hc
    subst hc
    simp [sl, World.ownsRow]) (by simp [fps, sl, ownFp]) (by simp [fps, sl, ownFp])
  simpa using this

set_option maxRecDepth 20000 in
set_option maxHeartbeats 2000000 in
theorem pPart (r : Nat) (A : Option Addr) (c : Nat) (b : Tx) (hb : b.length ≤ 1000000000) (hbc : b.length ≤ c) (k : Nat) (hk : k < 18446744073709551616) (w : World) (hr : ReadsM w (fps [RC r A b.length c]) A (bcells b)) : Fn Try.prog 59 [.pointer (some ⟨r, 0, none⟩), .int .u64 k] [RC r A b.length c] (ptR r A b k) w := by
  refine fn_enter Try.func59 rfl Try.ntmps59 rfl ?_
  refine vc_seq ?_
  refine vc_region ?_
  refine vl_val rfl (.some rfl) (val_assign rfl) ?_
  refine vl_nil ?_
  refine vc_seq ?_
  refine vc_seq ?_
  refine vc_region ?_
  refine vl_val rfl (.some rfl) (val_move rfl) ?_
  refine vl_nil ?_
  refine vc_block ?_
  refine vc_seq ?_
  refine vc_region ?_
  refine vl_val rfl (.some rfl) (val_eq rfl rfl) ?_
  refine vl_val rfl (.some rfl) (val_assign rfl) ?_
  refine vl_nil ?_
  refine vc_cond rfl (fun hc0 => ?_) (fun hc0 => ?_)
  · (try replace hc0 := of_decide_eq_true hc0)
    obtain rfl : k = 1 := by omega
    refine vc_seq ?_
    refine vc_region ?_
    refine vl_val rfl (.some rfl) (val_move rfl) ?_
    refine vl_callRd (A := A) (b := b) (c := c) rfl rfl (.some rfl) Try.call106 rfl (by repeat constructor) (fun w' hw => pTxt r A c b hb hbc w' (readsM_old (hr) (by repeat constructor) hw)) (fun p1 A1 c1 he1 hS1 => ?_) (fun hn H' => ⟨[], _, .nil, ptR_none (ptab1 hn)⟩)
    refine vl_val rfl (.some rfl) (val_buildSt (pl := #[(0, 1), (1, 1)]) (cs := #[.string (sL p1.1), .slice none 0 0]) Try.runUnderlying36 Try.zeroValue36 (fun w => by kernel_rfl) rfl rfl) ?_
    refine vl_val rfl (.some rfl) (val_buildSt (pl := #[(0, 2)]) (cs := #[.string (sL p1.1), .slice none 0 0]) Try.runUnderlying159 Try.zeroValue159 (fun w => by kernel_rfl) rfl rfl) ?_
    refine vl_alloc rfl rfl (.some rfl) Try.zeroValue159 (fun r5 => ?_)
    first | refine vl_store rfl rfl .none rfl rfl Try.sizeOf159 rfl (by repeat constructor) (by first | decide | exact Nat.le_refl _ | exact Nat.le_of_ble_eq_true rfl | (simp; omega)) ?_ | refine vl_storeSl rfl rfl .none rfl rfl Try.sizeOf159 rfl (by simp [Value.cells]) (by repeat constructor) (by first | decide | (simp [Value.cells]; omega)) ?_
    refine vl_nil ?_
    refine vc_seq ?_
    refine vc_seq ?_
    refine vc_region ?_
    refine vl_val rfl (.some rfl) (val_move rfl) ?_
    refine vl_callRd (A := A1) (b := p1.2) (c := c1) rfl rfl (.some rfl) Try.call107 rfl (by repeat constructor) (fun w' hw => pCnt r A1 c1 p1.2 (by have h9 := hS1.len; omega) hS1.cap w' (readsM_old (hS1.rd _ _ (hr)) (by repeat constructor) hw)) (fun p2 A2 c2 he2 hS2 => ?_) (fun hn H' => ⟨[], _, .nil, ptR_none (ptab2 he1 hn)⟩)
    obtain ⟨hu2, hl2⟩ := rCnt_is he2
    have hl1 := rTx_is he1
    refine vl_val rfl (.some rfl) (val_move rfl) ?_
    refine vl_nil ?_
    refine vc_block ?_
    refine vc_nilSl 96 2 ?_
    refine vc_loopw (fun q E H => ∃ (i : Nat) (A2 : Option Addr) (c2 : Nat) (b2 : Tx) (cs : List Cq) (A7 : Option Addr) (c7 : Nat), cs.length = i ∧ i ≤ p2.1 ∧ q = p2.1 - i ∧ Sfx A b A2 c2 b2 ∧ ManyI rCol p2.1 p2.2 i cs b2 ∧ E = [(0, .pointer (some ⟨r, 0, none⟩)), (5, .pointer (some ⟨r5, 0, none⟩)), (20, .int .i64 (p2.1 : Nat)), (21, .int .i64 i)] ∧ H = [RC r A2 b2.length c2, cells r5 [.string (sL p1.1), .slice A7 cs.length c7] 159, sl A7 cs.length c7 96 2 (cs.flatMap colV)]) (p2.1) ⟨_, _, _, ⟨0, A2, c2, p2.2, [], none, 0, rfl, by omega, rfl, hS1.trans hS2, many_i0, rfl, rfl⟩, (by repeat (first | exact trivial | refine ⟨rfl, ?_⟩ | refine ⟨le_item rfl (by first | rfl | (congr 1; omega) | (simp; done) | (simp; omega)), ?_⟩)), (by repeat constructor)⟩ ?_
    intro q E H hI
    obtain ⟨i, A2, c2, b2, cs, A7, c7, hci, hip, rfl, hS2, hM, rfl, rfl⟩ := hI
    have hlb := hS2.len
    refine vc_seq ?_
    refine vc_region ?_
    refine vl_val rfl (.some rfl) (val_lt rfl rfl) ?_
    refine vl_nil ?_
    refine vc_seq ?_
    refine vc_cond rfl (fun hc1 => ?_) (fun hc1 => ?_)
    · (try replace hc1 := of_decide_eq_true hc1)
      refine vc_skip ?_
      refine vc_seq ?_
      refine vc_block ?_
      refine vc_seq ?_
      refine vc_region ?_
      refine vl_val rfl (.some rfl) (val_move rfl) ?_
      refine vl_callRd (A := A2) (b := b2) (c := c2) rfl rfl (.some rfl) Try.call106 rfl (by repeat constructor) (fun w' hw => pTxt r A2 c2 b2 (by have h9 := hS2.len; omega) hS2.cap w' (readsM_old (hS2.rd _ _ (hr)) (by repeat constructor) hw)) (fun p3 A3 c3 he3 hS3 => ?_) (fun hn H' => ⟨[], _, .nil, ptR_none (by rw [ptab he1 he2, many_in hM (by omega) (rCol_1 hn)]; rfl)⟩)
      have hl3 := rTx_is he3
      refine vl_val rfl (.some rfl) (val_assign rfl) ?_
      refine vl_nil ?_
      refine vc_drawsS [0, 1, 2, 3, 4, 6, 7, 11] [12] [0, 1, 2, 3, 4, 5, 6, 7, 8, 9, 10, 11, 12] [cells r5 [.string (sL p1.1), .slice A7 cs.length c7] 159] (by repeat constructor) rfl (by kernel_rfl) (fun _ _ _ h => h) ?_
      refine vd_val rfl rfl rfl (.some rfl) (by first | exact val_fieldAddr Try.runUnderlying159 rfl Try.sizeOf36 rfl | exact val_fieldAddrR Try.runUnderlying159 rfl Try.sizeOf36 rfl) ?_
      refine vd_val rfl rfl rfl (.some rfl) (by first | exact val_fieldAddr Try.runUnderlying36 rfl Try.sizeOf34 rfl | exact val_fieldAddrR Try.runUnderlying36 rfl Try.sizeOf34 rfl) ?_
      refine vd_val rfl rfl rfl (.some rfl) (val_load Try.isAgg34 rfl (by first | exact cell_cells (by repeat constructor) rfl | exact cell_rd (by first | exact rd_sl (by repeat constructor) | exact rd_old (by assumption) rfl) (by first | exact bcells_at (by omega) | exact ucells_at (by omega) | exact icells_at (by omega) | exact tcells_at (by omega) | exact bcells_get (by omega) | exact icells_get (by omega) | exact tcells_get (by omega) | exact ucells_get (by omega)) | exact cell_old (by assumption) (by simp [fps]))) ?_
      refine vd_val rfl rfl rfl (.some rfl) (val_move rfl) ?_
      refine vd_val rfl rfl rfl (.some rfl) (val_move rfl) ?_
      refine vd_op rfl rfl ?_
      refine vl_callRd (A := A3) (b := p3.2) (c := c3) rfl rfl (.some rfl) Try.call60 rfl (by repeat constructor) (fun w' hw => pNum r A3 c3 p3.2 (by have h9 := (hS2.trans hS3).len; omega) (hS2.trans hS3).cap w' (readsM_old ((hS2.trans hS3).rd _ _ (hr)) (by repeat constructor) hw)) (fun p4 A4 c4 he4 hS4 => ?_) (fun hn H' => ⟨[], _, .nil, ptR_none (by rw [ptab he1 he2, many_in hM (by omega) (rCol_2 he3 hn)]; rfl)⟩)
      obtain ⟨hu4, hl4⟩ := rNum_is he4
      have hM2 := many_is hM (by omega) (rCol_3 he3 he4)
      refine vl_nil ?_
      refine ⟨fun _ => ⟨_, (by repeat (first | exact .nil | exact sub_self _ | exact sub_skip (sub_self _) | exact sub_skip (sub_skip (sub_self _)) | exact sub_skip (sub_skip (sub_skip (sub_self _))) | (apply Sub.cons; · repeat (first | exact .head | apply Take.tail))))⟩, ?_⟩
      refine vd_val rfl rfl rfl (.some rfl) (val_convInt Try.runUnderlying23 Try.runUnderlying3 rfl (w_i64N hu4)) ?_
      refine vd_val rfl rfl rfl (.some rfl) (val_buildSt (pl := #[(0, 1), (1, 1)]) (cs := (colV (p3.1, i64N p4.1)).toArray) Try.runUnderlying96 Try.zeroValue96 (fun w => by kernel_rfl) rfl rfl) ?_
      refine vd_op rfl rfl ?_
      refine vl_lit sT34 rfl rfl (.some rfl) rfl rfl rfl (by decide) (by decide) rfl rfl (fun r33 => ?_)
      refine vl_nil ?_
      refine ⟨fun _ => ⟨_, (by repeat (first | exact .nil | exact sub_self _ | exact sub_skip (sub_self _) | exact sub_skip (sub_skip (sub_self _)) | exact sub_skip (sub_skip (sub_skip (sub_self _))) | (apply Sub.cons; · repeat (first | exact .head | apply Take.tail))))⟩, ?_⟩
      refine vd_op rfl rfl ?_
      refine vl_append (vs := cs.flatMap colV) (us := colV (p3.1, i64N p4.1)) sT34 rfl rfl (.some rfl) rfl rfl (rd_sl (by repeat constructor)) rfl rfl (by omega) (by omega) (by repeat constructor) (fun A34 k34 => ?_)
      rw [show cs.flatMap colV ++ colV (p3.1, i64N p4.1) = (cs ++ [(p3.1, i64N p4.1)]).flatMap colV by simp, show cs.length + 1 = (cs ++ [(p3.1, i64N p4.1)]).length by simp]
      refine vl_nil ?_
      refine ⟨fun _ => ⟨_, (by repeat (first | exact .nil | exact sub_self _ | exact sub_skip (sub_self _) | exact sub_skip (sub_skip (sub_self _)) | exact sub_skip (sub_skip (sub_skip (sub_self _))) | (apply Sub.cons; · repeat (first | exact .head | apply Take.tail))))⟩, ?_⟩
      refine vd_op rfl rfl ?_
      refine vl_val rfl (.some rfl) (by first | exact val_fieldAddr Try.runUnderlying159 rfl Try.sizeOf36 rfl | exact val_fieldAddrR Try.runUnderlying159 rfl Try.sizeOf36 rfl) ?_
      refine vl_nil ?_
      refine ⟨fun _ => ⟨_, (by repeat (first | exact .nil | exact sub_self _ | exact sub_skip (sub_self _) | exact sub_skip (sub_skip (sub_self _)) | exact sub_skip (sub_skip (sub_skip (sub_self _))) | (apply Sub.cons; · repeat (first | exact .head | apply Take.tail))))⟩, ?_⟩
      refine vd_val rfl rfl rfl (.some rfl) (by first | exact val_fieldAddr Try.runUnderlying36 rfl Try.sizeOf34 rfl | exact val_fieldAddrR Try.runUnderlying36 rfl Try.sizeOf34 rfl) ?_
      refine vd_op rfl rfl ?_
      first | refine vl_store rfl rfl .none rfl rfl Try.sizeOf34 rfl (by repeat constructor) (by first | decide | exact Nat.le_refl _ | exact Nat.le_of_ble_eq_true rfl | (simp; omega)) ?_ | refine vl_storeSl rfl rfl .none rfl rfl Try.sizeOf34 rfl (by simp [Value.cells]) (by repeat constructor) (by first | decide | (simp [Value.cells]; omega)) ?_
      refine vl_nil ?_
      refine ⟨fun h => (by cases h), ?_⟩
      refine vd_nil ?_
      refine vc_region ?_
      refine vl_val rfl (.some rfl) (val_add rfl rfl (by first | exact w_i64 (by omega) (by omega) | rfl)) ?_
      refine vl_val rfl (.some rfl) (val_move rfl) ?_
      refine vl_nil ?_
      exact ⟨(p2.1 - (i + 1)), _, _, _, by omega, (by repeat (first | exact trivial | refine ⟨rfl, ?_⟩ | refine ⟨le_item rfl (by first | rfl | (congr 1; omega) | (simp; done) | (simp; omega)), ?_⟩)), (by repeat constructor), ⟨i + 1, A4, c4, p4.2, cs ++ [(p3.1, i64N p4.1)], A34, k34, by simp [hci], by omega, rfl, (hS2.trans hS3).trans hS4, hM2, rfl, rfl⟩⟩
    · (try replace hc1 := of_decide_eq_false hc1)
      have hi2 : i = p2.1 := by omega
      refine vc_exit ?_
      refine vc_seq ?_
      refine vc_region ?_
      refine vl_val rfl (.some rfl) (val_loadAgg Try.isAgg159 Try.sizeOf159 rfl (by first | exact cells_whole (by repeat constructor) | exact cells_part (by repeat constructor) rfl) rfl) ?_
      refine vl_val rfl (.some rfl) (val_mkIface Try.runUnderlying159 rfl rfl) ?_
      refine vl_val rfl (.some rfl) (val_assign rfl) ?_
      refine vl_nil ?_
      refine vc_ret ?_
      refine ⟨_, RC r A2 b2.length c2 :: [sl A7 cs.length c7 96 2 (cs.flatMap colV)], _, res1 Try.results59 rfl, (by repeat constructor), ?_⟩
      exact ptR_some (m := ⟨1, p1.1, A7, c7, cs, [], [], none, 0, [], none, 0, [], [], none, 0, []⟩) (by rw [ptab he1 he2, many_ie hM hi2]; rfl) rfl hS2 (fun w hk => ⟨reads_chunkR hk (List.Mem.head _), (reads_nilR (by rfl)), (reads_nilR (by rfl)), (reads_nilR (by rfl)), fun q hq => by cases hq⟩)
  · (try replace hc0 := of_decide_eq_false hc0)
    refine vc_seq ?_
    refine vc_region ?_
    refine vl_val rfl (.some rfl) (val_eq rfl rfl) ?_
    refine vl_val rfl (.some rfl) (val_assign rfl) ?_
    refine vl_nil ?_
    refine vc_cond rfl (fun hc2 => ?_) (fun hc2 => ?_)
    · (try replace hc2 := of_decide_eq_true hc2)
      obtain rfl : k = 2 := by omega
      refine vc_seq ?_
      refine vc_region ?_
      refine vl_val rfl (.some rfl) (val_move rfl) ?_
      refine vl_callRd (A := A) (b := b) (c := c) rfl rfl (.some rfl) Try.call106 rfl (by repeat constructor) (fun w' hw => pTxt r A c b hb hbc w' (readsM_old (hr) (by repeat constructor) hw)) (fun p1 A1 c1 he1 hS1 => ?_) (fun hn H' => ⟨[], _, .nil, ptR_none (prol1 hn)⟩)
      have hl1 := rTx_is he1
      refine vl_val rfl (.some rfl) (val_buildSt (pl := #[(0, 1), (1, 1), (2, 1), (3, 1)]) (cs := #[.string (sL p1.1), .string ⟨#[]⟩, .slice none 0 0, .slice none 0 0]) Try.runUnderlying40 Try.zeroValue40 (fun w => by kernel_rfl) rfl rfl) ?_
      refine vl_val rfl (.some rfl) (val_buildSt (pl := #[(0, 4)]) (cs := #[.string (sL p1.1), .string ⟨#[]⟩, .slice none 0 0, .slice none 0 0]) Try.runUnderlying161 Try.zeroValue161 (fun w => by kernel_rfl) rfl rfl) ?_
      refine vl_alloc rfl rfl (.some rfl) Try.zeroValue161 (fun r7 => ?_)
      first | refine vl_store rfl rfl .none rfl rfl Try.sizeOf161 rfl (by repeat constructor) (by first | decide | exact Nat.le_refl _ | exact Nat.le_of_ble_eq_true rfl | (simp; omega)) ?_ | refine vl_storeSl rfl rfl .none rfl rfl Try.sizeOf161 rfl (by simp [Value.cells]) (by repeat constructor) (by first | decide | (simp [Value.cells]; omega)) ?_
      refine vl_nil ?_
      refine vc_seq ?_
      refine vc_region ?_
      refine vl_val rfl (.some rfl) (val_move rfl) ?_
      refine vl_callRd (A := A1) (b := p1.2) (c := c1) rfl rfl (.some rfl) Try.call106 rfl (by repeat constructor) (fun w' hw => pTxt r A1 c1 p1.2 (by have h9 := hS1.len; omega) hS1.cap w' (readsM_old (hS1.rd _ _ (hr)) (by repeat constructor) hw)) (fun p2 A2 c2 he2 hS2 => ?_) (fun hn H' => ⟨[], _, .nil, ptR_none (prol2 he1 hn)⟩)
      have hl2 := rTx_is he2
      refine vl_val rfl (.some rfl) (by first | exact val_fieldAddr Try.runUnderlying161 rfl Try.sizeOf40 rfl | exact val_fieldAddrR Try.runUnderlying161 rfl Try.sizeOf40 rfl) ?_
      refine vl_val rfl (.some rfl) (by first | exact val_fieldAddr Try.runUnderlying40 rfl Try.sizeOf9 rfl | exact val_fieldAddrR Try.runUnderlying40 rfl Try.sizeOf9 rfl) ?_
      first | refine vl_store rfl rfl .none rfl rfl Try.sizeOf9 rfl (by repeat constructor) (by first | decide | exact Nat.le_refl _ | exact Nat.le_of_ble_eq_true rfl | (simp; omega)) ?_ | refine vl_storeSl rfl rfl .none rfl rfl Try.sizeOf9 rfl (by simp [Value.cells]) (by repeat constructor) (by first | decide | (simp [Value.cells]; omega)) ?_
      refine vl_nil ?_
      refine vc_seq ?_
      refine vc_seq ?_
      refine vc_region ?_
      refine vl_val rfl (.some rfl) (val_move rfl) ?_
      refine vl_callRd (A := A2) (b := p2.2) (c := c2) rfl rfl (.some rfl) Try.call107 rfl (by repeat constructor) (fun w' hw => pCnt r A2 c2 p2.2 (by have h9 := (hS1.trans hS2).len; omega) (hS1.trans hS2).cap w' (readsM_old ((hS1.trans hS2).rd _ _ (hr)) (by repeat constructor) hw)) (fun p3 A3 c3 he3 hS3 => ?_) (fun hn H' => ⟨[], _, .nil, ptR_none (prol3 he1 he2 hn)⟩)
      obtain ⟨hu3, hl3⟩ := rCnt_is he3
      refine vl_val rfl (.some rfl) (val_move rfl) ?_
      refine vl_nil ?_
      refine vc_block ?_
      refine vc_nilSl 9 1 ?_
      refine vc_loopw (fun q E H => ∃ (i : Nat) (A2 : Option Addr) (c2 : Nat) (b2 : Tx) (ds : List Tx) (A7 : Option Addr) (c7 : Nat), ds.length = i ∧ i ≤ p3.1 ∧ q = p3.1 - i ∧ Sfx A b A2 c2 b2 ∧ ManyI rTx p3.1 p3.2 i ds b2 ∧ E = [(0, .pointer (some ⟨r, 0, none⟩)), (7, .pointer (some ⟨r7, 0, none⟩)), (51, .int .i64 (p3.1 : Nat)), (52, .int .i64 i)] ∧ H = [RC r A2 b2.length c2, cells r7 [.string (sL p1.1), .string (sL p2.1), .slice A7 ds.length c7, .slice none 0 0] 161, sl A7 ds.length c7 9 1 (tcS ds)]) (p3.1) ⟨_, _, _, ⟨0, A3, c3, p3.2, [], none, 0, rfl, by omega, rfl, (hS1.trans hS2).trans hS3, many_i0, rfl, rfl⟩, (by repeat (first | exact trivial | refine ⟨rfl, ?_⟩ | refine ⟨le_item rfl (by first | rfl | (congr 1; omega) | (simp; done) | (simp; omega)), ?_⟩)), (by repeat constructor)⟩ ?_
      intro q E H hI
      obtain ⟨i, A2, c2, b2, ds, A7, c7, hci, hip, rfl, hS2, hM, rfl, rfl⟩ := hI
      have hlb := hS2.len
      refine vc_seq ?_
      refine vc_region ?_
      refine vl_val rfl (.some rfl) (val_lt rfl rfl) ?_
      refine vl_nil ?_
      refine vc_seq ?_
      refine vc_cond rfl (fun hc3 => ?_) (fun hc3 => ?_)
      · (try replace hc3 := of_decide_eq_true hc3)
        refine vc_skip ?_
        refine vc_seq ?_
        refine vc_block ?_
        refine vc_drawsS [0, 1, 2, 3, 8] [9] [0, 1, 2, 3, 4, 5, 6, 7, 8, 9] [cells r7 [.string (sL p1.1), .string (sL p2.1), .slice A7 ds.length c7, .slice none 0 0] 161] (by repeat constructor) rfl (by kernel_rfl) (fun _ _ _ h => h) ?_
        refine vd_val rfl rfl rfl (.some rfl) (by first | exact val_fieldAddr Try.runUnderlying161 rfl Try.sizeOf40 rfl | exact val_fieldAddrR Try.runUnderlying161 rfl Try.sizeOf40 rfl) ?_
        refine vd_val rfl rfl rfl (.some rfl) (by first | exact val_fieldAddr Try.runUnderlying40 rfl Try.sizeOf37 rfl | exact val_fieldAddrR Try.runUnderlying40 rfl Try.sizeOf37 rfl) ?_
        refine vd_val rfl rfl rfl (.some rfl) (val_load Try.isAgg37 rfl (by first | exact cell_cells (by repeat constructor) rfl | exact cell_rd (by first | exact rd_sl (by repeat constructor) | exact rd_old (by assumption) rfl) (by first | exact bcells_at (by omega) | exact ucells_at (by omega) | exact icells_at (by omega) | exact tcells_at (by omega) | exact bcells_get (by omega) | exact icells_get (by omega) | exact tcells_get (by omega) | exact ucells_get (by omega)) | exact cell_old (by assumption) (by simp [fps]))) ?_
        refine vd_val rfl rfl rfl (.some rfl) (val_move rfl) ?_
        refine vd_op rfl rfl ?_
        refine vl_callRd (A := A2) (b := b2) (c := c2) rfl rfl (.some rfl) Try.call106 rfl (by repeat constructor) (fun w' hw => pTxt r A2 c2 b2 (by have h9 := hS2.len; omega) hS2.cap w' (readsM_old (hS2.rd _ _ (hr)) (by repeat constructor) hw)) (fun p4 A4 c4 he4 hS4 => ?_) (fun hn H' => ⟨[], _, .nil, ptR_none (prol4 he1 he2 he3 (many_in hM (by omega) hn))⟩)
        have hl4 := rTx_is he4
        have hM2 := many_is hM (by omega) he4
        refine vl_nil ?_
        refine ⟨fun _ => ⟨_, (by repeat (first | exact .nil | exact sub_self _ | exact sub_skip (sub_self _) | exact sub_skip (sub_skip (sub_self _)) | exact sub_skip (sub_skip (sub_skip (sub_self _))) | (apply Sub.cons; · repeat (first | exact .head | apply Take.tail))))⟩, ?_⟩
        refine vd_op rfl rfl ?_
        refine vl_lit sT37 rfl rfl (.some rfl) rfl rfl rfl (by decide) (by decide) rfl (flat_one rfl) (fun r59 => ?_)
        refine vl_nil ?_
        refine ⟨fun _ => ⟨_, (by repeat (first | exact .nil | exact sub_self _ | exact sub_skip (sub_self _) | exact sub_skip (sub_skip (sub_self _)) | exact sub_skip (sub_skip (sub_skip (sub_self _))) | (apply Sub.cons; · repeat (first | exact .head | apply Take.tail))))⟩, ?_⟩
        refine vd_op rfl rfl ?_
        refine vl_append (vs := tcS ds) (us := tcS [p4.1]) sT37 rfl rfl (.some rfl) rfl rfl (rd_sl (by repeat constructor)) rfl rfl (by omega) (by omega) (by repeat constructor) (fun A60 k60 => ?_)
        rw [show tcS ds ++ tcS [p4.1] = tcS (ds ++ [p4.1]) by simp [tcS], show ds.length + 1 = (ds ++ [p4.1]).length by simp]
        refine vl_nil ?_
        refine ⟨fun _ => ⟨_, (by repeat (first | exact .nil | exact sub_self _ | exact sub_skip (sub_self _) | exact sub_skip (sub_skip (sub_self _)) | exact sub_skip (sub_skip (sub_skip (sub_self _))) | (apply Sub.cons; · repeat (first | exact .head | apply Take.tail))))⟩, ?_⟩
        refine vd_op rfl rfl ?_
        refine vl_val rfl (.some rfl) (by first | exact val_fieldAddr Try.runUnderlying161 rfl Try.sizeOf40 rfl | exact val_fieldAddrR Try.runUnderlying161 rfl Try.sizeOf40 rfl) ?_
        refine vl_nil ?_
        refine ⟨fun _ => ⟨_, (by repeat (first | exact .nil | exact sub_self _ | exact sub_skip (sub_self _) | exact sub_skip (sub_skip (sub_self _)) | exact sub_skip (sub_skip (sub_skip (sub_self _))) | (apply Sub.cons; · repeat (first | exact .head | apply Take.tail))))⟩, ?_⟩
        refine vd_val rfl rfl rfl (.some rfl) (by first | exact val_fieldAddr Try.runUnderlying40 rfl Try.sizeOf37 rfl | exact val_fieldAddrR Try.runUnderlying40 rfl Try.sizeOf37 rfl) ?_
        refine vd_op rfl rfl ?_
        first | refine vl_store rfl rfl .none rfl rfl Try.sizeOf37 rfl (by repeat constructor) (by first | decide | exact Nat.le_refl _ | exact Nat.le_of_ble_eq_true rfl | (simp; omega)) ?_ | refine vl_storeSl rfl rfl .none rfl rfl Try.sizeOf37 rfl (by simp [Value.cells]) (by repeat constructor) (by first | decide | (simp [Value.cells]; omega)) ?_
        refine vl_nil ?_
        refine ⟨fun h => (by cases h), ?_⟩
        refine vd_nil ?_
        refine vc_region ?_
        refine vl_val rfl (.some rfl) (val_add rfl rfl (by first | exact w_i64 (by omega) (by omega) | rfl)) ?_
        refine vl_val rfl (.some rfl) (val_move rfl) ?_
        refine vl_nil ?_
        exact ⟨(p3.1 - (i + 1)), _, _, _, by omega, (by repeat (first | exact trivial | refine ⟨rfl, ?_⟩ | refine ⟨le_item rfl (by first | rfl | (congr 1; omega) | (simp; done) | (simp; omega)), ?_⟩)), (by repeat constructor), ⟨i + 1, A4, c4, p4.2, ds ++ [p4.1], A60, k60, by simp [hci], by omega, rfl, hS2.trans hS4, hM2, rfl, rfl⟩⟩
      · (try replace hc3 := of_decide_eq_false hc3)
        have hi2 : i = p3.1 := by omega
        have hmd := many_ie hM hi2
        refine vc_exit ?_
        refine vc_seq ?_
        refine vc_seq ?_
        refine vc_region ?_
        refine vl_val rfl (.some rfl) (val_move rfl) ?_
        refine vl_callRd (A := A2) (b := b2) (c := c2) rfl rfl (.some rfl) Try.call107 rfl (by repeat constructor) (fun w' hw => pCnt r A2 c2 b2 (by have h9 := hS2.len; omega) hS2.cap w' (readsM_old (hS2.rd _ _ (hr)) (by repeat constructor) hw)) (fun p5 A5 c5 he5 hS5 => ?_) (fun hn H' => ⟨[], _, .nil, ptR_none (by rw [prol5 he1 he2 he3 hmd, hn]; rfl)⟩)
        obtain ⟨hu5, hl5⟩ := rCnt_is he5
        have hp5 : rPart 2 b = (rMany rMea p5.1 p5.2).map fun m => (⟨2, t0, ⟨p1.1, p2.1, ds, m.1⟩, [], []⟩, m.2) := by rw [prol5 he1 he2 he3 hmd, he5]; rfl
        refine vl_val rfl (.some rfl) (val_move rfl) ?_
        refine vl_nil ?_
        refine vc_block ?_
        refine vc_nilSl 104 2 ?_
        refine vc_loopw (fun q E H => ∃ (i : Nat) (A2 : Option Addr) (c2 : Nat) (b2 : Tx) (ms : List Mq) (A8 : Option Addr) (c8 : Nat), ms.length = i ∧ i ≤ p5.1 ∧ q = p5.1 - i ∧ Sfx A b A2 c2 b2 ∧ ManyI rMea p5.1 p5.2 i ms b2 ∧ E = [(0, .pointer (some ⟨r, 0, none⟩)), (7, .pointer (some ⟨r7, 0, none⟩)), (65, .int .i64 (p5.1 : Nat)), (66, .int .i64 i)] ∧ H = [RC r A2 b2.length c2, cells r7 [.string (sL p1.1), .string (sL p2.1), .slice A7 ds.length c7, .slice A8 ms.length c8] 161, sl A8 ms.length c8 104 2 (ms.flatMap meaV), sl A7 ds.length c7 9 1 (tcS ds)]) (p5.1) ⟨_, _, _, ⟨0, A5, c5, p5.2, [], none, 0, rfl, by omega, rfl, hS2.trans hS5, many_i0, rfl, rfl⟩, (by repeat (first | exact trivial | refine ⟨rfl, ?_⟩ | refine ⟨le_item rfl (by first | rfl | (congr 1; omega) | (simp; done) | (simp; omega)), ?_⟩)), (by repeat constructor)⟩ ?_
        intro q E H hI
        obtain ⟨i, A2, c2, b2, ms, A8, c8, hci4, hip4, rfl, hS2, hM4, rfl, rfl⟩ := hI
        have hlb := hS2.len
        refine vc_seq ?_
        refine vc_region ?_
        refine vl_val rfl (.some rfl) (val_lt rfl rfl) ?_
        refine vl_nil ?_
        refine vc_seq ?_
        refine vc_cond rfl (fun hc4 => ?_) (fun hc4 => ?_)
        · (try replace hc4 := of_decide_eq_true hc4)
          refine vc_skip ?_
          refine vc_seq ?_
          refine vc_block ?_
          refine vc_seq ?_
          refine vc_region ?_
          refine vl_val rfl (.some rfl) (val_move rfl) ?_
          refine vl_callRd (A := A2) (b := b2) (c := c2) rfl rfl (.some rfl) Try.call60 rfl (by repeat constructor) (fun w' hw => pNum r A2 c2 b2 (by have h9 := hS2.len; omega) hS2.cap w' (readsM_old (hS2.rd _ _ (hr)) (by repeat constructor) hw)) (fun p6 A6 c6 he6 hS6 => ?_) (fun hn H' => ⟨[], _, .nil, ptR_none (by rw [hp5, many_in hM4 (by omega) (rMea_1 hn)]; rfl)⟩)
          obtain ⟨hu6, hl6⟩ := rNum_is he6
          refine vl_val rfl (.some rfl) (val_convInt Try.runUnderlying23 Try.runUnderlying3 rfl (w_i64N hu6)) ?_
          refine vl_val rfl (.some rfl) (val_assign rfl) ?_
          refine vl_nil ?_
          refine vc_drawsS [0, 1, 2, 3, 4, 6, 10] [11] [0, 1, 2, 3, 4, 5, 6, 7, 8, 9, 10, 11] [cells r7 [.string (sL p1.1), .string (sL p2.1), .slice A7 ds.length c7, .slice A8 ms.length c8] 161] (by repeat constructor) rfl (by kernel_rfl) (fun _ _ _ h => h) ?_
          refine vd_val rfl rfl rfl (.some rfl) (by first | exact val_fieldAddr Try.runUnderlying161 rfl Try.sizeOf40 rfl | exact val_fieldAddrR Try.runUnderlying161 rfl Try.sizeOf40 rfl) ?_
          refine vd_val rfl rfl rfl (.some rfl) (by first | exact val_fieldAddr Try.runUnderlying40 rfl Try.sizeOf38 rfl | exact val_fieldAddrR Try.runUnderlying40 rfl Try.sizeOf38 rfl) ?_
          refine vd_val rfl rfl rfl (.some rfl) (val_load Try.isAgg38 rfl (by first | exact cell_cells (by repeat constructor) rfl | exact cell_rd (by first | exact rd_sl (by repeat constructor) | exact rd_old (by assumption) rfl) (by first | exact bcells_at (by omega) | exact ucells_at (by omega) | exact icells_at (by omega) | exact tcells_at (by omega) | exact bcells_get (by omega) | exact icells_get (by omega) | exact tcells_get (by omega) | exact ucells_get (by omega)) | exact cell_old (by assumption) (by simp [fps]))) ?_
          refine vd_val rfl rfl rfl (.some rfl) (val_move rfl) ?_
          refine vd_val rfl rfl rfl (.some rfl) (val_move rfl) ?_
          refine vd_op rfl rfl ?_
          refine vl_callRd (A := A6) (b := p6.2) (c := c6) rfl rfl (.some rfl) Try.call106 rfl (by repeat constructor) (fun w' hw => pTxt r A6 c6 p6.2 (by have h9 := (hS2.trans hS6).len; omega) (hS2.trans hS6).cap w' (readsM_old ((hS2.trans hS6).rd _ _ (hr)) (by repeat constructor) hw)) (fun p7 A7_ c7_ he7 hS7 => ?_) (fun hn H' => ⟨[], _, .nil, ptR_none (by rw [hp5, many_in hM4 (by omega) (rMea_2 he6 hn)]; rfl)⟩)
          have hl7 := rTx_is he7
          have hM5 := many_is hM4 (by omega) (rMea_3 he6 he7)
          refine vl_nil ?_
          refine ⟨fun _ => ⟨_, (by repeat (first | exact .nil | exact sub_self _ | exact sub_skip (sub_self _) | exact sub_skip (sub_skip (sub_self _)) | exact sub_skip (sub_skip (sub_skip (sub_self _))) | (apply Sub.cons; · repeat (first | exact .head | apply Take.tail))))⟩, ?_⟩
          refine vd_val rfl rfl rfl (.some rfl) (val_buildSt (pl := #[(0, 1), (1, 1)]) (cs := (meaV (i64N p6.1, p7.1)).toArray) Try.runUnderlying104 Try.zeroValue104 (fun w => by kernel_rfl) rfl rfl) ?_
          refine vd_op rfl rfl ?_
          refine vl_lit sT38 rfl rfl (.some rfl) rfl rfl rfl (by decide) (by decide) rfl rfl (fun r78 => ?_)
          refine vl_nil ?_
          refine ⟨fun _ => ⟨_, (by repeat (first | exact .nil | exact sub_self _ | exact sub_skip (sub_self _) | exact sub_skip (sub_skip (sub_self _)) | exact sub_skip (sub_skip (sub_skip (sub_self _))) | (apply Sub.cons; · repeat (first | exact .head | apply Take.tail))))⟩, ?_⟩
          refine vd_op rfl rfl ?_
          refine vl_append (vs := ms.flatMap meaV) (us := meaV (i64N p6.1, p7.1)) sT38 rfl rfl (.some rfl) rfl rfl (rd_sl (by repeat constructor)) rfl rfl (by omega) (by omega) (by repeat constructor) (fun A79 k79 => ?_)
          rw [show ms.flatMap meaV ++ meaV (i64N p6.1, p7.1) = (ms ++ [(i64N p6.1, p7.1)]).flatMap meaV by simp, show ms.length + 1 = (ms ++ [(i64N p6.1, p7.1)]).length by simp]
          refine vl_nil ?_
          refine ⟨fun _ => ⟨_, (by repeat (first | exact .nil | exact sub_self _ | exact sub_skip (sub_self _) | exact sub_skip (sub_skip (sub_self _)) | exact sub_skip (sub_skip (sub_skip (sub_self _))) | (apply Sub.cons; · repeat (first | exact .head | apply Take.tail))))⟩, ?_⟩
          refine vd_op rfl rfl ?_
          refine vl_val rfl (.some rfl) (by first | exact val_fieldAddr Try.runUnderlying161 rfl Try.sizeOf40 rfl | exact val_fieldAddrR Try.runUnderlying161 rfl Try.sizeOf40 rfl) ?_
          refine vl_nil ?_
          refine ⟨fun _ => ⟨_, (by repeat (first | exact .nil | exact sub_self _ | exact sub_skip (sub_self _) | exact sub_skip (sub_skip (sub_self _)) | exact sub_skip (sub_skip (sub_skip (sub_self _))) | (apply Sub.cons; · repeat (first | exact .head | apply Take.tail))))⟩, ?_⟩
          refine vd_val rfl rfl rfl (.some rfl) (by first | exact val_fieldAddr Try.runUnderlying40 rfl Try.sizeOf38 rfl | exact val_fieldAddrR Try.runUnderlying40 rfl Try.sizeOf38 rfl) ?_
          refine vd_op rfl rfl ?_
          first | refine vl_store rfl rfl .none rfl rfl Try.sizeOf38 rfl (by repeat constructor) (by first | decide | exact Nat.le_refl _ | exact Nat.le_of_ble_eq_true rfl | (simp; omega)) ?_ | refine vl_storeSl rfl rfl .none rfl rfl Try.sizeOf38 rfl (by simp [Value.cells]) (by repeat constructor) (by first | decide | (simp [Value.cells]; omega)) ?_
          refine vl_nil ?_
          refine ⟨fun h => (by cases h), ?_⟩
          refine vd_nil ?_
          refine vc_region ?_
          refine vl_val rfl (.some rfl) (val_add rfl rfl (by first | exact w_i64 (by omega) (by omega) | rfl)) ?_
          refine vl_val rfl (.some rfl) (val_move rfl) ?_
          refine vl_nil ?_
          exact ⟨(p5.1 - (i + 1)), _, _, _, by omega, (by repeat (first | exact trivial | refine ⟨rfl, ?_⟩ | refine ⟨le_item rfl (by first | rfl | (congr 1; omega) | (simp; done) | (simp; omega)), ?_⟩)), (by repeat constructor), ⟨i + 1, A7_, c7_, p7.2, ms ++ [(i64N p6.1, p7.1)], A79, k79, by simp [hci4], by omega, rfl, (hS2.trans hS6).trans hS7, hM5, rfl, rfl⟩⟩
        · (try replace hc4 := of_decide_eq_false hc4)
          have hi4 : i = p5.1 := by omega
          refine vc_exit ?_
          refine vc_seq ?_
          refine vc_region ?_
          refine vl_val rfl (.some rfl) (val_loadAgg Try.isAgg161 Try.sizeOf161 rfl (by first | exact cells_whole (by repeat constructor) | exact cells_part (by repeat constructor) rfl) rfl) ?_
          refine vl_val rfl (.some rfl) (val_mkIface Try.runUnderlying161 rfl rfl) ?_
          refine vl_val rfl (.some rfl) (val_assign rfl) ?_
          refine vl_nil ?_
          refine vc_ret ?_
          refine ⟨_, RC r A2 b2.length c2 :: [sl A7 ds.length c7 9 1 (tcS ds), sl A8 ms.length c8 104 2 (ms.flatMap meaV)], _, res1 Try.results59 rfl, (by repeat constructor), ?_⟩
          exact ptR_some (m := ⟨2, [], none, 0, [], p1.1, p2.1, A7, c7, ds, A8, c8, ms, [], none, 0, []⟩) (by rw [hp5, many_ie hM4 hi4]; rfl) rfl hS2 (fun w hk => ⟨(reads_nilR (by rfl)), reads_chunkR hk (List.Mem.head _), reads_chunkR hk (List.Mem.tail _ (List.Mem.head _)), (reads_nilR (by rfl)), fun q hq => by cases hq⟩)
    · (try replace hc2 := of_decide_eq_false hc2)
      refine vc_seq ?_
      refine vc_region ?_
      refine vl_val rfl (.some rfl) (val_eq rfl rfl) ?_
      refine vl_val rfl (.some rfl) (val_assign rfl) ?_
      refine vl_nil ?_
      refine vc_cond rfl (fun hc5 => ?_) (fun hc5 => ?_)
      · (try replace hc5 := of_decide_eq_true hc5)
        obtain rfl : k = 3 := by omega
        refine vc_seq ?_
        refine vc_region ?_
        refine vl_val rfl (.some rfl) (val_move rfl) ?_
        refine vl_callRd (A := A) (b := b) (c := c) rfl rfl (.some rfl) Try.call106 rfl (by repeat constructor) (fun w' hw => pTxt r A c b hb hbc w' (readsM_old (hr) (by repeat constructor) hw)) (fun p1 A1 c1 he1 hS1 => ?_) (fun hn H' => ⟨[], _, .nil, ptR_none (pbat1 hn)⟩)
        have hl1 := rTx_is he1
        refine vl_val rfl (.some rfl) (val_buildSt (pl := #[(0, 1), (1, 1)]) (cs := #[.string (sL p1.1), .slice none 0 0]) Try.runUnderlying163 Try.zeroValue163 (fun w => by kernel_rfl) rfl rfl) ?_
        refine vl_alloc rfl rfl (.some rfl) Try.zeroValue163 (fun r9 => ?_)
        first | refine vl_store rfl rfl .none rfl rfl Try.sizeOf163 rfl (by repeat constructor) (by first | decide | exact Nat.le_refl _ | exact Nat.le_of_ble_eq_true rfl | (simp; omega)) ?_ | refine vl_storeSl rfl rfl .none rfl rfl Try.sizeOf163 rfl (by simp [Value.cells]) (by repeat constructor) (by first | decide | (simp [Value.cells]; omega)) ?_
        refine vl_nil ?_
        refine vc_seq ?_
        refine vc_seq ?_
        refine vc_region ?_
        refine vl_val rfl (.some rfl) (val_move rfl) ?_
        refine vl_callRd (A := A1) (b := p1.2) (c := c1) rfl rfl (.some rfl) Try.call107 rfl (by repeat constructor) (fun w' hw => pCnt r A1 c1 p1.2 (by have h9 := hS1.len; omega) hS1.cap w' (readsM_old (hS1.rd _ _ (hr)) (by repeat constructor) hw)) (fun p2 A2 c2 he2 hS2 => ?_) (fun hn H' => ⟨[], _, .nil, ptR_none (pbat2 he1 hn)⟩)
        obtain ⟨hu2, hl2⟩ := rCnt_is he2
        refine vl_val rfl (.some rfl) (val_move rfl) ?_
        refine vl_nil ?_
        refine vc_block ?_
        refine vc_eqv (eqv_big [] _).symm ?_
        refine vc_nilSl 105 1 ?_
        refine vc_loopw (fun q E H => ∃ (i : Nat) (A2 : Option Addr) (c2 : Nat) (b2 : Tx) (rs : List Rw) (A7 : Option Addr) (c7 : Nat) (L : List Chunk), rs.length = i ∧ i ≤ p2.1 ∧ q = p2.1 - i ∧ Sfx A b A2 c2 b2 ∧ ManyI rRow p2.1 p2.2 i (rs.map fun q => q.2.2) b2 ∧ (∀ q ∈ rs, DS q.1 q.2.1 q.2.2 ∈ L ∧ ∀ p ∈ q.2.2, WV p) ∧ E = [(0, .pointer (some ⟨r, 0, none⟩)), (9, .pointer (some ⟨r9, 0, none⟩)), (91, .int .i64 (p2.1 : Nat)), (92, .int .i64 i)] ∧ H = [RC r A2 b2.length c2, cells r9 [.string (sL p1.1), .slice A7 rs.length c7] 163, sl A7 rs.length c7 105 1 (rs.flatMap rowV), big L]) (p2.1) ⟨_, _, _, ⟨0, A2, c2, p2.2, [], none, 0, [], rfl, by omega, rfl, hS1.trans hS2, many_i0, (fun q hq => by cases hq), rfl, rfl⟩, (by repeat (first | exact trivial | refine ⟨rfl, ?_⟩ | refine ⟨le_item rfl (by first | rfl | (congr 1; omega) | (simp; done) | (simp; omega)), ?_⟩)), (by repeat constructor)⟩ ?_
        intro q E H hI
        obtain ⟨i, A2, c2, b2, rs, A7, c7, L, hci, hip, rfl, hS2, hM, hL, rfl, rfl⟩ := hI
        have hlb := hS2.len
        refine vc_seq ?_
        refine vc_region ?_
        refine vl_val rfl (.some rfl) (val_lt rfl rfl) ?_
        refine vl_nil ?_
        refine vc_seq ?_
        refine vc_cond rfl (fun hc6 => ?_) (fun hc6 => ?_)
        · (try replace hc6 := of_decide_eq_true hc6)
          refine vc_skip ?_
          refine vc_seq ?_
          refine vc_block ?_
          refine vc_seq ?_
          refine vc_region ?_
          refine vl_val rfl (.some rfl) (val_move rfl) ?_
          refine vl_callRd (A := A2) (b := b2) (c := c2) rfl rfl (.some rfl) Try.call106 rfl (by repeat constructor) (fun w' hw => pTxt r A2 c2 b2 (by have h9 := hS2.len; omega) hS2.cap w' (readsM_old (hS2.rd _ _ (hr)) (by repeat constructor) hw)) (fun p3 A3 c3 he3 hS3 => ?_) (fun hn H' => ⟨[], _, .nil, ptR_none (by rw [pbat he1 he2, many_in hM (by omega) (rRow_1 hn)]; rfl)⟩)
          have hl3 := rTx_is he3
          refine vl_strBytes rfl rfl (.some rfl) Try.underlying9 Try.underlying22 Try.underlying5 rfl (fun r97 c97 h97 => ?_)
          rw [sL_list, sL_size]
          rw [sL_size] at h97
          refine vl_call (C := []) rfl rfl (.some rfl) Try.call108 rfl .nil (fun w' hw => vLoad (some ⟨r97, 0, none⟩) c97 p3.1 (by omega) h97 w' (rdw (rd_ro (by repeat constructor)) hw)) (fun v H' h => ?_)
          obtain ⟨A98, c98, rfl, rfl⟩ := h
          show VL _ _ _ _ _ (_ :: _)
          refine vl_val rfl (.some rfl) (val_move rfl) ?_
          refine vl_val rfl (.some rfl) (val_extract rfl rfl) ?_
          refine vl_val rfl (.some rfl) (val_extract rfl rfl) ?_
          refine vl_val rfl (.some rfl) (val_assign rfl) ?_
          refine vl_val rfl (.some rfl) (val_assign rfl) ?_
          refine vl_nil ?_
          refine vc_seq ?_
          refine vc_seq ?_
          refine vc_region ?_
          refine vl_val rfl (.some rfl) (val_move rfl) ?_
          refine vl_val rfl (.some rfl) (val_ne rfl rfl) ?_
          refine vl_nil ?_
          refine vc_cond rfl (fun hc7 => ?_) (fun hc7 => ?_)
          · (try replace hc7 := of_decide_eq_true hc7)
            refine vc_region ?_
            refine vl_val rfl (.some rfl) (val_buildSt (pl := #[]) (cs := #[]) Try.runUnderlying114 Try.zeroValue114 (fun w => by kernel_rfl) rfl rfl) ?_
            refine vl_val rfl (.some rfl) (val_mkIface Try.runUnderlying114 rfl rfl) ?_
            refine vl_panic (fE := fun _ => []) rfl rfl rfl ?_
            refine ⟨[], _, .nil, ptR_none ?_⟩
            obtain ⟨_, hln⟩ | ⟨he0, _⟩ := load_cases p3.1
            · rw [pbat he1 he2, many_in hM (by omega) (rRow_2 he3 hln)]; rfl
            · omega
          · (try replace hc7 := of_decide_eq_false hc7)
            obtain ⟨_, hln⟩ | ⟨_, l, hll⟩ := load_cases p3.1
            · omega
            obtain ⟨el1, el2⟩ := load9_some hll
            rw [el1]
            refine vc_eqv (Eqv.trans (Eqv.perm (Sub.perm (C := [DS A98 c98 l, big L]) (by repeat constructor))) (eqv_big_push L (DS A98 c98 l) _)) ?_
            refine vc_skip ?_
            refine vc_region ?_
            refine vl_val rfl (.some rfl) (by first | exact val_fieldAddr Try.runUnderlying163 rfl Try.sizeOf41 rfl | exact val_fieldAddrR Try.runUnderlying163 rfl Try.sizeOf41 rfl) ?_
            refine vl_val rfl (.some rfl) (val_load Try.isAgg41 rfl (by first | exact cell_cells (by repeat constructor) rfl | exact cell_rd (by first | exact rd_sl (by repeat constructor) | exact rd_old (by assumption) rfl) (by first | exact bcells_at (by omega) | exact ucells_at (by omega) | exact icells_at (by omega) | exact tcells_at (by omega) | exact bcells_get (by omega) | exact icells_get (by omega) | exact tcells_get (by omega) | exact ucells_get (by omega)) | exact cell_old (by assumption) (by simp [fps]))) ?_
            refine vl_val rfl (.some rfl) (val_move rfl) ?_
            refine vl_lit sT41 rfl rfl (.some rfl) rfl rfl rfl (by decide) (by decide) rfl (flat_one rfl) (fun r108 => ?_)
            refine vl_append (vs := rs.flatMap rowV) (us := rowV (A98, c98, l)) sT41 rfl rfl (.some rfl) rfl rfl (rd_sl (by repeat constructor)) rfl rfl (by omega) (by omega) (by repeat constructor) (fun A109 k109 => ?_)
            rw [show rs.flatMap rowV ++ rowV (A98, c98, l) = (rs ++ [(A98, c98, l)]).flatMap rowV by simp, show rs.length + 1 = (rs ++ [(A98, c98, l)]).length by simp]
            refine vl_val rfl (.some rfl) (by first | exact val_fieldAddr Try.runUnderlying163 rfl Try.sizeOf41 rfl | exact val_fieldAddrR Try.runUnderlying163 rfl Try.sizeOf41 rfl) ?_
            first | refine vl_store rfl rfl .none rfl rfl Try.sizeOf41 rfl (by repeat constructor) (by first | decide | exact Nat.le_refl _ | exact Nat.le_of_ble_eq_true rfl | (simp; omega)) ?_ | refine vl_storeSl rfl rfl .none rfl rfl Try.sizeOf41 rfl (by simp [Value.cells]) (by repeat constructor) (by first | decide | (simp [Value.cells]; omega)) ?_
            refine vl_nil ?_
            refine vc_region ?_
            refine vl_val rfl (.some rfl) (val_add rfl rfl (by first | exact w_i64 (by omega) (by omega) | rfl)) ?_
            refine vl_val rfl (.some rfl) (val_move rfl) ?_
            refine vl_nil ?_
            exact ⟨(p2.1 - (i + 1)), _, _, _, by omega, (by repeat (first | exact trivial | refine ⟨rfl, ?_⟩ | refine ⟨le_item rfl (by first | rfl | (congr 1; omega) | (simp; done) | (simp; omega)), ?_⟩)), (by repeat constructor), ⟨i + 1, A3, c3, p3.2, rs ++ [(A98, c98, l)], A109, k109, L ++ [DS A98 c98 l], by simp [hci], by omega, rfl, hS2.trans hS3, by rw [List.map_append]; exact many_is hM (by omega) (rRow_3 he3 hll), (fun q hq => (List.mem_append.1 hq).elim (fun h => ⟨List.mem_append_left _ (hL q h).1, (hL q h).2⟩) (fun h => by rw [List.mem_singleton.1 h]; exact ⟨List.mem_append_right _ (List.Mem.head _), load_wv hll⟩)), rfl, rfl⟩⟩
        · (try replace hc6 := of_decide_eq_false hc6)
          have hi2 : i = p2.1 := by omega
          refine vc_exit ?_
          refine vc_seq ?_
          refine vc_region ?_
          refine vl_val rfl (.some rfl) (val_loadAgg Try.isAgg163 Try.sizeOf163 rfl (by first | exact cells_whole (by repeat constructor) | exact cells_part (by repeat constructor) rfl) rfl) ?_
          refine vl_val rfl (.some rfl) (val_mkIface Try.runUnderlying163 rfl rfl) ?_
          refine vl_val rfl (.some rfl) (val_assign rfl) ?_
          refine vl_nil ?_
          refine vc_ret ?_
          refine ⟨_, RC r A2 b2.length c2 :: [sl A7 rs.length c7 105 1 (rs.flatMap rowV), big L], _, res1 Try.results59 rfl, (by repeat constructor), ?_⟩
          exact ptR_some (m := ⟨3, [], none, 0, [], [], [], none, 0, [], none, 0, [], p1.1, A7, c7, rs⟩) (by rw [pbat he1 he2, many_ie hM hi2]; rfl) rfl hS2 (fun w hk => ⟨(reads_nilR (by rfl)), (reads_nilR (by rfl)), (reads_nilR (by rfl)), reads_chunkR hk (List.Mem.head _), fun q hq => ⟨reads_chunkR (hk (big L) (List.Mem.tail _ (List.Mem.head _))) (hL q hq).1, (hL q hq).2⟩⟩)
      · (try replace hc5 := of_decide_eq_false hc5)
        refine vc_skip ?_
        refine vc_region ?_
        refine vl_val rfl (.some rfl) (val_buildSt (pl := #[]) (cs := #[]) Try.runUnderlying114 Try.zeroValue114 (fun w => by kernel_rfl) rfl rfl) ?_
        refine vl_val rfl (.some rfl) (val_mkIface Try.runUnderlying114 rfl rfl) ?_
        refine vl_panic (fE := fun _ => []) rfl rfl rfl ?_
        exact ⟨[], _, .nil, ptR_none (pno (by omega) (by omega) (by omega))⟩




/-! How long what is read may be. -/
structure PL (N : Nat) (x : Rec) : Prop where
  tn : x.t.n.length ≤ N
  cs : x.t.cs.length ≤ N
  csx : ∀ c ∈ x.t.cs, c.1.length ≤ N
  rn : x.r.n.length ≤ N
  rt : x.r.t.length ≤ N
  ds : x.r.ds.length ≤ N
  dsx : ∀ c ∈ x.r.ds, c.length ≤ N
  ms : x.r.ms.length ≤ N
  msx : ∀ c ∈ x.r.ms, c.2.length ≤ N
  nm : x.nm.length ≤ N
  rs : x.rows.length ≤ N
  rsx : ∀ c ∈ x.rows, c.length ≤ N
theorem many_all {α : Type} {f : Tx → Option (α × Tx)} {g : α → Nat} (hf : ∀ b x b2, f b = some (x, b2) → g x ≤ b.length ∧ b2.length ≤ b.length) : ∀ (n : Nat) (b : Tx) (l : List α) (b2 : Tx), rMany f n b = some (l, b2) → l.length = n ∧ (∀ x ∈ l, g x ≤ b.length) ∧ b2.length ≤ b.length
  | 0, b, l, b2, h => by cases h; exact ⟨rfl, by simp, Nat.le_refl _⟩
  | n + 1, b, l, b2, h => by
    have h : ((f b).bind fun p => (rMany f n p.2).map fun q => (p.1 :: q.1, q.2)) = some (l, b2) := h
    cases h1 : f b with
    | none => rw [h1] at h; cases h
    | some p =>
      rw [h1] at h
      have h : (rMany f n p.2).map (fun q => (p.1 :: q.1, q.2)) = some (l, b2) := h
      cases h2 : rMany f n p.2 with
      | none => rw [h2] at h; cases h
      | some q =>
        rw [h2] at h
        cases h
        obtain ⟨i1, i2, i3⟩ := many_all hf n p.2 q.1 q.2 h2
        obtain ⟨j1, j2⟩ := hf b p.1 p.2 h1
        refine ⟨by simp [i1], fun x hx => ?_, by show q.2.length ≤ _; omega⟩
        rcases List.mem_cons.1 hx with rfl | hx
        · exact j1
        · exact Nat.le_trans (i2 x hx) j2
theorem many_vlen : ∀ (q c : Nat) (b : List UInt8) (l : List Vk), manyV q c b = some l → l.length ≤ b.length := by
  intro q
  induction q with
  | zero =>
    intro c b l h
    cases c with
    | zero => unfold manyV at h; split at h <;> cases h; simp
    | succ c => cases h
  | succ q ih =>
    intro c b l h
    cases c with
    | zero => unfold manyV at h; split at h <;> cases h; simp
    | succ c =>
      have h : (match oneV b with | none => none | some (v, r) => (manyV q c r).map (v :: ·)) = some l := h
      cases h1 : oneV b with
      | none => rw [h1] at h; cases h
      | some p =>
        obtain ⟨v, r⟩ := p
        have hl := (one_is h1).1
        rw [h1] at h
        have h : (manyV q c r).map (v :: ·) = some l := h
        cases h2 : manyV q c r with
        | none => rw [h2] at h; cases h
        | some l2 =>
          rw [h2] at h
          cases h
          have := ih c r l2 h2
          simp only [List.length_cons]; omega
theorem load_vlen {b : List UInt8} {l : List Vk} (h : loadV b = some l) : l.length ≤ b.length := by
  unfold loadV at h
  split at h
  · cases h
  · have := many_vlen _ _ _ _ h
    rw [List.length_drop] at this; omega
theorem rTx_g (b : Tx) (x : Tx) (b2 : Tx) (h : rTx b = some (x, b2)) : x.length ≤ b.length ∧ b2.length ≤ b.length := by
  have := rTx_is h
  simp only at this
  omega
theorem rCol_g (b : Tx) (x : Cq) (b2 : Tx) (h : rCol b = some (x, b2)) : x.1.length ≤ b.length ∧ b2.length ≤ b.length := by
  unfold rCol at h
  cases h1 : rTx b with
  | none => rw [h1] at h; cases h
  | some p =>
    rw [h1] at h
    have h : (rNum p.2).map (fun q => ((p.1, i64N q.1), q.2)) = some (x, b2) := h
    cases h2 : rNum p.2 with
    | none => rw [h2] at h; cases h
    | some q =>
      rw [h2] at h
      cases h
      have h3 := rTx_g b p.1 p.2 h1
      have h4 := rNum_is h2
      exact ⟨h3.1, by show q.2.length ≤ _; omega⟩
theorem rMea_g (b : Tx) (x : Mq) (b2 : Tx) (h : rMea b = some (x, b2)) : x.2.length ≤ b.length ∧ b2.length ≤ b.length := by
  unfold rMea at h
  cases h1 : rNum b with
  | none => rw [h1] at h; cases h
  | some p =>
    rw [h1] at h
    have h : (rTx p.2).map (fun q => ((i64N p.1, q.1), q.2)) = some (x, b2) := h
    cases h2 : rTx p.2 with
    | none => rw [h2] at h; cases h
    | some q =>
      rw [h2] at h
      cases h
      have h3 := rTx_g p.2 q.1 q.2 h2
      have h4 := rNum_is h1
      exact ⟨by show q.1.length ≤ _; omega, by show q.2.length ≤ _; omega⟩
theorem rRow_g (b : Tx) (x : List Vk) (b2 : Tx) (h : rRow b = some (x, b2)) : x.length ≤ b.length ∧ b2.length ≤ b.length := by
  unfold rRow at h
  cases h1 : rTx b with
  | none => rw [h1] at h; cases h
  | some p =>
    rw [h1] at h
    have h : (loadV p.1).map (fun l => (l, p.2)) = some (x, b2) := h
    cases h2 : loadV p.1 with
    | none => rw [h2] at h; cases h
    | some l =>
      rw [h2] at h
      cases h
      have h3 := rTx_g b p.1 p.2 h1
      have h4 := load_vlen h2
      exact ⟨by omega, h3.2⟩
theorem part_is {k : Nat} {b : Tx} {x : Rec} {b2 : Tx} (h : rPart k b = some (x, b2)) : (x.k = 1 ∨ x.k = 2 ∨ x.k = 3) ∧ bareP x ∧ PL b.length x ∧ b2.length ≤ b.length := by
  unfold rPart at h
  split at h
  · unfold rTab at h
    cases h1 : rTx b with
    | none => rw [h1] at h; cases h
    | some p =>
      rw [h1] at h
      have h : ((rCnt p.2).bind fun q => (rMany rCol q.1 q.2).map fun s => ((⟨p.1, s.1⟩ : RT), s.2)).map (fun p => ((⟨1, p.1, r0, [], []⟩ : Rec), p.2)) = some (x, b2) := h
      cases h2 : rCnt p.2 with
      | none => rw [h2] at h; cases h
      | some q =>
        rw [h2] at h
        have h : ((rMany rCol q.1 q.2).map fun s => ((⟨p.1, s.1⟩ : RT), s.2)).map (fun p => ((⟨1, p.1, r0, [], []⟩ : Rec), p.2)) = some (x, b2) := h
        cases h3 : rMany rCol q.1 q.2 with
        | none => rw [h3] at h; cases h
        | some s =>
          rw [h3] at h
          cases h
          have g1 := rTx_g b p.1 p.2 h1
          have g2 := rCnt_is h2
          obtain ⟨g3, g4, g5⟩ := many_all (g := fun c : Cq => c.1.length) rCol_g _ _ _ _ h3
          refine ⟨.inl rfl, ⟨.inl rfl, .inr ⟨rfl, rfl, rfl, rfl⟩, .inr ⟨rfl, rfl⟩⟩, ⟨g1.1, by show s.1.length ≤ _; omega, fun c hc => by have := g4 c hc; show c.1.length ≤ _; omega, Nat.zero_le _, Nat.zero_le _, Nat.zero_le _, by simp, Nat.zero_le _, by simp, Nat.zero_le _, Nat.zero_le _, by simp⟩, by show s.2.length ≤ _; omega⟩
  · split at h
    · unfold rRol at h
      cases h1 : rTx b with
      | none => rw [h1] at h; cases h
      | some p =>
        cases h2 : rTx p.2 with
        | none => rw [h1] at h; simp [h2] at h
        | some p2 =>
          cases h3 : rCnt p2.2 with
          | none => rw [h1] at h; simp [h2, h3] at h
          | some c =>
            cases h4 : rMany rTx c.1 c.2 with
            | none => rw [h1] at h; simp [h2, h3, h4] at h
            | some d =>
              cases h5 : rCnt d.2 with
              | none => rw [h1] at h; simp [h2, h3, h4, h5] at h
              | some e =>
                cases h6 : rMany rMea e.1 e.2 with
                | none => rw [h1] at h; simp [h2, h3, h4, h5, h6] at h
                | some m =>
                  rw [h1] at h
                  simp only [Option.bind_some, h2, h3, h4, h5, h6, Option.map_some, Option.some.injEq, Prod.mk.injEq] at h
                  obtain ⟨rfl, rfl⟩ := h
                  have g1 := rTx_g b p.1 p.2 h1
                  have g2 := rTx_g p.2 p2.1 p2.2 h2
                  have g3 := rCnt_is h3
                  obtain ⟨g4, g5, g6⟩ := many_all (g := fun c : Tx => c.length) rTx_g _ _ _ _ h4
                  have g7 := rCnt_is h5
                  obtain ⟨g8, g9, g10⟩ := many_all (g := fun c : Mq => c.2.length) rMea_g _ _ _ _ h6
                  refine ⟨.inr (.inl rfl), ⟨.inr ⟨rfl, rfl⟩, .inl rfl, .inr ⟨rfl, rfl⟩⟩, ⟨Nat.zero_le _, Nat.zero_le _, by simp, g1.1, by show p2.1.length ≤ _; omega, by show d.1.length ≤ _; omega, fun c hc => by have := g5 c hc; omega, by show m.1.length ≤ _; omega, fun c hc => by have := g9 c hc; show c.2.length ≤ _; omega, Nat.zero_le _, Nat.zero_le _, by simp⟩, by show m.2.length ≤ _; omega⟩
    · split at h
      · unfold rBat at h
        cases h1 : rTx b with
        | none => rw [h1] at h; cases h
        | some p =>
          cases h2 : rCnt p.2 with
          | none => rw [h1] at h; simp [h2] at h
          | some q =>
            cases h3 : rMany rRow q.1 q.2 with
            | none => rw [h1] at h; simp [h2, h3] at h
            | some s =>
              rw [h1] at h
              simp only [Option.bind_some, h2, h3, Option.map_some, Option.some.injEq, Prod.mk.injEq] at h
              obtain ⟨rfl, rfl⟩ := h
              have g1 := rTx_g b p.1 p.2 h1
              have g2 := rCnt_is h2
              obtain ⟨g3, g4, g5⟩ := many_all (g := fun c : List Vk => c.length) rRow_g _ _ _ _ h3
              refine ⟨.inr (.inr rfl), ⟨.inr ⟨rfl, rfl⟩, .inr ⟨rfl, rfl, rfl, rfl⟩, .inl rfl⟩, ⟨Nat.zero_le _, Nat.zero_le _, by simp, Nat.zero_le _, Nat.zero_le _, Nat.zero_le _, by simp, Nat.zero_le _, by simp, g1.1, by show s.1.length ≤ _; omega, fun c hc => by have := g4 c hc; omega⟩, by show s.2.length ≤ _; omega⟩
      · cases h
theorem PL.recL {N : Nat} {m : RecM} (h : PL N (recOf m)) (hN : N < 4611686018427387904) : RecL m :=
  ⟨Nat.lt_of_le_of_lt h.tn hN, Nat.lt_of_le_of_lt h.rn hN, Nat.lt_of_le_of_lt h.rt hN, Nat.lt_of_le_of_lt h.nm hN, Nat.lt_of_le_of_lt h.cs hN, Nat.lt_of_le_of_lt h.ds hN, Nat.lt_of_le_of_lt h.ms hN, by
    have := h.rs
    rw [List.length_map] at this
    omega, fun q hq => Nat.lt_of_le_of_lt (h.rsx q.2.2 (List.mem_map.2 ⟨q, hq, rfl⟩)) hN⟩
theorem PL.recB {N : Nat} {m : RecM} (h : PL N (recOf m)) (hN : N ≤ 2000000) : RecB m :=
  ⟨Nat.le_trans h.tn hN, Nat.le_trans h.rn hN, Nat.le_trans h.rt hN, Nat.le_trans h.nm hN, fun x hx => Nat.le_trans (h.csx x hx) hN, fun x hx => Nat.le_trans (h.dsx x hx) hN, fun x hx => Nat.le_trans (h.msx x hx) hN⟩
def ldR (b : Tx) : Rec := (loadRec b).getD rec0
def ldE (b : Tx) : Int := if (loadRec b).isSome then 0 else 8
theorem ld_none {b : Tx} (h : loadRec b = none) : ldR b = rec0 ∧ ldE b = 8 := by unfold ldR ldE; rw [h]; exact ⟨rfl, rfl⟩
theorem ld_some {b : Tx} {x : Rec} (h : loadRec b = some x) : ldR b = x ∧ ldE b = 0 := by unfold ldR ldE; rw [h]; exact ⟨rfl, rfl⟩
theorem loadRec_1 {b : Tx} (h : rNum b = none) : loadRec b = none := by unfold loadRec; rw [h]; rfl
theorem loadRec_2 {b : Tx} {p : Nat × Tx} (h : rNum b = some p) (h2 : rPart p.1 p.2 = none) : loadRec b = none := by
  unfold loadRec
  rw [h]
  show (rPart p.1 p.2).bind _ = _
  rw [h2]; rfl
theorem loadRec_3 {b : Tx} {p : Nat × Tx} {x : Rec} {b2 : Tx} (h : rNum b = some p) (h2 : rPart p.1 p.2 = some (x, b2)) : loadRec b = if b2.length = 0 ∧ goodRec x ∧ b.length ≤ 262144 then some x else none := by
  unfold loadRec
  rw [h]
  show (rPart p.1 p.2).bind _ = _
  rw [h2]; rfl
/-! The part's methods. -/
def gPart (x : Rec) : Prop := (x.k = 1 ∧ goodT x.t) ∨ (x.k = 2 ∧ goodR x.r) ∨ (x.k = 3 ∧ goodB x.rows)
instance (x : Rec) : Decidable (gPart x) := by unfold gPart; infer_instance
abbrev rec0M : RecM := ⟨0, [], none, 0, [], [], [], none, 0, [], none, 0, [], [], none, 0, []⟩
theorem recD_0 : RecD [] rec0M := fun w _ => ⟨reads_nilR rfl, reads_nilR rfl, reads_nilR rfl, reads_nilR rfl, fun q hq => by cases hq⟩
theorem recD_big {l : List Chunk} {m : RecM} (h : RecD l m) : RecD [big l] m := fun w hk => h w (fun c hc => hk (big l) (List.Mem.head _) c hc)
set_option maxRecDepth 20000 in
theorem pLoadR (a b : Nat) (va : List Value) (vb : Value) (w : World) : FnD Try.prog 58 [.pointer (some ⟨a, 0, none⟩), .pointer (some ⟨b, 0, none⟩)] .returning [cells a va 43, cells b [vb] 47] (fun e u' H' => e = .returned (.tuple #[]) ∧ u' = .returning ∧ H' = [cells a va 43, cells b [vb] 47]) w := by
  refine fnD_enter Try.func58 rfl Try.ntmps58 rfl (fun c₀ cs hc => ?_)
  have hc0 : ({ c₀ with mode := .returning } : Frame) = c₀ := by cases c₀; simp at hc; subst hc; rfl
  refine vs_seqS ?_
  refine vls_recover rfl rfl (.some rfl) (fun a w => rfl) (v := .nilIface) (cs' := c₀ :: cs) (by simp [recoverD, hc]) ?_
  refine vls_nil (show VS _ _ _ _ _ _ from ?_)
  refine vs_of ?_
  refine vc_block ?_
  refine vc_seq ?_
  refine vc_region ?_
  refine vl_val rfl (.some rfl) (val_opO rfl rfl guard_ifnil (bin_ifnil_eq Try.runUnderlying20)) ?_
  refine vl_nil ?_
  refine vc_cond rfl (fun _ => ?_) (fun h => by cases h)
  refine vc_region ?_
  refine vl_val rfl (.some rfl) (val_assign rfl) ?_
  refine vl_nil ?_
  have := raw_endS (P := Try.prog) (w := w) (M := fps [cells a va 43, cells b [vb] 47]) (n := 12) (fn := Try.f58) (c₀ := c₀) (cs := cs) (R := fun e u' H' => e = .returned (.tuple #[]) ∧ u' = .returning ∧ H' = [cells a va 43, cells b [vb] 47]) (u' := .returning) (e := .normal) (E := [(2, .nilIface), (7, .bool true), (5, .nilIface), (0, .pointer (some ⟨a, 0, none⟩)), (1, .pointer (some ⟨b, 0, none⟩))]) (H := [cells a va 43, cells b [vb] 47]) ⟨_, _, [], res0 Try.results58, sub_self _, rfl, rfl, rfl⟩
  rw [hc0] at this
  exact this
set_option maxRecDepth 20000 in
theorem pLoadP (a b : Nat) (va : List Value) (hva : va.length = 9) (vb : Value) (w : World) : FnD Try.prog 58 [.pointer (some ⟨a, 0, none⟩), .pointer (some ⟨b, 0, none⟩)] (.panicking wrong13) [cells a va 43, cells b [vb] 47] (fun e u' H' => e = .returned (.tuple #[]) ∧ settle u' = .returning ∧ H' = [cells a (recC rec0M) 43, cells b [.int .i64 8] 47]) w := by
  obtain ⟨x0, x1, x2, x3, x4, x5, x6, x7, x8, rfl⟩ : ∃ x0 x1 x2 x3 x4 x5 x6 x7 x8, va = [x0, x1, x2, x3, x4, x5, x6, x7, x8] := by
    match va, hva with
    | [x0, x1, x2, x3, x4, x5, x6, x7, x8], _ => exact ⟨_, _, _, _, _, _, _, _, _, rfl⟩
  refine fnD_enter Try.func58 rfl Try.ntmps58 rfl (fun c₀ cs hc => ?_)
  refine vs_seqS ?_
  refine vls_recover rfl rfl (.some rfl) (fun a w => rfl) (v := wrong13V) (cs' := { c₀ with mode := .panicking [{ v := wrong13V, recovered := true }] } :: cs) (by simp [recoverD, hc]) ?_
  refine vls_nil (show VS _ _ _ _ _ _ from ?_)
  refine vs_of ?_
  refine vc_block ?_
  refine vc_seq ?_
  refine vc_region ?_
  refine vl_val rfl (.some rfl) (val_opO rfl rfl guard_iface (bin_iface_eq Try.runUnderlying20)) ?_
  refine vl_nil ?_
  refine vc_cond rfl (fun h => by cases h) (fun _ => ?_)
  refine vc_seq ?_
  refine vc_region ?_
  refine vl_val rfl (.some rfl) (val_isType Try.runUnderlying114 rfl Try.zeroValue114 rfl) ?_
  refine vl_val rfl (.some rfl) (val_extract rfl rfl) ?_
  refine vl_val rfl (.some rfl) (val_extract rfl rfl) ?_
  refine vl_nil ?_
  refine vc_cond rfl (fun _ => ?_) (fun h => by cases h)
  refine vc_seq ?_
  refine vc_region ?_
  refine vl_alloc rfl rfl (.some rfl) Try.zeroValue114 (fun r3 => ?_)
  refine vl_store rfl rfl .none rfl rfl Try.sizeOf114 rfl (by repeat constructor) (Nat.le_refl _) ?_
  refine vl_nil ?_
  refine vc_region ?_
  refine vl_val rfl (.some rfl) (val_buildSt (pl := #[(0, 1), (1, 2), (3, 4), (7, 1), (8, 1)]) (cs := (recC rec0M).toArray) Try.runUnderlying43 Try.zeroValue43 (fun w => by kernel_rfl) rfl (by kernel_rfl)) ?_
  refine vl_store rfl rfl .none rfl rfl Try.sizeOf43 rfl (by repeat constructor) (Nat.le_refl _) ?_
  refine vl_store rfl rfl .none rfl rfl Try.sizeOf47 rfl (by repeat constructor) (Nat.le_refl _) ?_
  refine vl_nil ?_
  exact raw_endS (u' := .panicking [{ v := wrong13V, recovered := true }]) ⟨_, [cells a (recC rec0M) 43, cells b [.int .i64 8] 47], _, res0 Try.results58, (by repeat constructor), rfl, rfl, rfl⟩

abbrev ldRet (b : Tx) : Ending → List Chunk → Prop := ret fun v H' => ∃ m l, v = .tuple #[recA m, .int .i64 (ldE b)] ∧ recOf m = ldR b ∧ RecD l m ∧ H' = l
set_option maxRecDepth 20000 in
theorem ld_pan (b : Tx) (r2 r3 : Nat) (va : List Value) (hva : va.length = 9) (vb : Value) (w : World) {E : Env} {H F : List Chunk} (h2 : E.get 2 = some (.pointer (some ⟨r2, 0, none⟩))) (h3 : E.get 3 = some (.pointer (some ⟨r3, 0, none⟩))) (hs : Sub [cells r2 va 43, cells r3 [vb] 47] H F) (hn : loadRec b = none) :
    Raw ⟨Try.prog, w, fps [], 34, [⟨.fn (.func 58) #[.pointer (some ⟨r2, 0, none⟩), .pointer (some ⟨r3, 0, none⟩)], #[]⟩]⟩ (bodyPostD Try.prog Try.f25 (Ends (ldRet b) w (fps []))) (.panic wrong13) E H := by
  intro a w' ha hw
  refine leaves_one (C := [cells r2 va 43, cells r3 [vb] 47]) (fs := []) (cs := [.pointer (some ⟨r2, 0, none⟩), .pointer (some ⟨r3, 0, none⟩)]) ha hw rfl (by simp) Try.call58 hs (fun w => pLoadP r2 r3 va hva vb w) (fun v u' H2 h => ?_) (fun _ _ _ h => by cases h.1) (fun _ _ h => by cases h.1)
  obtain ⟨_, h5, rfl⟩ := h
  obtain ⟨e1, e2⟩ := ld_none hn
  refine .inl ⟨h5, _, fun a w ha hw => resCC Try.results25 h2 h3 (whole_agg Try.isAgg43 Try.sizeOf43 (cells_whole (vs := recC rec0M) .head) rfl) (whole_cell Try.isAgg47 (cell_cells (.tail .head) rfl)) a w ha hw, [], _, .nil, ?_⟩
  show ∃ m l, _ ∧ _ ∧ _ ∧ _
  rw [e1, e2]
  exact ⟨rec0M, [], rfl, rfl, recD_0, rfl⟩
theorem vl_callPt {X : Cx} {Q : Post} {E : Env} {H F : List Chunk} {ops : Array Oper} {rest : List Oper} {fE : Value → Env} {o : Oper} {f : FuncId} {xs : Array Operand} {ats : Array TypeId} {args : List Value} {r : Nat} {A : Option Addr} {b : Tx} {c k : Nat}
    (ho : o.op = .call { callee := .value (.func f), args := xs, argTypes := ats }) (hg : o.guard = none) (hd : DstF X E o.dst fE) (hc : ∀ args w, (callFunc f args).run X.P w = .ok (.enter f args) w) (hx : E.evs xs.toList = some args) (hs : Sub [RC r A b.length c] H F)
    (hf : ∀ w, Holds X.w0 X.M H w → Fn X.P f args [RC r A b.length c] (ptR r A b k) w)
    (h : ∀ m b2 A2 c2 l, rPart k b = some (recOf m, b2) → whM m = m → Sfx A b A2 c2 b2 → RecD l m → VL X ops rest Q (fE (ofR m)) (RC r A2 b2.length c2 :: (l ++ F)))
    (hp : rPart k b = none → ∀ H', Q (.panic wrong13) E (H' ++ F)) : VL X ops (o :: rest) Q E H := by
  refine vl_callA (run_call ho hc hx) hg hd hs hf (fun v H' hh => ?_) (fun ch H' hh => ?_) (fun H' hh => ?_)
  · unfold ptR at hh
    split at hh
    · rename_i p hp1
      obtain ⟨m, A2, c2, l, e1, ew, e2, hS, hD, rfl⟩ := hh
      cases e2
      exact h m p.2 A2 c2 l (by rw [hp1, e1]) ew hS hD
    · cases hh
  · unfold ptR at hh
    split at hh
    · obtain ⟨m, A2, c2, l, _, _, e2, _⟩ := hh
      cases e2
    · rename_i hn
      cases hh
      exact hp hn H'
  · unfold ptR at hh
    split at hh
    · obtain ⟨m, A2, c2, l, _, _, e2, _⟩ := hh
      cases e2
    · cases hh
theorem good_call {m : RecM} (hk : m.k = 1 ∨ m.k = 2 ∨ m.k = 3) (hL : RecL m) : ∃ f v, (∀ args w, (callMethod (ofR m) "talus/record.good" args).run Try.prog w = .ok (.enter f (#[v] ++ args)) w) ∧ ∀ w, RecR w m → FnV Try.prog f [v] (.bool (decide (gPart (recOf m)))) w := by
  rcases hk with hk | hk | hk
  · have hof : ofR m = .iface 159 (.agg (tabC m).toArray) := by unfold ofR; rw [if_pos hk]
    rw [hof]
    refine ⟨172, .agg (tabC m).toArray, fun args w => by kernel_rfl, fun w hR => ?_⟩
    have h := tGood m w
    rwa [show decide (goodT ⟨m.tn, m.cs⟩) = decide (gPart (recOf m)) from decide_eq_decide.2 ⟨fun h => .inl ⟨hk, h⟩, fun h => by rcases h with ⟨_, h⟩ | ⟨a, _⟩ | ⟨a, _⟩; exact h; (have a : m.k = 2 := a; omega); (have a : m.k = 3 := a; omega)⟩] at h
  · have hof : ofR m = .iface 161 (.agg (rolC m).toArray) := by unfold ofR; rw [if_neg (by omega), if_pos hk]
    rw [hof]
    refine ⟨176, .agg (rolC m).toArray, fun args w => by kernel_rfl, fun w hR => ?_⟩
    have h := rGood13 m w
    rwa [show decide (goodR ⟨m.rn, m.rt, m.ds, m.ms⟩) = decide (gPart (recOf m)) from decide_eq_decide.2 ⟨fun h => .inr (.inl ⟨hk, h⟩), fun h => by rcases h with ⟨a, _⟩ | ⟨_, h⟩ | ⟨a, _⟩; (have a : m.k = 1 := a; omega); exact h; (have a : m.k = 3 := a; omega)⟩] at h
  · have hof : ofR m = .iface 163 (.agg (batC m).toArray) := by unfold ofR; rw [if_neg (by omega), if_neg (by omega), if_pos hk]
    rw [hof]
    refine ⟨179, .agg (batC m).toArray, fun args w => by kernel_rfl, fun w hR => ?_⟩
    have h := bGood m hL w hR
    rwa [show decide (goodB (rows m)) = decide (gPart (recOf m)) from decide_eq_decide.2 ⟨fun h => .inr (.inr ⟨hk, h⟩), fun h => by rcases h with ⟨a, _⟩ | ⟨a, _⟩ | ⟨_, h⟩; (have a : m.k = 1 := a; omega); (have a : m.k = 2 := a; omega); exact h⟩] at h

set_option maxRecDepth 20000 in
theorem wWhole1 (m : RecM) (w : World) : FnV Try.prog 174 [.agg (tabC m).toArray] (recA ⟨1, m.tn, m.Ac, m.cc, m.cs, [], [], none, 0, [], none, 0, [], [], none, 0, []⟩) w := by
  refine fn_enter Try.func174 rfl Try.ntmps174 rfl ?_
  refine vc_seq ?_
  refine vc_region ?_
  refine vl_box rfl rfl (.some rfl) rfl (fun r1 => ?_)
  refine vl_alloc rfl rfl (.some rfl) Try.zeroValue43 (fun r2 => ?_)
  refine vl_nil ?_
  refine vc_seq ?_
  refine vc_region ?_
  refine vl_val rfl (.some rfl) (by first | exact val_fieldAddr Try.runUnderlying159 rfl Try.sizeOf36 rfl | exact val_fieldAddrR Try.runUnderlying159 rfl Try.sizeOf36 rfl) ?_
  refine vl_val rfl (.some rfl) (val_loadAgg Try.isAgg36 Try.sizeOf36 rfl (cells_whole (vs := tabC m) (by repeat constructor)) rfl) ?_
  refine vl_val rfl (.some rfl) (val_buildSt (pl := #[(0, 1), (1, 2), (3, 4), (7, 1), (8, 1)]) (cs := (recC ⟨1, m.tn, m.Ac, m.cc, m.cs, [], [], none, 0, [], none, 0, [], [], none, 0, []⟩).toArray) Try.runUnderlying43 Try.zeroValue43 (fun w => by kernel_rfl) rfl (by kernel_rfl)) ?_
  first | refine vl_store rfl rfl .none rfl rfl Try.sizeOf43 rfl (by repeat constructor) (by first | decide | exact Nat.le_refl _ | exact Nat.le_of_ble_eq_true rfl | (simp; omega)) ?_ | refine vl_storeSl rfl rfl .none rfl rfl Try.sizeOf43 rfl (by simp [Value.cells]) (by repeat constructor) (by first | decide | (simp [Value.cells]; omega)) ?_
  refine vl_nil ?_
  refine vc_ret ?_
  refine ⟨_, [], _, resC Try.results174 rfl (whole_agg Try.isAgg43 Try.sizeOf43 (cells_whole (by repeat constructor)) rfl), .nil, ?_⟩
  rfl
set_option maxRecDepth 20000 in
theorem wWhole2 (m : RecM) (w : World) : FnV Try.prog 178 [.agg (rolC m).toArray] (recA ⟨2, [], none, 0, [], m.rn, m.rt, m.Ad, m.cd, m.ds, m.Am, m.cm, m.ms, [], none, 0, []⟩) w := by
  refine fn_enter Try.func178 rfl Try.ntmps178 rfl ?_
  refine vc_seq ?_
  refine vc_region ?_
  refine vl_box rfl rfl (.some rfl) rfl (fun r1 => ?_)
  refine vl_alloc rfl rfl (.some rfl) Try.zeroValue43 (fun r2 => ?_)
  refine vl_nil ?_
  refine vc_seq ?_
  refine vc_region ?_
  refine vl_val rfl (.some rfl) (by first | exact val_fieldAddr Try.runUnderlying161 rfl Try.sizeOf40 rfl | exact val_fieldAddrR Try.runUnderlying161 rfl Try.sizeOf40 rfl) ?_
  refine vl_val rfl (.some rfl) (val_loadAgg Try.isAgg40 Try.sizeOf40 rfl (cells_whole (vs := rolC m) (by repeat constructor)) rfl) ?_
  refine vl_val rfl (.some rfl) (val_buildSt (pl := #[(0, 1), (1, 2), (3, 4), (7, 1), (8, 1)]) (cs := (recC ⟨2, [], none, 0, [], m.rn, m.rt, m.Ad, m.cd, m.ds, m.Am, m.cm, m.ms, [], none, 0, []⟩).toArray) Try.runUnderlying43 Try.zeroValue43 (fun w => by kernel_rfl) rfl (by kernel_rfl)) ?_
  first | refine vl_store rfl rfl .none rfl rfl Try.sizeOf43 rfl (by repeat constructor) (by first | decide | exact Nat.le_refl _ | exact Nat.le_of_ble_eq_true rfl | (simp; omega)) ?_ | refine vl_storeSl rfl rfl .none rfl rfl Try.sizeOf43 rfl (by simp [Value.cells]) (by repeat constructor) (by first | decide | (simp [Value.cells]; omega)) ?_
  refine vl_nil ?_
  refine vc_ret ?_
  refine ⟨_, [], _, resC Try.results178 rfl (whole_agg Try.isAgg43 Try.sizeOf43 (cells_whole (by repeat constructor)) rfl), .nil, ?_⟩
  rfl
set_option maxRecDepth 20000 in
theorem wWhole3 (m : RecM) (w : World) : FnV Try.prog 181 [.agg (batC m).toArray] (recA ⟨3, [], none, 0, [], [], [], none, 0, [], none, 0, [], m.nm, m.Ar, m.cr, m.rs⟩) w := by
  refine fn_enter Try.func181 rfl Try.ntmps181 rfl ?_
  refine vc_seq ?_
  refine vc_region ?_
  refine vl_box rfl rfl (.some rfl) rfl (fun r1 => ?_)
  refine vl_alloc rfl rfl (.some rfl) Try.zeroValue43 (fun r2 => ?_)
  refine vl_nil ?_
  refine vc_seq ?_
  refine vc_region ?_
  refine vl_val rfl (.some rfl) (by first | exact val_fieldAddr Try.runUnderlying163 rfl Try.sizeOf9 rfl | exact val_fieldAddrR Try.runUnderlying163 rfl Try.sizeOf9 rfl) ?_
  refine vl_val rfl (.some rfl) (val_load Try.isAgg9 rfl (by first | exact cell_cells (by repeat constructor) rfl | exact cell_rd (by first | exact rd_sl (by repeat constructor) | exact rd_old (by assumption) rfl) (by first | exact bcells_at (by omega) | exact ucells_at (by omega) | exact icells_at (by omega) | exact tcells_at (by omega) | exact bcells_get (by omega) | exact icells_get (by omega) | exact tcells_get (by omega) | exact ucells_get (by omega)) | exact cell_old (by assumption) (by simp [fps]))) ?_
  refine vl_val rfl (.some rfl) (by first | exact val_fieldAddr Try.runUnderlying163 rfl Try.sizeOf41 rfl | exact val_fieldAddrR Try.runUnderlying163 rfl Try.sizeOf41 rfl) ?_
  refine vl_val rfl (.some rfl) (val_load Try.isAgg41 rfl (by first | exact cell_cells (by repeat constructor) rfl | exact cell_rd (by first | exact rd_sl (by repeat constructor) | exact rd_old (by assumption) rfl) (by first | exact bcells_at (by omega) | exact ucells_at (by omega) | exact icells_at (by omega) | exact tcells_at (by omega) | exact bcells_get (by omega) | exact icells_get (by omega) | exact tcells_get (by omega) | exact ucells_get (by omega)) | exact cell_old (by assumption) (by simp [fps]))) ?_
  refine vl_val rfl (.some rfl) (val_buildSt (pl := #[(0, 1), (1, 2), (3, 4), (7, 1), (8, 1)]) (cs := (recC ⟨3, [], none, 0, [], [], [], none, 0, [], none, 0, [], m.nm, m.Ar, m.cr, m.rs⟩).toArray) Try.runUnderlying43 Try.zeroValue43 (fun w => by kernel_rfl) rfl (by kernel_rfl)) ?_
  first | refine vl_store rfl rfl .none rfl rfl Try.sizeOf43 rfl (by repeat constructor) (by first | decide | exact Nat.le_refl _ | exact Nat.le_of_ble_eq_true rfl | (simp; omega)) ?_ | refine vl_storeSl rfl rfl .none rfl rfl Try.sizeOf43 rfl (by simp [Value.cells]) (by repeat constructor) (by first | decide | (simp [Value.cells]; omega)) ?_
  refine vl_nil ?_
  refine vc_ret ?_
  refine ⟨_, [], _, resC Try.results181 rfl (whole_agg Try.isAgg43 Try.sizeOf43 (cells_whole (by repeat constructor)) rfl), .nil, ?_⟩
  rfl




theorem whole_call {m : RecM} (hk : m.k = 1 ∨ m.k = 2 ∨ m.k = 3) : ∃ f v, (∀ args w, (callMethod (ofR m) "talus/record.whole" args).run Try.prog w = .ok (.enter f (#[v] ++ args)) w) ∧ ∀ w, FnV Try.prog f [v] (recA (whM m)) w := by
  rcases hk with hk | hk | hk
  · have hof : ofR m = .iface 159 (.agg (tabC m).toArray) := by unfold ofR; rw [if_pos hk]
    rw [hof]
    refine ⟨174, .agg (tabC m).toArray, fun args w => by kernel_rfl, fun w => ?_⟩
    unfold whM; rw [if_pos hk]; exact wWhole1 m w
  · have hof : ofR m = .iface 161 (.agg (rolC m).toArray) := by unfold ofR; rw [if_neg (by omega), if_pos hk]
    rw [hof]
    refine ⟨178, .agg (rolC m).toArray, fun args w => by kernel_rfl, fun w => ?_⟩
    unfold whM; rw [if_neg (by omega), if_pos hk]; exact wWhole2 m w
  · have hof : ofR m = .iface 163 (.agg (batC m).toArray) := by unfold ofR; rw [if_neg (by omega), if_neg (by omega), if_pos hk]
    rw [hof]
    refine ⟨181, .agg (batC m).toArray, fun args w => by kernel_rfl, fun w => ?_⟩
    unfold whM; rw [if_neg (by omega), if_neg (by omega)]; exact wWhole3 m w

set_option maxRecDepth 20000 in
set_option maxHeartbeats 1000000 in
theorem pLoad (A : Option Addr) (c : Nat) (b : Tx) (hb : b.length ≤ 1000000000) (hbc : b.length ≤ c) (w : World) (hr : Reads w A (bcells b)) : Fn Try.prog 25 [.slice A b.length c] [] (ldRet b) w := by
  refine fn_enterD Try.func25 rfl Try.ntmps25 rfl ?_
  refine vw_seq ?_
  refine vc_region ?_
  refine vl_alloc rfl rfl (.some rfl) Try.zeroValue43 (fun r2 => ?_)
  refine vl_alloc rfl rfl (.some rfl) Try.zeroValue47 (fun r3 => ?_)
  refine vl_nil ?_
  refine (show VW _ _ _ _ _ from ?_)
  refine vw_seqD ?_
  refine vlw_op (Q := fun _ _ _ => False) (no_lets fun _ _ h => h) ?_ (fun _ _ _ h => h.elim)
  refine vl_val rfl (.some rfl) (val_mkFunc (us := []) rfl rfl) ?_
  refine vl_nil (show VLW _ _ _ _ _ _ from ?_)
  refine vlw_defer rfl rfl rfl (fs := []) (cs := [.pointer (some ⟨r2, 0, none⟩), .pointer (some ⟨r3, 0, none⟩)]) rfl (args := []) rfl ?_
  refine vlw_nil (show VW _ _ _ _ _ from ?_)
  refine vw_of ?_
  refine vc_seq ?_
  refine vc_region ?_
  refine vl_val rfl (.some rfl) (val_move rfl) ?_
  refine vl_val rfl (.some rfl) (val_buildSt (pl := #[(0, 1)]) (cs := #[.slice A b.length c]) Try.runUnderlying117 Try.zeroValue117 (fun w => by kernel_rfl) rfl rfl) ?_
  refine vl_box rfl rfl (.some rfl) rfl (fun r9 => ?_)
  refine vl_val rfl (.some rfl) (val_assign rfl) ?_
  refine vl_nil ?_
  refine vc_seq ?_
  refine vc_region ?_
  refine vl_val rfl (.some rfl) (val_move rfl) ?_
  refine vl_val rfl (.some rfl) (val_move rfl) ?_
  refine vl_callRd (r := r9) (A := A) (b := b) (c := c) rfl rfl (.some rfl) Try.call60 rfl (by repeat constructor) (fun w' hw => pNum r9 A c b hb hbc w' (readsM_old (Reads.m hr) (by repeat constructor) hw)) (fun p1 A1 c1 he1 hS1 => ?_) (fun hn H' => ld_pan b r2 r3 (recC rec0M) rfl (.int .i64 0) w rfl rfl (sub_app H' (by repeat constructor)) (loadRec_1 hn))
  obtain ⟨hu1, hl1⟩ := rNum_is he1
  refine vl_callPt (r := r9) (A := A1) (b := p1.2) (c := c1) (k := p1.1) rfl rfl (.some rfl) Try.call59 rfl (by repeat constructor) (fun w' hw => pPart r9 A1 c1 p1.2 (by omega) hS1.cap p1.1 hu1 w' (readsM_old (hS1.rd _ _ (Reads.m hr)) (by repeat constructor) hw)) (fun m b2 A2 c2 l hp hwm hS2 hD => ?_) (fun hn H' => ld_pan b r2 r3 (recC rec0M) rfl (.int .i64 0) w rfl rfl (sub_app H' (by repeat constructor)) (loadRec_2 he1 hn))
  refine vl_eqv (Eqv.cons _ (eqv_big l _).symm) ?_
  obtain ⟨hk3, hbp, hpl, hbl⟩ := part_is hp
  have hL : RecL m := PL.recL hpl (by omega)
  refine vl_val rfl (.some rfl) (val_assign rfl) ?_
  refine vl_nil ?_
  refine vc_seq ?_
  refine vc_seq ?_
  refine vc_region ?_
  refine vl_val rfl (.some rfl) (val_move rfl) ?_
  refine vl_val rfl (.some rfl) (val_nil rfl rfl) ?_
  refine vl_val rfl (.some rfl) (by first | exact val_fieldAddr Try.runUnderlying117 rfl Try.sizeOf22 rfl | exact val_fieldAddrR Try.runUnderlying117 rfl Try.sizeOf22 rfl) ?_
  refine vl_val rfl (.some rfl) (val_load Try.isAgg22 rfl (by first | exact cell_cells (by repeat constructor) rfl | exact cell_rd (by first | exact rd_sl (by repeat constructor) | exact rd_old (by assumption) rfl) (by first | exact bcells_at (by omega) | exact ucells_at (by omega) | exact icells_at (by omega) | exact tcells_at (by omega) | exact bcells_get (by omega) | exact icells_get (by omega) | exact tcells_get (by omega) | exact ucells_get (by omega)) | exact cell_old (by assumption) (by simp [fps]))) ?_
  refine vl_val rfl (.some rfl) (val_lenSl Try.runUnderlying22 rfl) ?_
  refine vl_val rfl (.some rfl) (val_gt rfl rfl) ?_
  refine vl_val rfl (.some rfl) (val_move rfl) ?_
  refine vl_split (t := 20) rfl (fun hg20 => ?_) (fun hg20 => ?_)
  · (try replace hg20 := of_decide_eq_true hg20)
    refine vl_off rfl rfl rfl rfl (.some rfl) ?_
    refine vl_off rfl rfl rfl rfl (.some rfl) ?_
    refine vl_off rfl rfl rfl rfl (.some rfl) ?_
    refine vl_val rfl (.some rfl) (val_pick rfl rfl) ?_
    refine vl_val rfl (.some rfl) (val_move rfl) ?_
    refine vl_off rfl rfl rfl rfl (.some rfl) ?_
    refine vl_off rfl rfl rfl rfl (.some rfl) ?_
    refine vl_off rfl rfl rfl rfl (.some rfl) ?_
    refine vl_val rfl (.some rfl) (val_pick rfl rfl) ?_
    refine vl_nil ?_
    refine vc_cond rfl (fun _ => ?_) (fun h => by cases h)
    refine vc_region ?_
    refine vl_val rfl (.some rfl) (val_buildSt (pl := #[]) (cs := #[]) Try.runUnderlying114 Try.zeroValue114 (fun w => by kernel_rfl) rfl rfl) ?_
    refine vl_val rfl (.some rfl) (val_mkIface Try.runUnderlying114 rfl rfl) ?_
    refine vl_panic (fE := fun _ => []) rfl rfl rfl ?_
    exact ld_pan b r2 r3 (recC rec0M) rfl (.int .i64 0) w rfl rfl (by repeat constructor) (by
      rw [loadRec_3 he1 hp]
      exact if_neg (fun hh => by
        obtain ⟨h7, h8, h9⟩ := hh
        first
        | omega
        | (have h9 := ((good_bare _).1 h8).1
           rw [decide_eq_true (p := gPart (recOf m)) h9] at hg25
           exact absurd hg25 (by decide))))
  · (try replace hg20 := of_decide_eq_false hg20)
    refine vl_on rfl rfl rfl rfl ?_
    refine vl_val rfl (.some rfl) (val_move rfl) ?_
    refine vl_on rfl rfl rfl rfl ?_
    obtain ⟨fg, vg, hmg, hfg⟩ := good_call hk3 hL
    refine vl_invokeV (f := fg) (v := vg) rfl rfl (.some rfl) rfl rfl hmg (fun w' hw => hfg w' (hD w' (hw.chunk (big l) (In.mem (by repeat constructor))))) ?_
    refine vl_on rfl rfl rfl rfl ?_
    refine vl_val rfl (.some rfl) (val_not rfl) ?_
    refine vl_val rfl (.some rfl) (val_pick rfl rfl) ?_
    refine vl_val rfl (.some rfl) (val_move rfl) ?_
    refine vl_split (t := 25) rfl (fun hg25 => ?_) (fun hg25 => ?_)
    · (try replace hg25 := of_decide_eq_true hg25)
      refine vl_off rfl rfl rfl rfl (.some rfl) ?_
      refine vl_off rfl rfl rfl rfl (.some rfl) ?_
      refine vl_off rfl rfl rfl rfl (.some rfl) ?_
      refine vl_val rfl (.some rfl) (val_pick rfl rfl) ?_
      refine vl_nil ?_
      refine vc_cond rfl (fun _ => ?_) (fun h => by cases h)
      refine vc_region ?_
      refine vl_val rfl (.some rfl) (val_buildSt (pl := #[]) (cs := #[]) Try.runUnderlying114 Try.zeroValue114 (fun w => by kernel_rfl) rfl rfl) ?_
      refine vl_val rfl (.some rfl) (val_mkIface Try.runUnderlying114 rfl rfl) ?_
      refine vl_panic (fE := fun _ => []) rfl rfl rfl ?_
      exact ld_pan b r2 r3 (recC rec0M) rfl (.int .i64 0) w rfl rfl (by repeat constructor) (by
        rw [loadRec_3 he1 hp]
        exact if_neg (fun hh => by
          obtain ⟨h7, h8, h9⟩ := hh
          first
          | omega
          | (have h9 := ((good_bare _).1 h8).1
             rw [decide_eq_true (p := gPart (recOf m)) h9] at hg25
             exact absurd hg25 (by decide))))
    · (try replace hg25 := of_decide_eq_false hg25)
      refine vl_on rfl rfl rfl rfl ?_
      refine vl_val rfl (.some rfl) (val_move rfl) ?_
      refine vl_on rfl rfl rfl rfl ?_
      refine vl_val rfl (.some rfl) (val_lenSl Try.runUnderlying22 rfl) ?_
      refine vl_on rfl rfl rfl rfl ?_
      refine vl_val rfl (.some rfl) (val_gt rfl rfl) ?_
      refine vl_val rfl (.some rfl) (val_pick rfl rfl) ?_
      refine vl_nil ?_
      refine vc_cond rfl (fun hc0 => ?_) (fun hc0 => ?_)
      · (try replace hc0 := of_decide_eq_true hc0)
        refine vc_region ?_
        refine vl_val rfl (.some rfl) (val_buildSt (pl := #[]) (cs := #[]) Try.runUnderlying114 Try.zeroValue114 (fun w => by kernel_rfl) rfl rfl) ?_
        refine vl_val rfl (.some rfl) (val_mkIface Try.runUnderlying114 rfl rfl) ?_
        refine vl_panic (fE := fun _ => []) rfl rfl rfl ?_
        exact ld_pan b r2 r3 (recC rec0M) rfl (.int .i64 0) w rfl rfl (by repeat constructor) (by
          rw [loadRec_3 he1 hp]
          exact if_neg (fun hh => by
            obtain ⟨h7, h8, h9⟩ := hh
            first
            | omega
            | (have h9 := ((good_bare _).1 h8).1
               rw [decide_eq_true (p := gPart (recOf m)) h9] at hg25
               exact absurd hg25 (by decide))))
      · (try replace hc0 := of_decide_eq_false hc0)
        refine vc_skip ?_
        refine vc_seq ?_
        refine vc_region ?_
        refine vl_val rfl (.some rfl) (val_move rfl) ?_
        obtain ⟨fw, vw, hmw, hfw⟩ := whole_call hk3
        refine vl_invokeV (f := fw) (v := vw) rfl rfl (.some rfl) rfl rfl hmw (fun w' hw => hfw w') ?_
        rw [hwm]
        first | refine vl_store rfl rfl .none rfl rfl Try.sizeOf43 rfl (by repeat constructor) (by first | decide | exact Nat.le_refl _ | exact Nat.le_of_ble_eq_true rfl | (simp; omega)) ?_ | refine vl_storeSl rfl rfl .none rfl rfl Try.sizeOf43 rfl (by simp [Value.cells]) (by repeat constructor) (by first | decide | (simp [Value.cells]; omega)) ?_
        first | refine vl_store rfl rfl .none rfl rfl Try.sizeOf47 rfl (by repeat constructor) (by first | decide | exact Nat.le_refl _ | exact Nat.le_of_ble_eq_true rfl | (simp; omega)) ?_ | refine vl_storeSl rfl rfl .none rfl rfl Try.sizeOf47 rfl (by simp [Value.cells]) (by repeat constructor) (by first | decide | (simp [Value.cells]; omega)) ?_
        refine vl_nil ?_
        refine vc_ret ?_
        intro a w' ha hw
        obtain ⟨e1, e2⟩ := ld_some (b := b) (x := recOf m) (by
          rw [loadRec_3 he1 hp]
          exact if_pos ⟨by omega, (good_bare _).2 ⟨(show gPart (recOf m) by simpa using hg25), hbp⟩, by omega⟩)
        refine leaves_one (C := [cells r2 (recC m) 43, cells r3 [.int .i64 0] 47]) (fs := []) (cs := [.pointer (some ⟨r2, 0, none⟩), .pointer (some ⟨r3, 0, none⟩)]) ha hw rfl (by simp) Try.call58 (by repeat constructor) (fun w => pLoadR r2 r3 _ _ w) (fun v u' H' h => ?_) (fun _ _ _ h => by cases h.1) (fun _ _ h => by cases h.1)
        obtain ⟨h1, h2, rfl⟩ := h
        refine .inl ⟨by rw [h2]; rfl, _, fun a w ha hw => resCC Try.results25 rfl rfl (whole_agg Try.isAgg43 Try.sizeOf43 (cells_whole (vs := recC m) .head) rfl) (whole_cell Try.isAgg47 (cell_cells (.tail .head) rfl)) a w ha hw, [big l], _, (by repeat constructor), m, [big l], by rw [e2], e1.symm, recD_big hD, rfl⟩


end Go.Proofs.Ytclnhfdgiaamhaa.K
