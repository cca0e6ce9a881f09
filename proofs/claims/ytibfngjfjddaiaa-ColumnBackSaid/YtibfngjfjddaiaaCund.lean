/- Walks of the program's functions, printed by a program of this session; Lean checks them. -/
import Derived.Test.YtibfngjfjddaiaaCnum
namespace Go.Proofs.Ytibfngjfjddaiaa.K
open Go Go.RowKit Go.Proofs
set_option linter.unusedVariables false
set_option linter.unusedSimpArgs false
set_option maxRecDepth 20000 in
theorem sT56 : SlT Try.prog 56 3 1 8 (.int .i64 0) := ⟨Try.underlying56, ⟨Try.t3, Try.type3, rfl, rfl, rfl⟩, rfl, Nat.lt_of_sub_eq_succ rfl⟩

/-- What a reader tells: all numbers, or that bytes are none. -/
def toldCaughtI (res : Option (List Int)) : Ending → List Chunk → Prop := fun e H' => match res with
  | some l => ∃ A c, e = .returned (.slice A l.length c) ∧ H' = [IW A l.length c l]
  | none => e = .panicked wrongCh
def gaveCaughtI (res : Option (List Int)) (v : Value) (H' : List Chunk) : Prop := match res with
  | some l => ∃ A c, v = .tuple #[.slice A l.length c, .int .i64 0] ∧ H' = [IW A l.length c l]
  | none => v = .tuple #[.slice none 0 0, .int .i64 8] ∧ H' = []
set_option maxRecDepth 20000 in
theorem cCaughtIR (a b : Nat) (va vb : Value) (w : World) : FnD Try.prog 107 [.pointer (some ⟨a, 0, none⟩), .pointer (some ⟨b, 0, none⟩)] .returning [cells a [va] 56, cells b [vb] 29] (fun e u' H' => e = .returned (.tuple #[]) ∧ u' = .returning ∧ H' = [cells a [va] 56, cells b [vb] 29]) w := by
  refine fnD_enter Try.func107 rfl Try.ntmps107 rfl (fun c₀ cs hc => ?_)
  have hc0 : ({ c₀ with mode := .returning } : Frame) = c₀ := by cases c₀; simp at hc; subst hc; rfl
  refine vs_seqS ?_
  refine vls_recover rfl rfl (.some rfl) (fun a w => rfl) (v := .nilIface) (cs' := c₀ :: cs) (by simp [recoverD, hc]) ?_
  refine vls_nil (show VS _ _ _ _ _ _ from ?_)
  refine vs_of ?_
  refine vc_block ?_
  refine vc_seq ?_
  refine vc_region ?_
  refine vl_val rfl (.some rfl) (val_opO rfl rfl guard_ifnil (bin_ifnil_eq Try.runUnderlying20)) ?_
  refine vl_nil ?_
  refine vc_cond rfl (fun _ => ?_) (fun h => by cases h)
  refine vc_region ?_
  refine vl_val rfl (.some rfl) (val_assign rfl) ?_
  refine vl_nil ?_
  have := raw_endS (P := Try.prog) (w := w) (M := fps [cells a [va] 56, cells b [vb] 29]) (n := 11) (fn := Try.f107) (c₀ := c₀) (cs := cs) (R := fun e u' H' => e = .returned (.tuple #[]) ∧ u' = .returning ∧ H' = [cells a [va] 56, cells b [vb] 29]) (u' := .returning) (e := .normal) (E := [(2, .nilIface), (7, .bool true), (5, .nilIface), (0, .pointer (some ⟨a, 0, none⟩)), (1, .pointer (some ⟨b, 0, none⟩))]) (H := [cells a [va] 56, cells b [vb] 29]) ⟨_, _, [], res0 Try.results107, sub_self _, rfl, rfl, rfl⟩
  rw [hc0] at this
  exact this
set_option maxRecDepth 20000 in
theorem cCaughtIP (a b : Nat) (va vb : Value) (w : World) : FnD Try.prog 107 [.pointer (some ⟨a, 0, none⟩), .pointer (some ⟨b, 0, none⟩)] (.panicking wrongCh) [cells a [va] 56, cells b [vb] 29] (fun e u' H' => e = .returned (.tuple #[]) ∧ settle u' = .returning ∧ H' = [cells a [.slice none 0 0] 56, cells b [.int .i64 8] 29]) w := by
  refine fnD_enter Try.func107 rfl Try.ntmps107 rfl (fun c₀ cs hc => ?_)
  refine vs_seqS ?_
  refine vls_recover rfl rfl (.some rfl) (fun a w => rfl) (v := wrongV) (cs' := { c₀ with mode := .panicking [{ v := wrongV, recovered := true }] } :: cs) (by simp [recoverD, hc]) ?_
  refine vls_nil (show VS _ _ _ _ _ _ from ?_)
  refine vs_of ?_
  refine vc_block ?_
  refine vc_seq ?_
  refine vc_region ?_
  refine vl_val rfl (.some rfl) (val_opO rfl rfl guard_iface (bin_iface_eq Try.runUnderlying20)) ?_
  refine vl_nil ?_
  refine vc_cond rfl (fun h => by cases h) (fun _ => ?_)
  refine vc_seq ?_
  refine vc_region ?_
  refine vl_val rfl (.some rfl) (val_isType Try.runUnderlying127 rfl Try.zeroValue127 rfl) ?_
  refine vl_val rfl (.some rfl) (val_extract rfl rfl) ?_
  refine vl_val rfl (.some rfl) (val_extract rfl rfl) ?_
  refine vl_nil ?_
  refine vc_cond rfl (fun _ => ?_) (fun h => by cases h)
  refine vc_seq ?_
  refine vc_region ?_
  refine vl_alloc rfl rfl (.some rfl) Try.zeroValue127 (fun r3 => ?_)
  refine vl_store rfl rfl .none rfl rfl Try.sizeOf127 rfl (by repeat (first | exact .head | apply In.tail | apply Take.tail | apply Upd.tail)) (Nat.le_refl _) ?_
  refine vl_nil ?_
  refine vc_region ?_
  refine vl_store rfl rfl .none rfl rfl Try.sizeOf56 rfl (by repeat (first | exact .head | apply In.tail | apply Take.tail | apply Upd.tail)) (Nat.le_refl _) ?_
  refine vl_store rfl rfl .none rfl rfl Try.sizeOf29 rfl (by repeat (first | exact .head | apply In.tail | apply Take.tail | apply Upd.tail)) (Nat.le_refl _) ?_
  refine vl_nil ?_
  exact raw_endS (u' := .panicking [{ v := wrongV, recovered := true }]) ⟨_, [cells a [.slice none 0 0] 56, cells b [.int .i64 8] 29], _, res0 Try.results107, (by repeat (first | exact .nil | (apply Sub.cons; · repeat (first | exact .head | apply Take.tail)))), rfl, rfl, rfl⟩
set_option maxRecDepth 20000 in
theorem cCaughtI (f : FuncId) (caps : List Value) (res : Option (List Int)) (w : World) (hc : ∀ args w, (callFunc f args).run Try.prog w = .ok (.enter f args) w) (hf : ∀ w', Ext w w' → Fn Try.prog f caps [] (toldCaughtI res) w') :
    Fn Try.prog 100 [.func (.func f) #[] caps.toArray] [] (ret (gaveCaughtI res)) w := by
  refine fn_enterD Try.func100 rfl Try.ntmps100 rfl ?_
  refine vw_seq ?_
  refine vc_region ?_
  refine vl_alloc rfl rfl (.some rfl) Try.zeroValue56 (fun r2 => ?_)
  refine vl_alloc rfl rfl (.some rfl) Try.zeroValue29 (fun r3 => ?_)
  refine vl_nil (show VW _ _ _ _ _ from ?_)
  refine vw_seqD ?_
  refine vlw_op (Q := fun _ _ _ => False) (no_lets fun _ _ h => h) ?_ (fun _ _ _ h => h.elim)
  · refine vl_val rfl (.some rfl) (val_mkFunc (us := []) rfl rfl) ?_
    refine vl_nil (show VLW _ _ _ _ _ _ from ?_)
    refine vlw_defer rfl rfl rfl (fs := []) (cs := [.pointer (some ⟨r2, 0, none⟩), .pointer (some ⟨r3, 0, none⟩)]) rfl (args := []) rfl ?_
    refine vlw_nil (show VW _ _ _ _ _ from ?_)
    refine vw_of ?_
    refine vc_seq ?_
    refine vc_region ?_
    refine vl_val rfl (.some rfl) (val_move rfl) ?_
    refine vl_callA (C := []) (R := toldCaughtI res) (run_callv (fs := []) (cs := caps) (args := []) rfl rfl hc rfl) rfl (.some rfl) .nil (fun w' hw => by
      rw [show ([] : List Value) ++ [] ++ caps = caps from rfl]
      exact hf w' (fun b hb => hw.old b hb (by simp [fps]))) (fun v H' hr => ?_) (fun ch H' hr => ?_) (fun H' h => by cases res with
        | none => cases h
        | some l => obtain ⟨A, c, h, _⟩ := h; cases h)
    · cases res with
      | none => cases hr
      | some l =>
        obtain ⟨A, c, hv, rfl⟩ := hr
        cases hv
        show VL _ _ _ _ _ (_ :: _ :: _)
        refine vl_store rfl rfl .none rfl rfl Try.sizeOf56 rfl (by repeat (first | exact .head | apply In.tail | apply Take.tail | apply Upd.tail)) (Nat.le_refl _) ?_
        refine vl_store rfl rfl .none rfl rfl Try.sizeOf29 rfl (by repeat (first | exact .head | apply In.tail | apply Take.tail | apply Upd.tail)) (Nat.le_refl _) ?_
        refine vl_nil ?_
        refine vc_ret ?_
        intro a w' ha hw
        refine leaves_one (C := [cells r2 [.slice A l.length c] 56, cells r3 [.int .i64 0] 29]) ha hw rfl (by simp) Try.call107 (by repeat (first | exact .nil | (apply Sub.cons; · repeat (first | exact .head | apply Take.tail)))) (fun w => cCaughtIR r2 r3 _ _ w) (fun v u' H' h => ?_) (fun _ _ _ h => by cases h.1) (fun _ _ h => by cases h.1)
        obtain ⟨h1, h2, rfl⟩ := h
        refine .inl ⟨by rw [h2]; rfl, _, fun a w ha hw => resCC Try.results100 rfl rfl (whole_cell Try.isAgg56 (cell_cells (by repeat (first | exact .head | apply In.tail | apply Take.tail | apply Upd.tail)) rfl)) (whole_cell Try.isAgg29 (cell_cells (by repeat (first | exact .head | apply In.tail | apply Take.tail | apply Upd.tail)) rfl)) a w ha hw, [IW A l.length c l], _, (by repeat (first | exact .nil | (apply Sub.cons; · repeat (first | exact .head | apply Take.tail)))), A, c, rfl, rfl⟩
    · cases res with
      | some l => obtain ⟨A, c, h, _⟩ := hr; cases h
      | none =>
        cases hr
        intro a w' ha hw
        refine leaves_one (C := [cells r2 [.slice none 0 0] 56, cells r3 [.int .i64 0] 29]) ha hw rfl (by simp) Try.call107 (sub_app H' (by repeat (first | exact .nil | (apply Sub.cons; · repeat (first | exact .head | apply Take.tail))))) (fun w => cCaughtIP r2 r3 _ _ w) (fun v u' H2 h => ?_) (fun _ _ _ h => by cases h.1) (fun _ _ h => by cases h.1)
        obtain ⟨h1, h2, rfl⟩ := h
        exact .inl ⟨h2, _, fun a w ha hw => resCC Try.results100 rfl rfl (whole_cell Try.isAgg56 (cell_cells (by repeat (first | exact .head | apply In.tail | apply Take.tail | apply Upd.tail)) rfl)) (whole_cell Try.isAgg29 (cell_cells (by repeat (first | exact .head | apply In.tail | apply Take.tail | apply Upd.tail)) rfl)) a w ha hw, [], _, .nil, rfl, rfl⟩

def JDl (r2 r3 l D : Nat) (r : Loop) (m : Nat) (s : DSt) (H : List Chunk) : Prop := ∃ A c, s.acc.length + m ≤ 1000000000000 ∧
  H = [lp l r, dfb D, cells r3 [.int .i64 s.last] 3, IW A s.acc.length c s.acc, cells r2 [.slice A s.acc.length c] 56]
def unrL (b : List UInt8) : List Nat := (unrunsO b).getD []
def unrE (b : List UInt8) : Int := if (unrunsO b).isSome then 0 else 8
def undL (b : List UInt8) : List Int := (undeltO b).getD []
def undE (b : List UInt8) : Int := if (undeltO b).isSome then 0 else 8
theorem gaveU {res : Option (List Nat)} {v : Value} {H' : List Chunk} (h : gaveCaughtU res v H') : ∃ A' c', v = .tuple #[.slice A' (res.getD []).length c', .int .i64 (if res.isSome then 0 else 8)] ∧ ((H' = [] ∧ A' = none ∧ c' = 0 ∧ res.getD [] = []) ∨ H' = [UW A' (res.getD []).length c' (res.getD [])]) := by
  cases res with
  | none => obtain ⟨rfl, rfl⟩ := h; exact ⟨none, 0, rfl, .inl ⟨rfl, rfl, rfl, rfl⟩⟩
  | some l => obtain ⟨A2, c2, rfl, rfl⟩ := h; exact ⟨A2, c2, rfl, .inr rfl⟩
theorem gaveI {res : Option (List Int)} {v : Value} {H' : List Chunk} (h : gaveCaughtI res v H') : ∃ A' c', v = .tuple #[.slice A' (res.getD []).length c', .int .i64 (if res.isSome then 0 else 8)] ∧ ((H' = [] ∧ A' = none ∧ c' = 0 ∧ res.getD [] = []) ∨ H' = [IW A' (res.getD []).length c' (res.getD [])]) := by
  cases res with
  | none => obtain ⟨rfl, rfl⟩ := h; exact ⟨none, 0, rfl, .inl ⟨rfl, rfl, rfl, rfl⟩⟩
  | some l => obtain ⟨A2, c2, rfl, rfl⟩ := h; exact ⟨A2, c2, rfl, .inr rfl⟩

set_option maxRecDepth 20000 in
theorem cUnd1 (x0 : Nat) (A : Option Addr) (c : Nat) (b : List UInt8) (hb : b.length ≤ 1000000000000) (hbc : b.length ≤ c) (w : World) (h0 : w.cell? ⟨x0, 0, none⟩ = some (.slice A b.length c)) (hr : Reads w A (bcells b)) : Fn Try.prog 101 [.pointer (some ⟨x0, 0, none⟩)] [] (toldCaughtI (undeltO b)) w := by
  refine fn_enterM Try.func101 rfl Try.ntmps101 rfl ?_
  refine vf_seq ?_
  refine vc_region ?_
  refine vl_val rfl (.some rfl) (val_assign rfl) ?_
  refine vl_nil ?_
  refine (show VF _ _ _ _ _ _ from ?_)
  refine vf_seq ?_
  refine vc_region ?_
  refine vl_alloc rfl rfl (.some rfl) Try.zeroValue56 (fun r2 => ?_)
  refine vl_nilSl 3 1 ?_
  refine vl_nil ?_
  refine (show VF _ _ _ _ _ _ from ?_)
  refine vf_seq ?_
  refine vc_region ?_
  refine vl_alloc rfl rfl (.some rfl) Try.zeroValue3 (fun r3 => ?_)
  first | refine vl_store rfl rfl .none rfl rfl Try.sizeOf3 rfl (by repeat (first | exact .head | apply In.tail | apply Take.tail | apply Upd.tail)) (by first | decide | exact Nat.le_refl _ | exact Nat.le_of_ble_eq_true rfl | (simp; omega)) ?_ | refine vl_storeSl rfl rfl .none rfl rfl Try.sizeOf3 rfl (by simp [Value.cells]) (by repeat (first | exact .head | apply In.tail | apply Take.tail | apply Upd.tail)) (by first | decide | (simp [Value.cells]; omega)) ?_
  refine vl_nil ?_
  refine (show VF _ _ _ _ _ _ from ?_)
  refine vf_seqG ?_
  refine vf_seq ?_
  refine vc_region ?_
  refine vl_val rfl (.some rfl) (val_load Try.isAgg59 rfl (by first | exact cell_cells (by repeat (first | exact .head | apply In.tail | apply Take.tail | apply Upd.tail)) rfl | exact cell_rd (rd_sl (by repeat (first | exact .head | apply In.tail | apply Take.tail | apply Upd.tail))) (by first | exact bcells_at (by omega) | exact ucells_at (by omega) | exact icells_at (by omega) | exact tcells_at (by omega) | exact bcells_get (by omega) | exact icells_get (by omega) | exact tcells_get (by omega) | exact ucells_get (by omega)) | exact cell_rd (rd_old (by assumption) rfl) (by first | exact bcells_at (by omega) | exact ucells_at (by omega) | exact icells_at (by omega) | exact tcells_at (by omega) | exact bcells_get (by omega) | exact icells_get (by omega) | exact tcells_get (by omega) | exact ucells_get (by omega)) | exact cell_old (by assumption) (by simp [fps]))) ?_
  refine vl_call (C := []) rfl rfl (.some rfl) Try.call99 rfl .nil (fun w' hw => cNumbers A b.length c w') (fun v H' h => ?_)
  obtain ⟨bx, rfl, rfl⟩ := h
  show VL _ _ _ _ _ (_ :: _)
  refine vl_nil ?_
  refine (show VF _ _ _ _ _ _ from ?_)
  refine vf_blockP ?_
  refine vf_rangeFunc (gf := 106) (lb := [.pointer (some ⟨bx, 0, none⟩)]) (R := fun l D r e H' => r.state = .ready ∧ r.pending = none ∧ itR stepD (JDl r2 r3 l D r) (KD D) bx b ⟨[], 0⟩ e H') rfl Try.call106 (fun l D r H' h => by
      have h := h.2.2
      unfold itR at h
      split at h <;> cases h.1) (fun l D tmps w' hT hH => ?_) (fun l D r v H' h => ?_) (fun l D r ch H' h => ?_)
  · refine Fn.mono (Fn.perm (C := cells bx [.slice A b.length c] 59 :: lp l _ :: dfb D :: _) (.trans (.swap _ _ _) (.cons _ (.swap _ _ _))) (cNumIt stepD (JDl r2 r3 l D _) (KD D) (fun m s H h => by
        obtain ⟨A2, c2, _, rfl⟩ := h
        exact ⟨_, .tail .head⟩) l (fun m s u H w2 hm hJ hu => ?_) bx A c b ⟨[], 0⟩ _ ⟨none, 0, by show 0 + _ ≤ _; omega, rfl⟩ hb hbc w' (reads_callee hr rfl (by repeat (first | exact .nil | (apply Sub.cons; · repeat (first | exact .head | apply Take.tail)))) hH))) (fun e H' h => ⟨rfl, rfl, h⟩)
    obtain ⟨acc, last⟩ := s
    obtain ⟨A2, c2, hlen, rfl⟩ := hJ
    have hlen : acc.length + m ≤ 1000000000000 := hlen
    show YFn _ _ _ [lp l _, dfb D, cells r3 [.int .i64 last] 3, IW A2 acc.length c2 acc, cells r2 [.slice A2 acc.length c2] 56] _ _
    refine yfn_of Try.func101 rfl rfl (fun _ => .head) (ok_round hT rfl rfl) ?_
    refine vr_region (fun _ _ h => h) rfl ?_
    refine vl_val rfl (.some rfl) (val_assign rfl) ?_
    refine vl_nil ⟨rfl, fun rb hrb => ?_⟩
    refine vr_block ?_
    refine vr_seq ?_
    refine vr_draws [0, 1, 3] [4] [0, 1, 2, 3, 4] (fun _ _ h => h) rfl rfl (by kernel_rfl) (fun _ _ _ h => h) ?_
    refine vd_val rfl rfl rfl (.some rfl) (val_load Try.isAgg3 rfl (by first | exact cell_cells (by repeat (first | exact .head | apply In.tail | apply Take.tail | apply Upd.tail)) rfl | exact cell_rd (rd_sl (by repeat (first | exact .head | apply In.tail | apply Take.tail | apply Upd.tail))) (by first | exact bcells_at (by omega) | exact ucells_at (by omega) | exact icells_at (by omega) | exact tcells_at (by omega) | exact bcells_get (by omega) | exact icells_get (by omega) | exact tcells_get (by omega) | exact ucells_get (by omega)) | exact cell_rd (rd_old (by assumption) rfl) (by first | exact bcells_at (by omega) | exact ucells_at (by omega) | exact icells_at (by omega) | exact tcells_at (by omega) | exact bcells_get (by omega) | exact icells_get (by omega) | exact tcells_get (by omega) | exact ucells_get (by omega)) | exact cell_old (by assumption) (by simp [fps]))) ?_
    refine vd_val rfl rfl rfl (.some rfl) (val_move rfl) ?_
    refine vd_op rfl rfl ?_
    refine vl_callV rfl rfl (.some rfl) Try.call102 rfl (fun w hw => cZag u hu w) ?_
    refine vl_nil ?_
    refine ⟨fun _ => ⟨_, (by repeat (first | exact .nil | (apply Sub.cons; · repeat (first | exact .head | apply Take.tail))))⟩, ?_⟩
    refine vd_val rfl rfl rfl (.some rfl) (val_add rfl rfl rfl) ?_
    refine vd_op rfl rfl ?_
    first | refine vl_store rfl rfl .none rfl rfl Try.sizeOf3 rfl (by repeat (first | exact .head | apply In.tail | apply Take.tail | apply Upd.tail)) (by first | decide | exact Nat.le_refl _ | exact Nat.le_of_ble_eq_true rfl | (simp; omega)) ?_ | refine vl_storeSl rfl rfl .none rfl rfl Try.sizeOf3 rfl (by simp [Value.cells]) (by repeat (first | exact .head | apply In.tail | apply Take.tail | apply Upd.tail)) (by first | decide | (simp [Value.cells]; omega)) ?_
    refine vl_nil ?_
    refine ⟨fun h => (by cases h), ?_⟩
    refine vd_nil ?_
    refine vr_region (fun _ _ h => h) rfl ?_
    refine vl_val rfl (.some rfl) (val_load Try.isAgg56 rfl (by first | exact cell_cells (by repeat (first | exact .head | apply In.tail | apply Take.tail | apply Upd.tail)) rfl | exact cell_rd (rd_sl (by repeat (first | exact .head | apply In.tail | apply Take.tail | apply Upd.tail))) (by first | exact bcells_at (by omega) | exact ucells_at (by omega) | exact icells_at (by omega) | exact tcells_at (by omega) | exact bcells_get (by omega) | exact icells_get (by omega) | exact tcells_get (by omega) | exact ucells_get (by omega)) | exact cell_rd (rd_old (by assumption) rfl) (by first | exact bcells_at (by omega) | exact ucells_at (by omega) | exact icells_at (by omega) | exact tcells_at (by omega) | exact bcells_get (by omega) | exact icells_get (by omega) | exact tcells_get (by omega) | exact ucells_get (by omega)) | exact cell_old (by assumption) (by simp [fps]))) ?_
    refine vl_val rfl (.some rfl) (val_load Try.isAgg3 rfl (by first | exact cell_cells (by repeat (first | exact .head | apply In.tail | apply Take.tail | apply Upd.tail)) rfl | exact cell_rd (rd_sl (by repeat (first | exact .head | apply In.tail | apply Take.tail | apply Upd.tail))) (by first | exact bcells_at (by omega) | exact ucells_at (by omega) | exact icells_at (by omega) | exact tcells_at (by omega) | exact bcells_get (by omega) | exact icells_get (by omega) | exact tcells_get (by omega) | exact ucells_get (by omega)) | exact cell_rd (rd_old (by assumption) rfl) (by first | exact bcells_at (by omega) | exact ucells_at (by omega) | exact icells_at (by omega) | exact tcells_at (by omega) | exact bcells_get (by omega) | exact icells_get (by omega) | exact tcells_get (by omega) | exact ucells_get (by omega)) | exact cell_old (by assumption) (by simp [fps]))) ?_
    refine vl_lit sT56 rfl rfl (.some rfl) rfl rfl rfl (by decide) (by decide) rfl (flat_one rfl) (fun r14 => ?_)
    refine vl_append sT56 rfl rfl (.some rfl) rfl rfl (by first | exact rd_sl (by repeat (first | exact .head | apply In.tail | apply Take.tail | apply Upd.tail)) | exact rd_slr (by repeat (first | exact .head | apply In.tail | apply Take.tail | apply Upd.tail)) | exact rd_old (by assumption) rfl) (by first | rfl | (simp; done) | (simp; omega) | (simp only [bcells_length, icells_length, ucells_length, tcells_length]; omega)) (by first | rfl | exact one_b _ | exact one_u _ | exact one_i _ | exact one_t _) (by omega) (by omega) (by repeat (first | exact .head | apply In.tail | apply Take.tail | apply Upd.tail)) (fun A15 k15 => ?_)
    first | refine vl_store rfl rfl .none rfl rfl Try.sizeOf56 rfl (by repeat (first | exact .head | apply In.tail | apply Take.tail | apply Upd.tail)) (by first | decide | exact Nat.le_refl _ | exact Nat.le_of_ble_eq_true rfl | (simp; omega)) ?_ | refine vl_storeSl rfl rfl .none rfl rfl Try.sizeOf56 rfl (by simp [Value.cells]) (by repeat (first | exact .head | apply In.tail | apply Take.tail | apply Upd.tail)) (by first | decide | (simp [Value.cells]; omega)) ?_
    refine vl_nil ?_
    rw [ipush]
    subst hrb
    refine ⟨_, [lp l _, dfb D, cells r3 [.int .i64 (IntKind.i64.wrap (last + zagS u))] 3, IW A15 (acc.length + 1) k15 (acc ++ [IntKind.i64.wrap (last + zagS u)]), cells r2 [.slice A15 (acc.length + 1) k15] 56], _, (by repeat (first | exact .head | apply In.tail | apply Take.tail | apply Upd.tail)), (by repeat (first | exact .nil | (apply Sub.cons; · repeat (first | exact .head | apply Take.tail)))), ?_⟩
    unfold yR
    show _ ∧ _
    refine ⟨rfl, fun m' hm' => ⟨A15, k15, ?_, ?_⟩⟩
    · show (acc ++ [IntKind.i64.wrap (last + zagS u)]).length + m' ≤ _
      simp only [List.length_append, List.length_cons, List.length_nil]; omega
    · show _ = [_, _, _, IW A15 (acc ++ [IntKind.i64.wrap (last + zagS u)]).length k15 (acc ++ [IntKind.i64.wrap (last + zagS u)]), cells r2 [.slice A15 (acc ++ [IntKind.i64.wrap (last + zagS u)]).length k15] 56]
      rw [show (acc ++ [IntKind.i64.wrap (last + zagS u)]).length = acc.length + 1 by simp]
  · obtain ⟨h1, h2, h⟩ := h
    unfold itR at h
    cases hs : itF stepD b.length ⟨[], 0⟩ b with
    | none => rw [hs] at h; cases h.1
    | some s3 =>
      rw [hs] at h
      obtain ⟨_, A3, n3, c3, H2, rfl, m, A2, c2, hlen, rfl⟩ := h
      refine ⟨r, _, by rw [h1]; simp, h2, .tail .head, ?_⟩
      intro a w2 ha hw
      refine ⟨fun _ h => (by cases h), ?_⟩
      refine (show VF (Cx.mark _ D) _ _ _ _ _ from ?_) a w2 ha hw
      refine vf_of ?_
      refine vc_seq ?_
      refine vc_region ?_
      refine vl_val rfl (.some rfl) (val_load Try.isAgg56 rfl (by first | exact cell_cells (by repeat (first | exact .head | apply In.tail | apply Take.tail | apply Upd.tail)) rfl | exact cell_rd (rd_sl (by repeat (first | exact .head | apply In.tail | apply Take.tail | apply Upd.tail))) (by first | exact bcells_at (by omega) | exact ucells_at (by omega) | exact icells_at (by omega) | exact tcells_at (by omega) | exact bcells_get (by omega) | exact icells_get (by omega) | exact tcells_get (by omega) | exact ucells_get (by omega)) | exact cell_rd (rd_old (by assumption) rfl) (by first | exact bcells_at (by omega) | exact ucells_at (by omega) | exact icells_at (by omega) | exact tcells_at (by omega) | exact bcells_get (by omega) | exact icells_get (by omega) | exact tcells_get (by omega) | exact ucells_get (by omega)) | exact cell_old (by assumption) (by simp [fps]))) ?_
      refine vl_val rfl (.some rfl) (val_assign rfl) ?_
      refine vl_nil ?_
      refine vc_ret ?_
      intro a w' ha hw
      refine leaves_mark ha hw rfl (by repeat (first | exact .head | apply In.tail | apply Take.tail | apply Upd.tail)) (fun w hw => (res1 Try.results101 rfl : Res _ _ _ _ _) a w ha hw) ⟨[IW A2 s3.acc.length c2 s3.acc], _, (by repeat (first | exact .nil | (apply Sub.cons; · repeat (first | exact .head | apply Take.tail)))), ?_⟩
      have hsome : undeltO b = some s3.acc := by unfold undeltO; rw [hs]; rfl
      rw [hsome]
      exact ⟨A2, c2, rfl, rfl⟩
  · obtain ⟨h1, h2, h⟩ := h
    unfold itR at h
    cases hs : itF stepD b.length ⟨[], 0⟩ b with
    | some s3 => rw [hs] at h; cases h.1
    | none =>
      rw [hs] at h
      obtain ⟨hch, A3, n3, c3, H2, rfl, H3, hk⟩ := h
      cases hch
      intro a w2 ha hw
      refine ⟨fun _ h => (by cases h), leaves_markP ha hw rfl (.tail hk) ⟨[], _, .nil, ?_⟩⟩
      have hnone : undeltO b = none := by unfold undeltO; rw [hs]; rfl
      rw [hnone]; rfl
set_option maxRecDepth 20000 in
theorem cUnruns (A : Option Addr) (c : Nat) (b : List UInt8) (hb : b.length ≤ 1000000000) (hbc : b.length ≤ c) (w : World) (hr : Reads w A (bcells b)) : Fn Try.prog 89 [.slice A b.length c] [] (ret fun v H' => ∃ A' c', v = .tuple #[.slice A' (unrL b).length c', .int .i64 (unrE b)] ∧ H' = [UW A' (unrL b).length c' (unrL b)]) w := by
  refine fn_enter Try.func89 rfl Try.ntmps89 rfl ?_
  refine vc_seq ?_
  refine vc_region ?_
  refine vl_box rfl rfl (.some rfl) rfl (fun r1 => ?_)
  refine vl_val rfl (.some rfl) (val_assign rfl) ?_
  refine vl_val rfl (.some rfl) (val_assign rfl) ?_
  refine vl_nil ?_
  refine vc_seq ?_
  refine vc_region ?_
  refine vl_val rfl (.some rfl) (val_mkFunc rfl rfl) ?_
  refine vl_call (C := []) rfl rfl (.some rfl) Try.call86 rfl .nil (fun w' hw => cCaughtU 98 [.pointer (some ⟨r1, 0, none⟩)] (unrunsO b) w' Try.call98 (fun w2 hx => cUnr1 r1 A c b (by omega) hbc w2 (hx.cell (cell_cells (i := 0) (by repeat (first | exact .head | apply In.tail | apply Take.tail | apply Upd.tail)) rfl w' hw)) (hx.reads (rdw (rd_old hr rfl) hw)))) (fun v H' h => ?_)
  obtain ⟨A', c', rfl, hH⟩ := gaveU h
  refine vl_nilSl 96 1 ?_
  refine vl_val rfl (.some rfl) (val_extract rfl rfl) ?_
  refine vl_val rfl (.some rfl) (val_extract rfl rfl) ?_
  refine vl_val rfl (.some rfl) (val_assign rfl) ?_
  refine vl_val rfl (.some rfl) (val_assign rfl) ?_
  refine vl_nil ?_
  refine vc_ret ?_
  rcases hH with ⟨rfl, rfl, rfl, he⟩ | rfl
  · refine ⟨_, [UW none 0 0 []], _, res2 Try.results89 rfl rfl, (by repeat (first | exact .nil | (apply Sub.cons; · repeat (first | exact .head | apply Take.tail)))), ?_⟩
    exact ⟨none, 0, rfl, by show _ = [UW none ((unrunsO b).getD []).length 0 ((unrunsO b).getD [])]; rw [he]; rfl⟩
  · refine ⟨_, [UW A' (unrL b).length c' (unrL b)], _, res2 Try.results89 rfl rfl, (by repeat (first | exact .nil | (apply Sub.cons; · repeat (first | exact .head | apply Take.tail)))), ?_⟩
    exact ⟨A', c', rfl, rfl⟩
set_option maxRecDepth 20000 in
theorem cUndeltas (A : Option Addr) (c : Nat) (b : List UInt8) (hb : b.length ≤ 1000000000) (hbc : b.length ≤ c) (w : World) (hr : Reads w A (bcells b)) : Fn Try.prog 90 [.slice A b.length c] [] (ret fun v H' => ∃ A' c', v = .tuple #[.slice A' (undL b).length c', .int .i64 (undE b)] ∧ H' = [IW A' (undL b).length c' (undL b)]) w := by
  refine fn_enter Try.func90 rfl Try.ntmps90 rfl ?_
  refine vc_seq ?_
  refine vc_region ?_
  refine vl_box rfl rfl (.some rfl) rfl (fun r1 => ?_)
  refine vl_val rfl (.some rfl) (val_assign rfl) ?_
  refine vl_val rfl (.some rfl) (val_assign rfl) ?_
  refine vl_nil ?_
  refine vc_seq ?_
  refine vc_region ?_
  refine vl_val rfl (.some rfl) (val_mkFunc rfl rfl) ?_
  refine vl_call (C := []) rfl rfl (.some rfl) Try.call100 rfl .nil (fun w' hw => cCaughtI 101 [.pointer (some ⟨r1, 0, none⟩)] (undeltO b) w' Try.call101 (fun w2 hx => cUnd1 r1 A c b (by omega) hbc w2 (hx.cell (cell_cells (i := 0) (by repeat (first | exact .head | apply In.tail | apply Take.tail | apply Upd.tail)) rfl w' hw)) (hx.reads (rdw (rd_old hr rfl) hw)))) (fun v H' h => ?_)
  obtain ⟨A', c', rfl, hH⟩ := gaveI h
  refine vl_nilSl 3 1 ?_
  refine vl_val rfl (.some rfl) (val_extract rfl rfl) ?_
  refine vl_val rfl (.some rfl) (val_extract rfl rfl) ?_
  refine vl_val rfl (.some rfl) (val_assign rfl) ?_
  refine vl_val rfl (.some rfl) (val_assign rfl) ?_
  refine vl_nil ?_
  refine vc_ret ?_
  rcases hH with ⟨rfl, rfl, rfl, he⟩ | rfl
  · refine ⟨_, [IW none 0 0 []], _, res2 Try.results90 rfl rfl, (by repeat (first | exact .nil | (apply Sub.cons; · repeat (first | exact .head | apply Take.tail)))), ?_⟩
    exact ⟨none, 0, rfl, by show _ = [IW none ((undeltO b).getD []).length 0 ((undeltO b).getD [])]; rw [he]; rfl⟩
  · refine ⟨_, [IW A' (undL b).length c' (undL b)], _, res2 Try.results90 rfl rfl, (by repeat (first | exact .nil | (apply Sub.cons; · repeat (first | exact .head | apply Take.tail)))), ?_⟩
    exact ⟨A', c', rfl, rfl⟩

end Go.Proofs.Ytibfngjfjddaiaa.K
