/- Walks of the program's functions, printed by a program of this session; Lean checks them. -/
import Derived.Test.YtibfngjfjddaiaaDroomt
namespace Go.Proofs.Ytibfngjfjddaiaa.K
open Go Go.RowKit Go.Proofs
set_option linter.unusedVariables false
set_option linter.unusedSimpArgs false

def zz (vs : List Vk) (i : Nat) : List Vk := List.replicate i z3 ++ vs.drop i
theorem zz_len {vs : List Vk} {i : Nat} (h : i ≤ vs.length) : (zz vs i).length = vs.length := by unfold zz; simp; omega
theorem zz_get {vs : List Vk} {i : Nat} (h : i < vs.length) : (zz vs i).getD i z3 = vs.getD i z3 := by
  unfold zz
  simp [List.getD, List.getElem?_append_right, h]
theorem flat_app (a b : List Vk) : flat (a ++ b) = flat a ++ flat b := by simp [flat]
theorem laid_zz {vs : List Vk} {i : Nat} (h : i < vs.length) : laid (flat (zz vs i)) (i * 3) [.int .i64 0, .int .i64 0, .string ⟨#[]⟩] = flat (zz vs (i + 1)) := by
  have e1 : zz vs i = List.replicate i z3 ++ (vs[i] :: vs.drop (i + 1)) := by unfold zz; rw [List.drop_eq_getElem_cons h]
  have e2 : zz vs (i + 1) = List.replicate i z3 ++ (z3 :: vs.drop (i + 1)) := by unfold zz; rw [List.replicate_succ']; simp
  have e3 : ∀ q : Vk, flat (q :: vs.drop (i + 1)) = [.int .i64 q.k, .int .i64 q.n, .string q.s] ++ flat (vs.drop (i + 1)) := fun q => rfl
  have hl : (flat (List.replicate i z3)).length = i * 3 := by rw [vflat_len, List.length_replicate]
  rw [e1, e2, flat_app, flat_app, e3, e3]
  unfold laid
  rw [List.take_append_of_le_length (Nat.le_of_eq hl.symm), List.take_of_length_le (Nat.le_of_eq hl)]
  rw [List.drop_append, List.drop_of_length_le (by rw [hl]; omega), hl]
  have : i * 3 + [Value.int .i64 0, Value.int .i64 0, Value.string ⟨#[]⟩].length - i * 3 = 3 := by simp
  rw [this]
  simp
/-- The two copies: none yet, or both of the same values. -/
def Kept (kd : Int) (o1 o2 : Option Addr) (X : List Chunk) : Prop := (o1 = none → o2 = none) ∧ (o1 ≠ none → ∃ (r m : Nat) (A : Option Addr) (c : Nat) (vs : List Vk) (x : Nat) (B : Option Addr) (cb : Nat), vs.length ≤ 512 ∧ o1 = some ⟨r, 0, none⟩ ∧ o2 = some ⟨x, 0, none⟩ ∧ X = [DC r m kd A vs.length c, DS A c vs, RC x kd B vs.length cb, DS B cb vs])
theorem bin_ptr_any {P : Program} {T e : TypeId} {o : Option Addr} (hu : ∀ w, (underlying T).run P w = .ok (.pointer e) w) (w : World) : (binOp .eql T (.pointer o) (.pointer none)).run P w = .ok (.bool o.isNone) w := by
  cases o with
  | none => exact bin_nil_eq hu w
  | some a => exact bin_ptr_eq hu w

set_option maxRecDepth 20000 in
set_option maxHeartbeats 1000000 in
theorem dAlike (r m : Nat) (kd : Int) (A : Option Addr) (c : Nat) (vs : List Vk) (hl : vs.length ≤ 512) (x : Nat) (B : Option Addr) (cb : Nat) (w : World) : FnR Try.prog 28 [.pointer (some ⟨r, 0, none⟩), .pointer (some ⟨x, 0, none⟩)] [DC r m kd A vs.length c, DS A c vs, RC x kd B vs.length cb, DS B cb vs] (.bool true) w := by
  refine fn_enter Try.func28 rfl Try.ntmps28 rfl ?_
  refine vc_seq ?_
  refine vc_region ?_
  refine vl_val rfl (.some rfl) (val_assign rfl) ?_
  refine vl_nil ?_
  refine vc_seq ?_
  refine vc_region ?_
  refine vl_val rfl (.some rfl) (val_move rfl) ?_
  refine vl_call (C := [DC r m kd A vs.length c, DS A c vs]) rfl rfl (.some rfl) Try.call22 rfl (by repeat (first | exact .nil | (apply Sub.cons; · repeat (first | exact .head | apply Take.tail)))) (fun w hw => dValues r m kd A c vs hl w) (fun v H' h => ?_)
  obtain ⟨A6, c6, rfl, rfl⟩ := h
  show VL _ _ _ _ _ (_ :: _ :: _ :: _)
  refine vl_val rfl (.some rfl) (val_assign rfl) ?_
  refine vl_nil ?_
  refine vc_seq ?_
  refine vc_seq ?_
  refine vc_draws [0, 1, 2, 3, 4, 5, 6, 7, 8, 9, 11, 12, 13, 14, 15, 16, 17, 18, 19, 21, 22, 23, 24, 25, 26] [] [0, 1, 2, 3, 4, 5, 6, 7, 8, 9, 11, 12, 13, 14, 15, 10, 16, 17, 18, 19, 21, 22, 23, 24, 20, 25, 26] rfl (by kernel_rfl) (fun _ _ _ h => h) ?_
  refine vd_val rfl rfl rfl (.some rfl) (val_move rfl) ?_
  refine vd_val rfl rfl rfl (.some rfl) (val_lenSl Try.runUnderlying22 rfl) ?_
  refine vd_val rfl rfl rfl (.some rfl) (val_move rfl) ?_
  refine vd_val rfl rfl rfl (.some rfl) (val_nil rfl rfl) ?_
  refine vd_val rfl rfl rfl (.some rfl) (by first | exact val_fieldAddr Try.runUnderlying94 rfl Try.sizeOf22 rfl | exact val_fieldAddrR Try.runUnderlying94 rfl Try.sizeOf22 rfl) ?_
  refine vd_val rfl rfl rfl (.some rfl) (val_load Try.isAgg22 rfl (by first | exact cell_cells (by repeat (first | exact .head | apply In.tail | apply Take.tail | apply Upd.tail)) rfl | exact cell_rd (rd_sl (by repeat (first | exact .head | apply In.tail | apply Take.tail | apply Upd.tail))) (by first | exact bcells_get (by omega) | exact icells_get (by omega) | exact tcells_get (by omega)))) ?_
  refine vd_val rfl rfl rfl (.some rfl) (val_lenSl Try.runUnderlying22 rfl) ?_
  refine vd_val rfl rfl rfl (.some rfl) (val_net rfl rfl (rfl)) ?_
  refine vd_val rfl rfl rfl (.some rfl) (val_move rfl) ?_
  refine vd_on rfl rfl rfl rfl rfl rfl (.some rfl) (val_move rfl) ?_
  refine vd_on rfl rfl rfl rfl rfl rfl (.some rfl) (val_move rfl) ?_
  refine vd_on rfl rfl rfl rfl rfl rfl (.some rfl) (val_nil rfl rfl) ?_
  refine vd_on rfl rfl rfl rfl rfl rfl (.some rfl) (by first | exact val_fieldAddr Try.runUnderlying94 rfl Try.sizeOf22 rfl | exact val_fieldAddrR Try.runUnderlying94 rfl Try.sizeOf22 rfl) ?_
  refine vd_on rfl rfl rfl rfl rfl rfl (.some rfl) (val_load Try.isAgg22 rfl (by first | exact cell_cells (by repeat (first | exact .head | apply In.tail | apply Take.tail | apply Upd.tail)) rfl | exact cell_rd (rd_sl (by repeat (first | exact .head | apply In.tail | apply Take.tail | apply Upd.tail))) (by first | exact bcells_get (by omega) | exact icells_get (by omega) | exact tcells_get (by omega)))) ?_
  refine vd_on rfl rfl rfl rfl rfl rfl (.some rfl) (val_lenSl Try.runUnderlying22 rfl) ?_
  refine vd_op rfl rfl ?_
  refine vl_on rfl rfl rfl rfl ?_
  refine vl_callR [DC r m kd A vs.length c] rfl rfl (.some rfl) Try.call15 rfl (by repeat (first | exact .nil | (apply Sub.cons; · repeat (first | exact .head | apply Take.tail)))) (fun w hw => dLen r m kd A c vs w) ?_
  refine vl_nil ?_
  refine ⟨fun _ => ⟨_, (by repeat (first | exact .nil | (apply Sub.cons; · repeat (first | exact .head | apply Take.tail))))⟩, ?_⟩
  refine vd_on rfl rfl rfl rfl rfl rfl (.some rfl) (val_net rfl rfl (rfl)) ?_
  refine vd_val rfl rfl rfl (.some rfl) (val_pick rfl rfl) ?_
  refine vd_val rfl rfl rfl (.some rfl) (val_move rfl) ?_
  refine vd_on rfl rfl rfl rfl rfl rfl (.some rfl) (val_move rfl) ?_
  refine vd_on rfl rfl rfl rfl rfl rfl (.some rfl) (val_move rfl) ?_
  refine vd_on rfl rfl rfl rfl rfl rfl (.some rfl) (val_nil rfl rfl) ?_
  refine vd_on rfl rfl rfl rfl rfl rfl (.some rfl) (by first | exact val_fieldAddr Try.runUnderlying94 rfl Try.sizeOf3 rfl | exact val_fieldAddrR Try.runUnderlying94 rfl Try.sizeOf3 rfl) ?_
  refine vd_on rfl rfl rfl rfl rfl rfl (.some rfl) (val_load Try.isAgg3 rfl (by first | exact cell_cells (by repeat (first | exact .head | apply In.tail | apply Take.tail | apply Upd.tail)) rfl | exact cell_rd (rd_sl (by repeat (first | exact .head | apply In.tail | apply Take.tail | apply Upd.tail))) (by first | exact bcells_get (by omega) | exact icells_get (by omega) | exact tcells_get (by omega)))) ?_
  refine vd_op rfl rfl ?_
  refine vl_on rfl rfl rfl rfl ?_
  refine vl_callR [DC r m kd A vs.length c] rfl rfl (.some rfl) Try.call21 rfl (by repeat (first | exact .nil | (apply Sub.cons; · repeat (first | exact .head | apply Take.tail)))) (fun w hw => dKind r m kd A c vs w) ?_
  refine vl_nil ?_
  refine ⟨fun _ => ⟨_, (by repeat (first | exact .nil | (apply Sub.cons; · repeat (first | exact .head | apply Take.tail))))⟩, ?_⟩
  refine vd_on rfl rfl rfl rfl rfl rfl (.some rfl) (val_net rfl rfl (rfl)) ?_
  refine vd_val rfl rfl rfl (.some rfl) (val_pick rfl rfl) ?_
  refine vd_nil ?_
  refine vc_cond rfl (fun h => by cases h) (fun _ => ?_)
  refine vc_skip ?_
  refine vc_seq ?_
  refine vc_seq ?_
  refine vc_region ?_
  refine vl_val rfl (.some rfl) (val_move rfl) ?_
  refine vl_val rfl (.some rfl) (val_lenSl Try.runUnderlying22 rfl) ?_
  refine vl_val rfl (.some rfl) (val_move rfl) ?_
  refine vl_nil ?_
  refine vc_block ?_
  refine vc_loopw (fun k E H => ∃ i : Nat, i ≤ vs.length ∧ k = vs.length - i ∧ E = [(1, .pointer (some ⟨x, 0, none⟩)), (5, .slice A6 vs.length c6), (37, .slice A6 vs.length c6), (38, .int .i64 vs.length), (39, .int .i64 i)] ∧ H = [DC r m kd A vs.length c, DS A c vs, RC x kd B vs.length cb, DS B cb vs, sl A6 vs.length c6 27 3 (flat (zz vs i))]) (vs.length) ⟨_, _, _, ⟨0, by omega, rfl, rfl, rfl⟩, (by repeat (first | exact trivial | refine ⟨rfl, ?_⟩ | refine ⟨le_item rfl (by first | rfl | (congr 1; omega) | (simp; done) | (simp; omega)), ?_⟩)), (by repeat (first | exact .nil | (apply Sub.cons; · repeat (first | exact .head | apply Take.tail))))⟩ ?_
  intro k E H hI
  obtain ⟨i, hi, rfl, rfl, rfl⟩ := hI
  refine vc_seq ?_
  refine vc_region ?_
  refine vl_val rfl (.some rfl) (val_lt rfl rfl) ?_
  refine vl_nil ?_
  refine vc_seq ?_
  refine vc_cond rfl (fun hc1 => ?_) (fun hc1 => ?_)
  · (try replace hc1 := of_decide_eq_true hc1)
    have hf := flat_at (zz vs i) i (by rw [zz_len hi]; omega)
    have hf2 := flat_at vs i (by omega)
    rw [zz_get (by omega)] at hf
    generalize vs.getD i z3 = p at hf hf2
    refine vc_skip ?_
    refine vc_seq ?_
    refine vc_block ?_
    refine vc_seq ?_
    refine vc_region ?_
    refine vl_val rfl (.some rfl) (val_move rfl) ?_
    refine vl_val rfl (.some rfl) (val_indexAddr Try.runUnderlying22 Try.sizeOf27 rfl rfl (rd_sl (A := A6) (n := vs.length) (c := c6) (e := 27) (sz := 3) (vs := flat (zz vs i)) (by repeat (first | exact .head | apply In.tail | apply Take.tail | apply Upd.tail))) (by omega) (by omega) (by rw [vflat_len, zz_len hi]; omega)) ?_
    refine vl_val rfl (.some rfl) (val_loadAgg Try.isAgg27 Try.sizeOf27 rfl (rd_part (us := [.int .i64 p.k, .int .i64 p.n, .string p.s]) (rd_sl (A := A6) (n := vs.length) (c := c6) (e := 27) (sz := 3) (vs := flat (zz vs i)) (by repeat (first | exact .head | apply In.tail | apply Take.tail | apply Upd.tail))) hf) rfl) ?_
    refine vl_alloc rfl rfl (.some rfl) Try.zeroValue27 (fun r7 => ?_)
    refine vl_val rfl (.some rfl) (val_assign rfl) ?_
    first | refine vl_store rfl rfl .none rfl rfl Try.sizeOf27 rfl (by repeat (first | exact .head | apply In.tail | apply Take.tail | apply Upd.tail)) (by first | decide | exact Nat.le_refl _ | (simp; omega)) ?_ | refine vl_storeSl rfl rfl .none rfl rfl Try.sizeOf27 rfl (by simp [Value.cells]) (by repeat (first | exact .head | apply In.tail | apply Take.tail | apply Upd.tail)) (by first | decide | (simp [Value.cells]; omega)) ?_
    refine vl_nil ?_
    refine vc_seq ?_
    refine vc_seq ?_
    refine vc_draws [0, 1, 2, 3, 4, 5, 6, 7, 8] [] [0, 1, 2, 3, 4, 5, 6, 7, 8] rfl (by kernel_rfl) (fun _ _ _ h => h) ?_
    refine vd_val rfl rfl rfl (.some rfl) (val_loadAgg Try.isAgg27 Try.sizeOf27 rfl (by first | exact cells_whole (by repeat (first | exact .head | apply In.tail | apply Take.tail | apply Upd.tail)) | exact cells_part (by repeat (first | exact .head | apply In.tail | apply Take.tail | apply Upd.tail)) rfl) rfl) ?_
    refine vd_val rfl rfl rfl (.some rfl) (val_move rfl) ?_
    refine vd_val rfl rfl rfl (.some rfl) (val_nil rfl rfl) ?_
    refine vd_val rfl rfl rfl (.some rfl) (by first | exact val_fieldAddr Try.runUnderlying94 rfl Try.sizeOf22 rfl | exact val_fieldAddrR Try.runUnderlying94 rfl Try.sizeOf22 rfl) ?_
    refine vd_val rfl rfl rfl (.some rfl) (val_load Try.isAgg22 rfl (by first | exact cell_cells (by repeat (first | exact .head | apply In.tail | apply Take.tail | apply Upd.tail)) rfl | exact cell_rd (rd_sl (by repeat (first | exact .head | apply In.tail | apply Take.tail | apply Upd.tail))) (by first | exact bcells_get (by omega) | exact icells_get (by omega) | exact tcells_get (by omega)))) ?_
    refine vd_val rfl rfl rfl (.some rfl) (val_move rfl) ?_
    refine vd_val rfl rfl rfl (.some rfl) (val_indexAddr Try.runUnderlying22 Try.sizeOf27 rfl rfl (rd_sl (A := B) (n := vs.length) (c := cb) (e := 27) (sz := 3) (vs := flat vs) (by repeat (first | exact .head | apply In.tail | apply Take.tail | apply Upd.tail))) (by omega) (by omega) (by rw [vflat_len]; omega)) ?_
    refine vd_val rfl rfl rfl (.some rfl) (val_loadAgg Try.isAgg27 Try.sizeOf27 rfl (rd_part (us := [.int .i64 p.k, .int .i64 p.n, .string p.s]) (rd_sl (A := B) (n := vs.length) (c := cb) (e := 27) (sz := 3) (vs := flat vs) (by repeat (first | exact .head | apply In.tail | apply Take.tail | apply Upd.tail))) hf2) rfl) ?_
    refine vd_val rfl rfl rfl (.some rfl) (val_opO rfl rfl (fun w => run_eqGuard_agg w _ _ _ _ _ _ (by kernel_rfl)) (bin_agg_ne (b := true) (fun w => (vk_equal p p w).trans (by simp)))) ?_
    refine vd_nil ?_
    refine vc_cond rfl (fun h => by cases h) (fun _ => ?_)
    refine vc_skip ?_
    refine vc_region ?_
    refine vl_val rfl (.some rfl) (val_move rfl) ?_
    refine vl_val rfl (.some rfl) (val_move rfl) ?_
    refine vl_val rfl (.some rfl) (val_buildSt (pl := #[(0, 1), (1, 1), (2, 1)]) (cs := #[.int .i64 0, .int .i64 0, .string ⟨#[]⟩]) Try.runUnderlying27 Try.zeroValue27 (fun w => by kernel_rfl) rfl rfl) ?_
    refine vl_val rfl (.some rfl) (val_indexAddr Try.runUnderlying22 Try.sizeOf27 rfl rfl (rd_sl (A := A6) (n := vs.length) (c := c6) (e := 27) (sz := 3) (vs := flat (zz vs i)) (by repeat (first | exact .head | apply In.tail | apply Take.tail | apply Upd.tail))) (by omega) (by omega) (by rw [vflat_len, zz_len hi]; omega)) ?_
    refine vl_storeSl (A := A6) (n := vs.length) (c := c6) (sz := 3) (vs := flat (zz vs i)) rfl rfl .none rfl rfl Try.sizeOf27 rfl (by simp [Value.cells]) (by repeat (first | exact .head | apply In.tail | apply Take.tail | apply Upd.tail)) (by rw [vflat_len, zz_len hi]; simp only [Value.cells, List.length_cons, List.length_nil]; omega) ?_
    rw [show laid (flat (zz vs i)) (Int.toNat (i : Int) * 3) (Value.cells (Value.agg #[.int .i64 0, .int .i64 0, .string ⟨#[]⟩])).toList = flat (zz vs (i + 1)) from laid_zz (by omega)]
    refine vl_nil ?_
    refine vc_region ?_
    refine vl_val rfl (.some rfl) (val_add rfl rfl (by first | exact w_i64 (by omega) (by omega) | rfl)) ?_
    refine vl_val rfl (.some rfl) (val_move rfl) ?_
    refine vl_nil ?_
    exact ⟨vs.length - (i + 1), _, _, _, by omega, (by repeat (first | exact trivial | refine ⟨rfl, ?_⟩ | refine ⟨le_item rfl (by first | rfl | (congr 1; omega) | (simp; done) | (simp; omega)), ?_⟩)), (by repeat (first | exact .nil | (apply Sub.cons; · repeat (first | exact .head | apply Take.tail)))), ⟨i + 1, by omega, rfl, rfl, rfl⟩⟩
  · (try replace hc1 := of_decide_eq_false hc1)
    refine vc_exit ?_
    refine vc_seq ?_
    refine vc_region ?_
    refine vl_val rfl (.some rfl) (val_assign rfl) ?_
    refine vl_nil ?_
    refine vc_ret ?_
    refine ⟨_, [DC r m kd A vs.length c, DS A c vs, RC x kd B vs.length cb, DS B cb vs], _, res1 Try.results28 rfl, (by repeat (first | exact .nil | (apply Sub.cons; · repeat (first | exact .head | apply Take.tail)))), ?_⟩
    exact ⟨rfl, rfl⟩

end Go.Proofs.Ytibfngjfjddaiaa.K
