/- Walks of the program's functions, printed by a program of this session; Lean checks them. -/
import Derived.Test.YtclnhfdgiaamhaaYug
namespace Go.Proofs.Ytclnhfdgiaamhaa.K
open Go Go.RowKit Go.Proofs
set_option linter.unusedVariables false
set_option linter.unusedSimpArgs false


def sy1 (q : Int) (b : List UInt8) (s0 : Nat) : Nat := s0 + min q.toNat (b.length - s0)
theorem sy1_le {q : Int} {b : List UInt8} {s0 : Nat} (h : s0 ≤ b.length) : sy1 q b s0 ≤ b.length := by unfold sy1; omega

set_option maxRecDepth 20000 in
theorem dFailG (d a : Nat) (K : Option Addr) (kc : Nat) (ops : Int) (name : List UInt8) (f : Nat) (A : Option Addr) (c : Nat) (b : List UInt8) (s0 : Nat) (q : Int) (hs : s0 ≤ b.length) (hb : b.length ≤ 300000) (hq : -9223372036854775808 ≤ q ∧ q < 9223372036854775808) (off : Bool) (cut : Int) (w : World) : Fn Try.prog 116 [.pointer (some ⟨d, 0, none⟩)] [DK d a off cut K 1 kc ops, mq kS a [name] [.pointer (some ⟨f, 0, none⟩)], FL f A (b).length c (s0 : Nat), BY A (b).length c (b), sl K 1 kc 3 1 [.int .i64 q]] (ret fun v H' => v = .int .i64 9 ∧ ∃ A' c', H' = [DK d a true cut K 1 kc ops, mq kS a [name] [.pointer (some ⟨f, 0, none⟩)], FL f A' (b.take (sy1 q b s0)).length c' (sy1 q b s0 : Nat), BY A' (b.take (sy1 q b s0)).length c' (b.take (sy1 q b s0)), sl K 1 kc 3 1 [.int .i64 q]]) w := by
  have hs1 := sy1_le (q := q) hs
  have hs1l : (b.take (sy1 q b s0)).length = sy1 q b s0 := by rw [List.length_take]; omega
  refine fn_enter Try.func116 rfl Try.ntmps116 rfl ?_
  refine vc_seq ?_
  refine vc_region ?_
  refine vl_val rfl (.some rfl) (val_assign rfl) ?_
  refine vl_nil ?_
  refine vc_seq ?_
  refine vc_region ?_
  refine vl_val rfl (.some rfl) (val_move rfl) ?_
  refine vl_val rfl (.some rfl) (val_nil rfl rfl) ?_
  refine vl_val rfl (.some rfl) (by first | exact val_fieldAddr Try.runUnderlying91 rfl Try.sizeOf4 rfl | exact val_fieldAddrR Try.runUnderlying91 rfl Try.sizeOf4 rfl) ?_
  first | refine vl_store rfl rfl .none rfl rfl Try.sizeOf4 rfl (by repeat constructor) (by first | decide | exact Nat.le_refl _ | exact Nat.le_of_ble_eq_true rfl | (simp; omega)) ?_ | refine vl_storeSl rfl rfl .none rfl rfl Try.sizeOf4 rfl (by simp [Value.cells]) (by repeat constructor) (by first | decide | (simp [Value.cells]; omega)) ?_
  refine vl_nil ?_
  refine vc_seq ?_
  refine vc_seq ?_
  refine vc_region ?_
  refine vl_val rfl (.some rfl) (val_move rfl) ?_
  refine vl_call (C := [DK d a true cut K 1 kc ops, mq kS a [name] [.pointer (some ⟨f, 0, none⟩)]]) rfl rfl (.some rfl) Try.call42 rfl (by repeat constructor) (fun w hw => dList d a true cut K 1 kc ops f name w) (fun v H' h => ?_)
  obtain ⟨A11, c11, rfl, rfl⟩ := h
  show VL _ _ _ _ _ (_ :: _)
  refine vl_val rfl (.some rfl) (val_lenSl Try.runUnderlying37 rfl) ?_
  refine vl_val rfl (.some rfl) (val_move rfl) ?_
  refine vl_nil ?_
  refine vc_block ?_
  refine vc_loopw (fun m E H => ∃ (i : Nat) (A' : Option Addr) (c' : Nat) (sy' : Nat) (b' : List UInt8), ((0 = i ∧ A = A' ∧ c = c' ∧ s0 = sy' ∧ b = b') ∨ (1 = i ∧ sy1 q b s0 = sy' ∧ b.take (sy1 q b s0) = b')) ∧ m = 1 - i ∧ E = [(0, .pointer (some ⟨d, 0, none⟩)), (11, .slice A11 1 c11), (12, .int .i64 1), (13, .int .i64 (i : Nat))] ∧ H = [DK d a true cut K 1 kc ops, mq kS a [name] [.pointer (some ⟨f, 0, none⟩)], FL f A' (b').length c' (sy' : Nat), BY A' (b').length c' (b'), sl K 1 kc 3 1 [.int .i64 q], sl A11 1 c11 9 1 (tcS [name])]) (1) ⟨_, _, _, ⟨0, A, c, s0, b, .inl ⟨rfl, rfl, rfl, rfl, rfl⟩, rfl, rfl, rfl⟩, (by repeat (first | exact trivial | refine ⟨rfl, ?_⟩ | refine ⟨le_item rfl (by first | rfl | (congr 1; omega) | (simp; done) | (simp; omega)), ?_⟩)), (by repeat constructor)⟩ ?_
  intro m E H hI
  obtain ⟨i, A', c', sy', b', hst, rfl, rfl, rfl⟩ := hI
  refine vc_seq ?_
  refine vc_region ?_
  refine vl_val rfl (.some rfl) (val_lt rfl rfl) ?_
  refine vl_nil ?_
  refine vc_seq ?_
  refine vc_cond rfl (fun hc0 => ?_) (fun hc0 => ?_)
  · (try replace hc0 := of_decide_eq_true hc0)
    obtain ⟨rfl, rfl, rfl, rfl, rfl⟩ | ⟨rfl, _, _⟩ := hst
    rotate_left
    · exact absurd hc0 (by decide)
    refine vc_skip ?_
    refine vc_seq ?_
    refine vc_block ?_
    refine vc_seq ?_
    refine vc_region ?_
    refine vl_val rfl (.some rfl) (val_move rfl) ?_
    refine vl_val rfl (.some rfl) (val_indexAddr Try.runUnderlying37 Try.sizeOf9 rfl rfl (vs := tcS [name]) (rd_sl (by repeat constructor)) (by decide) (by decide) (by rw [tcS_length]; exact Nat.lt_succ_self 0)) ?_
    refine vl_val rfl (.some rfl) (val_load Try.isAgg9 rfl (cell_rd (rd_sl (vs := tcS [name]) (by repeat constructor)) (u := .string (sL name)) rfl)) ?_
    refine vl_val rfl (.some rfl) (val_assign rfl) ?_
    refine vl_val rfl (.some rfl) (val_assign rfl) ?_
    refine vl_nil ?_
    refine vc_seq ?_
    refine vc_region ?_
    refine vl_val rfl (.some rfl) (val_move rfl) ?_
    refine vl_val rfl (.some rfl) (val_nil rfl rfl) ?_
    refine vl_val rfl (.some rfl) (by first | exact val_fieldAddr Try.runUnderlying91 rfl Try.sizeOf89 rfl | exact val_fieldAddrR Try.runUnderlying91 rfl Try.sizeOf89 rfl) ?_
    refine vl_val rfl (.some rfl) (val_load Try.isAgg89 rfl (by first | exact cell_cells (by repeat constructor) rfl | exact cell_rd (by first | exact rd_sl (by repeat constructor) | exact rd_old (by assumption) rfl) (by first | exact bcells_at (by omega) | exact ucells_at (by omega) | exact icells_at (by omega) | exact tcells_at (by omega) | exact bcells_get (by omega) | exact icells_get (by omega) | exact tcells_get (by omega) | exact ucells_get (by omega)) | exact cell_old (by assumption) (by simp [fps]))) ?_
    refine vl_val rfl (.some rfl) (val_move rfl) ?_
    refine vl_val rfl (.some rfl) (val_look1 kQ kf1 rfl rfl (by repeat constructor)) ?_
    refine vl_val rfl (.some rfl) (val_assign rfl) ?_
    refine vl_nil ?_
    refine vc_seq ?_
    refine vc_region ?_
    refine vl_val rfl (.some rfl) (val_assign rfl) ?_
    refine vl_nil ?_
    refine vc_seq ?_
    refine vc_seq ?_
    refine vc_region ?_
    refine vl_slCap (A := A) (n := b.length) (c := c) (sz := 1) (e := 5) (vs := bcells b) (by repeat constructor) (fun hcap => ?_)
    refine vl_val rfl (.some rfl) (val_move rfl) ?_
    refine vl_val rfl (.some rfl) (val_nil rfl rfl) ?_
    refine vl_val rfl (.some rfl) (by first | exact val_fieldAddr Try.runUnderlying91 rfl Try.sizeOf69 rfl | exact val_fieldAddrR Try.runUnderlying91 rfl Try.sizeOf69 rfl) ?_
    refine vl_val rfl (.some rfl) (val_load Try.isAgg69 rfl (by first | exact cell_cells (by repeat constructor) rfl | exact cell_rd (by first | exact rd_sl (by repeat constructor) | exact rd_old (by assumption) rfl) (by first | exact bcells_at (by omega) | exact ucells_at (by omega) | exact icells_at (by omega) | exact tcells_at (by omega) | exact bcells_get (by omega) | exact icells_get (by omega) | exact tcells_get (by omega) | exact ucells_get (by omega)) | exact cell_old (by assumption) (by simp [fps]))) ?_
    refine vl_val rfl (.some rfl) (val_lenSl Try.runUnderlying69 rfl) ?_
    refine vl_val rfl (.some rfl) (val_gt rfl rfl) ?_
    refine vl_nil ?_
    refine vc_cond rfl (fun hc1 => ?_) (fun hc1 => False.elim (by (try replace hc1 := of_decide_eq_false hc1); revert hc1; decide))
    (try replace hc1 := of_decide_eq_true hc1)
    refine vc_drawsS [0, 1, 2, 3, 4, 5, 6, 7, 8, 9, 10, 11, 12, 13, 14] [] [0, 1, 2, 3, 4, 5, 6, 7, 8, 9, 10, 11, 12, 13, 14] [DK d a true cut K 1 kc ops, sl K 1 kc 3 1 [.int .i64 q]] (by repeat constructor) rfl (by kernel_rfl) (fun _ _ _ h => h) ?_
    refine vd_val rfl rfl rfl (.some rfl) (val_move rfl) ?_
    refine vd_val rfl rfl rfl (.some rfl) (val_nil rfl rfl) ?_
    refine vd_val rfl rfl rfl (.some rfl) (by first | exact val_fieldAddr Try.runUnderlying91 rfl Try.sizeOf69 rfl | exact val_fieldAddrR Try.runUnderlying91 rfl Try.sizeOf69 rfl) ?_
    refine vd_val rfl rfl rfl (.some rfl) (val_load Try.isAgg69 rfl (by first | exact cell_cells (by repeat constructor) rfl | exact cell_rd (by first | exact rd_sl (by repeat constructor) | exact rd_old (by assumption) rfl) (by first | exact bcells_at (by omega) | exact ucells_at (by omega) | exact icells_at (by omega) | exact tcells_at (by omega) | exact bcells_get (by omega) | exact icells_get (by omega) | exact tcells_get (by omega) | exact ucells_get (by omega)) | exact cell_old (by assumption) (by simp [fps]))) ?_
    refine vd_val rfl rfl rfl (.some rfl) (val_move rfl) ?_
    refine vd_val rfl rfl rfl (.some rfl) (val_move rfl) ?_
    refine vd_val rfl rfl rfl (.some rfl) (val_nil rfl rfl) ?_
    refine vd_val rfl rfl rfl (.some rfl) (by first | exact val_fieldAddr Try.runUnderlying91 rfl Try.sizeOf69 rfl | exact val_fieldAddrR Try.runUnderlying91 rfl Try.sizeOf69 rfl) ?_
    refine vd_val rfl rfl rfl (.some rfl) (val_load Try.isAgg69 rfl (by first | exact cell_cells (by repeat constructor) rfl | exact cell_rd (by first | exact rd_sl (by repeat constructor) | exact rd_old (by assumption) rfl) (by first | exact bcells_at (by omega) | exact ucells_at (by omega) | exact icells_at (by omega) | exact tcells_at (by omega) | exact bcells_get (by omega) | exact icells_get (by omega) | exact tcells_get (by omega) | exact ucells_get (by omega)) | exact cell_old (by assumption) (by simp [fps]))) ?_
    refine vd_val rfl rfl rfl (.some rfl) (val_lenSl Try.runUnderlying69 rfl) ?_
    refine vd_val rfl rfl rfl (.some rfl) (val_rem rfl rfl (by omega) (by first | exact rem_nn (by omega) | rfl)) ?_
    refine vd_val rfl rfl rfl (.some rfl) (val_indexAddr Try.runUnderlying69 Try.sizeOf3 rfl rfl (vs := [.int .i64 q]) (rd_sl (by repeat constructor)) (by decide) (by decide) (by exact Nat.lt_succ_self 0)) ?_
    refine vd_val rfl rfl rfl (.some rfl) (val_load Try.isAgg3 rfl (cell_rd (rd_sl (vs := [.int .i64 q]) (by repeat constructor)) (u := .int .i64 q) rfl)) ?_
    refine vd_val rfl rfl rfl (.some rfl) (val_max rfl rfl (show _ = ((q.toNat : Nat) : Int) by split <;> omega)) ?_
    refine vd_val rfl rfl rfl (.some rfl) (val_assign rfl) ?_
    refine vd_nil ?_
    refine vc_seq ?_
    refine vc_drawsS [0, 1, 2, 3, 4, 5, 6, 7, 8, 9, 10, 11, 12, 13, 14, 15, 16, 18] [19] [0, 1, 2, 3, 4, 5, 6, 7, 8, 9, 10, 11, 12, 13, 14, 15, 16, 17, 18, 19] [FL f A (b).length c (s0 : Nat), BY A (b).length c (b)] (by repeat constructor) rfl (by kernel_rfl) (fun _ _ _ h => h) ?_
    refine vd_val rfl rfl rfl (.some rfl) (val_move rfl) ?_
    refine vd_val rfl rfl rfl (.some rfl) (val_nil rfl rfl) ?_
    refine vd_val rfl rfl rfl (.some rfl) (by first | exact val_fieldAddr Try.runUnderlying139 rfl Try.sizeOf3 rfl | exact val_fieldAddrR Try.runUnderlying139 rfl Try.sizeOf3 rfl) ?_
    refine vd_val rfl rfl rfl (.some rfl) (val_load Try.isAgg3 rfl (by first | exact cell_cells (by repeat constructor) rfl | exact cell_rd (by first | exact rd_sl (by repeat constructor) | exact rd_old (by assumption) rfl) (by first | exact bcells_at (by omega) | exact ucells_at (by omega) | exact icells_at (by omega) | exact tcells_at (by omega) | exact bcells_get (by omega) | exact icells_get (by omega) | exact tcells_get (by omega) | exact ucells_get (by omega)) | exact cell_old (by assumption) (by simp [fps]))) ?_
    refine vd_val rfl rfl rfl (.some rfl) (val_move rfl) ?_
    refine vd_val rfl rfl rfl (.some rfl) (val_move rfl) ?_
    refine vd_val rfl rfl rfl (.some rfl) (val_nil rfl rfl) ?_
    refine vd_val rfl rfl rfl (.some rfl) (by first | exact val_fieldAddr Try.runUnderlying139 rfl Try.sizeOf22 rfl | exact val_fieldAddrR Try.runUnderlying139 rfl Try.sizeOf22 rfl) ?_
    refine vd_val rfl rfl rfl (.some rfl) (val_load Try.isAgg22 rfl (by first | exact cell_cells (by repeat constructor) rfl | exact cell_rd (by first | exact rd_sl (by repeat constructor) | exact rd_old (by assumption) rfl) (by first | exact bcells_at (by omega) | exact ucells_at (by omega) | exact icells_at (by omega) | exact tcells_at (by omega) | exact bcells_get (by omega) | exact icells_get (by omega) | exact tcells_get (by omega) | exact ucells_get (by omega)) | exact cell_old (by assumption) (by simp [fps]))) ?_
    refine vd_val rfl rfl rfl (.some rfl) (val_lenSl Try.runUnderlying22 rfl) ?_
    refine vd_val rfl rfl rfl (.some rfl) (val_move rfl) ?_
    refine vd_val rfl rfl rfl (.some rfl) (val_nil rfl rfl) ?_
    refine vd_val rfl rfl rfl (.some rfl) (by first | exact val_fieldAddr Try.runUnderlying139 rfl Try.sizeOf3 rfl | exact val_fieldAddrR Try.runUnderlying139 rfl Try.sizeOf3 rfl) ?_
    refine vd_val rfl rfl rfl (.some rfl) (val_load Try.isAgg3 rfl (by first | exact cell_cells (by repeat constructor) rfl | exact cell_rd (by first | exact rd_sl (by repeat constructor) | exact rd_old (by assumption) rfl) (by first | exact bcells_at (by omega) | exact ucells_at (by omega) | exact icells_at (by omega) | exact tcells_at (by omega) | exact bcells_get (by omega) | exact icells_get (by omega) | exact tcells_get (by omega) | exact ucells_get (by omega)) | exact cell_old (by assumption) (by simp [fps]))) ?_
    refine vd_val rfl rfl rfl (.some rfl) (val_sub rfl rfl (by first | exact w_i64 (by omega) (by omega) | rfl)) ?_
    refine vd_val rfl rfl rfl (.some rfl) (val_min rfl rfl) ?_
    refine vd_val rfl rfl rfl (.some rfl) (val_add rfl rfl (show _ = ((sy1 q b s0 : Nat) : Int) by rw [w_i64 (by omega) (by omega)]; unfold sy1; omega)) ?_
    refine vd_op rfl rfl ?_
    refine vl_val rfl (.some rfl) (val_nil rfl rfl) ?_
    refine vl_nil ?_
    refine ⟨fun _ => ⟨_, (by repeat (first | exact .nil | exact sub_self _ | exact sub_skip (sub_self _) | exact sub_skip (sub_skip (sub_self _)) | exact sub_skip (sub_skip (sub_skip (sub_self _))) | (apply Sub.cons; · repeat (first | exact .head | apply Take.tail))))⟩, ?_⟩
    refine vd_val rfl rfl rfl (.some rfl) (by first | exact val_fieldAddr Try.runUnderlying139 rfl Try.sizeOf3 rfl | exact val_fieldAddrR Try.runUnderlying139 rfl Try.sizeOf3 rfl) ?_
    refine vd_op rfl rfl ?_
    first | refine vl_store rfl rfl .none rfl rfl Try.sizeOf3 rfl (by repeat constructor) (by first | decide | exact Nat.le_refl _ | exact Nat.le_of_ble_eq_true rfl | (simp; omega)) ?_ | refine vl_storeSl rfl rfl .none rfl rfl Try.sizeOf3 rfl (by simp [Value.cells]) (by repeat constructor) (by first | decide | (simp [Value.cells]; omega)) ?_
    refine vl_nil ?_
    refine ⟨fun h => (by cases h), ?_⟩
    refine vd_nil ?_
    refine vc_drawsS [0, 1, 2, 3, 4, 5, 6, 7, 8, 9, 12] [13] [0, 1, 2, 3, 4, 5, 6, 7, 8, 9, 10, 11, 12, 13] [FL f A b.length c (sy1 q b s0 : Nat), BY A b.length c b] (by repeat constructor) rfl (by kernel_rfl) (fun _ _ _ h => h) ?_
    refine vd_val rfl rfl rfl (.some rfl) (val_move rfl) ?_
    refine vd_val rfl rfl rfl (.some rfl) (val_move rfl) ?_
    refine vd_val rfl rfl rfl (.some rfl) (val_nil rfl rfl) ?_
    refine vd_val rfl rfl rfl (.some rfl) (by first | exact val_fieldAddr Try.runUnderlying139 rfl Try.sizeOf22 rfl | exact val_fieldAddrR Try.runUnderlying139 rfl Try.sizeOf22 rfl) ?_
    refine vd_val rfl rfl rfl (.some rfl) (val_load Try.isAgg22 rfl (by first | exact cell_cells (by repeat constructor) rfl | exact cell_rd (by first | exact rd_sl (by repeat constructor) | exact rd_old (by assumption) rfl) (by first | exact bcells_at (by omega) | exact ucells_at (by omega) | exact icells_at (by omega) | exact tcells_at (by omega) | exact bcells_get (by omega) | exact icells_get (by omega) | exact tcells_get (by omega) | exact ucells_get (by omega)) | exact cell_old (by assumption) (by simp [fps]))) ?_
    refine vd_val rfl rfl rfl (.some rfl) (val_move rfl) ?_
    refine vd_val rfl rfl rfl (.some rfl) (val_nil rfl rfl) ?_
    refine vd_val rfl rfl rfl (.some rfl) (by first | exact val_fieldAddr Try.runUnderlying139 rfl Try.sizeOf3 rfl | exact val_fieldAddrR Try.runUnderlying139 rfl Try.sizeOf3 rfl) ?_
    refine vd_val rfl rfl rfl (.some rfl) (val_load Try.isAgg3 rfl (by first | exact cell_cells (by repeat constructor) rfl | exact cell_rd (by first | exact rd_sl (by repeat constructor) | exact rd_old (by assumption) rfl) (by first | exact bcells_at (by omega) | exact ucells_at (by omega) | exact icells_at (by omega) | exact tcells_at (by omega) | exact bcells_get (by omega) | exact icells_get (by omega) | exact tcells_get (by omega) | exact ucells_get (by omega)) | exact cell_old (by assumption) (by simp [fps]))) ?_
    refine vd_val rfl rfl rfl (.some rfl) (show Val _ _ _ _ _ (.slice A (b.take (sy1 q b s0)).length c) by rw [show (b.take (sy1 q b s0)).length = Int.toNat ((sy1 q b s0 : Nat) : Int) by rw [hs1l, Int.toNat_natCast]]; exact val_cutTo Try.runUnderlying22 Try.sizeOf5 rfl rfl (by omega) (by omega)) ?_
    refine vd_op rfl rfl ?_
    refine vl_call (C := []) rfl rfl (.some rfl) Try.call81 rfl .nil (fun w hw => dCloneB A c (b.take (sy1 q b s0)) (by rw [hs1l]; omega) w (by rw [btake]; exact (rdw (rd_sl (vs := bcells b) (by repeat constructor)) hw).take (sy1 q b s0))) (fun v H' h => ?_)
    obtain ⟨A73, c73, rfl, rfl⟩ := h
    show VL _ _ _ _ _ (_ :: _)
    refine vl_nil ?_
    refine ⟨fun _ => ⟨_, (by repeat (first | exact .nil | exact sub_self _ | exact sub_skip (sub_self _) | exact sub_skip (sub_skip (sub_self _)) | exact sub_skip (sub_skip (sub_skip (sub_self _))) | (apply Sub.cons; · repeat (first | exact .head | apply Take.tail))))⟩, ?_⟩
    refine vd_op rfl rfl ?_
    refine vl_val rfl (.some rfl) (val_nil rfl rfl) ?_
    refine vl_nil ?_
    refine ⟨fun _ => ⟨_, (by repeat (first | exact .nil | exact sub_self _ | exact sub_skip (sub_self _) | exact sub_skip (sub_skip (sub_self _)) | exact sub_skip (sub_skip (sub_skip (sub_self _))) | (apply Sub.cons; · repeat (first | exact .head | apply Take.tail))))⟩, ?_⟩
    refine vd_val rfl rfl rfl (.some rfl) (by first | exact val_fieldAddr Try.runUnderlying139 rfl Try.sizeOf22 rfl | exact val_fieldAddrR Try.runUnderlying139 rfl Try.sizeOf22 rfl) ?_
    refine vd_op rfl rfl ?_
    first | refine vl_store rfl rfl .none rfl rfl Try.sizeOf22 rfl (by repeat constructor) (by first | decide | exact Nat.le_refl _ | exact Nat.le_of_ble_eq_true rfl | (simp; omega)) ?_ | refine vl_storeSl rfl rfl .none rfl rfl Try.sizeOf22 rfl (by simp [Value.cells]) (by repeat constructor) (by first | decide | (simp [Value.cells]; omega)) ?_
    refine vl_nil ?_
    refine ⟨fun h => (by cases h), ?_⟩
    refine vd_nil ?_
    refine vc_region ?_
    refine vl_val rfl (.some rfl) (val_add rfl rfl (by first | exact w_i64 (by omega) (by omega) | rfl)) ?_
    refine vl_val rfl (.some rfl) (val_move rfl) ?_
    refine vl_nil ?_
    exact ⟨0, _, _, _, by decide, (by repeat (first | exact trivial | refine ⟨rfl, ?_⟩ | refine ⟨le_item rfl (by first | rfl | (congr 1; omega) | (simp; done) | (simp; omega)), ?_⟩)), (by repeat constructor), ⟨1, A73, c73, sy1 q b s0, b.take (sy1 q b s0), .inr ⟨rfl, rfl, rfl⟩, rfl, rfl, rfl⟩⟩
  · (try replace hc0 := of_decide_eq_false hc0)
    obtain ⟨rfl, _, _, _, _⟩ | ⟨rfl, rfl, rfl⟩ := hst
    · exact absurd (by decide) hc0
    refine vc_exit ?_
    refine vc_seq ?_
    refine vc_region ?_
    refine vl_val rfl (.some rfl) (val_assign rfl) ?_
    refine vl_nil ?_
    refine vc_ret ?_
    refine ⟨_, [DK d a true cut K 1 kc ops, mq kS a [name] [.pointer (some ⟨f, 0, none⟩)], FL f A' (b.take (sy1 q b s0)).length c' (sy1 q b s0 : Nat), BY A' (b.take (sy1 q b s0)).length c' (b.take (sy1 q b s0)), sl K 1 kc 3 1 [.int .i64 q]], _, res1 Try.results116 rfl, (by repeat constructor), ?_⟩
    exact ⟨rfl, A', c', rfl⟩
set_option maxRecDepth 20000 in
theorem dOpG (d a : Nat) (K : Option Addr) (kc : Nat) (ops : Int) (name : List UInt8) (f : Nat) (A : Option Addr) (c : Nat) (b : List UInt8) (s0 : Nat) (q : Int) (hs : s0 ≤ b.length) (hb : b.length ≤ 300000) (hq : -9223372036854775808 ≤ q ∧ q < 9223372036854775808) (hops : 0 ≤ ops ∧ ops < 4611686018427387904) (x : Value) (w : World) : Fn Try.prog 74 [.pointer (some ⟨d, 0, none⟩), x] [DK d a false 1 K 1 kc ops, mq kS a [name] [.pointer (some ⟨f, 0, none⟩)], FL f A (b).length c (s0 : Nat), BY A (b).length c (b), sl K 1 kc 3 1 [.int .i64 q]] (ret fun v H' => v = .int .i64 9 ∧ ∃ A' c', H' = [DK d a true 0 K 1 kc (ops + 1), mq kS a [name] [.pointer (some ⟨f, 0, none⟩)], FL f A' (b.take (sy1 q b s0)).length c' (sy1 q b s0 : Nat), BY A' (b.take (sy1 q b s0)).length c' (b.take (sy1 q b s0)), sl K 1 kc 3 1 [.int .i64 q]]) w := by
  refine fn_enter Try.func74 rfl Try.ntmps74 rfl ?_
  refine vc_seq ?_
  refine vc_region ?_
  refine vl_val rfl (.some rfl) (val_assign rfl) ?_
  refine vl_nil ?_
  refine vc_seq ?_
  refine vc_region ?_
  refine vl_val rfl (.some rfl) (val_move rfl) ?_
  refine vl_val rfl (.some rfl) (val_nil rfl rfl) ?_
  refine vl_val rfl (.some rfl) (by first | exact val_fieldAddr Try.runUnderlying91 rfl Try.sizeOf3 rfl | exact val_fieldAddrR Try.runUnderlying91 rfl Try.sizeOf3 rfl) ?_
  refine vl_val rfl (.some rfl) (val_load Try.isAgg3 rfl (by first | exact cell_cells (by repeat constructor) rfl | exact cell_rd (by first | exact rd_sl (by repeat constructor) | exact rd_old (by assumption) rfl) (by first | exact bcells_at (by omega) | exact ucells_at (by omega) | exact icells_at (by omega) | exact tcells_at (by omega) | exact bcells_get (by omega) | exact icells_get (by omega) | exact tcells_get (by omega) | exact ucells_get (by omega)) | exact cell_old (by assumption) (by simp [fps]))) ?_
  refine vl_val rfl (.some rfl) (val_add rfl rfl (by first | exact w_i64 (by omega) (by omega) | rfl)) ?_
  refine vl_val rfl (.some rfl) (val_nil rfl rfl) ?_
  refine vl_val rfl (.some rfl) (by first | exact val_fieldAddr Try.runUnderlying91 rfl Try.sizeOf3 rfl | exact val_fieldAddrR Try.runUnderlying91 rfl Try.sizeOf3 rfl) ?_
  first | refine vl_store rfl rfl .none rfl rfl Try.sizeOf3 rfl (by repeat constructor) (by first | decide | exact Nat.le_refl _ | exact Nat.le_of_ble_eq_true rfl | (simp; omega)) ?_ | refine vl_storeSl rfl rfl .none rfl rfl Try.sizeOf3 rfl (by simp [Value.cells]) (by repeat constructor) (by first | decide | (simp [Value.cells]; omega)) ?_
  refine vl_nil ?_
  refine vc_seq ?_
  refine vc_seq ?_
  refine vc_region ?_
  refine vl_val rfl (.some rfl) (val_move rfl) ?_
  refine vl_val rfl (.some rfl) (val_nil rfl rfl) ?_
  refine vl_val rfl (.some rfl) (by first | exact val_fieldAddr Try.runUnderlying91 rfl Try.sizeOf3 rfl | exact val_fieldAddrR Try.runUnderlying91 rfl Try.sizeOf3 rfl) ?_
  refine vl_val rfl (.some rfl) (val_load Try.isAgg3 rfl (by first | exact cell_cells (by repeat constructor) rfl | exact cell_rd (by first | exact rd_sl (by repeat constructor) | exact rd_old (by assumption) rfl) (by first | exact bcells_at (by omega) | exact ucells_at (by omega) | exact icells_at (by omega) | exact tcells_at (by omega) | exact bcells_get (by omega) | exact icells_get (by omega) | exact tcells_get (by omega) | exact ucells_get (by omega)) | exact cell_old (by assumption) (by simp [fps]))) ?_
  refine vl_val rfl (.some rfl) (val_gt rfl rfl) ?_
  refine vl_nil ?_
  refine vc_cond rfl (fun hc0 => ?_) (fun hc0 => False.elim (by (try replace hc0 := of_decide_eq_false hc0); revert hc0; decide))
  (try replace hc0 := of_decide_eq_true hc0)
  refine vc_seq ?_
  refine vc_region ?_
  refine vl_val rfl (.some rfl) (val_move rfl) ?_
  refine vl_val rfl (.some rfl) (val_nil rfl rfl) ?_
  refine vl_val rfl (.some rfl) (by first | exact val_fieldAddr Try.runUnderlying91 rfl Try.sizeOf3 rfl | exact val_fieldAddrR Try.runUnderlying91 rfl Try.sizeOf3 rfl) ?_
  refine vl_val rfl (.some rfl) (val_load Try.isAgg3 rfl (by first | exact cell_cells (by repeat constructor) rfl | exact cell_rd (by first | exact rd_sl (by repeat constructor) | exact rd_old (by assumption) rfl) (by first | exact bcells_at (by omega) | exact ucells_at (by omega) | exact icells_at (by omega) | exact tcells_at (by omega) | exact bcells_get (by omega) | exact icells_get (by omega) | exact tcells_get (by omega) | exact ucells_get (by omega)) | exact cell_old (by assumption) (by simp [fps]))) ?_
  refine vl_val rfl (.some rfl) (val_sub rfl rfl (by first | exact w_i64 (by omega) (by omega) | rfl)) ?_
  refine vl_val rfl (.some rfl) (val_nil rfl rfl) ?_
  refine vl_val rfl (.some rfl) (by first | exact val_fieldAddr Try.runUnderlying91 rfl Try.sizeOf3 rfl | exact val_fieldAddrR Try.runUnderlying91 rfl Try.sizeOf3 rfl) ?_
  first | refine vl_store rfl rfl .none rfl rfl Try.sizeOf3 rfl (by repeat constructor) (by first | decide | exact Nat.le_refl _ | exact Nat.le_of_ble_eq_true rfl | (simp; omega)) ?_ | refine vl_storeSl rfl rfl .none rfl rfl Try.sizeOf3 rfl (by simp [Value.cells]) (by repeat constructor) (by first | decide | (simp [Value.cells]; omega)) ?_
  refine vl_nil ?_
  refine vc_seq ?_
  refine vc_region ?_
  refine vl_val rfl (.some rfl) (val_move rfl) ?_
  refine vl_val rfl (.some rfl) (val_nil rfl rfl) ?_
  refine vl_val rfl (.some rfl) (by first | exact val_fieldAddr Try.runUnderlying91 rfl Try.sizeOf3 rfl | exact val_fieldAddrR Try.runUnderlying91 rfl Try.sizeOf3 rfl) ?_
  refine vl_val rfl (.some rfl) (val_load Try.isAgg3 rfl (by first | exact cell_cells (by repeat constructor) rfl | exact cell_rd (by first | exact rd_sl (by repeat constructor) | exact rd_old (by assumption) rfl) (by first | exact bcells_at (by omega) | exact ucells_at (by omega) | exact icells_at (by omega) | exact tcells_at (by omega) | exact bcells_get (by omega) | exact icells_get (by omega) | exact tcells_get (by omega) | exact ucells_get (by omega)) | exact cell_old (by assumption) (by simp [fps]))) ?_
  refine vl_val rfl (.some rfl) (val_eq rfl rfl) ?_
  refine vl_nil ?_
  refine vc_cond rfl (fun hc1 => ?_) (fun hc1 => False.elim (by (try replace hc1 := of_decide_eq_false hc1); revert hc1; decide))
  (try replace hc1 := of_decide_eq_true hc1)
  refine vc_seq ?_
  refine vc_region ?_
  refine vl_val rfl (.some rfl) (val_move rfl) ?_
  refine vl_call (C := [DK d a false 0 K 1 kc (ops + 1), mq kS a [name] [.pointer (some ⟨f, 0, none⟩)], FL f A (b).length c (s0 : Nat), BY A (b).length c (b), sl K 1 kc 3 1 [.int .i64 q]]) rfl rfl (.some rfl) Try.call116 rfl (by repeat constructor) (fun w hw => dFailG d a K kc (ops + 1) name f A c b s0 q hs hb hq false 0 w) (fun v H' h => ?_)
  obtain ⟨rfl, A30, c30, rfl⟩ := h
  show VL _ _ _ _ _ (_ :: _)
  refine vl_val rfl (.some rfl) (val_assign rfl) ?_
  refine vl_nil ?_
  refine vc_ret ?_
  refine ⟨_, [DK d a true 0 K 1 kc (ops + 1), mq kS a [name] [.pointer (some ⟨f, 0, none⟩)], FL f A30 (b.take (sy1 q b s0)).length c30 (sy1 q b s0 : Nat), BY A30 (b.take (sy1 q b s0)).length c30 (b.take (sy1 q b s0)), sl K 1 kc 3 1 [.int .i64 q]], _, res1 Try.results74 rfl, (by repeat constructor), ?_⟩
  exact ⟨rfl, A30, c30, rfl⟩
set_option maxRecDepth 20000 in
theorem dSyncG (d a : Nat) (K : Option Addr) (kc : Nat) (ops : Int) (name : List UInt8) (f : Nat) (A : Option Addr) (c : Nat) (b : List UInt8) (s0 : Nat) (q : Int) (hs : s0 ≤ b.length) (hb : b.length ≤ 300000) (hq : -9223372036854775808 ≤ q ∧ q < 9223372036854775808) (hops : 0 ≤ ops ∧ ops < 4611686018427387904) (hnm : fnameP name) (w : World) : Fn Try.prog 36 [.pointer (some ⟨d, 0, none⟩), .string (sL name)] [DK d a false 1 K 1 kc ops, mq kS a [name] [.pointer (some ⟨f, 0, none⟩)], FL f A (b).length c (s0 : Nat), BY A (b).length c (b), sl K 1 kc 3 1 [.int .i64 q]] (ret fun v H' => v = .int .i64 9 ∧ ∃ A' c', H' = [DK d a true 0 K 1 kc (ops + 1), mq kS a [name] [.pointer (some ⟨f, 0, none⟩)], FL f A' (b.take (sy1 q b s0)).length c' (sy1 q b s0 : Nat), BY A' (b.take (sy1 q b s0)).length c' (b.take (sy1 q b s0)), sl K 1 kc 3 1 [.int .i64 q]]) w := by
  refine fn_enter Try.func36 rfl Try.ntmps36 rfl ?_
  refine vc_seq ?_
  refine vc_region ?_
  refine vl_val rfl (.some rfl) (val_assign rfl) ?_
  refine vl_nil ?_
  refine vc_seq ?_
  refine vc_region ?_
  refine vl_val rfl (.some rfl) (val_move rfl) ?_
  refine vl_val rfl (.some rfl) (val_move rfl) ?_
  refine vl_callR [DK d a false 1 K 1 kc ops, mq kS a [name] [.pointer (some ⟨f, 0, none⟩)]] rfl rfl (.some rfl) Try.call76 rfl (by repeat constructor) (fun w hw => dOf d a 1 K 1 kc ops name hnm [name] [.pointer (some ⟨f, 0, none⟩)] 0 f kf1 w) ?_
  refine vl_val rfl (.some rfl) (val_move rfl) ?_
  refine vl_val rfl (.some rfl) (val_extract rfl rfl) ?_
  refine vl_val rfl (.some rfl) (val_extract rfl rfl) ?_
  refine vl_alloc rfl rfl (.some rfl) Try.zeroValue136 (fun r5 => ?_)
  first | refine vl_store rfl rfl .none rfl rfl Try.sizeOf136 rfl (by repeat constructor) (by first | decide | exact Nat.le_refl _ | exact Nat.le_of_ble_eq_true rfl | (simp; omega)) ?_ | refine vl_storeSl rfl rfl .none rfl rfl Try.sizeOf136 rfl (by simp [Value.cells]) (by repeat constructor) (by first | decide | (simp [Value.cells]; omega)) ?_
  refine vl_val rfl (.some rfl) (val_assign rfl) ?_
  refine vl_nil ?_
  refine vc_seq ?_
  refine vc_seq ?_
  refine vc_region ?_
  refine vl_val rfl (.some rfl) (val_move rfl) ?_
  refine vl_val rfl (.some rfl) (val_ne rfl rfl) ?_
  refine vl_nil ?_
  refine vc_cond rfl (fun hc0 => False.elim (by (try replace hc0 := of_decide_eq_true hc0); exact hc0 rfl)) (fun hc0 => ?_)
  (try replace hc0 := of_decide_eq_false hc0)
  refine vc_skip ?_
  refine vc_seq ?_
  refine vc_region ?_
  refine vl_val rfl (.some rfl) (val_move rfl) ?_
  refine vl_val rfl (.some rfl) (val_mkFunc rfl rfl) ?_
  refine vl_call (C := [DK d a false 1 K 1 kc ops, mq kS a [name] [.pointer (some ⟨f, 0, none⟩)], FL f A (b).length c (s0 : Nat), BY A (b).length c (b), sl K 1 kc 3 1 [.int .i64 q]]) rfl rfl (.some rfl) Try.call74 rfl (by repeat constructor) (fun w hw => dOpG d a K kc ops name f A c b s0 q hs hb hq hops _ w) (fun v H' h => ?_)
  obtain ⟨rfl, A30, c30, rfl⟩ := h
  show VL _ _ _ _ _ (_ :: _)
  refine vl_val rfl (.some rfl) (val_assign rfl) ?_
  refine vl_nil ?_
  refine vc_ret ?_
  refine ⟨_, [DK d a true 0 K 1 kc (ops + 1), mq kS a [name] [.pointer (some ⟨f, 0, none⟩)], FL f A30 (b.take (sy1 q b s0)).length c30 (sy1 q b s0 : Nat), BY A30 (b.take (sy1 q b s0)).length c30 (b.take (sy1 q b s0)), sl K 1 kc 3 1 [.int .i64 q]], _, res1 Try.results36 rfl, (by repeat constructor), ?_⟩
  exact ⟨rfl, A30, c30, rfl⟩




set_option maxRecDepth 20000 in
theorem dWriteO (d a : Nat) (K : Option Addr) (kn kc : Nat) (ops : Int) (hops : 0 ≤ ops ∧ ops < 4611686018427387904) (name : List UInt8) (hnm : fnameP name) (f : Nat) (A : Option Addr) (c : Nat) (b : List UInt8) (sy : Int) (B : Option Addr) (cb : Nat) (b2 : List UInt8) (hb : b.length + b2.length ≤ 300000) (w : World) (hr : ReadsM w (fps [DK d a false 0 K kn kc ops, mq kS a [name] [.pointer (some ⟨f, 0, none⟩)], FL f A (b).length c sy, BY A (b).length c (b)]) B (bcells b2)) : Fn Try.prog 35 [.pointer (some ⟨d, 0, none⟩), .string (sL name), .slice B b2.length cb] [DK d a false 0 K kn kc ops, mq kS a [name] [.pointer (some ⟨f, 0, none⟩)], FL f A (b).length c sy, BY A (b).length c (b)] (ret fun v H' => v = .int .i64 0 ∧ ∃ A' c', H' = [DK d a false 0 K kn kc (ops + 1), mq kS a [name] [.pointer (some ⟨f, 0, none⟩)], FL f A' (b ++ b2).length c' sy, BY A' (b ++ b2).length c' (b ++ b2)]) w := by
  refine fn_enter Try.func35 rfl Try.ntmps35 rfl ?_
  refine vc_seq ?_
  refine vc_region ?_
  refine vl_val rfl (.some rfl) (val_assign rfl) ?_
  refine vl_nil ?_
  refine vc_seq ?_
  refine vc_region ?_
  refine vl_val rfl (.some rfl) (val_move rfl) ?_
  refine vl_val rfl (.some rfl) (val_move rfl) ?_
  refine vl_callR [DK d a false 0 K kn kc ops, mq kS a [name] [.pointer (some ⟨f, 0, none⟩)]] rfl rfl (.some rfl) Try.call76 rfl (by repeat constructor) (fun w hw => dOf d a 0 K kn kc ops name hnm [name] [.pointer (some ⟨f, 0, none⟩)] 0 f kf1 w) ?_
  refine vl_val rfl (.some rfl) (val_move rfl) ?_
  refine vl_val rfl (.some rfl) (val_extract rfl rfl) ?_
  refine vl_val rfl (.some rfl) (val_extract rfl rfl) ?_
  refine vl_val rfl (.some rfl) (val_assign rfl) ?_
  refine vl_val rfl (.some rfl) (val_assign rfl) ?_
  refine vl_nil ?_
  refine vc_seq ?_
  refine vc_block ?_
  refine vc_seq ?_
  refine vc_region ?_
  refine vl_val rfl (.some rfl) (val_move rfl) ?_
  refine vl_val rfl (.some rfl) (val_ne rfl rfl) ?_
  refine vl_val rfl (.some rfl) (val_assign rfl) ?_
  refine vl_nil ?_
  refine vc_cond rfl (fun hc0 => False.elim (by (try replace hc0 := of_decide_eq_true hc0); exact hc0 rfl)) (fun hc0 => ?_)
  (try replace hc0 := of_decide_eq_false hc0)
  refine vc_seq ?_
  refine vc_region ?_
  refine vl_val rfl (.some rfl) (val_move rfl) ?_
  refine vl_val rfl (.some rfl) (val_lenSl Try.runUnderlying22 rfl) ?_
  refine vl_val rfl (.some rfl) (val_move rfl) ?_
  refine vl_val rfl (.some rfl) (val_nil rfl rfl) ?_
  refine vl_val rfl (.some rfl) (by first | exact val_fieldAddr Try.runUnderlying139 rfl Try.sizeOf22 rfl | exact val_fieldAddrR Try.runUnderlying139 rfl Try.sizeOf22 rfl) ?_
  refine vl_val rfl (.some rfl) (val_load Try.isAgg22 rfl (by first | exact cell_cells (by repeat constructor) rfl | exact cell_rd (by first | exact rd_sl (by repeat constructor) | exact rd_old (by assumption) rfl) (by first | exact bcells_at (by omega) | exact ucells_at (by omega) | exact icells_at (by omega) | exact tcells_at (by omega) | exact bcells_get (by omega) | exact icells_get (by omega) | exact tcells_get (by omega) | exact ucells_get (by omega)) | exact cell_old (by assumption) (by simp [fps]))) ?_
  refine vl_val rfl (.some rfl) (val_lenSl Try.runUnderlying22 rfl) ?_
  refine vl_val rfl (.some rfl) (val_sub rfl rfl (by first | exact w_i64 (by omega) (by omega) | rfl)) ?_
  refine vl_val rfl (.some rfl) (val_gt rfl rfl) ?_
  refine vl_val rfl (.some rfl) (val_assign rfl) ?_
  refine vl_nil ?_
  refine vc_cond rfl (fun hc1 => False.elim (by (try replace hc1 := of_decide_eq_true hc1); omega)) (fun hc1 => ?_)
  (try replace hc1 := of_decide_eq_false hc1)
  refine vc_skip ?_
  refine vc_seq ?_
  refine vc_region ?_
  refine vl_val rfl (.some rfl) (val_move rfl) ?_
  refine vl_val rfl (.some rfl) (val_move rfl) ?_
  refine vl_val rfl (.some rfl) (val_nil rfl rfl) ?_
  refine vl_val rfl (.some rfl) (by first | exact val_fieldAddr Try.runUnderlying139 rfl Try.sizeOf22 rfl | exact val_fieldAddrR Try.runUnderlying139 rfl Try.sizeOf22 rfl) ?_
  refine vl_val rfl (.some rfl) (val_load Try.isAgg22 rfl (by first | exact cell_cells (by repeat constructor) rfl | exact cell_rd (by first | exact rd_sl (by repeat constructor) | exact rd_old (by assumption) rfl) (by first | exact bcells_at (by omega) | exact ucells_at (by omega) | exact icells_at (by omega) | exact tcells_at (by omega) | exact bcells_get (by omega) | exact icells_get (by omega) | exact tcells_get (by omega) | exact ucells_get (by omega)) | exact cell_old (by assumption) (by simp [fps]))) ?_
  refine vl_val rfl (.some rfl) (val_move rfl) ?_
  refine vl_append (vs := bcells b) (us := bcells b2) sT22 rfl rfl (.some rfl) rfl rfl (rd_oldM hr) (by rw [bcells_length, Nat.mul_one]) (one_b _) (by omega) (by omega) (by repeat constructor) (fun A35 k35 => ?_)
  rw [bappV, ← List.length_append]
  refine vl_val rfl (.some rfl) (val_nil rfl rfl) ?_
  refine vl_val rfl (.some rfl) (by first | exact val_fieldAddr Try.runUnderlying139 rfl Try.sizeOf22 rfl | exact val_fieldAddrR Try.runUnderlying139 rfl Try.sizeOf22 rfl) ?_
  first | refine vl_store rfl rfl .none rfl rfl Try.sizeOf22 rfl (by repeat constructor) (by first | decide | exact Nat.le_refl _ | exact Nat.le_of_ble_eq_true rfl | (simp; omega)) ?_ | refine vl_storeSl rfl rfl .none rfl rfl Try.sizeOf22 rfl (by simp [Value.cells]) (by repeat constructor) (by first | decide | (simp [Value.cells]; omega)) ?_
  refine vl_nil ?_
  refine vc_seq ?_
  refine vc_region ?_
  refine vl_val rfl (.some rfl) (val_move rfl) ?_
  refine vl_call (C := DK d a false 0 K kn kc ops :: []) rfl rfl (.some rfl) Try.call74 rfl (by repeat constructor) (fun w hw => dOp0 d a false K kn kc ops hops 77 [] [] [] (fun C' => C' = []) Try.call77 (fun w => by
    have h := dW1 (DK d a false 0 K kn kc (ops + 1)) w
    exact h) w) (fun v H' h => ?_)
  obtain ⟨rfl, C', rfl, rfl⟩ := h
  show VL _ _ _ _ _ (_ :: _)
  refine vl_val rfl (.some rfl) (val_assign rfl) ?_
  refine vl_nil ?_
  refine vc_ret ?_
  refine ⟨_, [DK d a false 0 K kn kc (ops + 1), mq kS a [name] [.pointer (some ⟨f, 0, none⟩)], FL f A35 (b ++ b2).length k35 sy, BY A35 (b ++ b2).length k35 (b ++ b2)], _, res1 Try.results35 rfl, (by repeat constructor), ?_⟩
  exact ⟨rfl, A35, k35, rfl⟩
set_option maxRecDepth 20000 in
theorem dCutG (d a : Nat) (K : Option Addr) (kn kc : Nat) (ops : Int) (B : Option Addr) (cb : Nat) (q : Int) (w : World) : Fn Try.prog 37 [.pointer (some ⟨d, 0, none⟩), .int .i64 1, .slice B 1 cb] [DK d a false 0 K kn kc ops, sl B 1 cb 3 1 [.int .i64 q]] (ret fun v H' => ∃ A' c', v = .int .i64 0 ∧ H' = [DK d a false 1 A' 1 c' ops, sl A' 1 c' 3 1 [.int .i64 q]]) w := by
  refine fn_enter Try.func37 rfl Try.ntmps37 rfl ?_
  refine vc_seq ?_
  refine vc_region ?_
  refine vl_val rfl (.some rfl) (val_assign rfl) ?_
  refine vl_nil ?_
  refine vc_seq ?_
  refine vc_seq ?_
  refine vc_region ?_
  refine vl_val rfl (.some rfl) (val_move rfl) ?_
  refine vl_nilSl 9 1 ?_
  refine vl_callR [DK d a false 0 K kn kc ops, sl none 0 0 9 1 (tcS [])] rfl rfl (.some rfl) Try.call73 rfl (by repeat constructor) (fun w hw => dMay d a false 0 K kn kc ops none 0 [] (fun x hx => by cases hx) (by simp) w) ?_
  refine vl_val rfl (.some rfl) (val_assign rfl) ?_
  refine vl_nil ?_
  refine vc_seq ?_
  refine vc_region ?_
  refine vl_val rfl (.some rfl) (val_move rfl) ?_
  refine vl_val rfl (.some rfl) (val_ne rfl rfl) ?_
  refine vl_nil ?_
  refine vc_cond rfl (fun hc0 => False.elim (by (try replace hc0 := of_decide_eq_true hc0); exact hc0 rfl)) (fun hc0 => ?_)
  (try replace hc0 := of_decide_eq_false hc0)
  refine vc_skip ?_
  refine vc_seq ?_
  refine vc_seq ?_
  refine vc_region ?_
  refine vl_val rfl (.some rfl) (val_move rfl) ?_
  refine vl_val rfl (.some rfl) (val_lt rfl rfl) ?_
  refine vl_nil ?_
  refine vc_cond rfl (fun hc1 => False.elim (by (try replace hc1 := of_decide_eq_true hc1); revert hc1; decide)) (fun hc1 => ?_)
  (try replace hc1 := of_decide_eq_false hc1)
  refine vc_skip ?_
  refine vc_seq ?_
  refine vc_region ?_
  refine vl_val rfl (.some rfl) (val_move rfl) ?_
  refine vl_val rfl (.some rfl) (val_move rfl) ?_
  refine vl_val rfl (.some rfl) (val_move rfl) ?_
  refine vl_val rfl (.some rfl) (val_move rfl) ?_
  refine vl_call (C := []) rfl rfl (.some rfl) Try.call79 rfl .nil (fun w hw => dCloneI B cb [q] (by simp) w (rdw (rd_sl (vs := icells .i64 [q]) (by repeat constructor)) hw)) (fun v H' h => ?_)
  obtain ⟨A19, c19, rfl, rfl⟩ := h
  show VL _ _ _ _ _ (_ :: _)
  refine vl_val rfl (.some rfl) (val_nil rfl rfl) ?_
  refine vl_val rfl (.some rfl) (by first | exact val_fieldAddr Try.runUnderlying91 rfl Try.sizeOf3 rfl | exact val_fieldAddrR Try.runUnderlying91 rfl Try.sizeOf3 rfl) ?_
  first | refine vl_store rfl rfl .none rfl rfl Try.sizeOf3 rfl (by repeat constructor) (by first | decide | exact Nat.le_refl _ | exact Nat.le_of_ble_eq_true rfl | (simp; omega)) ?_ | refine vl_storeSl rfl rfl .none rfl rfl Try.sizeOf3 rfl (by simp [Value.cells]) (by repeat constructor) (by first | decide | (simp [Value.cells]; omega)) ?_
  refine vl_val rfl (.some rfl) (val_nil rfl rfl) ?_
  refine vl_val rfl (.some rfl) (by first | exact val_fieldAddr Try.runUnderlying91 rfl Try.sizeOf69 rfl | exact val_fieldAddrR Try.runUnderlying91 rfl Try.sizeOf69 rfl) ?_
  first | refine vl_store rfl rfl .none rfl rfl Try.sizeOf69 rfl (by repeat constructor) (by first | decide | exact Nat.le_refl _ | exact Nat.le_of_ble_eq_true rfl | (simp; omega)) ?_ | refine vl_storeSl rfl rfl .none rfl rfl Try.sizeOf69 rfl (by simp [Value.cells]) (by repeat constructor) (by first | decide | (simp [Value.cells]; omega)) ?_
  refine vl_nil ?_
  refine vc_seq ?_
  refine vc_region ?_
  refine vl_val rfl (.some rfl) (val_assign rfl) ?_
  refine vl_nil ?_
  refine vc_ret ?_
  refine ⟨_, [DK d a false 1 A19 1 c19 ops, sl A19 1 c19 3 1 [.int .i64 q]], _, res1 Try.results37 rfl, (by repeat constructor), ?_⟩
  exact ⟨A19, c19, rfl, rfl⟩
set_option maxRecDepth 20000 in
theorem dReadG (d a : Nat) (K : Option Addr) (kn kc : Nat) (ops : Int) (hops : 0 ≤ ops ∧ ops < 4611686018427387904) (name : List UInt8) (hnm : fnameP name) (f : Nat) (A : Option Addr) (c : Nat) (b : List UInt8) (cut sy : Int) (hb : b.length ≤ 1000000) (w : World) : Fn Try.prog 40 [.pointer (some ⟨d, 0, none⟩), .string (sL name)] [DK d a false cut K kn kc ops, mq kS a [name] [.pointer (some ⟨f, 0, none⟩)], FL f A (b).length c sy, BY A (b).length c (b)] (ret fun v H' => ∃ A' c', v = .tuple #[.slice A' b.length c', .int .i64 0] ∧ H' = [DK d a false cut K kn kc ops, BY A' b.length c' b]) w := by
  refine fn_enter Try.func40 rfl Try.ntmps40 rfl ?_
  refine vc_seq ?_
  refine vc_region ?_
  refine vl_val rfl (.some rfl) (val_assign rfl) ?_
  refine vl_val rfl (.some rfl) (val_assign rfl) ?_
  refine vl_nil ?_
  refine vc_seq ?_
  refine vc_region ?_
  refine vl_val rfl (.some rfl) (val_move rfl) ?_
  refine vl_val rfl (.some rfl) (val_move rfl) ?_
  refine vl_callR [DK d a false cut K kn kc ops, mq kS a [name] [.pointer (some ⟨f, 0, none⟩)]] rfl rfl (.some rfl) Try.call76 rfl (by repeat constructor) (fun w hw => dOf d a cut K kn kc ops name hnm [name] [.pointer (some ⟨f, 0, none⟩)] 0 f kf1 w) ?_
  refine vl_val rfl (.some rfl) (val_move rfl) ?_
  refine vl_val rfl (.some rfl) (val_extract rfl rfl) ?_
  refine vl_val rfl (.some rfl) (val_extract rfl rfl) ?_
  refine vl_val rfl (.some rfl) (val_assign rfl) ?_
  refine vl_val rfl (.some rfl) (val_assign rfl) ?_
  refine vl_nil ?_
  refine vc_seq ?_
  refine vc_seq ?_
  refine vc_region ?_
  refine vl_val rfl (.some rfl) (val_move rfl) ?_
  refine vl_val rfl (.some rfl) (val_ne rfl rfl) ?_
  refine vl_nil ?_
  refine vc_cond rfl (fun hc0 => False.elim (by (try replace hc0 := of_decide_eq_true hc0); exact hc0 rfl)) (fun hc0 => ?_)
  (try replace hc0 := of_decide_eq_false hc0)
  refine vc_skip ?_
  refine vc_seq ?_
  refine vc_region ?_
  refine vl_val rfl (.some rfl) (val_move rfl) ?_
  refine vl_val rfl (.some rfl) (val_nil rfl rfl) ?_
  refine vl_val rfl (.some rfl) (by first | exact val_fieldAddr Try.runUnderlying139 rfl Try.sizeOf22 rfl | exact val_fieldAddrR Try.runUnderlying139 rfl Try.sizeOf22 rfl) ?_
  refine vl_val rfl (.some rfl) (val_load Try.isAgg22 rfl (by first | exact cell_cells (by repeat constructor) rfl | exact cell_rd (by first | exact rd_sl (by repeat constructor) | exact rd_old (by assumption) rfl) (by first | exact bcells_at (by omega) | exact ucells_at (by omega) | exact icells_at (by omega) | exact tcells_at (by omega) | exact bcells_get (by omega) | exact icells_get (by omega) | exact tcells_get (by omega) | exact ucells_get (by omega)) | exact cell_old (by assumption) (by simp [fps]))) ?_
  refine vl_call (C := []) rfl rfl (.some rfl) Try.call81 rfl .nil (fun w hw => dCloneB A c b hb w (rdw (rd_sl (vs := bcells b) (by repeat constructor)) hw)) (fun v H' h => ?_)
  obtain ⟨A21, c21, rfl, rfl⟩ := h
  show VL _ _ _ _ _ (_ :: _)
  refine vl_val rfl (.some rfl) (val_assign rfl) ?_
  refine vl_val rfl (.some rfl) (val_assign rfl) ?_
  refine vl_nil ?_
  refine vc_ret ?_
  refine ⟨_, [DK d a false cut K kn kc ops, BY A21 b.length c21 b], _, res2 Try.results40 rfl rfl, (by repeat constructor), ?_⟩
  exact ⟨A21, c21, rfl, rfl⟩
set_option maxRecDepth 20000 in
theorem dOn (d a : Nat) (off : Bool) (cut : Int) (K : Option Addr) (kn kc : Nat) (ops : Int) (w : World) : FnR Try.prog 38 [.pointer (some ⟨d, 0, none⟩)] [DK d a off cut K kn kc ops] (.bool (!off)) w := by
  refine fn_enter Try.func38 rfl Try.ntmps38 rfl ?_
  refine vc_seq ?_
  refine vc_region ?_
  refine vl_val rfl (.some rfl) (val_assign rfl) ?_
  refine vl_nil ?_
  refine vc_seq ?_
  refine vc_region ?_
  refine vl_val rfl (.some rfl) (val_move rfl) ?_
  refine vl_callR [DK d a off cut K kn kc ops] rfl rfl (.some rfl) Try.call80 rfl (by repeat constructor) (fun w hw => dMade d a off cut K kn kc ops w) ?_
  refine vl_val rfl (.some rfl) (val_move rfl) ?_
  refine vl_on rfl rfl rfl rfl ?_
  refine vl_val rfl (.some rfl) (val_move rfl) ?_
  refine vl_on rfl rfl rfl rfl ?_
  refine vl_val rfl (.some rfl) (val_nil rfl rfl) ?_
  refine vl_on rfl rfl rfl rfl ?_
  refine vl_val rfl (.some rfl) (by first | exact val_fieldAddr Try.runUnderlying91 rfl Try.sizeOf4 rfl | exact val_fieldAddrR Try.runUnderlying91 rfl Try.sizeOf4 rfl) ?_
  refine vl_on rfl rfl rfl rfl ?_
  refine vl_val rfl (.some rfl) (val_load Try.isAgg4 rfl (by first | exact cell_cells (by repeat constructor) rfl | exact cell_rd (by first | exact rd_sl (by repeat constructor) | exact rd_old (by assumption) rfl) (by first | exact bcells_at (by omega) | exact ucells_at (by omega) | exact icells_at (by omega) | exact tcells_at (by omega) | exact bcells_get (by omega) | exact icells_get (by omega) | exact tcells_get (by omega) | exact ucells_get (by omega)) | exact cell_old (by assumption) (by simp [fps]))) ?_
  refine vl_on rfl rfl rfl rfl ?_
  refine vl_val rfl (.some rfl) (val_not rfl) ?_
  refine vl_val rfl (.some rfl) (val_pick rfl rfl) ?_
  refine vl_val rfl (.some rfl) (val_assign rfl) ?_
  refine vl_nil ?_
  refine vc_ret ?_
  refine ⟨_, [DK d a off cut K kn kc ops], _, res1 Try.results38 rfl, (by repeat constructor), ?_⟩
  exact ⟨rfl, rfl⟩




theorem same_isV (a b : List UInt8) : decide ((⟨a.toArray⟩ : ByteArray) = ⟨b.toArray⟩) = decide (a = b) := by
  rw [decide_eq_decide]; exact ⟨fun h => by simpa using h, fun h => by rw [h]⟩
theorem keep_fin (q : Int) (b1 b2 : List UInt8) : (b1 ++ b2).take (sy1 q (b1 ++ b2) b1.length) = b1 ++ b2.take (min q.toNat b2.length) := by
  unfold sy1
  rw [List.length_append, Nat.add_sub_cancel_left, List.take_append, List.take_of_length_le (by omega), Nat.add_sub_cancel_left]

set_option maxRecDepth 20000 in
theorem vSameB (A B : Option Addr) (c d : Nat) (a b : List UInt8) (w : World) (hr : Reads w A (bcells a)) (hr2 : Reads w B (bcells b)) : FnV Try.prog 17 [.slice A a.length c, .slice B b.length d] (.bool (decide (a = b))) w := by
  refine fn_enter Try.func17 rfl Try.ntmps17 rfl ?_
  refine vc_seq ?_
  refine vc_region ?_
  refine vl_val rfl (.some rfl) (val_assign rfl) ?_
  refine vl_nil ?_
  refine vc_seq ?_
  refine vc_region ?_
  refine vl_val rfl (.some rfl) (val_move rfl) ?_
  refine vl_val rfl (.some rfl) (val_bytesToStr Try.runUnderlying22 Try.runUnderlying5 Try.runUnderlying9 rfl (by first | exact rd_sl (by repeat constructor) | exact rd_slr (by repeat constructor) | exact rd_old (by assumption) rfl) (by first | rfl | (simp; done) | omega)) ?_
  refine vl_val rfl (.some rfl) (val_move rfl) ?_
  refine vl_val rfl (.some rfl) (val_bytesToStr Try.runUnderlying22 Try.runUnderlying5 Try.runUnderlying9 rfl (by first | exact rd_sl (by repeat constructor) | exact rd_slr (by repeat constructor) | exact rd_old (by assumption) rfl) (by first | rfl | (simp; done) | omega)) ?_
  refine vl_val rfl (.some rfl) (val_seq rfl rfl) ?_
  refine vl_val rfl (.some rfl) (val_assign rfl) ?_
  refine vl_nil ?_
  refine vc_ret ?_
  refine ⟨_, [], _, res1 Try.results17 rfl, .nil, ?_⟩
  show _ = _; rw [same_isV]
set_option maxRecDepth 20000 in
set_option maxHeartbeats 1000000 in
theorem xKeeps (B : Option Addr) (cb : Nat) (b1 : List UInt8) (M0 : Option Addr) (cm : Nat) (b2 : List UInt8) (q : Int) (hq : -9223372036854775808 ≤ q ∧ q < 9223372036854775808) (hcm : b2.length ≤ cm) (w : World) (hr1 : Reads w B (bcells b1)) (hr2 : Reads w M0 (bcells b2)) : FnV Try.prog 9 [.slice B b1.length cb, .slice M0 b2.length cm, .int .i64 q] (.bool true) w := by
  have hna : fnameP [102] := by decide
  have h12 : (b1 ++ b2).length = b1.length + b2.length := List.length_append
  refine fn_enter Try.func9 rfl Try.ntmps9 rfl ?_
  refine vc_seq ?_
  refine vc_region ?_
  refine vl_val rfl (.some rfl) (val_assign rfl) ?_
  refine vl_nil ?_
  refine vc_seq ?_
  refine vc_region ?_
  refine vl_call (C := []) rfl rfl (.some rfl) Try.call33 rfl .nil (fun w hw => dNew w) (fun v H' h => ?_)
  obtain ⟨d, a, rfl, rfl⟩ := h
  show VL _ _ _ _ _ (_ :: _)
  refine vl_val rfl (.some rfl) (val_assign rfl) ?_
  refine vl_nil ?_
  refine vc_seq ?_
  refine vc_seq ?_
  refine vc_region ?_
  refine vl_val rfl (.some rfl) (val_move rfl) ?_
  refine vl_val rfl (.some rfl) (val_opO rfl rfl guard_ptr (bin_ptr_eq Try.runUnderlying64)) ?_
  refine vl_val rfl (.some rfl) (val_move rfl) ?_
  refine vl_on rfl rfl rfl rfl ?_
  refine vl_val rfl (.some rfl) (val_move rfl) ?_
  refine vl_on rfl rfl rfl rfl ?_
  refine vl_val rfl (.some rfl) (val_lenSl Try.runUnderlying22 rfl) ?_
  refine vl_on rfl rfl rfl rfl ?_
  refine vl_val rfl (.some rfl) (val_gt rfl rfl) ?_
  refine vl_val rfl (.some rfl) (val_pick rfl rfl) ?_
  refine vl_val rfl (.some rfl) (val_move rfl) ?_
  refine vl_split (t := 19) rfl (fun hg19 => ?_) (fun hg19 => ?_)
  · (try replace hg19 := of_decide_eq_true hg19)
    refine vl_off rfl rfl rfl rfl (.some rfl) ?_
    refine vl_off rfl rfl rfl rfl (.some rfl) ?_
    refine vl_off rfl rfl rfl rfl (.some rfl) ?_
    refine vl_val rfl (.some rfl) (val_pick rfl rfl) ?_
    refine vl_nil ?_
    refine vc_cond rfl (fun _ => ?_) (fun h => by cases h)
    refine vc_seq ?_
    refine vc_region ?_
    refine vl_val rfl (.some rfl) (val_move rfl) ?_
    refine vl_val rfl (.some rfl) (val_opO rfl rfl guard_ptr (bin_ptr_ne Try.runUnderlying64)) ?_
    refine vl_val rfl (.some rfl) (val_move rfl) ?_
    refine vl_on rfl rfl rfl rfl ?_
    refine vl_call (C := []) rfl rfl (.some rfl) Try.call32 rfl .nil (fun w hw => dLives w) (fun v H' h => ?_)
    obtain ⟨rfl, rfl⟩ := h
    show VL _ _ _ _ _ _
    refine vl_val rfl (.some rfl) (val_pick rfl rfl) ?_
    refine vl_val rfl (.some rfl) (val_assign rfl) ?_
    refine vl_nil ?_
    refine vc_ret ?_
    refine ⟨_, [], _, res1 Try.results9 rfl, .nil, ?_⟩
    first | rfl | (exfalso; first | omega | contradiction)
  · (try replace hg19 := of_decide_eq_false hg19)
    refine vl_on rfl rfl rfl rfl ?_
    refine vl_val rfl (.some rfl) (val_move rfl) ?_
    refine vl_on rfl rfl rfl rfl ?_
    refine vl_val rfl (.some rfl) (val_lenSl Try.runUnderlying22 rfl) ?_
    refine vl_on rfl rfl rfl rfl ?_
    refine vl_val rfl (.some rfl) (val_gt rfl rfl) ?_
    refine vl_val rfl (.some rfl) (val_pick rfl rfl) ?_
    refine vl_nil ?_
    refine vc_cond rfl (fun hc0 => ?_) (fun hc0 => ?_)
    · (try replace hc0 := of_decide_eq_true hc0)
      refine vc_seq ?_
      refine vc_region ?_
      refine vl_val rfl (.some rfl) (val_move rfl) ?_
      refine vl_val rfl (.some rfl) (val_opO rfl rfl guard_ptr (bin_ptr_ne Try.runUnderlying64)) ?_
      refine vl_val rfl (.some rfl) (val_move rfl) ?_
      refine vl_on rfl rfl rfl rfl ?_
      refine vl_call (C := []) rfl rfl (.some rfl) Try.call32 rfl .nil (fun w hw => dLives w) (fun v H' h => ?_)
      obtain ⟨rfl, rfl⟩ := h
      show VL _ _ _ _ _ _
      refine vl_val rfl (.some rfl) (val_pick rfl rfl) ?_
      refine vl_val rfl (.some rfl) (val_assign rfl) ?_
      refine vl_nil ?_
      refine vc_ret ?_
      refine ⟨_, [], _, res1 Try.results9 rfl, .nil, ?_⟩
      first | rfl | (exfalso; first | omega | contradiction)
    · (try replace hc0 := of_decide_eq_false hc0)
      have hl1 : b1.length ≤ 100000 := by omega
      have hl2 : b2.length ≤ 100000 := by omega
      refine vc_skip ?_
      refine vc_seq ?_
      refine vc_region ?_
      refine vl_val rfl (.some rfl) (val_move rfl) ?_
      refine vl_call (C := [DK d a false 0 none 0 0 0, mq kS a [] []]) rfl rfl (.some rfl) Try.call34 rfl (by repeat constructor) (fun w hw => dCreate d a none 0 0 0 (by decide) [102] [] [] rfl (by decide) hna w) (fun v H' h => ?_)
      obtain ⟨rfl, f, rfl⟩ := h
      refine (show VL _ _ _ _ _ (DK d a false 0 none 0 0 1 :: FL f none 0 0 0 :: mq kS a [[102]] [.pointer (some ⟨f, 0, none⟩)] :: _) from ?_)
      refine vl_nilSl 5 1 ?_
      refine vl_nil ?_
      refine vc_seq ?_
      refine vc_seq ?_
      refine vc_region ?_
      refine vl_val rfl (.some rfl) (val_move rfl) ?_
      refine vl_val rfl (.some rfl) (val_move rfl) ?_
      refine vl_call (C := [DK d a false 0 none 0 0 1, mq kS a [[102]] [.pointer (some ⟨f, 0, none⟩)], FL f none ([] : List UInt8).length 0 0, BY none ([] : List UInt8).length 0 []]) rfl rfl (.some rfl) Try.call35 rfl (by repeat constructor) (fun w hw => dWriteO d a none 0 0 1 (by decide) [102] hna f none 0 [] 0 B cb b1 (by simp; omega) w (readsM_old (Reads.m hr1) (by repeat constructor) hw)) (fun v H' h => ?_)
      obtain ⟨rfl, A3, c3, rfl⟩ := h
      refine (show VL _ _ _ _ _ (DK d a false 0 none 0 0 2 :: mq kS a [[102]] [.pointer (some ⟨f, 0, none⟩)] :: FL f A3 b1.length c3 0 :: BY A3 b1.length c3 b1 :: _) from ?_)
      refine vl_val rfl (.some rfl) (val_net rfl rfl (rfl)) ?_
      refine vl_val rfl (.some rfl) (val_move rfl) ?_
      refine vl_on rfl rfl rfl rfl ?_
      refine vl_val rfl (.some rfl) (val_move rfl) ?_
      refine vl_on rfl rfl rfl rfl ?_
      refine vl_call (C := [DK d a false 0 none 0 0 2, mq kS a [[102]] [.pointer (some ⟨f, 0, none⟩)], FL f A3 b1.length c3 0, BY A3 b1.length c3 b1]) rfl rfl (.some rfl) Try.call36 rfl (by repeat constructor) (fun w hw => dSync d a none 0 0 2 (by decide) [102] hna f A3 c3 b1 0 w) (fun v H' h => ?_)
      obtain ⟨rfl, rfl⟩ := h
      refine (show VL _ _ _ _ _ (DK d a false 0 none 0 0 3 :: mq kS a [[102]] [.pointer (some ⟨f, 0, none⟩)] :: FL f A3 b1.length c3 (b1.length : Nat) :: BY A3 b1.length c3 b1 :: _) from ?_)
      refine vl_on rfl rfl rfl rfl ?_
      refine vl_val rfl (.some rfl) (val_net rfl rfl (rfl)) ?_
      refine vl_val rfl (.some rfl) (val_pick rfl rfl) ?_
      refine vl_val rfl (.some rfl) (val_move rfl) ?_
      refine vl_on rfl rfl rfl rfl ?_
      refine vl_val rfl (.some rfl) (val_move rfl) ?_
      refine vl_on rfl rfl rfl rfl ?_
      refine vl_val rfl (.some rfl) (val_move rfl) ?_
      refine vl_on rfl rfl rfl rfl ?_
      refine vl_call (C := [DK d a false 0 none 0 0 3, mq kS a [[102]] [.pointer (some ⟨f, 0, none⟩)], FL f A3 b1.length c3 (b1.length : Nat), BY A3 b1.length c3 b1]) rfl rfl (.some rfl) Try.call35 rfl (by repeat constructor) (fun w hw => dWriteO d a none 0 0 3 (by decide) [102] hna f A3 c3 b1 (b1.length : Nat) M0 cm b2 (by omega) w (readsM_old (Reads.m hr2) (by repeat constructor) hw)) (fun v H' h => ?_)
      obtain ⟨rfl, A5, c5, rfl⟩ := h
      refine (show VL _ _ _ _ _ (DK d a false 0 none 0 0 4 :: mq kS a [[102]] [.pointer (some ⟨f, 0, none⟩)] :: FL f A5 (b1 ++ b2).length c5 (b1.length : Nat) :: BY A5 (b1 ++ b2).length c5 (b1 ++ b2) :: _) from ?_)
      refine vl_on rfl rfl rfl rfl ?_
      refine vl_val rfl (.some rfl) (val_net rfl rfl (rfl)) ?_
      refine vl_val rfl (.some rfl) (val_pick rfl rfl) ?_
      refine vl_val rfl (.some rfl) (val_move rfl) ?_
      refine vl_on rfl rfl rfl rfl ?_
      refine vl_val rfl (.some rfl) (val_move rfl) ?_
      refine vl_on rfl rfl rfl rfl ?_
      refine vl_val rfl (.some rfl) (val_move rfl) ?_
      refine vl_on rfl rfl rfl rfl ?_
      refine vl_lit sT69 rfl rfl (.some rfl) rfl rfl rfl (by decide) (by decide) rfl (flat_one rfl) (fun r49 => ?_)
      refine vl_on rfl rfl rfl rfl ?_
      refine vl_call (C := [DK d a false 0 none 0 0 4, sl (some ⟨r49, 0, none⟩) 1 1 3 1 [.int .i64 q]]) rfl rfl (.some rfl) Try.call37 rfl (by repeat constructor) (fun w hw => dCutG d a none 0 0 4 (some ⟨r49, 0, none⟩) 1 q w) (fun v H' h => ?_)
      obtain ⟨A6, c6, rfl, rfl⟩ := h
      show VL _ _ _ _ _ (_ :: _)
      refine vl_on rfl rfl rfl rfl ?_
      refine vl_val rfl (.some rfl) (val_net rfl rfl (rfl)) ?_
      refine vl_val rfl (.some rfl) (val_pick rfl rfl) ?_
      refine vl_val rfl (.some rfl) (val_move rfl) ?_
      refine vl_on rfl rfl rfl rfl ?_
      refine vl_val rfl (.some rfl) (val_move rfl) ?_
      refine vl_on rfl rfl rfl rfl ?_
      refine vl_call (C := [DK d a false 1 A6 1 c6 4, mq kS a [[102]] [.pointer (some ⟨f, 0, none⟩)], FL f A5 (b1 ++ b2).length c5 (b1.length : Nat), BY A5 (b1 ++ b2).length c5 (b1 ++ b2), sl A6 1 c6 3 1 [.int .i64 q]]) rfl rfl (.some rfl) Try.call36 rfl (by repeat constructor) (fun w hw => dSyncG d a A6 c6 4 [102] f A5 c5 (b1 ++ b2) b1.length q (by omega) (by omega) hq (by decide) hna w) (fun v H' h => ?_)
      obtain ⟨rfl, A7, c7, rfl⟩ := h
      refine (show VL _ _ _ _ _ (DK d a true 0 A6 1 c6 5 :: mq kS a [[102]] [.pointer (some ⟨f, 0, none⟩)] :: FL f A7 ((b1 ++ b2).take (sy1 q (b1 ++ b2) b1.length)).length c7 ((sy1 q (b1 ++ b2) b1.length) : Nat) :: BY A7 ((b1 ++ b2).take (sy1 q (b1 ++ b2) b1.length)).length c7 ((b1 ++ b2).take (sy1 q (b1 ++ b2) b1.length)) :: _) from ?_)
      refine vl_on rfl rfl rfl rfl ?_
      refine vl_val rfl (.some rfl) (val_net rfl rfl (rfl)) ?_
      refine vl_val rfl (.some rfl) (val_pick rfl rfl) ?_
      refine vl_val rfl (.some rfl) (val_move rfl) ?_
      refine vl_on rfl rfl rfl rfl ?_
      refine vl_val rfl (.some rfl) (val_move rfl) ?_
      refine vl_on rfl rfl rfl rfl ?_
      refine vl_callR [DK d a true 0 A6 1 c6 5] rfl rfl (.some rfl) Try.call38 rfl (by repeat constructor) (fun w hw => dOn d a true 0 A6 1 c6 5 w) ?_
      rw [Bool.not_true]
      refine vl_val rfl (.some rfl) (val_pick rfl rfl) ?_
      refine vl_nil ?_
      refine vc_cond rfl (fun h => by cases h) (fun _ => ?_)
      refine vc_skip ?_
      refine vc_seq ?_
      refine vc_region ?_
      refine vl_val rfl (.some rfl) (val_move rfl) ?_
      refine vl_call (C := [DK d a true 0 A6 1 c6 5]) rfl rfl (.some rfl) Try.call39 rfl (by repeat constructor) (fun w hw => dStart d a true 0 A6 1 c6 5 w) (fun v H' h => ?_)
      obtain rfl := h
      show VL _ _ _ _ _ (_ :: _)
      refine vl_nil ?_
      refine vc_seq ?_
      refine vc_region ?_
      refine vl_val rfl (.some rfl) (val_move rfl) ?_
      refine vl_val rfl (.some rfl) (val_lenSl Try.runUnderlying22 rfl) ?_
      refine vl_val rfl (.some rfl) (val_assign rfl) ?_
      refine vl_nil ?_
      refine vc_seq ?_
      refine vc_seq ?_
      refine vc_region ?_
      refine vl_val rfl (.some rfl) (val_move rfl) ?_
      refine vl_val rfl (.some rfl) (val_move rfl) ?_
      refine vl_val rfl (.some rfl) (val_lt rfl rfl) ?_
      refine vl_nil ?_
      refine vc_cond rfl (fun hc2 => ?_) (fun hc2 => ?_)
      · (try replace hc2 := of_decide_eq_true hc2)
        refine vc_region ?_
        refine vl_val rfl (.some rfl) (val_move rfl) ?_
        refine vl_val rfl (.some rfl) (val_assign rfl) ?_
        refine vl_nil ?_
        refine vc_seq ?_
        refine vc_seq ?_
        refine vc_region ?_
        refine vl_val rfl (.some rfl) (val_move rfl) ?_
        refine vl_val rfl (.some rfl) (val_lt rfl rfl) ?_
        refine vl_nil ?_
        refine vc_cond rfl (fun hc3 => ?_) (fun hc3 => ?_)
        · (try replace hc3 := of_decide_eq_true hc3)
          refine vc_region ?_
          refine vl_val rfl (.some rfl) (val_assign rfl) ?_
          refine vl_nil ?_
          refine vc_seq ?_
          refine vc_region ?_
          refine vl_val rfl (.some rfl) (val_move rfl) ?_
          have hfin := keep_fin q b1 b2
          rw [hfin]
          have hfl : (b1 ++ b2.take (min q.toNat b2.length)).length ≤ b1.length + b2.length := by rw [List.length_append, List.length_take]; omega
          refine vl_call (C := [DK d a false 0 A6 1 c6 5, mq kS a [[102]] [.pointer (some ⟨f, 0, none⟩)], FL f A7 (b1 ++ b2.take (min q.toNat b2.length)).length c7 ((sy1 q (b1 ++ b2) b1.length) : Nat), BY A7 (b1 ++ b2.take (min q.toNat b2.length)).length c7 (b1 ++ b2.take (min q.toNat b2.length))]) rfl rfl (.some rfl) Try.call40 rfl (by repeat constructor) (fun w hw => dReadG d a A6 1 c6 5 (by decide) [102] hna f A7 c7 (b1 ++ b2.take (min q.toNat b2.length)) 0 ((sy1 q (b1 ++ b2) b1.length) : Nat) (by omega) w) (fun v H' h => ?_)
          obtain ⟨A9, c9, rfl, rfl⟩ := h
          show VL _ _ _ _ _ (_ :: _)
          refine vl_val rfl (.some rfl) (val_move rfl) ?_
          refine vl_val rfl (.some rfl) (val_extract rfl rfl) ?_
          refine vl_val rfl (.some rfl) (val_extract rfl rfl) ?_
          refine vl_val rfl (.some rfl) (val_assign rfl) ?_
          refine vl_val rfl (.some rfl) (val_assign rfl) ?_
          refine vl_nil ?_
          refine vc_seq ?_
          refine vc_draws [0, 1, 2, 3, 5, 7, 8, 9, 12, 13, 15, 16] [] [0, 1, 2, 3, 5, 7, 8, 9, 4, 6, 10, 11, 12, 13, 14, 15, 16] rfl (by kernel_rfl) (fun _ _ _ h => h) ?_
          refine vd_val rfl rfl rfl (.some rfl) (val_move rfl) ?_
          refine vd_val rfl rfl rfl (.some rfl) (val_eqt rfl rfl (rfl)) ?_
          refine vd_val rfl rfl rfl (.some rfl) (val_move rfl) ?_
          refine vd_on rfl rfl rfl rfl rfl rfl (.some rfl) (val_move rfl) ?_
          refine vd_on rfl rfl rfl rfl rfl rfl (.some rfl) (val_move rfl) ?_
          refine vd_on rfl rfl rfl rfl rfl rfl (.some rfl) (val_move rfl) ?_
          refine vd_on rfl rfl rfl rfl rfl rfl (.some rfl) (val_move rfl) ?_
          refine vd_on rfl rfl rfl rfl rfl rfl (.some rfl) (show Val _ _ _ _ _ (.slice M0 (b2.take (min q.toNat b2.length)).length cm) by
            have hk9 : (b2.take (min q.toNat b2.length)).length = (min q.toNat b2.length) := by rw [List.length_take]; omega
            first
            | (rw [show (b2.take (min q.toNat b2.length)).length = Int.toNat ((b2.length : Nat) : Int) by rw [hk9, Int.toNat_natCast]; omega]; exact val_cutTo Try.runUnderlying22 Try.sizeOf5 rfl rfl (by omega) (by omega))
            | (rw [show (b2.take (min q.toNat b2.length)).length = Int.toNat q by rw [hk9]; omega]; exact val_cutTo Try.runUnderlying22 Try.sizeOf5 rfl rfl (by omega) (by omega))
            | (rw [show (b2.take (min q.toNat b2.length)).length = Int.toNat 0 by rw [hk9]; show _ = 0; omega]; exact val_cutTo Try.runUnderlying22 Try.sizeOf5 rfl rfl (by omega) (by omega))) ?_
          refine vd_op rfl rfl ?_
          refine vl_on rfl rfl rfl rfl ?_
          refine vl_lit0 sT22 Try.sizeOf5 rfl rfl (.some rfl) (fun r81 => ?_)
          refine vl_nil ?_
          refine ⟨fun _ => ⟨_, (by repeat (first | exact .nil | exact sub_self _ | exact sub_skip (sub_self _) | exact sub_skip (sub_skip (sub_self _)) | exact sub_skip (sub_skip (sub_skip (sub_self _))) | (apply Sub.cons; · repeat (first | exact .head | apply Take.tail))))⟩, ?_⟩
          refine vd_op rfl rfl ?_
          refine vl_on rfl rfl rfl rfl ?_
          refine vl_append (vs := []) (us := bcells b1) sT22 rfl rfl (.some rfl) rfl rfl (rd_old hr1 rfl) (by rw [bcells_length, Nat.mul_one]) (one_b _) (by omega) (by omega) (by repeat constructor) (fun A83 k83 => ?_)
          rw [List.nil_append, Nat.zero_add]
          refine vl_nil ?_
          refine ⟨fun _ => ⟨_, (by repeat (first | exact .nil | exact sub_self _ | exact sub_skip (sub_self _) | exact sub_skip (sub_skip (sub_self _)) | exact sub_skip (sub_skip (sub_skip (sub_self _))) | (apply Sub.cons; · repeat (first | exact .head | apply Take.tail))))⟩, ?_⟩
          refine vd_op rfl rfl ?_
          refine vl_on rfl rfl rfl rfl ?_
          have hk8 : (b2.take (min q.toNat b2.length)).length ≤ b2.length := by rw [List.length_take]; omega
          refine vl_append (vs := bcells b1) (us := bcells (b2.take (min q.toNat b2.length))) sT22 rfl rfl (.some rfl) rfl rfl (rd_old (by rw [btake]; exact hr2.take _) rfl) (by rw [bcells_length, Nat.mul_one]) (one_b _) (by omega) (by omega) (by repeat constructor) (fun A87 k87 => ?_)
          rw [bappV, ← List.length_append]
          refine vl_nil ?_
          refine ⟨fun _ => ⟨_, (by repeat (first | exact .nil | exact sub_self _ | exact sub_skip (sub_self _) | exact sub_skip (sub_skip (sub_self _)) | exact sub_skip (sub_skip (sub_skip (sub_self _))) | (apply Sub.cons; · repeat (first | exact .head | apply Take.tail))))⟩, ?_⟩
          refine vd_op rfl rfl ?_
          refine vl_on rfl rfl rfl rfl ?_
          refine vl_callV rfl rfl (.some rfl) Try.call17 rfl (fun w hw => vSameB _ _ _ _ (b1 ++ b2.take (min q.toNat b2.length)) (b1 ++ b2.take (min q.toNat b2.length)) w (rdw (rd_sl (by repeat constructor)) hw) (rdw (rd_sl (by repeat constructor)) hw)) ?_
          rw [decide_eq_true rfl]
          refine vl_nil ?_
          refine ⟨fun _ => ⟨_, (by repeat (first | exact .nil | exact sub_self _ | exact sub_skip (sub_self _) | exact sub_skip (sub_skip (sub_self _)) | exact sub_skip (sub_skip (sub_skip (sub_self _))) | (apply Sub.cons; · repeat (first | exact .head | apply Take.tail))))⟩, ?_⟩
          refine vd_val rfl rfl rfl (.some rfl) (val_pick rfl rfl) ?_
          refine vd_val rfl rfl rfl (.some rfl) (val_move rfl) ?_
          refine vd_op rfl rfl ?_
          refine vl_on rfl rfl rfl rfl ?_
          refine vl_call (C := []) rfl rfl (.some rfl) Try.call32 rfl .nil (fun w hw => dLives w) (fun v H' h => ?_)
          obtain ⟨rfl, rfl⟩ := h
          show VL _ _ _ _ _ _
          refine vl_nil ?_
          refine ⟨fun _ => ⟨_, (by repeat (first | exact .nil | exact sub_self _ | exact sub_skip (sub_self _) | exact sub_skip (sub_skip (sub_self _)) | exact sub_skip (sub_skip (sub_skip (sub_self _))) | (apply Sub.cons; · repeat (first | exact .head | apply Take.tail))))⟩, ?_⟩
          refine vd_val rfl rfl rfl (.some rfl) (val_pick rfl rfl) ?_
          refine vd_val rfl rfl rfl (.some rfl) (val_assign rfl) ?_
          refine vd_nil ?_
          refine vc_ret ?_
          refine ⟨_, [], _, res1 Try.results9 rfl, .nil, ?_⟩
          first | rfl | (exfalso; first | omega | contradiction)
        · (try replace hc3 := of_decide_eq_false hc3)
          refine vc_skip ?_
          refine vc_seq ?_
          refine vc_region ?_
          refine vl_val rfl (.some rfl) (val_move rfl) ?_
          have hfin := keep_fin q b1 b2
          rw [hfin]
          have hfl : (b1 ++ b2.take (min q.toNat b2.length)).length ≤ b1.length + b2.length := by rw [List.length_append, List.length_take]; omega
          refine vl_call (C := [DK d a false 0 A6 1 c6 5, mq kS a [[102]] [.pointer (some ⟨f, 0, none⟩)], FL f A7 (b1 ++ b2.take (min q.toNat b2.length)).length c7 ((sy1 q (b1 ++ b2) b1.length) : Nat), BY A7 (b1 ++ b2.take (min q.toNat b2.length)).length c7 (b1 ++ b2.take (min q.toNat b2.length))]) rfl rfl (.some rfl) Try.call40 rfl (by repeat constructor) (fun w hw => dReadG d a A6 1 c6 5 (by decide) [102] hna f A7 c7 (b1 ++ b2.take (min q.toNat b2.length)) 0 ((sy1 q (b1 ++ b2) b1.length) : Nat) (by omega) w) (fun v H' h => ?_)
          obtain ⟨A9, c9, rfl, rfl⟩ := h
          show VL _ _ _ _ _ (_ :: _)
          refine vl_val rfl (.some rfl) (val_move rfl) ?_
          refine vl_val rfl (.some rfl) (val_extract rfl rfl) ?_
          refine vl_val rfl (.some rfl) (val_extract rfl rfl) ?_
          refine vl_val rfl (.some rfl) (val_assign rfl) ?_
          refine vl_val rfl (.some rfl) (val_assign rfl) ?_
          refine vl_nil ?_
          refine vc_seq ?_
          refine vc_draws [0, 1, 2, 3, 5, 7, 8, 9, 12, 13, 15, 16] [] [0, 1, 2, 3, 5, 7, 8, 9, 4, 6, 10, 11, 12, 13, 14, 15, 16] rfl (by kernel_rfl) (fun _ _ _ h => h) ?_
          refine vd_val rfl rfl rfl (.some rfl) (val_move rfl) ?_
          refine vd_val rfl rfl rfl (.some rfl) (val_eqt rfl rfl (rfl)) ?_
          refine vd_val rfl rfl rfl (.some rfl) (val_move rfl) ?_
          refine vd_on rfl rfl rfl rfl rfl rfl (.some rfl) (val_move rfl) ?_
          refine vd_on rfl rfl rfl rfl rfl rfl (.some rfl) (val_move rfl) ?_
          refine vd_on rfl rfl rfl rfl rfl rfl (.some rfl) (val_move rfl) ?_
          refine vd_on rfl rfl rfl rfl rfl rfl (.some rfl) (val_move rfl) ?_
          refine vd_on rfl rfl rfl rfl rfl rfl (.some rfl) (show Val _ _ _ _ _ (.slice M0 (b2.take (min q.toNat b2.length)).length cm) by
            have hk9 : (b2.take (min q.toNat b2.length)).length = (min q.toNat b2.length) := by rw [List.length_take]; omega
            first
            | (rw [show (b2.take (min q.toNat b2.length)).length = Int.toNat ((b2.length : Nat) : Int) by rw [hk9, Int.toNat_natCast]; omega]; exact val_cutTo Try.runUnderlying22 Try.sizeOf5 rfl rfl (by omega) (by omega))
            | (rw [show (b2.take (min q.toNat b2.length)).length = Int.toNat q by rw [hk9]; omega]; exact val_cutTo Try.runUnderlying22 Try.sizeOf5 rfl rfl (by omega) (by omega))
            | (rw [show (b2.take (min q.toNat b2.length)).length = Int.toNat 0 by rw [hk9]; show _ = 0; omega]; exact val_cutTo Try.runUnderlying22 Try.sizeOf5 rfl rfl (by omega) (by omega))) ?_
          refine vd_op rfl rfl ?_
          refine vl_on rfl rfl rfl rfl ?_
          refine vl_lit0 sT22 Try.sizeOf5 rfl rfl (.some rfl) (fun r81 => ?_)
          refine vl_nil ?_
          refine ⟨fun _ => ⟨_, (by repeat (first | exact .nil | exact sub_self _ | exact sub_skip (sub_self _) | exact sub_skip (sub_skip (sub_self _)) | exact sub_skip (sub_skip (sub_skip (sub_self _))) | (apply Sub.cons; · repeat (first | exact .head | apply Take.tail))))⟩, ?_⟩
          refine vd_op rfl rfl ?_
          refine vl_on rfl rfl rfl rfl ?_
          refine vl_append (vs := []) (us := bcells b1) sT22 rfl rfl (.some rfl) rfl rfl (rd_old hr1 rfl) (by rw [bcells_length, Nat.mul_one]) (one_b _) (by omega) (by omega) (by repeat constructor) (fun A83 k83 => ?_)
          rw [List.nil_append, Nat.zero_add]
          refine vl_nil ?_
          refine ⟨fun _ => ⟨_, (by repeat (first | exact .nil | exact sub_self _ | exact sub_skip (sub_self _) | exact sub_skip (sub_skip (sub_self _)) | exact sub_skip (sub_skip (sub_skip (sub_self _))) | (apply Sub.cons; · repeat (first | exact .head | apply Take.tail))))⟩, ?_⟩
          refine vd_op rfl rfl ?_
          refine vl_on rfl rfl rfl rfl ?_
          have hk8 : (b2.take (min q.toNat b2.length)).length ≤ b2.length := by rw [List.length_take]; omega
          refine vl_append (vs := bcells b1) (us := bcells (b2.take (min q.toNat b2.length))) sT22 rfl rfl (.some rfl) rfl rfl (rd_old (by rw [btake]; exact hr2.take _) rfl) (by rw [bcells_length, Nat.mul_one]) (one_b _) (by omega) (by omega) (by repeat constructor) (fun A87 k87 => ?_)
          rw [bappV, ← List.length_append]
          refine vl_nil ?_
          refine ⟨fun _ => ⟨_, (by repeat (first | exact .nil | exact sub_self _ | exact sub_skip (sub_self _) | exact sub_skip (sub_skip (sub_self _)) | exact sub_skip (sub_skip (sub_skip (sub_self _))) | (apply Sub.cons; · repeat (first | exact .head | apply Take.tail))))⟩, ?_⟩
          refine vd_op rfl rfl ?_
          refine vl_on rfl rfl rfl rfl ?_
          refine vl_callV rfl rfl (.some rfl) Try.call17 rfl (fun w hw => vSameB _ _ _ _ (b1 ++ b2.take (min q.toNat b2.length)) (b1 ++ b2.take (min q.toNat b2.length)) w (rdw (rd_sl (by repeat constructor)) hw) (rdw (rd_sl (by repeat constructor)) hw)) ?_
          rw [decide_eq_true rfl]
          refine vl_nil ?_
          refine ⟨fun _ => ⟨_, (by repeat (first | exact .nil | exact sub_self _ | exact sub_skip (sub_self _) | exact sub_skip (sub_skip (sub_self _)) | exact sub_skip (sub_skip (sub_skip (sub_self _))) | (apply Sub.cons; · repeat (first | exact .head | apply Take.tail))))⟩, ?_⟩
          refine vd_val rfl rfl rfl (.some rfl) (val_pick rfl rfl) ?_
          refine vd_val rfl rfl rfl (.some rfl) (val_move rfl) ?_
          refine vd_op rfl rfl ?_
          refine vl_on rfl rfl rfl rfl ?_
          refine vl_call (C := []) rfl rfl (.some rfl) Try.call32 rfl .nil (fun w hw => dLives w) (fun v H' h => ?_)
          obtain ⟨rfl, rfl⟩ := h
          show VL _ _ _ _ _ _
          refine vl_nil ?_
          refine ⟨fun _ => ⟨_, (by repeat (first | exact .nil | exact sub_self _ | exact sub_skip (sub_self _) | exact sub_skip (sub_skip (sub_self _)) | exact sub_skip (sub_skip (sub_skip (sub_self _))) | (apply Sub.cons; · repeat (first | exact .head | apply Take.tail))))⟩, ?_⟩
          refine vd_val rfl rfl rfl (.some rfl) (val_pick rfl rfl) ?_
          refine vd_val rfl rfl rfl (.some rfl) (val_assign rfl) ?_
          refine vd_nil ?_
          refine vc_ret ?_
          refine ⟨_, [], _, res1 Try.results9 rfl, .nil, ?_⟩
          first | rfl | (exfalso; first | omega | contradiction)
      · (try replace hc2 := of_decide_eq_false hc2)
        refine vc_skip ?_
        refine vc_seq ?_
        refine vc_seq ?_
        refine vc_region ?_
        refine vl_val rfl (.some rfl) (val_move rfl) ?_
        refine vl_val rfl (.some rfl) (val_lt rfl rfl) ?_
        refine vl_nil ?_
        refine vc_cond rfl (fun hc3 => ?_) (fun hc3 => ?_)
        · (try replace hc3 := of_decide_eq_true hc3)
          refine vc_region ?_
          refine vl_val rfl (.some rfl) (val_assign rfl) ?_
          refine vl_nil ?_
          refine vc_seq ?_
          refine vc_region ?_
          refine vl_val rfl (.some rfl) (val_move rfl) ?_
          have hfin := keep_fin q b1 b2
          rw [hfin]
          have hfl : (b1 ++ b2.take (min q.toNat b2.length)).length ≤ b1.length + b2.length := by rw [List.length_append, List.length_take]; omega
          refine vl_call (C := [DK d a false 0 A6 1 c6 5, mq kS a [[102]] [.pointer (some ⟨f, 0, none⟩)], FL f A7 (b1 ++ b2.take (min q.toNat b2.length)).length c7 ((sy1 q (b1 ++ b2) b1.length) : Nat), BY A7 (b1 ++ b2.take (min q.toNat b2.length)).length c7 (b1 ++ b2.take (min q.toNat b2.length))]) rfl rfl (.some rfl) Try.call40 rfl (by repeat constructor) (fun w hw => dReadG d a A6 1 c6 5 (by decide) [102] hna f A7 c7 (b1 ++ b2.take (min q.toNat b2.length)) 0 ((sy1 q (b1 ++ b2) b1.length) : Nat) (by omega) w) (fun v H' h => ?_)
          obtain ⟨A9, c9, rfl, rfl⟩ := h
          show VL _ _ _ _ _ (_ :: _)
          refine vl_val rfl (.some rfl) (val_move rfl) ?_
          refine vl_val rfl (.some rfl) (val_extract rfl rfl) ?_
          refine vl_val rfl (.some rfl) (val_extract rfl rfl) ?_
          refine vl_val rfl (.some rfl) (val_assign rfl) ?_
          refine vl_val rfl (.some rfl) (val_assign rfl) ?_
          refine vl_nil ?_
          refine vc_seq ?_
          refine vc_draws [0, 1, 2, 3, 5, 7, 8, 9, 12, 13, 15, 16] [] [0, 1, 2, 3, 5, 7, 8, 9, 4, 6, 10, 11, 12, 13, 14, 15, 16] rfl (by kernel_rfl) (fun _ _ _ h => h) ?_
          refine vd_val rfl rfl rfl (.some rfl) (val_move rfl) ?_
          refine vd_val rfl rfl rfl (.some rfl) (val_eqt rfl rfl (rfl)) ?_
          refine vd_val rfl rfl rfl (.some rfl) (val_move rfl) ?_
          refine vd_on rfl rfl rfl rfl rfl rfl (.some rfl) (val_move rfl) ?_
          refine vd_on rfl rfl rfl rfl rfl rfl (.some rfl) (val_move rfl) ?_
          refine vd_on rfl rfl rfl rfl rfl rfl (.some rfl) (val_move rfl) ?_
          refine vd_on rfl rfl rfl rfl rfl rfl (.some rfl) (val_move rfl) ?_
          refine vd_on rfl rfl rfl rfl rfl rfl (.some rfl) (show Val _ _ _ _ _ (.slice M0 (b2.take (min q.toNat b2.length)).length cm) by
            have hk9 : (b2.take (min q.toNat b2.length)).length = (min q.toNat b2.length) := by rw [List.length_take]; omega
            first
            | (rw [show (b2.take (min q.toNat b2.length)).length = Int.toNat ((b2.length : Nat) : Int) by rw [hk9, Int.toNat_natCast]; omega]; exact val_cutTo Try.runUnderlying22 Try.sizeOf5 rfl rfl (by omega) (by omega))
            | (rw [show (b2.take (min q.toNat b2.length)).length = Int.toNat q by rw [hk9]; omega]; exact val_cutTo Try.runUnderlying22 Try.sizeOf5 rfl rfl (by omega) (by omega))
            | (rw [show (b2.take (min q.toNat b2.length)).length = Int.toNat 0 by rw [hk9]; show _ = 0; omega]; exact val_cutTo Try.runUnderlying22 Try.sizeOf5 rfl rfl (by omega) (by omega))) ?_
          refine vd_op rfl rfl ?_
          refine vl_on rfl rfl rfl rfl ?_
          refine vl_lit0 sT22 Try.sizeOf5 rfl rfl (.some rfl) (fun r81 => ?_)
          refine vl_nil ?_
          refine ⟨fun _ => ⟨_, (by repeat (first | exact .nil | exact sub_self _ | exact sub_skip (sub_self _) | exact sub_skip (sub_skip (sub_self _)) | exact sub_skip (sub_skip (sub_skip (sub_self _))) | (apply Sub.cons; · repeat (first | exact .head | apply Take.tail))))⟩, ?_⟩
          refine vd_op rfl rfl ?_
          refine vl_on rfl rfl rfl rfl ?_
          refine vl_append (vs := []) (us := bcells b1) sT22 rfl rfl (.some rfl) rfl rfl (rd_old hr1 rfl) (by rw [bcells_length, Nat.mul_one]) (one_b _) (by omega) (by omega) (by repeat constructor) (fun A83 k83 => ?_)
          rw [List.nil_append, Nat.zero_add]
          refine vl_nil ?_
          refine ⟨fun _ => ⟨_, (by repeat (first | exact .nil | exact sub_self _ | exact sub_skip (sub_self _) | exact sub_skip (sub_skip (sub_self _)) | exact sub_skip (sub_skip (sub_skip (sub_self _))) | (apply Sub.cons; · repeat (first | exact .head | apply Take.tail))))⟩, ?_⟩
          refine vd_op rfl rfl ?_
          refine vl_on rfl rfl rfl rfl ?_
          have hk8 : (b2.take (min q.toNat b2.length)).length ≤ b2.length := by rw [List.length_take]; omega
          refine vl_append (vs := bcells b1) (us := bcells (b2.take (min q.toNat b2.length))) sT22 rfl rfl (.some rfl) rfl rfl (rd_old (by rw [btake]; exact hr2.take _) rfl) (by rw [bcells_length, Nat.mul_one]) (one_b _) (by omega) (by omega) (by repeat constructor) (fun A87 k87 => ?_)
          rw [bappV, ← List.length_append]
          refine vl_nil ?_
          refine ⟨fun _ => ⟨_, (by repeat (first | exact .nil | exact sub_self _ | exact sub_skip (sub_self _) | exact sub_skip (sub_skip (sub_self _)) | exact sub_skip (sub_skip (sub_skip (sub_self _))) | (apply Sub.cons; · repeat (first | exact .head | apply Take.tail))))⟩, ?_⟩
          refine vd_op rfl rfl ?_
          refine vl_on rfl rfl rfl rfl ?_
          refine vl_callV rfl rfl (.some rfl) Try.call17 rfl (fun w hw => vSameB _ _ _ _ (b1 ++ b2.take (min q.toNat b2.length)) (b1 ++ b2.take (min q.toNat b2.length)) w (rdw (rd_sl (by repeat constructor)) hw) (rdw (rd_sl (by repeat constructor)) hw)) ?_
          rw [decide_eq_true rfl]
          refine vl_nil ?_
          refine ⟨fun _ => ⟨_, (by repeat (first | exact .nil | exact sub_self _ | exact sub_skip (sub_self _) | exact sub_skip (sub_skip (sub_self _)) | exact sub_skip (sub_skip (sub_skip (sub_self _))) | (apply Sub.cons; · repeat (first | exact .head | apply Take.tail))))⟩, ?_⟩
          refine vd_val rfl rfl rfl (.some rfl) (val_pick rfl rfl) ?_
          refine vd_val rfl rfl rfl (.some rfl) (val_move rfl) ?_
          refine vd_op rfl rfl ?_
          refine vl_on rfl rfl rfl rfl ?_
          refine vl_call (C := []) rfl rfl (.some rfl) Try.call32 rfl .nil (fun w hw => dLives w) (fun v H' h => ?_)
          obtain ⟨rfl, rfl⟩ := h
          show VL _ _ _ _ _ _
          refine vl_nil ?_
          refine ⟨fun _ => ⟨_, (by repeat (first | exact .nil | exact sub_self _ | exact sub_skip (sub_self _) | exact sub_skip (sub_skip (sub_self _)) | exact sub_skip (sub_skip (sub_skip (sub_self _))) | (apply Sub.cons; · repeat (first | exact .head | apply Take.tail))))⟩, ?_⟩
          refine vd_val rfl rfl rfl (.some rfl) (val_pick rfl rfl) ?_
          refine vd_val rfl rfl rfl (.some rfl) (val_assign rfl) ?_
          refine vd_nil ?_
          refine vc_ret ?_
          refine ⟨_, [], _, res1 Try.results9 rfl, .nil, ?_⟩
          first | rfl | (exfalso; first | omega | contradiction)
        · (try replace hc3 := of_decide_eq_false hc3)
          refine vc_skip ?_
          refine vc_seq ?_
          refine vc_region ?_
          refine vl_val rfl (.some rfl) (val_move rfl) ?_
          have hfin := keep_fin q b1 b2
          rw [hfin]
          have hfl : (b1 ++ b2.take (min q.toNat b2.length)).length ≤ b1.length + b2.length := by rw [List.length_append, List.length_take]; omega
          refine vl_call (C := [DK d a false 0 A6 1 c6 5, mq kS a [[102]] [.pointer (some ⟨f, 0, none⟩)], FL f A7 (b1 ++ b2.take (min q.toNat b2.length)).length c7 ((sy1 q (b1 ++ b2) b1.length) : Nat), BY A7 (b1 ++ b2.take (min q.toNat b2.length)).length c7 (b1 ++ b2.take (min q.toNat b2.length))]) rfl rfl (.some rfl) Try.call40 rfl (by repeat constructor) (fun w hw => dReadG d a A6 1 c6 5 (by decide) [102] hna f A7 c7 (b1 ++ b2.take (min q.toNat b2.length)) 0 ((sy1 q (b1 ++ b2) b1.length) : Nat) (by omega) w) (fun v H' h => ?_)
          obtain ⟨A9, c9, rfl, rfl⟩ := h
          show VL _ _ _ _ _ (_ :: _)
          refine vl_val rfl (.some rfl) (val_move rfl) ?_
          refine vl_val rfl (.some rfl) (val_extract rfl rfl) ?_
          refine vl_val rfl (.some rfl) (val_extract rfl rfl) ?_
          refine vl_val rfl (.some rfl) (val_assign rfl) ?_
          refine vl_val rfl (.some rfl) (val_assign rfl) ?_
          refine vl_nil ?_
          refine vc_seq ?_
          refine vc_draws [0, 1, 2, 3, 5, 7, 8, 9, 12, 13, 15, 16] [] [0, 1, 2, 3, 5, 7, 8, 9, 4, 6, 10, 11, 12, 13, 14, 15, 16] rfl (by kernel_rfl) (fun _ _ _ h => h) ?_
          refine vd_val rfl rfl rfl (.some rfl) (val_move rfl) ?_
          refine vd_val rfl rfl rfl (.some rfl) (val_eqt rfl rfl (rfl)) ?_
          refine vd_val rfl rfl rfl (.some rfl) (val_move rfl) ?_
          refine vd_on rfl rfl rfl rfl rfl rfl (.some rfl) (val_move rfl) ?_
          refine vd_on rfl rfl rfl rfl rfl rfl (.some rfl) (val_move rfl) ?_
          refine vd_on rfl rfl rfl rfl rfl rfl (.some rfl) (val_move rfl) ?_
          refine vd_on rfl rfl rfl rfl rfl rfl (.some rfl) (val_move rfl) ?_
          refine vd_on rfl rfl rfl rfl rfl rfl (.some rfl) (show Val _ _ _ _ _ (.slice M0 (b2.take (min q.toNat b2.length)).length cm) by
            have hk9 : (b2.take (min q.toNat b2.length)).length = (min q.toNat b2.length) := by rw [List.length_take]; omega
            first
            | (rw [show (b2.take (min q.toNat b2.length)).length = Int.toNat ((b2.length : Nat) : Int) by rw [hk9, Int.toNat_natCast]; omega]; exact val_cutTo Try.runUnderlying22 Try.sizeOf5 rfl rfl (by omega) (by omega))
            | (rw [show (b2.take (min q.toNat b2.length)).length = Int.toNat q by rw [hk9]; omega]; exact val_cutTo Try.runUnderlying22 Try.sizeOf5 rfl rfl (by omega) (by omega))
            | (rw [show (b2.take (min q.toNat b2.length)).length = Int.toNat 0 by rw [hk9]; show _ = 0; omega]; exact val_cutTo Try.runUnderlying22 Try.sizeOf5 rfl rfl (by omega) (by omega))) ?_
          refine vd_op rfl rfl ?_
          refine vl_on rfl rfl rfl rfl ?_
          refine vl_lit0 sT22 Try.sizeOf5 rfl rfl (.some rfl) (fun r81 => ?_)
          refine vl_nil ?_
          refine ⟨fun _ => ⟨_, (by repeat (first | exact .nil | exact sub_self _ | exact sub_skip (sub_self _) | exact sub_skip (sub_skip (sub_self _)) | exact sub_skip (sub_skip (sub_skip (sub_self _))) | (apply Sub.cons; · repeat (first | exact .head | apply Take.tail))))⟩, ?_⟩
          refine vd_op rfl rfl ?_
          refine vl_on rfl rfl rfl rfl ?_
          refine vl_append (vs := []) (us := bcells b1) sT22 rfl rfl (.some rfl) rfl rfl (rd_old hr1 rfl) (by rw [bcells_length, Nat.mul_one]) (one_b _) (by omega) (by omega) (by repeat constructor) (fun A83 k83 => ?_)
          rw [List.nil_append, Nat.zero_add]
          refine vl_nil ?_
          refine ⟨fun _ => ⟨_, (by repeat (first | exact .nil | exact sub_self _ | exact sub_skip (sub_self _) | exact sub_skip (sub_skip (sub_self _)) | exact sub_skip (sub_skip (sub_skip (sub_self _))) | (apply Sub.cons; · repeat (first | exact .head | apply Take.tail))))⟩, ?_⟩
          refine vd_op rfl rfl ?_
          refine vl_on rfl rfl rfl rfl ?_
          have hk8 : (b2.take (min q.toNat b2.length)).length ≤ b2.length := by rw [List.length_take]; omega
          refine vl_append (vs := bcells b1) (us := bcells (b2.take (min q.toNat b2.length))) sT22 rfl rfl (.some rfl) rfl rfl (rd_old (by rw [btake]; exact hr2.take _) rfl) (by rw [bcells_length, Nat.mul_one]) (one_b _) (by omega) (by omega) (by repeat constructor) (fun A87 k87 => ?_)
          rw [bappV, ← List.length_append]
          refine vl_nil ?_
          refine ⟨fun _ => ⟨_, (by repeat (first | exact .nil | exact sub_self _ | exact sub_skip (sub_self _) | exact sub_skip (sub_skip (sub_self _)) | exact sub_skip (sub_skip (sub_skip (sub_self _))) | (apply Sub.cons; · repeat (first | exact .head | apply Take.tail))))⟩, ?_⟩
          refine vd_op rfl rfl ?_
          refine vl_on rfl rfl rfl rfl ?_
          refine vl_callV rfl rfl (.some rfl) Try.call17 rfl (fun w hw => vSameB _ _ _ _ (b1 ++ b2.take (min q.toNat b2.length)) (b1 ++ b2.take (min q.toNat b2.length)) w (rdw (rd_sl (by repeat constructor)) hw) (rdw (rd_sl (by repeat constructor)) hw)) ?_
          rw [decide_eq_true rfl]
          refine vl_nil ?_
          refine ⟨fun _ => ⟨_, (by repeat (first | exact .nil | exact sub_self _ | exact sub_skip (sub_self _) | exact sub_skip (sub_skip (sub_self _)) | exact sub_skip (sub_skip (sub_skip (sub_self _))) | (apply Sub.cons; · repeat (first | exact .head | apply Take.tail))))⟩, ?_⟩
          refine vd_val rfl rfl rfl (.some rfl) (val_pick rfl rfl) ?_
          refine vd_val rfl rfl rfl (.some rfl) (val_move rfl) ?_
          refine vd_op rfl rfl ?_
          refine vl_on rfl rfl rfl rfl ?_
          refine vl_call (C := []) rfl rfl (.some rfl) Try.call32 rfl .nil (fun w hw => dLives w) (fun v H' h => ?_)
          obtain ⟨rfl, rfl⟩ := h
          show VL _ _ _ _ _ _
          refine vl_nil ?_
          refine ⟨fun _ => ⟨_, (by repeat (first | exact .nil | exact sub_self _ | exact sub_skip (sub_self _) | exact sub_skip (sub_skip (sub_self _)) | exact sub_skip (sub_skip (sub_skip (sub_self _))) | (apply Sub.cons; · repeat (first | exact .head | apply Take.tail))))⟩, ?_⟩
          refine vd_val rfl rfl rfl (.some rfl) (val_pick rfl rfl) ?_
          refine vd_val rfl rfl rfl (.some rfl) (val_assign rfl) ?_
          refine vd_nil ?_
          refine vc_ret ?_
          refine ⟨_, [], _, res1 Try.results9 rfl, .nil, ?_⟩
          first | rfl | (exfalso; first | omega | contradiction)

theorem law_VfsKeeps (B : Option Addr) (cb : Nat) (b1 : List UInt8) (M0 : Option Addr) (cm : Nat) (b2 : List UInt8) (q : Int) (w : World) (g1 : Reads w B (bcells b1)) (g2 : b1.length ≤ cb) (g3 : b1.length * 1 ≤ 140737488351232) (g4 : Reads w M0 (bcells b2)) (g5 : b2.length ≤ cm) (g6 : b2.length * 1 ≤ 140737488351232) (g7 : -9223372036854775808 ≤ q ∧ q < 9223372036854775808) :
    FnV Try.prog 9 [.slice B b1.length cb, .slice M0 b2.length cm, .int .i64 q] (.bool true) w := xKeeps B cb b1 M0 cm b2 q g7 g5 w g1 g4


end Go.Proofs.Ytclnhfdgiaamhaa.K
