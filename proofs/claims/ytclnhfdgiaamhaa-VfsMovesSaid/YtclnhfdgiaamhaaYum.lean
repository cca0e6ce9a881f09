/- Walks of the program's functions, printed by a program of this session; Lean checks them. -/
import Derived.Test.YtclnhfdgiaamhaaYug
namespace Go.Proofs.Ytclnhfdgiaamhaa.K
open Go Go.RowKit Go.Proofs
set_option linter.unusedVariables false
set_option linter.unusedSimpArgs false


set_option maxRecDepth 20000 in
theorem dWriteO (d a : Nat) (K : Option Addr) (kn kc : Nat) (ops : Int) (hops : 0 ≤ ops ∧ ops < 4611686018427387904) (name : List UInt8) (hnm : fnameP name) (f : Nat) (A : Option Addr) (c : Nat) (b : List UInt8) (sy : Int) (B : Option Addr) (cb : Nat) (b2 : List UInt8) (hb : b.length + b2.length ≤ 1048576) (w : World) (hr : ReadsM w (fps [DK d a false 0 K kn kc ops, mq kS a [name] [.pointer (some ⟨f, 0, none⟩)], FL f A (b).length c sy, BY A (b).length c (b)]) B (bcells b2)) : Fn Try.prog 35 [.pointer (some ⟨d, 0, none⟩), .string (sL name), .slice B b2.length cb] [DK d a false 0 K kn kc ops, mq kS a [name] [.pointer (some ⟨f, 0, none⟩)], FL f A (b).length c sy, BY A (b).length c (b)] (ret fun v H' => v = .int .i64 0 ∧ ∃ A' c', H' = [DK d a false 0 K kn kc (ops + 1), mq kS a [name] [.pointer (some ⟨f, 0, none⟩)], FL f A' (b ++ b2).length c' sy, BY A' (b ++ b2).length c' (b ++ b2)]) w := by
  refine fn_enter Try.func35 rfl Try.ntmps35 rfl ?_
  refine vc_seq ?_
  refine vc_region ?_
  refine vl_val rfl (.some rfl) (val_assign rfl) ?_
  refine vl_nil ?_
  refine vc_seq ?_
  refine vc_region ?_
  refine vl_val rfl (.some rfl) (val_move rfl) ?_
  refine vl_val rfl (.some rfl) (val_move rfl) ?_
  refine vl_callR [DK d a false 0 K kn kc ops, mq kS a [name] [.pointer (some ⟨f, 0, none⟩)]] rfl rfl (.some rfl) Try.call76 rfl (by repeat constructor) (fun w hw => dOf d a 0 K kn kc ops name hnm [name] [.pointer (some ⟨f, 0, none⟩)] 0 f kf1 w) ?_
  refine vl_val rfl (.some rfl) (val_move rfl) ?_
  refine vl_val rfl (.some rfl) (val_extract rfl rfl) ?_
  refine vl_val rfl (.some rfl) (val_extract rfl rfl) ?_
  refine vl_val rfl (.some rfl) (val_assign rfl) ?_
  refine vl_val rfl (.some rfl) (val_assign rfl) ?_
  refine vl_nil ?_
  refine vc_seq ?_
  refine vc_block ?_
  refine vc_seq ?_
  refine vc_region ?_
  refine vl_val rfl (.some rfl) (val_move rfl) ?_
  refine vl_val rfl (.some rfl) (val_ne rfl rfl) ?_
  refine vl_val rfl (.some rfl) (val_assign rfl) ?_
  refine vl_nil ?_
  refine vc_cond rfl (fun hc0 => False.elim (by (try replace hc0 := of_decide_eq_true hc0); exact hc0 rfl)) (fun hc0 => ?_)
  (try replace hc0 := of_decide_eq_false hc0)
  refine vc_seq ?_
  refine vc_region ?_
  refine vl_val rfl (.some rfl) (val_move rfl) ?_
  refine vl_val rfl (.some rfl) (val_lenSl Try.runUnderlying22 rfl) ?_
  refine vl_val rfl (.some rfl) (val_move rfl) ?_
  refine vl_val rfl (.some rfl) (val_nil rfl rfl) ?_
  refine vl_val rfl (.some rfl) (by first | exact val_fieldAddr Try.runUnderlying139 rfl Try.sizeOf22 rfl | exact val_fieldAddrR Try.runUnderlying139 rfl Try.sizeOf22 rfl) ?_
  refine vl_val rfl (.some rfl) (val_load Try.isAgg22 rfl (by first | exact cell_cells (by repeat constructor) rfl | exact cell_rd (by first | exact rd_sl (by repeat constructor) | exact rd_old (by assumption) rfl) (by first | exact bcells_at (by omega) | exact ucells_at (by omega) | exact icells_at (by omega) | exact tcells_at (by omega) | exact bcells_get (by omega) | exact icells_get (by omega) | exact tcells_get (by omega) | exact ucells_get (by omega)) | exact cell_old (by assumption) (by simp [fps]))) ?_
  refine vl_val rfl (.some rfl) (val_lenSl Try.runUnderlying22 rfl) ?_
  refine vl_val rfl (.some rfl) (val_sub rfl rfl (by first | exact w_i64 (by omega) (by omega) | rfl)) ?_
  refine vl_val rfl (.some rfl) (val_gt rfl rfl) ?_
  refine vl_val rfl (.some rfl) (val_assign rfl) ?_
  refine vl_nil ?_
  refine vc_cond rfl (fun hc1 => False.elim (by (try replace hc1 := of_decide_eq_true hc1); omega)) (fun hc1 => ?_)
  (try replace hc1 := of_decide_eq_false hc1)
  refine vc_skip ?_
  refine vc_seq ?_
  refine vc_region ?_
  refine vl_val rfl (.some rfl) (val_move rfl) ?_
  refine vl_val rfl (.some rfl) (val_move rfl) ?_
  refine vl_val rfl (.some rfl) (val_nil rfl rfl) ?_
  refine vl_val rfl (.some rfl) (by first | exact val_fieldAddr Try.runUnderlying139 rfl Try.sizeOf22 rfl | exact val_fieldAddrR Try.runUnderlying139 rfl Try.sizeOf22 rfl) ?_
  refine vl_val rfl (.some rfl) (val_load Try.isAgg22 rfl (by first | exact cell_cells (by repeat constructor) rfl | exact cell_rd (by first | exact rd_sl (by repeat constructor) | exact rd_old (by assumption) rfl) (by first | exact bcells_at (by omega) | exact ucells_at (by omega) | exact icells_at (by omega) | exact tcells_at (by omega) | exact bcells_get (by omega) | exact icells_get (by omega) | exact tcells_get (by omega) | exact ucells_get (by omega)) | exact cell_old (by assumption) (by simp [fps]))) ?_
  refine vl_val rfl (.some rfl) (val_move rfl) ?_
  refine vl_append (vs := bcells b) (us := bcells b2) sT22 rfl rfl (.some rfl) rfl rfl (rd_oldM hr) (by rw [bcells_length, Nat.mul_one]) (one_b _) (by omega) (by omega) (by repeat constructor) (fun A35 k35 => ?_)
  rw [bappV, ← List.length_append]
  refine vl_val rfl (.some rfl) (val_nil rfl rfl) ?_
  refine vl_val rfl (.some rfl) (by first | exact val_fieldAddr Try.runUnderlying139 rfl Try.sizeOf22 rfl | exact val_fieldAddrR Try.runUnderlying139 rfl Try.sizeOf22 rfl) ?_
  first | refine vl_store rfl rfl .none rfl rfl Try.sizeOf22 rfl (by repeat constructor) (by first | decide | exact Nat.le_refl _ | exact Nat.le_of_ble_eq_true rfl | (simp; omega)) ?_ | refine vl_storeSl rfl rfl .none rfl rfl Try.sizeOf22 rfl (by simp [Value.cells]) (by repeat constructor) (by first | decide | (simp [Value.cells]; omega)) ?_
  refine vl_nil ?_
  refine vc_seq ?_
  refine vc_region ?_
  refine vl_val rfl (.some rfl) (val_move rfl) ?_
  refine vl_call (C := DK d a false 0 K kn kc ops :: []) rfl rfl (.some rfl) Try.call74 rfl (by repeat constructor) (fun w hw => dOp0 d a false K kn kc ops hops 77 [] [] [] (fun C' => C' = []) Try.call77 (fun w => by
    have h := dW1 (DK d a false 0 K kn kc (ops + 1)) w
    exact h) w) (fun v H' h => ?_)
  obtain ⟨rfl, C', rfl, rfl⟩ := h
  show VL _ _ _ _ _ (_ :: _)
  refine vl_val rfl (.some rfl) (val_assign rfl) ?_
  refine vl_nil ?_
  refine vc_ret ?_
  refine ⟨_, [DK d a false 0 K kn kc (ops + 1), mq kS a [name] [.pointer (some ⟨f, 0, none⟩)], FL f A35 (b ++ b2).length k35 sy, BY A35 (b ++ b2).length k35 (b ++ b2)], _, res1 Try.results35 rfl, (by repeat constructor), ?_⟩
  exact ⟨rfl, A35, k35, rfl⟩
theorem same_isV (a b : List UInt8) : decide ((⟨a.toArray⟩ : ByteArray) = ⟨b.toArray⟩) = decide (a = b) := by
  rw [decide_eq_decide]; exact ⟨fun h => by simpa using h, fun h => by rw [h]⟩
set_option maxRecDepth 20000 in
theorem vSameB (A B : Option Addr) (c d : Nat) (a b : List UInt8) (w : World) (hr : Reads w A (bcells a)) (hr2 : Reads w B (bcells b)) : FnV Try.prog 17 [.slice A a.length c, .slice B b.length d] (.bool (decide (a = b))) w := by
  refine fn_enter Try.func17 rfl Try.ntmps17 rfl ?_
  refine vc_seq ?_
  refine vc_region ?_
  refine vl_val rfl (.some rfl) (val_assign rfl) ?_
  refine vl_nil ?_
  refine vc_seq ?_
  refine vc_region ?_
  refine vl_val rfl (.some rfl) (val_move rfl) ?_
  refine vl_val rfl (.some rfl) (val_bytesToStr Try.runUnderlying22 Try.runUnderlying5 Try.runUnderlying9 rfl (by first | exact rd_sl (by repeat constructor) | exact rd_slr (by repeat constructor) | exact rd_old (by assumption) rfl) (by first | rfl | (simp; done) | omega)) ?_
  refine vl_val rfl (.some rfl) (val_move rfl) ?_
  refine vl_val rfl (.some rfl) (val_bytesToStr Try.runUnderlying22 Try.runUnderlying5 Try.runUnderlying9 rfl (by first | exact rd_sl (by repeat constructor) | exact rd_slr (by repeat constructor) | exact rd_old (by assumption) rfl) (by first | rfl | (simp; done) | omega)) ?_
  refine vl_val rfl (.some rfl) (val_seq rfl rfl) ?_
  refine vl_val rfl (.some rfl) (val_assign rfl) ?_
  refine vl_nil ?_
  refine vc_ret ?_
  refine ⟨_, [], _, res1 Try.results17 rfl, .nil, ?_⟩
  show _ = _; rw [same_isV]
end Go.Proofs.Ytclnhfdgiaamhaa.K
