/- Walks of the program's functions, printed by a program of this session; Lean checks them. -/
import Derived.Test.YtclknendeeljaaaYkq
namespace Go.Proofs.Ytclknendeeljaaa.K
open Go Go.RowKit Go.Proofs
set_option linter.unusedVariables false
set_option linter.unusedSimpArgs false


/-- Four sketches, two and two alike. -/
abbrev StA (t : Nat) (S : List (Nat × Nat)) (E0 E : Env) (H : List Chunk) : Prop := ∃ (b1 : Nat) (As1 : Option Addr) (cs1 : Nat) (Ac1 : Option Addr) (cc1 : Nat) (K1 : List (Sl Nat)) (b2 : Nat) (As2 : Option Addr) (cs2 : Nat) (Ac2 : Option Addr) (cc2 : Nat) (K2 : List (Sl Nat)) (b3 : Nat) (As3 : Option Addr) (cs3 : Nat) (Al3 : Option Addr) (cl3 : Nat) (R3 : List (Sl Nat)) (b4 : Nat) (As4 : Option Addr) (cs4 : Nat) (Al4 : Option Addr) (cl4 : Nat) (R4 : List (Sl Nat)) (V1 V2 : List (List Nat)), vals K1 = V1 ∧ vals K2 = V2 ∧ vals R3 = V1 ∧ vals R4 = V2 ∧ OkK t S V1 ∧ OkK t S V2 ∧ E = (5, .pointer (some ⟨b1, 0, none⟩)) :: (6, .pointer (some ⟨b2, 0, none⟩)) :: (7, .pointer (some ⟨b3, 0, none⟩)) :: (8, .pointer (some ⟨b4, 0, none⟩)) :: E0 ∧ H = [SDc As1 S.length cs1 S, SDc As2 S.length cs2 S, SDc As3 S.length cs3 S, SDc As4 S.length cs4 S] ++ KQ b1 t As1 cs1 S Ac1 cc1 K1 ++ KQ b2 t As2 cs2 S Ac2 cc2 K2 ++ RQ b3 t As3 cs3 S Al3 cl3 R3 ++ RQ b4 t As4 cs4 S Al4 cl4 R4
abbrev Aq := Int × Nat × Unit
abbrev actV (a : Aq) : List Value := [.int .i64 a.1, .int .u64 (a.2.1 : Nat)]
def aqC (v : Aq) : List Value := [.int .i64 v.1] ++ ([.int .u64 (v.2.1 : Nat)] ++ [])
theorem act_len (l : List Aq) : (l.flatMap aqC).length = l.length * 2 := flat_length (f := aqC) (m := 2) (fun _ => rfl) l
theorem act_at {l : List Aq} {i : Nat} {q : Int} (hq : q = (i : Int)) (h : i < l.length) : ((l.flatMap aqC).drop (Int.toNat q * 2)).take 2 = actV (l.getD i (0, 0, ())) := by
  rw [hq, Int.toNat_natCast]; exact flat_atM (m := 2) (f := aqC) (fun _ => rfl) (0, 0, ()) l i h

set_option maxRecDepth 20000 in
theorem aBad (T Kk Mm : Int) (A : Option Addr) (c : Nat) (S : List (Nat × Nat)) (hS : S.length < 9223372036854775808) (hb : ∀ s ∈ S, s.1 < 18446744073709551616 ∧ s.2 < 18446744073709551616) (w : World) (hr : Reads w A (seedC S)) (hg : ¬ goodK T S Kk Mm) (B : Option Addr) (d : Nat) (l : List Aq) (hll : l.length ≤ 9223372036854775807) (hul : ∀ a ∈ l, (-9223372036854775808 ≤ a.1 ∧ a.1 < 9223372036854775808) ∧ a.2.1 < 18446744073709551616 ∧ True) : FnV Try.prog 5 [.agg #[.int .i64 T, .slice A S.length c, .int .i64 Kk, .int .i64 Mm], .slice B l.length d] (.bool true) w := by
  refine fn_enter Try.func5 rfl Try.ntmps5 rfl ?_
  refine vc_seq ?_
  refine vc_region ?_
  refine vl_box rfl rfl (.some rfl) rfl (fun r2 => ?_)
  refine vl_val rfl (.some rfl) (val_assign rfl) ?_
  refine vl_nil ?_
  refine vc_seq ?_
  refine vc_drawsS [0, 2, 4, 5] [] [0, 2, 1, 3, 4, 5] [cells r2 [.int .i64 T, .slice A S.length c, .int .i64 Kk, .int .i64 Mm] 24] (by repeat (first | exact .nil | (apply Sub.cons; · repeat (first | exact .head | apply Take.tail)))) rfl (by kernel_rfl) (fun _ _ _ h => h) ?_
  refine vd_val rfl rfl rfl (.some rfl) (val_loadAgg Try.isAgg24 Try.sizeOf24 rfl (by first | exact cells_whole (by repeat (first | exact .head | apply In.tail | apply Take.tail | apply Upd.tail)) | exact cells_part (by repeat (first | exact .head | apply In.tail | apply Take.tail | apply Upd.tail)) rfl) rfl) ?_
  refine vd_val rfl rfl rfl (.some rfl) (val_loadAgg Try.isAgg24 Try.sizeOf24 rfl (by first | exact cells_whole (by repeat (first | exact .head | apply In.tail | apply Take.tail | apply Upd.tail)) | exact cells_part (by repeat (first | exact .head | apply In.tail | apply Take.tail | apply Upd.tail)) rfl) rfl) ?_
  refine vd_op rfl rfl ?_
  refine vl_callV rfl rfl (.some rfl) Try.call12 rfl (fun w hw => kNewBad T Kk Mm A c S hS hb w (rdw (rd_old hr rfl) hw) hg) ?_
  refine vl_nil ?_
  refine ⟨fun _ => ⟨_, (by repeat (first | exact .nil | (apply Sub.cons; · repeat (first | exact .head | apply Take.tail))))⟩, ?_⟩
  refine vd_op rfl rfl ?_
  refine vl_callV rfl rfl (.some rfl) Try.call12 rfl (fun w hw => kNewBad T Kk Mm A c S hS hb w (rdw (rd_old hr rfl) hw) hg) ?_
  refine vl_nil ?_
  refine ⟨fun _ => ⟨_, (by repeat (first | exact .nil | (apply Sub.cons; · repeat (first | exact .head | apply Take.tail))))⟩, ?_⟩
  refine vd_val rfl rfl rfl (.some rfl) (val_assign rfl) ?_
  refine vd_val rfl rfl rfl (.some rfl) (val_assign rfl) ?_
  refine vd_nil ?_
  refine vc_seq ?_
  refine vc_drawsS [0, 2, 4, 5] [] [0, 2, 1, 3, 4, 5] [cells r2 [.int .i64 T, .slice A S.length c, .int .i64 Kk, .int .i64 Mm] 24] (by repeat (first | exact .nil | (apply Sub.cons; · repeat (first | exact .head | apply Take.tail)))) rfl (by kernel_rfl) (fun _ _ _ h => h) ?_
  refine vd_val rfl rfl rfl (.some rfl) (val_loadAgg Try.isAgg24 Try.sizeOf24 rfl (by first | exact cells_whole (by repeat (first | exact .head | apply In.tail | apply Take.tail | apply Upd.tail)) | exact cells_part (by repeat (first | exact .head | apply In.tail | apply Take.tail | apply Upd.tail)) rfl) rfl) ?_
  refine vd_val rfl rfl rfl (.some rfl) (val_loadAgg Try.isAgg24 Try.sizeOf24 rfl (by first | exact cells_whole (by repeat (first | exact .head | apply In.tail | apply Take.tail | apply Upd.tail)) | exact cells_part (by repeat (first | exact .head | apply In.tail | apply Take.tail | apply Upd.tail)) rfl) rfl) ?_
  refine vd_op rfl rfl ?_
  refine vl_callV rfl rfl (.some rfl) Try.call23 rfl (fun w hw => wNewBad T Kk Mm A c S hS hb w (rdw (rd_old hr rfl) hw) hg) ?_
  refine vl_nil ?_
  refine ⟨fun _ => ⟨_, (by repeat (first | exact .nil | (apply Sub.cons; · repeat (first | exact .head | apply Take.tail))))⟩, ?_⟩
  refine vd_op rfl rfl ?_
  refine vl_callV rfl rfl (.some rfl) Try.call23 rfl (fun w hw => wNewBad T Kk Mm A c S hS hb w (rdw (rd_old hr rfl) hw) hg) ?_
  refine vl_nil ?_
  refine ⟨fun _ => ⟨_, (by repeat (first | exact .nil | (apply Sub.cons; · repeat (first | exact .head | apply Take.tail))))⟩, ?_⟩
  refine vd_val rfl rfl rfl (.some rfl) (val_assign rfl) ?_
  refine vd_val rfl rfl rfl (.some rfl) (val_assign rfl) ?_
  refine vd_nil ?_
  refine vc_seq ?_
  refine vc_seq ?_
  refine vc_drawsS [0, 2, 4, 5, 6, 7, 8, 9, 10, 11] [] [0, 2, 1, 3, 4, 5, 6, 7, 8, 9, 10, 11] [cells r2 [.int .i64 T, .slice A S.length c, .int .i64 Kk, .int .i64 Mm] 24] (by repeat (first | exact .nil | (apply Sub.cons; · repeat (first | exact .head | apply Take.tail)))) rfl (by kernel_rfl) (fun _ _ _ h => h) ?_
  refine vd_val rfl rfl rfl (.some rfl) (val_loadAgg Try.isAgg24 Try.sizeOf24 rfl (by first | exact cells_whole (by repeat (first | exact .head | apply In.tail | apply Take.tail | apply Upd.tail)) | exact cells_part (by repeat (first | exact .head | apply In.tail | apply Take.tail | apply Upd.tail)) rfl) rfl) ?_
  refine vd_val rfl rfl rfl (.some rfl) (val_loadAgg Try.isAgg24 Try.sizeOf24 rfl (by first | exact cells_whole (by repeat (first | exact .head | apply In.tail | apply Take.tail | apply Upd.tail)) | exact cells_part (by repeat (first | exact .head | apply In.tail | apply Take.tail | apply Upd.tail)) rfl) rfl) ?_
  refine vd_op rfl rfl ?_
  refine vl_callV rfl rfl (.some rfl) Try.call13 rfl (fun w hw => kGood T Kk Mm A c S hS hb w (rdw (rd_old hr rfl) hw)) ?_
  rw [decide_eq_false hg]
  refine vl_nil ?_
  refine ⟨fun _ => ⟨_, (by repeat (first | exact .nil | (apply Sub.cons; · repeat (first | exact .head | apply Take.tail))))⟩, ?_⟩
  refine vd_op rfl rfl ?_
  refine vl_callV rfl rfl (.some rfl) Try.call24 rfl (fun w hw => wGood T Kk Mm A c S hS hb w (rdw (rd_old hr rfl) hw)) ?_
  rw [decide_eq_false hg]
  refine vl_nil ?_
  refine ⟨fun _ => ⟨_, (by repeat (first | exact .nil | (apply Sub.cons; · repeat (first | exact .head | apply Take.tail))))⟩, ?_⟩
  refine vd_val rfl rfl rfl (.some rfl) (val_bnet Try.underlying4 rfl rfl (rfl)) ?_
  refine vd_val rfl rfl rfl (.some rfl) (val_move rfl) ?_
  refine vd_on rfl rfl rfl rfl rfl rfl (.some rfl) (val_move rfl) ?_
  refine vd_on rfl rfl rfl rfl rfl rfl (.some rfl) (val_opO rfl rfl guard_ptr (bin_nil_eq Try.runUnderlying26)) ?_
  refine vd_on rfl rfl rfl rfl rfl rfl (.some rfl) (val_move rfl) ?_
  refine vd_on rfl rfl rfl rfl rfl rfl (.some rfl) (val_opO rfl rfl guard_ptr (bin_nil_eq Try.runUnderlying47)) ?_
  refine vd_on rfl rfl rfl rfl rfl rfl (.some rfl) (val_bnet Try.underlying4 rfl rfl (rfl)) ?_
  refine vd_val rfl rfl rfl (.some rfl) (val_pick rfl rfl) ?_
  refine vd_nil ?_
  refine vc_cond rfl (fun h => by cases h) (fun _ => ?_)
  refine vc_skip ?_
  refine vc_seq ?_
  refine vc_seq ?_
  refine vc_region ?_
  refine vl_val rfl (.some rfl) (val_move rfl) ?_
  refine vl_val rfl (.some rfl) (val_opO rfl rfl guard_ptr (bin_nil_eq Try.runUnderlying47)) ?_
  refine vl_val rfl (.some rfl) (val_move rfl) ?_
  refine vl_off rfl rfl rfl rfl (.some rfl) ?_
  refine vl_off rfl rfl rfl rfl (.some rfl) ?_
  refine vl_off rfl rfl rfl rfl (.some rfl) ?_
  refine vl_val rfl (.some rfl) (val_pick rfl rfl) ?_
  refine vl_nil ?_
  refine vc_cond rfl (fun _ => ?_) (fun h => by cases h)
  refine vc_seq ?_
  refine vc_region ?_
  refine vl_callV rfl rfl (.some rfl) Try.call14 rfl (fun w hw => kLives w) ?_
  refine vl_val rfl (.some rfl) (val_assign rfl) ?_
  refine vl_nil ?_
  refine vc_ret ?_
  refine ⟨_, [], _, res1 Try.results5 rfl, .nil, ?_⟩
  rfl
set_option maxRecDepth 20000 in
set_option maxHeartbeats 4000000 in
theorem aGood (t : Nat) (Kk Mm : Int) (A : Option Addr) (c : Nat) (S : List (Nat × Nat)) (hS : S.length < 9223372036854775808) (hb : ∀ s ∈ S, s.1 < 18446744073709551616 ∧ s.2 < 18446744073709551616) (w : World) (hr : Reads w A (seedC S)) (hg : goodK t S Kk Mm) (B : Option Addr) (d : Nat) (l : List Aq) (hll : l.length ≤ 9223372036854775807) (hul : ∀ a ∈ l, (-9223372036854775808 ≤ a.1 ∧ a.1 < 9223372036854775808) ∧ a.2.1 < 18446744073709551616 ∧ True) (hrl : Reads w B (l.flatMap aqC)) : FnV Try.prog 5 [.agg #[.int .i64 (t : Nat), .slice A S.length c, .int .i64 Kk, .int .i64 Mm], .slice B l.length d] (.bool true) w := by
  have hk0 := okK_new hg hb
  refine fn_enter Try.func5 rfl Try.ntmps5 rfl ?_
  refine vc_seq ?_
  refine vc_region ?_
  refine vl_box rfl rfl (.some rfl) rfl (fun r2 => ?_)
  refine vl_val rfl (.some rfl) (val_assign rfl) ?_
  refine vl_nil ?_
  refine vc_seq ?_
  refine vc_drawsS [0, 2, 4, 5] [] [0, 2, 1, 3, 4, 5] [cells r2 [.int .i64 (t : Nat), .slice A S.length c, .int .i64 Kk, .int .i64 Mm] 24] (by repeat (first | exact .nil | (apply Sub.cons; · repeat (first | exact .head | apply Take.tail)))) rfl (by kernel_rfl) (fun _ _ _ h => h) ?_
  refine vd_val rfl rfl rfl (.some rfl) (val_loadAgg Try.isAgg24 Try.sizeOf24 rfl (by first | exact cells_whole (by repeat (first | exact .head | apply In.tail | apply Take.tail | apply Upd.tail)) | exact cells_part (by repeat (first | exact .head | apply In.tail | apply Take.tail | apply Upd.tail)) rfl) rfl) ?_
  refine vd_val rfl rfl rfl (.some rfl) (val_loadAgg Try.isAgg24 Try.sizeOf24 rfl (by first | exact cells_whole (by repeat (first | exact .head | apply In.tail | apply Take.tail | apply Upd.tail)) | exact cells_part (by repeat (first | exact .head | apply In.tail | apply Take.tail | apply Upd.tail)) rfl) rfl) ?_
  refine vd_op rfl rfl ?_
  refine vl_call (C := []) rfl rfl (.some rfl) Try.call12 rfl .nil (fun w hw => qNew t Kk Mm A c S hb w (rdw (rd_old hr rfl) hw) hg) (fun v H' h => ?_)
  obtain ⟨b1, As1, cs1, Ac1, cc1, L1, rfl, hL1, rfl⟩ := h
  show VL _ _ _ _ _ (_ :: _ :: _ :: _ :: _)
  refine vl_nil ?_
  refine ⟨fun _ => ⟨_, (by repeat (first | exact .nil | (apply Sub.cons; · repeat (first | exact .head | apply Take.tail))))⟩, ?_⟩
  refine vd_op rfl rfl ?_
  refine vl_call (C := []) rfl rfl (.some rfl) Try.call12 rfl .nil (fun w hw => qNew t Kk Mm A c S hb w (rdw (rd_old hr rfl) hw) hg) (fun v H' h => ?_)
  obtain ⟨b2, As2, cs2, Ac2, cc2, L2, rfl, hL2, rfl⟩ := h
  show VL _ _ _ _ _ (_ :: _ :: _ :: _ :: _)
  refine vl_nil ?_
  refine ⟨fun _ => ⟨_, (by repeat (first | exact .nil | (apply Sub.cons; · repeat (first | exact .head | apply Take.tail))))⟩, ?_⟩
  refine vd_val rfl rfl rfl (.some rfl) (val_assign rfl) ?_
  refine vd_val rfl rfl rfl (.some rfl) (val_assign rfl) ?_
  refine vd_nil ?_
  refine vc_seq ?_
  refine vc_drawsS [0, 2, 4, 5] [] [0, 2, 1, 3, 4, 5] [cells r2 [.int .i64 (t : Nat), .slice A S.length c, .int .i64 Kk, .int .i64 Mm] 24] (by repeat (first | exact .nil | (apply Sub.cons; · repeat (first | exact .head | apply Take.tail)))) rfl (by kernel_rfl) (fun _ _ _ h => h) ?_
  refine vd_val rfl rfl rfl (.some rfl) (val_loadAgg Try.isAgg24 Try.sizeOf24 rfl (by first | exact cells_whole (by repeat (first | exact .head | apply In.tail | apply Take.tail | apply Upd.tail)) | exact cells_part (by repeat (first | exact .head | apply In.tail | apply Take.tail | apply Upd.tail)) rfl) rfl) ?_
  refine vd_val rfl rfl rfl (.some rfl) (val_loadAgg Try.isAgg24 Try.sizeOf24 rfl (by first | exact cells_whole (by repeat (first | exact .head | apply In.tail | apply Take.tail | apply Upd.tail)) | exact cells_part (by repeat (first | exact .head | apply In.tail | apply Take.tail | apply Upd.tail)) rfl) rfl) ?_
  refine vd_op rfl rfl ?_
  refine vl_call (C := []) rfl rfl (.some rfl) Try.call23 rfl .nil (fun w hw => wNew t Kk Mm A c S hS hb w (rdw (rd_old hr rfl) hw) hg) (fun v H' h => ?_)
  obtain ⟨b3, As3, cs3, Al3, cl3, R3, rfl, hR3, rfl⟩ := h
  show VL _ _ _ _ _ (_ :: _ :: _ :: _ :: _)
  refine vl_nil ?_
  refine ⟨fun _ => ⟨_, (by repeat (first | exact .nil | (apply Sub.cons; · repeat (first | exact .head | apply Take.tail))))⟩, ?_⟩
  refine vd_op rfl rfl ?_
  refine vl_call (C := []) rfl rfl (.some rfl) Try.call23 rfl .nil (fun w hw => wNew t Kk Mm A c S hS hb w (rdw (rd_old hr rfl) hw) hg) (fun v H' h => ?_)
  obtain ⟨b4, As4, cs4, Al4, cl4, R4, rfl, hR4, rfl⟩ := h
  show VL _ _ _ _ _ (_ :: _ :: _ :: _ :: _)
  refine vl_nil ?_
  refine ⟨fun _ => ⟨_, (by repeat (first | exact .nil | (apply Sub.cons; · repeat (first | exact .head | apply Take.tail))))⟩, ?_⟩
  refine vd_val rfl rfl rfl (.some rfl) (val_assign rfl) ?_
  refine vd_val rfl rfl rfl (.some rfl) (val_assign rfl) ?_
  refine vd_nil ?_
  refine vc_seq ?_
  refine vc_seq ?_
  refine vc_drawsS [0, 2, 4, 5, 6, 7, 8, 9, 10, 11] [] [0, 2, 1, 3, 4, 5, 6, 7, 8, 9, 10, 11] [cells r2 [.int .i64 (t : Nat), .slice A S.length c, .int .i64 Kk, .int .i64 Mm] 24] (by repeat (first | exact .nil | (apply Sub.cons; · repeat (first | exact .head | apply Take.tail)))) rfl (by kernel_rfl) (fun _ _ _ h => h) ?_
  refine vd_val rfl rfl rfl (.some rfl) (val_loadAgg Try.isAgg24 Try.sizeOf24 rfl (by first | exact cells_whole (by repeat (first | exact .head | apply In.tail | apply Take.tail | apply Upd.tail)) | exact cells_part (by repeat (first | exact .head | apply In.tail | apply Take.tail | apply Upd.tail)) rfl) rfl) ?_
  refine vd_val rfl rfl rfl (.some rfl) (val_loadAgg Try.isAgg24 Try.sizeOf24 rfl (by first | exact cells_whole (by repeat (first | exact .head | apply In.tail | apply Take.tail | apply Upd.tail)) | exact cells_part (by repeat (first | exact .head | apply In.tail | apply Take.tail | apply Upd.tail)) rfl) rfl) ?_
  refine vd_op rfl rfl ?_
  refine vl_callV rfl rfl (.some rfl) Try.call13 rfl (fun w hw => kGood t Kk Mm A c S hS hb w (rdw (rd_old hr rfl) hw)) ?_
  rw [decide_eq_true hg]
  refine vl_nil ?_
  refine ⟨fun _ => ⟨_, (by repeat (first | exact .nil | (apply Sub.cons; · repeat (first | exact .head | apply Take.tail))))⟩, ?_⟩
  refine vd_op rfl rfl ?_
  refine vl_callV rfl rfl (.some rfl) Try.call24 rfl (fun w hw => wGood t Kk Mm A c S hS hb w (rdw (rd_old hr rfl) hw)) ?_
  rw [decide_eq_true hg]
  refine vl_nil ?_
  refine ⟨fun _ => ⟨_, (by repeat (first | exact .nil | (apply Sub.cons; · repeat (first | exact .head | apply Take.tail))))⟩, ?_⟩
  refine vd_val rfl rfl rfl (.some rfl) (val_bnet Try.underlying4 rfl rfl (rfl)) ?_
  refine vd_val rfl rfl rfl (.some rfl) (val_move rfl) ?_
  refine vd_on rfl rfl rfl rfl rfl rfl (.some rfl) (val_move rfl) ?_
  refine vd_on rfl rfl rfl rfl rfl rfl (.some rfl) (val_opO rfl rfl guard_ptr (bin_ptr_eq Try.runUnderlying26)) ?_
  refine vd_on rfl rfl rfl rfl rfl rfl (.some rfl) (val_move rfl) ?_
  refine vd_on rfl rfl rfl rfl rfl rfl (.some rfl) (val_opO rfl rfl guard_ptr (bin_ptr_eq Try.runUnderlying47)) ?_
  refine vd_on rfl rfl rfl rfl rfl rfl (.some rfl) (val_bnet Try.underlying4 rfl rfl (rfl)) ?_
  refine vd_val rfl rfl rfl (.some rfl) (val_pick rfl rfl) ?_
  refine vd_nil ?_
  refine vc_cond rfl (fun h => by cases h) (fun _ => ?_)
  refine vc_skip ?_
  refine vc_seq ?_
  refine vc_seq ?_
  refine vc_region ?_
  refine vl_val rfl (.some rfl) (val_move rfl) ?_
  refine vl_val rfl (.some rfl) (val_opO rfl rfl guard_ptr (bin_ptr_eq Try.runUnderlying47)) ?_
  refine vl_val rfl (.some rfl) (val_move rfl) ?_
  refine vl_on rfl rfl rfl rfl ?_
  refine vl_val rfl (.some rfl) (val_move rfl) ?_
  refine vl_on rfl rfl rfl rfl ?_
  refine vl_val rfl (.some rfl) (val_lenSl Try.runUnderlying46 rfl) ?_
  refine vl_on rfl rfl rfl rfl ?_
  refine vl_val rfl (.some rfl) (val_gt rfl rfl) ?_
  refine vl_val rfl (.some rfl) (val_pick rfl rfl) ?_
  refine vl_nil ?_
  refine vc_cond rfl (fun hc1 => ?_) (fun hc1 => ?_)
  · (try replace hc1 := of_decide_eq_true hc1)
    refine vc_seq ?_
    refine vc_region ?_
    refine vl_callV rfl rfl (.some rfl) Try.call14 rfl (fun w hw => kLives w) ?_
    refine vl_val rfl (.some rfl) (val_assign rfl) ?_
    refine vl_nil ?_
    refine vc_ret ?_
    refine ⟨_, [], _, res1 Try.results5 rfl, .nil, ?_⟩
    rfl
  · (try replace hc1 := of_decide_eq_false hc1)
    refine vc_skip ?_
    refine vc_seq ?_
    refine vc_seq ?_
    refine vc_region ?_
    refine vl_val rfl (.some rfl) (val_move rfl) ?_
    refine vl_val rfl (.some rfl) (val_lenSl Try.runUnderlying46 rfl) ?_
    refine vl_val rfl (.some rfl) (val_move rfl) ?_
    refine vl_nil ?_
    refine vc_block ?_
    refine vc_loopw (fun m E H => ∃ i : Nat, i ≤ l.length ∧ m = l.length - i ∧ StA t S [(40, .slice B l.length d), (41, .int .i64 l.length), (42, .int .i64 i)] E H) (l.length) ⟨_, _, _, ⟨0, by omega, rfl, b1, As1, cs1, Ac1, cc1, L1, b2, As2, cs2, Ac2, cc2, L2, b3, As3, cs3, Al3, cl3, R3, b4, As4, cs4, Al4, cl4, R4, _, _, hL1, hL2, hR3, hR4, hk0, hk0, rfl, rfl⟩, (by repeat (first | exact trivial | refine ⟨rfl, ?_⟩ | refine ⟨le_item rfl (by first | rfl | (congr 1; omega) | (simp; done) | (simp; omega)), ?_⟩)), (by repeat (first | exact .nil | (apply Sub.cons; · repeat (first | exact .head | apply Take.tail))))⟩ ?_
    intro m E H hI
    obtain ⟨i, hi, rfl, b1, As1, cs1, Ac1, cc1, K1, b2, As2, cs2, Ac2, cc2, K2, b3, As3, cs3, Al3, cl3, R3, b4, As4, cs4, Al4, cl4, R4, V1, V2, hK1, hK2, hR3, hR4, ok1, ok2, rfl, rfl⟩ := hI
    refine vc_seq ?_
    refine vc_region ?_
    refine vl_val rfl (.some rfl) (val_lt rfl rfl) ?_
    refine vl_nil ?_
    refine vc_seq ?_
    refine vc_cond rfl (fun hc2 => ?_) (fun hc2 => ?_)
    · (try replace hc2 := of_decide_eq_true hc2)
      refine vc_skip ?_
      refine vc_seq ?_
      refine vc_block ?_
      refine vc_seq ?_
      refine vc_region ?_
      refine vl_val rfl (.some rfl) (val_indexAddr Try.runUnderlying46 Try.sizeOf50 rfl rfl (rd_old hrl rfl) (by omega) (by omega) (by rw [act_len, Int.toNat_natCast]; omega)) ?_
      refine vl_val rfl (.some rfl) (val_loadAgg Try.isAgg50 Try.sizeOf50 rfl (cells_rd (us := actV (l.getD i (0, 0, ()))) (rd_old hrl rfl) (act_at rfl (by omega))) rfl) ?_
      refine vl_alloc rfl rfl (.some rfl) Try.zeroValue50 (fun r10 => ?_)
      first | refine vl_store rfl rfl .none rfl rfl Try.sizeOf50 rfl (by repeat (first | exact .head | apply In.tail | apply Take.tail | apply Upd.tail)) (by first | decide | exact Nat.le_refl _ | exact Nat.le_of_ble_eq_true rfl | (simp; omega)) ?_ | refine vl_storeSl rfl rfl .none rfl rfl Try.sizeOf50 rfl (by simp [Value.cells]) (by repeat (first | exact .head | apply In.tail | apply Take.tail | apply Upd.tail)) (by first | decide | (simp [Value.cells]; omega)) ?_
      refine vl_nil ?_
      refine vc_cut (fun E H => ∃ E0 H0 F, Env.le E0 E ∧ Sub H0 H F ∧ (fun E H => StA t S [(40, .slice B l.length d), (41, .int .i64 l.length), (42, .int .i64 i)] E H) E0 H0) ?_ (fun E H h => ?_)
      ·
        refine vc_seq ?_
        refine vc_region ?_
        refine vl_val rfl (.some rfl) (by first | exact val_fieldAddr Try.runUnderlying50 rfl Try.sizeOf3 rfl | exact val_fieldAddrR Try.runUnderlying50 rfl Try.sizeOf3 rfl) ?_
        refine vl_val rfl (.some rfl) (val_load Try.isAgg3 rfl (by first | exact cell_cells (by repeat (first | exact .head | apply In.tail | apply Take.tail | apply Upd.tail)) rfl | exact cell_rd (rd_sl (by repeat (first | exact .head | apply In.tail | apply Take.tail | apply Upd.tail))) (by first | exact bcells_at (by omega) | exact ucells_at (by omega) | exact icells_at (by omega) | exact tcells_at (by omega) | exact bcells_get (by omega) | exact icells_get (by omega) | exact tcells_get (by omega) | exact ucells_get (by omega)) | exact cell_rd (rd_old (by assumption) rfl) (by first | exact bcells_at (by omega) | exact ucells_at (by omega) | exact icells_at (by omega) | exact tcells_at (by omega) | exact bcells_get (by omega) | exact icells_get (by omega) | exact tcells_get (by omega) | exact ucells_get (by omega)) | exact cell_old (by assumption) (by simp [fps]))) ?_
        refine vl_nil ?_
        refine vc_block ?_
        refine vc_seq ?_
        refine vc_region ?_
        refine vl_val rfl (.some rfl) (val_eq rfl rfl) ?_
        refine vl_val rfl (.some rfl) (val_assign rfl) ?_
        refine vl_nil ?_
        refine vc_cond rfl (fun hc3 => ?_) (fun hc3 => ?_)
        · (try replace hc3 := of_decide_eq_true hc3)
          refine vc_seq ?_
          refine vc_region ?_
          refine vl_val rfl (.some rfl) (val_move rfl) ?_
          refine vl_val rfl (.some rfl) (by first | exact val_fieldAddr Try.runUnderlying50 rfl Try.sizeOf30 rfl | exact val_fieldAddrR Try.runUnderlying50 rfl Try.sizeOf30 rfl) ?_
          refine vl_val rfl (.some rfl) (val_load Try.isAgg30 rfl (by first | exact cell_cells (by repeat (first | exact .head | apply In.tail | apply Take.tail | apply Upd.tail)) rfl | exact cell_rd (rd_sl (by repeat (first | exact .head | apply In.tail | apply Take.tail | apply Upd.tail))) (by first | exact bcells_at (by omega) | exact ucells_at (by omega) | exact icells_at (by omega) | exact tcells_at (by omega) | exact bcells_get (by omega) | exact icells_get (by omega) | exact tcells_get (by omega) | exact ucells_get (by omega)) | exact cell_rd (rd_old (by assumption) rfl) (by first | exact bcells_at (by omega) | exact ucells_at (by omega) | exact icells_at (by omega) | exact tcells_at (by omega) | exact bcells_get (by omega) | exact icells_get (by omega) | exact tcells_get (by omega) | exact ucells_get (by omega)) | exact cell_old (by assumption) (by simp [fps]))) ?_
          refine vl_call (C := KQ b1 t As1 cs1 S Ac1 cc1 K1) rfl rfl (.some rfl) Try.call15 rfl (by repeat (first | exact .nil | (apply Sub.cons; · repeat (first | exact .head | apply Take.tail)))) (fun w hw => qInsert hK1 ok1 (l.getD i (0, 0, ())).2.1 ((hul _ (getD_mem (0, 0, ()) (show i < l.length by omega))).2.1) w (readsM_sl (A := As1) (n := S.length) (c := cs1) (sz := 2) (e := 81) (vs := seedC S) (C := KQ b1 t As1 cs1 S Ac1 cc1 K1) (by repeat (first | exact .nil | (apply Sub.cons; · repeat (first | exact .head | apply Take.tail)))) (by repeat (first | exact .head | apply In.tail | apply Take.tail | apply Upd.tail)) hw)) (fun v H' h => ?_)
          obtain ⟨K1a, hK1a, rfl⟩ := h
          show VL _ _ _ _ _ (_ :: _ :: _ :: _)
          refine vl_nil ?_
          refine vc_region ?_
          refine vl_val rfl (.some rfl) (val_move rfl) ?_
          refine vl_val rfl (.some rfl) (by first | exact val_fieldAddr Try.runUnderlying50 rfl Try.sizeOf30 rfl | exact val_fieldAddrR Try.runUnderlying50 rfl Try.sizeOf30 rfl) ?_
          refine vl_val rfl (.some rfl) (val_load Try.isAgg30 rfl (by first | exact cell_cells (by repeat (first | exact .head | apply In.tail | apply Take.tail | apply Upd.tail)) rfl | exact cell_rd (rd_sl (by repeat (first | exact .head | apply In.tail | apply Take.tail | apply Upd.tail))) (by first | exact bcells_at (by omega) | exact ucells_at (by omega) | exact icells_at (by omega) | exact tcells_at (by omega) | exact bcells_get (by omega) | exact icells_get (by omega) | exact tcells_get (by omega) | exact ucells_get (by omega)) | exact cell_rd (rd_old (by assumption) rfl) (by first | exact bcells_at (by omega) | exact ucells_at (by omega) | exact icells_at (by omega) | exact tcells_at (by omega) | exact bcells_get (by omega) | exact icells_get (by omega) | exact tcells_get (by omega) | exact ucells_get (by omega)) | exact cell_old (by assumption) (by simp [fps]))) ?_
          refine vl_call (C := RQ b3 t As3 cs3 S Al3 cl3 R3) rfl rfl (.some rfl) Try.call25 rfl (by repeat (first | exact .nil | (apply Sub.cons; · repeat (first | exact .head | apply Take.tail)))) (fun w hw => wInsert b3 t As3 cs3 S Al3 cl3 R3 V1 hR3 ok1 (l.getD i (0, 0, ())).2.1 ((hul _ (getD_mem (0, 0, ()) (show i < l.length by omega))).2.1) w (readsM_sl (A := As3) (n := S.length) (c := cs3) (sz := 2) (e := 81) (vs := seedC S) (C := RQ b3 t As3 cs3 S Al3 cl3 R3) (by repeat (first | exact .nil | (apply Sub.cons; · repeat (first | exact .head | apply Take.tail)))) (by repeat (first | exact .head | apply In.tail | apply Take.tail | apply Upd.tail)) hw)) (fun v H' h => ?_)
          obtain ⟨R3a, hR3a, rfl⟩ := h
          show VL _ _ _ _ _ (_ :: _ :: _ :: _)
          refine vl_nil ?_
          first
            | exact ⟨_, _, _, (by repeat (first | exact trivial | refine ⟨rfl, ?_⟩ | refine ⟨le_item rfl (by first | rfl | (congr 1; omega) | (simp; done) | (simp; omega)), ?_⟩)), (by repeat (first | exact .nil | (apply Sub.cons; · repeat (first | exact .head | apply Take.tail)))), ⟨b1, As1, cs1, Ac1, cc1, K1a, b2, As2, cs2, Ac2, cc2, K2, b3, As3, cs3, Al3, cl3, R3a, b4, As4, cs4, Al4, cl4, R4, _, _, hK1a, hK2, hR3a, hR4, okK_ins ok1 _, ok2, rfl, rfl⟩⟩
            | exact ⟨_, _, _, (by repeat (first | exact trivial | refine ⟨rfl, ?_⟩ | refine ⟨le_item rfl (by first | rfl | (congr 1; omega) | (simp; done) | (simp; omega)), ?_⟩)), (by repeat (first | exact .nil | (apply Sub.cons; · repeat (first | exact .head | apply Take.tail)))), ⟨b1, As1, cs1, Ac1, cc1, K1b, b2, As2, cs2, Ac2, cc2, K2, b3, As3, cs3, Al3, cl3, R3b, b4, As4, cs4, Al4, cl4, R4, _, _, hK1b, hK2, hR3b, hR4, okK_mrg ok1 ok2, ok2, rfl, rfl⟩⟩
            | exact ⟨_, _, _, (by repeat (first | exact trivial | refine ⟨rfl, ?_⟩ | refine ⟨le_item rfl (by first | rfl | (congr 1; omega) | (simp; done) | (simp; omega)), ?_⟩)), (by repeat (first | exact .nil | (apply Sub.cons; · repeat (first | exact .head | apply Take.tail)))), ⟨b1, As1, cs1, Ac1, cc1, K1, b2, As2, cs2, Ac2, cc2, K2, b3, As3, cs3, Al3, cl3, R3c, b4, As4, cs4, Al4, cl4, R4, _, _, hK1, hK2, hR3c, hR4, ok1, ok2, rfl, rfl⟩⟩
            | exact ⟨_, _, _, (by repeat (first | exact trivial | refine ⟨rfl, ?_⟩ | refine ⟨le_item rfl (by first | rfl | (congr 1; omega) | (simp; done) | (simp; omega)), ?_⟩)), (by repeat (first | exact .nil | (apply Sub.cons; · repeat (first | exact .head | apply Take.tail)))), ⟨b6, As1, cs1, Ac6, cc6, L6, b2, As2, cs2, Ac2, cc2, K2, b3, As3, cs3, Al3, cl3, R3, b4, As4, cs4, Al4, cl4, R4, _, _, hL6, hK2, hR3, hR4, ok1, ok2, rfl, rfl⟩⟩
            | exact ⟨_, _, _, (by repeat (first | exact trivial | refine ⟨rfl, ?_⟩ | refine ⟨le_item rfl (by first | rfl | (congr 1; omega) | (simp; done) | (simp; omega)), ?_⟩)), (by repeat (first | exact .nil | (apply Sub.cons; · repeat (first | exact .head | apply Take.tail)))), ⟨b2, As2, cs2, Ac2, cc2, K2, b1, As1, cs1, Ac1, cc1, K1, b4, As4, cs4, Al4, cl4, R4, b3, As3, cs3, Al3, cl3, R3, _, _, hK2, hK1, hR4, hR3, (fun (_ : (l.getD i (0, 0, ())).1 = 3) => ok2) hc8, ok1, rfl, rfl⟩⟩
            | exact ⟨_, _, _, (by repeat (first | exact trivial | refine ⟨rfl, ?_⟩ | refine ⟨le_item rfl (by first | rfl | (congr 1; omega) | (simp; done) | (simp; omega)), ?_⟩)), (by repeat (first | exact .nil | (apply Sub.cons; · repeat (first | exact .head | apply Take.tail)))), ⟨b1, As1, cs1, Ac1, cc1, K1, b2, As2, cs2, Ac2, cc2, K2, b3, As3, cs3, Al3, cl3, R3, b4, As4, cs4, Al4, cl4, R4, _, _, hK1, hK2, hR3, hR4, ok1, ok2, rfl, rfl⟩⟩
        · (try replace hc3 := of_decide_eq_false hc3)
          refine vc_seq ?_
          refine vc_region ?_
          refine vl_val rfl (.some rfl) (val_eq rfl rfl) ?_
          refine vl_val rfl (.some rfl) (val_assign rfl) ?_
          refine vl_nil ?_
          refine vc_cond rfl (fun hc4 => ?_) (fun hc4 => ?_)
          · (try replace hc4 := of_decide_eq_true hc4)
            refine vc_seq ?_
            refine vc_region ?_
            refine vl_val rfl (.some rfl) (val_move rfl) ?_
            refine vl_val rfl (.some rfl) (val_move rfl) ?_
            refine vl_call (C := KQ b1 t As1 cs1 S Ac1 cc1 K1 ++ KQ b2 t As2 cs2 S Ac2 cc2 K2) rfl rfl (.some rfl) Try.call20 rfl (by repeat (first | exact .nil | (apply Sub.cons; · repeat (first | exact .head | apply Take.tail)))) (fun w hw => qMerge hK1 ok1 hK2 ok2 w (readsM_sl (A := As1) (n := S.length) (c := cs1) (sz := 2) (e := 81) (vs := seedC S) (C := KQ b1 t As1 cs1 S Ac1 cc1 K1 ++ KQ b2 t As2 cs2 S Ac2 cc2 K2) (by repeat (first | exact .nil | (apply Sub.cons; · repeat (first | exact .head | apply Take.tail)))) (by repeat (first | exact .head | apply In.tail | apply Take.tail | apply Upd.tail)) hw) (readsM_sl (A := As2) (n := S.length) (c := cs2) (sz := 2) (e := 81) (vs := seedC S) (C := KQ b1 t As1 cs1 S Ac1 cc1 K1 ++ KQ b2 t As2 cs2 S Ac2 cc2 K2) (by repeat (first | exact .nil | (apply Sub.cons; · repeat (first | exact .head | apply Take.tail)))) (by repeat (first | exact .head | apply In.tail | apply Take.tail | apply Upd.tail)) hw)) (fun v H' h => ?_)
            obtain ⟨rfl, K1b, hK1b, rfl⟩ := h
            show VL _ _ _ _ _ (_ :: _ :: _ :: _ :: _ :: _ :: _)
            refine vl_val rfl (.some rfl) (val_move rfl) ?_
            refine vl_val rfl (.some rfl) (val_move rfl) ?_
            refine vl_call (C := RQ b3 t As3 cs3 S Al3 cl3 R3 ++ RQ b4 t As4 cs4 S Al4 cl4 R4) rfl rfl (.some rfl) Try.call26 rfl (by repeat (first | exact .nil | (apply Sub.cons; · repeat (first | exact .head | apply Take.tail)))) (fun w hw => wMerge b3 t As3 cs3 S Al3 cl3 R3 V1 hR3 ok1 b4 As4 cs4 Al4 cl4 R4 V2 hR4 ok2 w (readsM_sl (A := As3) (n := S.length) (c := cs3) (sz := 2) (e := 81) (vs := seedC S) (C := RQ b3 t As3 cs3 S Al3 cl3 R3 ++ RQ b4 t As4 cs4 S Al4 cl4 R4) (by repeat (first | exact .nil | (apply Sub.cons; · repeat (first | exact .head | apply Take.tail)))) (by repeat (first | exact .head | apply In.tail | apply Take.tail | apply Upd.tail)) hw) (readsM_sl (A := As4) (n := S.length) (c := cs4) (sz := 2) (e := 81) (vs := seedC S) (C := RQ b3 t As3 cs3 S Al3 cl3 R3 ++ RQ b4 t As4 cs4 S Al4 cl4 R4) (by repeat (first | exact .nil | (apply Sub.cons; · repeat (first | exact .head | apply Take.tail)))) (by repeat (first | exact .head | apply In.tail | apply Take.tail | apply Upd.tail)) hw)) (fun v H' h => ?_)
            obtain ⟨rfl, R3b, hR3b, rfl⟩ := h
            show VL _ _ _ _ _ (_ :: _ :: _ :: _ :: _ :: _ :: _)
            refine vl_val rfl (.some rfl) (val_net rfl rfl (rfl)) ?_
            refine vl_nil ?_
            refine vc_cond rfl (fun h => by cases h) (fun _ => ?_)
            refine vc_skip ?_
            first
              | exact ⟨_, _, _, (by repeat (first | exact trivial | refine ⟨rfl, ?_⟩ | refine ⟨le_item rfl (by first | rfl | (congr 1; omega) | (simp; done) | (simp; omega)), ?_⟩)), (by repeat (first | exact .nil | (apply Sub.cons; · repeat (first | exact .head | apply Take.tail)))), ⟨b1, As1, cs1, Ac1, cc1, K1a, b2, As2, cs2, Ac2, cc2, K2, b3, As3, cs3, Al3, cl3, R3a, b4, As4, cs4, Al4, cl4, R4, _, _, hK1a, hK2, hR3a, hR4, okK_ins ok1 _, ok2, rfl, rfl⟩⟩
              | exact ⟨_, _, _, (by repeat (first | exact trivial | refine ⟨rfl, ?_⟩ | refine ⟨le_item rfl (by first | rfl | (congr 1; omega) | (simp; done) | (simp; omega)), ?_⟩)), (by repeat (first | exact .nil | (apply Sub.cons; · repeat (first | exact .head | apply Take.tail)))), ⟨b1, As1, cs1, Ac1, cc1, K1b, b2, As2, cs2, Ac2, cc2, K2, b3, As3, cs3, Al3, cl3, R3b, b4, As4, cs4, Al4, cl4, R4, _, _, hK1b, hK2, hR3b, hR4, okK_mrg ok1 ok2, ok2, rfl, rfl⟩⟩
              | exact ⟨_, _, _, (by repeat (first | exact trivial | refine ⟨rfl, ?_⟩ | refine ⟨le_item rfl (by first | rfl | (congr 1; omega) | (simp; done) | (simp; omega)), ?_⟩)), (by repeat (first | exact .nil | (apply Sub.cons; · repeat (first | exact .head | apply Take.tail)))), ⟨b1, As1, cs1, Ac1, cc1, K1, b2, As2, cs2, Ac2, cc2, K2, b3, As3, cs3, Al3, cl3, R3c, b4, As4, cs4, Al4, cl4, R4, _, _, hK1, hK2, hR3c, hR4, ok1, ok2, rfl, rfl⟩⟩
              | exact ⟨_, _, _, (by repeat (first | exact trivial | refine ⟨rfl, ?_⟩ | refine ⟨le_item rfl (by first | rfl | (congr 1; omega) | (simp; done) | (simp; omega)), ?_⟩)), (by repeat (first | exact .nil | (apply Sub.cons; · repeat (first | exact .head | apply Take.tail)))), ⟨b6, As1, cs1, Ac6, cc6, L6, b2, As2, cs2, Ac2, cc2, K2, b3, As3, cs3, Al3, cl3, R3, b4, As4, cs4, Al4, cl4, R4, _, _, hL6, hK2, hR3, hR4, ok1, ok2, rfl, rfl⟩⟩
              | exact ⟨_, _, _, (by repeat (first | exact trivial | refine ⟨rfl, ?_⟩ | refine ⟨le_item rfl (by first | rfl | (congr 1; omega) | (simp; done) | (simp; omega)), ?_⟩)), (by repeat (first | exact .nil | (apply Sub.cons; · repeat (first | exact .head | apply Take.tail)))), ⟨b2, As2, cs2, Ac2, cc2, K2, b1, As1, cs1, Ac1, cc1, K1, b4, As4, cs4, Al4, cl4, R4, b3, As3, cs3, Al3, cl3, R3, _, _, hK2, hK1, hR4, hR3, (fun (_ : (l.getD i (0, 0, ())).1 = 3) => ok2) hc8, ok1, rfl, rfl⟩⟩
              | exact ⟨_, _, _, (by repeat (first | exact trivial | refine ⟨rfl, ?_⟩ | refine ⟨le_item rfl (by first | rfl | (congr 1; omega) | (simp; done) | (simp; omega)), ?_⟩)), (by repeat (first | exact .nil | (apply Sub.cons; · repeat (first | exact .head | apply Take.tail)))), ⟨b1, As1, cs1, Ac1, cc1, K1, b2, As2, cs2, Ac2, cc2, K2, b3, As3, cs3, Al3, cl3, R3, b4, As4, cs4, Al4, cl4, R4, _, _, hK1, hK2, hR3, hR4, ok1, ok2, rfl, rfl⟩⟩
          · (try replace hc4 := of_decide_eq_false hc4)
            refine vc_seq ?_
            refine vc_region ?_
            refine vl_val rfl (.some rfl) (val_eq rfl rfl) ?_
            refine vl_val rfl (.some rfl) (val_assign rfl) ?_
            refine vl_nil ?_
            refine vc_cond rfl (fun hc6 => ?_) (fun hc6 => ?_)
            · (try replace hc6 := of_decide_eq_true hc6)
              refine vc_seq ?_
              refine vc_region ?_
              refine vl_val rfl (.some rfl) (val_move rfl) ?_
              refine vl_val rfl (.some rfl) (val_move rfl) ?_
              refine vl_call (C := KQ b1 t As1 cs1 S Ac1 cc1 K1) rfl rfl (.some rfl) Try.call20 rfl (by repeat (first | exact .nil | (apply Sub.cons; · repeat (first | exact .head | apply Take.tail)))) (fun w hw => qMergeSelf hK1 ok1 w (readsM_sl (A := As1) (n := S.length) (c := cs1) (sz := 2) (e := 81) (vs := seedC S) (C := KQ b1 t As1 cs1 S Ac1 cc1 K1) (by repeat (first | exact .nil | (apply Sub.cons; · repeat (first | exact .head | apply Take.tail)))) (by repeat (first | exact .head | apply In.tail | apply Take.tail | apply Upd.tail)) hw)) (fun v H' h => ?_)
              obtain ⟨rfl, rfl⟩ := h
              show VL _ _ _ _ _ (_ :: _ :: _ :: _)
              refine vl_val rfl (.some rfl) (val_move rfl) ?_
              refine vl_val rfl (.some rfl) (val_move rfl) ?_
              refine vl_call (C := RQ b3 t As3 cs3 S Al3 cl3 R3) rfl rfl (.some rfl) Try.call27 rfl (by repeat (first | exact .nil | (apply Sub.cons; · repeat (first | exact .head | apply Take.tail)))) (fun w hw => wCopy b3 t As3 cs3 S Al3 cl3 R3 V1 hR3 ok1 w) (fun v H' h => ?_)
              obtain ⟨b5, Al5, cl5, R5, rfl, hR5, rfl⟩ := h
              show VL _ _ _ _ _ (_ :: _ :: _ :: _ :: _ :: _ :: _)
              refine vl_call (C := RQ b3 t As3 cs3 S Al3 cl3 R3 ++ RQ b5 t As3 cs3 S Al5 cl5 R5) rfl rfl (.some rfl) Try.call26 rfl (by repeat (first | exact .nil | (apply Sub.cons; · repeat (first | exact .head | apply Take.tail)))) (fun w hw => wMerge b3 t As3 cs3 S Al3 cl3 R3 V1 hR3 ok1 b5 As3 cs3 Al5 cl5 R5 V1 hR5 ok1 w (readsM_sl (A := As3) (n := S.length) (c := cs3) (sz := 2) (e := 81) (vs := seedC S) (C := RQ b3 t As3 cs3 S Al3 cl3 R3 ++ RQ b5 t As3 cs3 S Al5 cl5 R5) (by repeat (first | exact .nil | (apply Sub.cons; · repeat (first | exact .head | apply Take.tail)))) (by repeat (first | exact .head | apply In.tail | apply Take.tail | apply Upd.tail)) hw) (readsM_sl (A := As3) (n := S.length) (c := cs3) (sz := 2) (e := 81) (vs := seedC S) (C := RQ b3 t As3 cs3 S Al3 cl3 R3 ++ RQ b5 t As3 cs3 S Al5 cl5 R5) (by repeat (first | exact .nil | (apply Sub.cons; · repeat (first | exact .head | apply Take.tail)))) (by repeat (first | exact .head | apply In.tail | apply Take.tail | apply Upd.tail)) hw)) (fun v H' h => ?_)
              obtain ⟨rfl, R3c, hR3c, rfl⟩ := h
              show VL _ _ _ _ _ (_ :: _ :: _ :: _ :: _ :: _ :: _)
              rw [mrgV_self] at hR3c
              refine vl_val rfl (.some rfl) (val_net rfl rfl (rfl)) ?_
              refine vl_nil ?_
              refine vc_cond rfl (fun h => by cases h) (fun _ => ?_)
              refine vc_skip ?_
              first
                | exact ⟨_, _, _, (by repeat (first | exact trivial | refine ⟨rfl, ?_⟩ | refine ⟨le_item rfl (by first | rfl | (congr 1; omega) | (simp; done) | (simp; omega)), ?_⟩)), (by repeat (first | exact .nil | (apply Sub.cons; · repeat (first | exact .head | apply Take.tail)))), ⟨b1, As1, cs1, Ac1, cc1, K1a, b2, As2, cs2, Ac2, cc2, K2, b3, As3, cs3, Al3, cl3, R3a, b4, As4, cs4, Al4, cl4, R4, _, _, hK1a, hK2, hR3a, hR4, okK_ins ok1 _, ok2, rfl, rfl⟩⟩
                | exact ⟨_, _, _, (by repeat (first | exact trivial | refine ⟨rfl, ?_⟩ | refine ⟨le_item rfl (by first | rfl | (congr 1; omega) | (simp; done) | (simp; omega)), ?_⟩)), (by repeat (first | exact .nil | (apply Sub.cons; · repeat (first | exact .head | apply Take.tail)))), ⟨b1, As1, cs1, Ac1, cc1, K1b, b2, As2, cs2, Ac2, cc2, K2, b3, As3, cs3, Al3, cl3, R3b, b4, As4, cs4, Al4, cl4, R4, _, _, hK1b, hK2, hR3b, hR4, okK_mrg ok1 ok2, ok2, rfl, rfl⟩⟩
                | exact ⟨_, _, _, (by repeat (first | exact trivial | refine ⟨rfl, ?_⟩ | refine ⟨le_item rfl (by first | rfl | (congr 1; omega) | (simp; done) | (simp; omega)), ?_⟩)), (by repeat (first | exact .nil | (apply Sub.cons; · repeat (first | exact .head | apply Take.tail)))), ⟨b1, As1, cs1, Ac1, cc1, K1, b2, As2, cs2, Ac2, cc2, K2, b3, As3, cs3, Al3, cl3, R3c, b4, As4, cs4, Al4, cl4, R4, _, _, hK1, hK2, hR3c, hR4, ok1, ok2, rfl, rfl⟩⟩
                | exact ⟨_, _, _, (by repeat (first | exact trivial | refine ⟨rfl, ?_⟩ | refine ⟨le_item rfl (by first | rfl | (congr 1; omega) | (simp; done) | (simp; omega)), ?_⟩)), (by repeat (first | exact .nil | (apply Sub.cons; · repeat (first | exact .head | apply Take.tail)))), ⟨b6, As1, cs1, Ac6, cc6, L6, b2, As2, cs2, Ac2, cc2, K2, b3, As3, cs3, Al3, cl3, R3, b4, As4, cs4, Al4, cl4, R4, _, _, hL6, hK2, hR3, hR4, ok1, ok2, rfl, rfl⟩⟩
                | exact ⟨_, _, _, (by repeat (first | exact trivial | refine ⟨rfl, ?_⟩ | refine ⟨le_item rfl (by first | rfl | (congr 1; omega) | (simp; done) | (simp; omega)), ?_⟩)), (by repeat (first | exact .nil | (apply Sub.cons; · repeat (first | exact .head | apply Take.tail)))), ⟨b2, As2, cs2, Ac2, cc2, K2, b1, As1, cs1, Ac1, cc1, K1, b4, As4, cs4, Al4, cl4, R4, b3, As3, cs3, Al3, cl3, R3, _, _, hK2, hK1, hR4, hR3, (fun (_ : (l.getD i (0, 0, ())).1 = 3) => ok2) hc8, ok1, rfl, rfl⟩⟩
                | exact ⟨_, _, _, (by repeat (first | exact trivial | refine ⟨rfl, ?_⟩ | refine ⟨le_item rfl (by first | rfl | (congr 1; omega) | (simp; done) | (simp; omega)), ?_⟩)), (by repeat (first | exact .nil | (apply Sub.cons; · repeat (first | exact .head | apply Take.tail)))), ⟨b1, As1, cs1, Ac1, cc1, K1, b2, As2, cs2, Ac2, cc2, K2, b3, As3, cs3, Al3, cl3, R3, b4, As4, cs4, Al4, cl4, R4, _, _, hK1, hK2, hR3, hR4, ok1, ok2, rfl, rfl⟩⟩
            · (try replace hc6 := of_decide_eq_false hc6)
              refine vc_seq ?_
              refine vc_region ?_
              refine vl_val rfl (.some rfl) (val_eq rfl rfl) ?_
              refine vl_val rfl (.some rfl) (val_assign rfl) ?_
              refine vl_nil ?_
              refine vc_cond rfl (fun hc8 => ?_) (fun hc8 => ?_)
              · (try replace hc8 := of_decide_eq_true hc8)
                refine vc_region ?_
                refine vl_val rfl (.some rfl) (val_move rfl) ?_
                refine vl_val rfl (.some rfl) (val_move rfl) ?_
                refine vl_val rfl (.some rfl) (val_move rfl) ?_
                refine vl_val rfl (.some rfl) (val_move rfl) ?_
                refine vl_val rfl (.some rfl) (val_assign rfl) ?_
                refine vl_val rfl (.some rfl) (val_assign rfl) ?_
                refine vl_val rfl (.some rfl) (val_assign rfl) ?_
                refine vl_val rfl (.some rfl) (val_assign rfl) ?_
                refine vl_nil ?_
                first
                  | exact ⟨_, _, _, (by repeat (first | exact trivial | refine ⟨rfl, ?_⟩ | refine ⟨le_item rfl (by first | rfl | (congr 1; omega) | (simp; done) | (simp; omega)), ?_⟩)), (by repeat (first | exact .nil | (apply Sub.cons; · repeat (first | exact .head | apply Take.tail)))), ⟨b1, As1, cs1, Ac1, cc1, K1a, b2, As2, cs2, Ac2, cc2, K2, b3, As3, cs3, Al3, cl3, R3a, b4, As4, cs4, Al4, cl4, R4, _, _, hK1a, hK2, hR3a, hR4, okK_ins ok1 _, ok2, rfl, rfl⟩⟩
                  | exact ⟨_, _, _, (by repeat (first | exact trivial | refine ⟨rfl, ?_⟩ | refine ⟨le_item rfl (by first | rfl | (congr 1; omega) | (simp; done) | (simp; omega)), ?_⟩)), (by repeat (first | exact .nil | (apply Sub.cons; · repeat (first | exact .head | apply Take.tail)))), ⟨b1, As1, cs1, Ac1, cc1, K1b, b2, As2, cs2, Ac2, cc2, K2, b3, As3, cs3, Al3, cl3, R3b, b4, As4, cs4, Al4, cl4, R4, _, _, hK1b, hK2, hR3b, hR4, okK_mrg ok1 ok2, ok2, rfl, rfl⟩⟩
                  | exact ⟨_, _, _, (by repeat (first | exact trivial | refine ⟨rfl, ?_⟩ | refine ⟨le_item rfl (by first | rfl | (congr 1; omega) | (simp; done) | (simp; omega)), ?_⟩)), (by repeat (first | exact .nil | (apply Sub.cons; · repeat (first | exact .head | apply Take.tail)))), ⟨b1, As1, cs1, Ac1, cc1, K1, b2, As2, cs2, Ac2, cc2, K2, b3, As3, cs3, Al3, cl3, R3c, b4, As4, cs4, Al4, cl4, R4, _, _, hK1, hK2, hR3c, hR4, ok1, ok2, rfl, rfl⟩⟩
                  | exact ⟨_, _, _, (by repeat (first | exact trivial | refine ⟨rfl, ?_⟩ | refine ⟨le_item rfl (by first | rfl | (congr 1; omega) | (simp; done) | (simp; omega)), ?_⟩)), (by repeat (first | exact .nil | (apply Sub.cons; · repeat (first | exact .head | apply Take.tail)))), ⟨b6, As1, cs1, Ac6, cc6, L6, b2, As2, cs2, Ac2, cc2, K2, b3, As3, cs3, Al3, cl3, R3, b4, As4, cs4, Al4, cl4, R4, _, _, hL6, hK2, hR3, hR4, ok1, ok2, rfl, rfl⟩⟩
                  | exact ⟨_, _, _, (by repeat (first | exact trivial | refine ⟨rfl, ?_⟩ | refine ⟨le_item rfl (by first | rfl | (congr 1; omega) | (simp; done) | (simp; omega)), ?_⟩)), (by repeat (first | exact .nil | (apply Sub.cons; · repeat (first | exact .head | apply Take.tail)))), ⟨b2, As2, cs2, Ac2, cc2, K2, b1, As1, cs1, Ac1, cc1, K1, b4, As4, cs4, Al4, cl4, R4, b3, As3, cs3, Al3, cl3, R3, _, _, hK2, hK1, hR4, hR3, (fun (_ : (l.getD i (0, 0, ())).1 = 3) => ok2) hc8, ok1, rfl, rfl⟩⟩
                  | exact ⟨_, _, _, (by repeat (first | exact trivial | refine ⟨rfl, ?_⟩ | refine ⟨le_item rfl (by first | rfl | (congr 1; omega) | (simp; done) | (simp; omega)), ?_⟩)), (by repeat (first | exact .nil | (apply Sub.cons; · repeat (first | exact .head | apply Take.tail)))), ⟨b1, As1, cs1, Ac1, cc1, K1, b2, As2, cs2, Ac2, cc2, K2, b3, As3, cs3, Al3, cl3, R3, b4, As4, cs4, Al4, cl4, R4, _, _, hK1, hK2, hR3, hR4, ok1, ok2, rfl, rfl⟩⟩
              · (try replace hc8 := of_decide_eq_false hc8)
                refine vc_seq ?_
                refine vc_region ?_
                refine vl_val rfl (.some rfl) (val_eq rfl rfl) ?_
                refine vl_val rfl (.some rfl) (val_assign rfl) ?_
                refine vl_nil ?_
                refine vc_cond rfl (fun hc9 => ?_) (fun hc9 => ?_)
                · (try replace hc9 := of_decide_eq_true hc9)
                  refine vc_seq ?_
                  refine vc_region ?_
                  refine vl_val rfl (.some rfl) (val_move rfl) ?_
                  refine vl_call (C := KQ b1 t As1 cs1 S Ac1 cc1 K1) rfl rfl (.some rfl) Try.call28 rfl (by repeat (first | exact .nil | (apply Sub.cons; · repeat (first | exact .head | apply Take.tail)))) (fun w hw => qCopy hK1 ok1 w) (fun v H' h => ?_)
                  obtain ⟨b6, Ac6, cc6, L6, rfl, hL6, rfl⟩ := h
                  show VL _ _ _ _ _ (_ :: _ :: _ :: _ :: _ :: _ :: _)
                  refine vl_val rfl (.some rfl) (val_assign rfl) ?_
                  refine vl_nil ?_
                  refine vc_seq ?_
                  refine vc_region ?_
                  refine vl_val rfl (.some rfl) (val_move rfl) ?_
                  refine vl_val rfl (.some rfl) (by first | exact val_fieldAddr Try.runUnderlying50 rfl Try.sizeOf30 rfl | exact val_fieldAddrR Try.runUnderlying50 rfl Try.sizeOf30 rfl) ?_
                  refine vl_val rfl (.some rfl) (val_load Try.isAgg30 rfl (by first | exact cell_cells (by repeat (first | exact .head | apply In.tail | apply Take.tail | apply Upd.tail)) rfl | exact cell_rd (rd_sl (by repeat (first | exact .head | apply In.tail | apply Take.tail | apply Upd.tail))) (by first | exact bcells_at (by omega) | exact ucells_at (by omega) | exact icells_at (by omega) | exact tcells_at (by omega) | exact bcells_get (by omega) | exact icells_get (by omega) | exact tcells_get (by omega) | exact ucells_get (by omega)) | exact cell_rd (rd_old (by assumption) rfl) (by first | exact bcells_at (by omega) | exact ucells_at (by omega) | exact icells_at (by omega) | exact tcells_at (by omega) | exact bcells_get (by omega) | exact icells_get (by omega) | exact tcells_get (by omega) | exact ucells_get (by omega)) | exact cell_old (by assumption) (by simp [fps]))) ?_
                  refine vl_call (C := KQ b1 t As1 cs1 S Ac1 cc1 K1) rfl rfl (.some rfl) Try.call15 rfl (by repeat (first | exact .nil | (apply Sub.cons; · repeat (first | exact .head | apply Take.tail)))) (fun w hw => qInsert hK1 ok1 (l.getD i (0, 0, ())).2.1 ((hul _ (getD_mem (0, 0, ()) (show i < l.length by omega))).2.1) w (readsM_sl (A := As1) (n := S.length) (c := cs1) (sz := 2) (e := 81) (vs := seedC S) (C := KQ b1 t As1 cs1 S Ac1 cc1 K1) (by repeat (first | exact .nil | (apply Sub.cons; · repeat (first | exact .head | apply Take.tail)))) (by repeat (first | exact .head | apply In.tail | apply Take.tail | apply Upd.tail)) hw)) (fun v H' h => ?_)
                  obtain ⟨K1e, hK1e, rfl⟩ := h
                  show VL _ _ _ _ _ (_ :: _ :: _ :: _)
                  refine vl_nil ?_
                  refine vc_region ?_
                  refine vl_val rfl (.some rfl) (val_move rfl) ?_
                  refine vl_val rfl (.some rfl) (val_assign rfl) ?_
                  refine vl_nil ?_
                  first
                    | exact ⟨_, _, _, (by repeat (first | exact trivial | refine ⟨rfl, ?_⟩ | refine ⟨le_item rfl (by first | rfl | (congr 1; omega) | (simp; done) | (simp; omega)), ?_⟩)), (by repeat (first | exact .nil | (apply Sub.cons; · repeat (first | exact .head | apply Take.tail)))), ⟨b1, As1, cs1, Ac1, cc1, K1a, b2, As2, cs2, Ac2, cc2, K2, b3, As3, cs3, Al3, cl3, R3a, b4, As4, cs4, Al4, cl4, R4, _, _, hK1a, hK2, hR3a, hR4, okK_ins ok1 _, ok2, rfl, rfl⟩⟩
                    | exact ⟨_, _, _, (by repeat (first | exact trivial | refine ⟨rfl, ?_⟩ | refine ⟨le_item rfl (by first | rfl | (congr 1; omega) | (simp; done) | (simp; omega)), ?_⟩)), (by repeat (first | exact .nil | (apply Sub.cons; · repeat (first | exact .head | apply Take.tail)))), ⟨b1, As1, cs1, Ac1, cc1, K1b, b2, As2, cs2, Ac2, cc2, K2, b3, As3, cs3, Al3, cl3, R3b, b4, As4, cs4, Al4, cl4, R4, _, _, hK1b, hK2, hR3b, hR4, okK_mrg ok1 ok2, ok2, rfl, rfl⟩⟩
                    | exact ⟨_, _, _, (by repeat (first | exact trivial | refine ⟨rfl, ?_⟩ | refine ⟨le_item rfl (by first | rfl | (congr 1; omega) | (simp; done) | (simp; omega)), ?_⟩)), (by repeat (first | exact .nil | (apply Sub.cons; · repeat (first | exact .head | apply Take.tail)))), ⟨b1, As1, cs1, Ac1, cc1, K1, b2, As2, cs2, Ac2, cc2, K2, b3, As3, cs3, Al3, cl3, R3c, b4, As4, cs4, Al4, cl4, R4, _, _, hK1, hK2, hR3c, hR4, ok1, ok2, rfl, rfl⟩⟩
                    | exact ⟨_, _, _, (by repeat (first | exact trivial | refine ⟨rfl, ?_⟩ | refine ⟨le_item rfl (by first | rfl | (congr 1; omega) | (simp; done) | (simp; omega)), ?_⟩)), (by repeat (first | exact .nil | (apply Sub.cons; · repeat (first | exact .head | apply Take.tail)))), ⟨b6, As1, cs1, Ac6, cc6, L6, b2, As2, cs2, Ac2, cc2, K2, b3, As3, cs3, Al3, cl3, R3, b4, As4, cs4, Al4, cl4, R4, _, _, hL6, hK2, hR3, hR4, ok1, ok2, rfl, rfl⟩⟩
                    | exact ⟨_, _, _, (by repeat (first | exact trivial | refine ⟨rfl, ?_⟩ | refine ⟨le_item rfl (by first | rfl | (congr 1; omega) | (simp; done) | (simp; omega)), ?_⟩)), (by repeat (first | exact .nil | (apply Sub.cons; · repeat (first | exact .head | apply Take.tail)))), ⟨b2, As2, cs2, Ac2, cc2, K2, b1, As1, cs1, Ac1, cc1, K1, b4, As4, cs4, Al4, cl4, R4, b3, As3, cs3, Al3, cl3, R3, _, _, hK2, hK1, hR4, hR3, (fun (_ : (l.getD i (0, 0, ())).1 = 3) => ok2) hc8, ok1, rfl, rfl⟩⟩
                    | exact ⟨_, _, _, (by repeat (first | exact trivial | refine ⟨rfl, ?_⟩ | refine ⟨le_item rfl (by first | rfl | (congr 1; omega) | (simp; done) | (simp; omega)), ?_⟩)), (by repeat (first | exact .nil | (apply Sub.cons; · repeat (first | exact .head | apply Take.tail)))), ⟨b1, As1, cs1, Ac1, cc1, K1, b2, As2, cs2, Ac2, cc2, K2, b3, As3, cs3, Al3, cl3, R3, b4, As4, cs4, Al4, cl4, R4, _, _, hK1, hK2, hR3, hR4, ok1, ok2, rfl, rfl⟩⟩
                · (try replace hc9 := of_decide_eq_false hc9)
                  refine vc_skip ?_
                  first
                    | exact ⟨_, _, _, (by repeat (first | exact trivial | refine ⟨rfl, ?_⟩ | refine ⟨le_item rfl (by first | rfl | (congr 1; omega) | (simp; done) | (simp; omega)), ?_⟩)), (by repeat (first | exact .nil | (apply Sub.cons; · repeat (first | exact .head | apply Take.tail)))), ⟨b1, As1, cs1, Ac1, cc1, K1a, b2, As2, cs2, Ac2, cc2, K2, b3, As3, cs3, Al3, cl3, R3a, b4, As4, cs4, Al4, cl4, R4, _, _, hK1a, hK2, hR3a, hR4, okK_ins ok1 _, ok2, rfl, rfl⟩⟩
                    | exact ⟨_, _, _, (by repeat (first | exact trivial | refine ⟨rfl, ?_⟩ | refine ⟨le_item rfl (by first | rfl | (congr 1; omega) | (simp; done) | (simp; omega)), ?_⟩)), (by repeat (first | exact .nil | (apply Sub.cons; · repeat (first | exact .head | apply Take.tail)))), ⟨b1, As1, cs1, Ac1, cc1, K1b, b2, As2, cs2, Ac2, cc2, K2, b3, As3, cs3, Al3, cl3, R3b, b4, As4, cs4, Al4, cl4, R4, _, _, hK1b, hK2, hR3b, hR4, okK_mrg ok1 ok2, ok2, rfl, rfl⟩⟩
                    | exact ⟨_, _, _, (by repeat (first | exact trivial | refine ⟨rfl, ?_⟩ | refine ⟨le_item rfl (by first | rfl | (congr 1; omega) | (simp; done) | (simp; omega)), ?_⟩)), (by repeat (first | exact .nil | (apply Sub.cons; · repeat (first | exact .head | apply Take.tail)))), ⟨b1, As1, cs1, Ac1, cc1, K1, b2, As2, cs2, Ac2, cc2, K2, b3, As3, cs3, Al3, cl3, R3c, b4, As4, cs4, Al4, cl4, R4, _, _, hK1, hK2, hR3c, hR4, ok1, ok2, rfl, rfl⟩⟩
                    | exact ⟨_, _, _, (by repeat (first | exact trivial | refine ⟨rfl, ?_⟩ | refine ⟨le_item rfl (by first | rfl | (congr 1; omega) | (simp; done) | (simp; omega)), ?_⟩)), (by repeat (first | exact .nil | (apply Sub.cons; · repeat (first | exact .head | apply Take.tail)))), ⟨b6, As1, cs1, Ac6, cc6, L6, b2, As2, cs2, Ac2, cc2, K2, b3, As3, cs3, Al3, cl3, R3, b4, As4, cs4, Al4, cl4, R4, _, _, hL6, hK2, hR3, hR4, ok1, ok2, rfl, rfl⟩⟩
                    | exact ⟨_, _, _, (by repeat (first | exact trivial | refine ⟨rfl, ?_⟩ | refine ⟨le_item rfl (by first | rfl | (congr 1; omega) | (simp; done) | (simp; omega)), ?_⟩)), (by repeat (first | exact .nil | (apply Sub.cons; · repeat (first | exact .head | apply Take.tail)))), ⟨b2, As2, cs2, Ac2, cc2, K2, b1, As1, cs1, Ac1, cc1, K1, b4, As4, cs4, Al4, cl4, R4, b3, As3, cs3, Al3, cl3, R3, _, _, hK2, hK1, hR4, hR3, (fun (_ : (l.getD i (0, 0, ())).1 = 3) => ok2) hc8, ok1, rfl, rfl⟩⟩
                    | exact ⟨_, _, _, (by repeat (first | exact trivial | refine ⟨rfl, ?_⟩ | refine ⟨le_item rfl (by first | rfl | (congr 1; omega) | (simp; done) | (simp; omega)), ?_⟩)), (by repeat (first | exact .nil | (apply Sub.cons; · repeat (first | exact .head | apply Take.tail)))), ⟨b1, As1, cs1, Ac1, cc1, K1, b2, As2, cs2, Ac2, cc2, K2, b3, As3, cs3, Al3, cl3, R3, b4, As4, cs4, Al4, cl4, R4, _, _, hK1, hK2, hR3, hR4, ok1, ok2, rfl, rfl⟩⟩
      · obtain ⟨E0, H0, F, hE0, hH0, hJ⟩ := h
        obtain ⟨b1, As1, cs1, Ac1, cc1, K1, b2, As2, cs2, Ac2, cc2, K2, b3, As3, cs3, Al3, cl3, R3, b4, As4, cs4, Al4, cl4, R4, V1, V2, hK1, hK2, hR3, hR4, ok1, ok2, rfl, rfl⟩ := hJ
        refine vc_weak hE0 hH0 ?_
        refine vc_seq ?_
        refine vc_region ?_
        refine vl_val rfl (.some rfl) (val_move rfl) ?_
        refine vl_val rfl (.some rfl) (val_move rfl) ?_
        refine vl_call (C := KQ b1 t As1 cs1 S Ac1 cc1 K1 ++ RQ b3 t As3 cs3 S Al3 cl3 R3) rfl rfl (.some rfl) Try.call29 rfl (by repeat (first | exact .nil | (apply Sub.cons; · repeat (first | exact .head | apply Take.tail)))) (fun w hw => kAlike b1 t As1 cs1 S Ac1 cc1 K1 b3 As3 cs3 Al3 cl3 R3 V1 hK1 hR3 ok1 w) (fun v H' h => ?_)
        obtain ⟨rfl, rfl⟩ := h
        show VL _ _ _ _ _ (_ :: _ :: _ :: _ :: _ :: _ :: _)
        refine vl_val rfl (.some rfl) (val_not rfl) ?_
        refine vl_nil ?_
        refine vc_cond rfl (fun h => by cases h) (fun _ => ?_)
        refine vc_skip ?_
        refine vc_region ?_
        refine vl_val rfl (.some rfl) (val_add rfl rfl (by first | exact w_i64 (by omega) (by omega) | rfl)) ?_
        refine vl_val rfl (.some rfl) (val_move rfl) ?_
        refine vl_nil ?_
        exact ⟨(l.length - (i + 1)), _, _, _, by omega, (by repeat (first | exact trivial | refine ⟨rfl, ?_⟩ | refine ⟨le_item rfl (by first | rfl | (congr 1; omega) | (simp; done) | (simp; omega)), ?_⟩)), (by repeat (first | exact .nil | (apply Sub.cons; · repeat (first | exact .head | apply Take.tail)))), ⟨i + 1, by omega, rfl, b1, As1, cs1, Ac1, cc1, K1, b2, As2, cs2, Ac2, cc2, K2, b3, As3, cs3, Al3, cl3, R3, b4, As4, cs4, Al4, cl4, R4, _, _, hK1, hK2, hR3, hR4, ok1, ok2, rfl, rfl⟩⟩
    · (try replace hc2 := of_decide_eq_false hc2)
      refine vc_exit ?_
      refine vc_seq ?_
      refine vc_region ?_
      refine vl_val rfl (.some rfl) (val_move rfl) ?_
      refine vl_val rfl (.some rfl) (val_move rfl) ?_
      refine vl_call (C := KQ b2 t As2 cs2 S Ac2 cc2 K2 ++ RQ b4 t As4 cs4 S Al4 cl4 R4) rfl rfl (.some rfl) Try.call29 rfl (by repeat (first | exact .nil | (apply Sub.cons; · repeat (first | exact .head | apply Take.tail)))) (fun w hw => kAlike b2 t As2 cs2 S Ac2 cc2 K2 b4 As4 cs4 Al4 cl4 R4 V2 hK2 hR4 ok2 w) (fun v H' h => ?_)
      obtain ⟨rfl, rfl⟩ := h
      show VL _ _ _ _ _ (_ :: _ :: _ :: _ :: _ :: _ :: _)
      refine vl_val rfl (.some rfl) (val_move rfl) ?_
      refine vl_on rfl rfl rfl rfl ?_
      refine vl_callV rfl rfl (.some rfl) Try.call14 rfl (fun w hw => kLives w) ?_
      refine vl_val rfl (.some rfl) (val_pick rfl rfl) ?_
      refine vl_val rfl (.some rfl) (val_assign rfl) ?_
      refine vl_nil ?_
      refine vc_ret ?_
      refine ⟨_, [], _, res1 Try.results5 rfl, .nil, ?_⟩
      rfl

theorem law_KmvActs (T : Int) (A : Option Addr) (c : Nat) (q : List Sq) (Kk Mm : Int) (B : Option Addr) (d : Nat) (l : List Aq) (w : World) (g0 : -9223372036854775808 ≤ T ∧ T < 9223372036854775808) (hr : Reads w A (q.flatMap sqC)) (g1 : q.length ≤ c) (g2 : c ≤ maxLen) (g3 : ∀ v ∈ q, v.1 < 18446744073709551616 ∧ v.2.1 < 18446744073709551616 ∧ True) (g4 : -9223372036854775808 ≤ Kk ∧ Kk < 9223372036854775808) (g5 : -9223372036854775808 ≤ Mm ∧ Mm < 9223372036854775808) (hr1 : Reads w B (l.flatMap aqC)) (gl1 : l.length ≤ d) (gd1 : d ≤ maxLen) (gu1 : ∀ a ∈ l, (-9223372036854775808 ≤ a.1 ∧ a.1 < 9223372036854775808) ∧ a.2.1 < 18446744073709551616 ∧ True) : FnV Try.prog 5 [.agg #[.int .i64 T, .slice A q.length c, .int .i64 Kk, .int .i64 Mm], .slice B l.length d] (.bool true) w := by
  have hll : l.length ≤ 9223372036854775807 := by unfold maxLen at gd1; omega
  have hb : ∀ s ∈ q.map toSd, s.1 < 18446744073709551616 ∧ s.2 < 18446744073709551616 := fun s hs => by
    obtain ⟨v, hv, rfl⟩ := List.mem_map.1 hs
    exact ⟨(g3 v hv).1, (g3 v hv).2.1⟩
  have hl : q.length = (q.map toSd).length := (List.length_map _).symm
  rw [← seed_sq] at hr
  rw [hl]
  have hS : (q.map toSd).length < 9223372036854775808 := by unfold maxLen at g2; omega
  by_cases hg : goodK T (q.map toSd) Kk Mm
  · obtain ⟨t, rfl⟩ : ∃ t : Nat, T = t := ⟨T.toNat, by have := hg.1; omega⟩
    exact aGood t Kk Mm A c _ hS hb w hr hg B d l hll gu1 hr1
  · exact aBad T Kk Mm A c _ hS hb w hr hg B d l hll gu1

end Go.Proofs.Ytclknendeeljaaa.K
