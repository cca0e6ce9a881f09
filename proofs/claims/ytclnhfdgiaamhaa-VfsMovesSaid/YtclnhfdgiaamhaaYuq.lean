/- Walks of the program's functions, printed by a program of this session; Lean checks them. -/
import Derived.Test.YtclnhfdgiaamhaaYum
namespace Go.Proofs.Ytclnhfdgiaamhaa.K
open Go Go.RowKit Go.Proofs
set_option linter.unusedVariables false
set_option linter.unusedSimpArgs false


set_option maxRecDepth 20000 in
theorem dIdxR (A : Option Addr) (c : Nat) (ws : List (List UInt8)) (hb : ∀ x ∈ ws, x.length < 9223372036854775808) (hl : ws.length ≤ 1000000) (w : World) (hr : Reads w A (tcS ws)) : Fn Try.prog 131 [.slice A ws.length c, may1F] [] (ret fun v H' => ∃ p : Int, v = .int .i64 p ∧ (0 ≤ p ↔ ¬ ∀ x ∈ ws, fnameP x) ∧ H' = []) w := by
  refine fn_enter Try.func131 rfl Try.ntmps131 rfl ?_
  refine vc_seq ?_
  refine vc_region ?_
  refine vl_val rfl (.some rfl) (val_assign rfl) ?_
  refine vl_nil ?_
  refine vc_seq ?_
  refine vc_seq ?_
  refine vc_region ?_
  refine vl_val rfl (.some rfl) (val_move rfl) ?_
  refine vl_val rfl (.some rfl) (val_lenSl Try.runUnderlying37 rfl) ?_
  refine vl_val rfl (.some rfl) (val_move rfl) ?_
  refine vl_nil ?_
  refine vc_block ?_
  refine vc_loopw (fun m E H => ∃ i : Nat, i ≤ ws.length ∧ m = ws.length - i ∧ (∀ j, j < i → fnameP (ws.getD j [])) ∧ E = [(0, .slice A ws.length c), (1, may1F), (7, .int .i64 (ws.length : Nat)), (8, .int .i64 i)] ∧ H = []) (ws.length) ⟨_, _, _, ⟨0, by omega, rfl, fun j hj => absurd hj (by omega), rfl, rfl⟩, (by repeat (first | exact trivial | refine ⟨rfl, ?_⟩ | refine ⟨le_item rfl (by first | rfl | (congr 1; omega) | (simp; done) | (simp; omega)), ?_⟩)), (by repeat constructor)⟩ ?_
  intro m E H hI
  obtain ⟨i, hi, rfl, hall, rfl, rfl⟩ := hI
  refine vc_seq ?_
  refine vc_region ?_
  refine vl_val rfl (.some rfl) (val_lt rfl rfl) ?_
  refine vl_nil ?_
  refine vc_seq ?_
  refine vc_cond rfl (fun hc0 => ?_) (fun hc0 => ?_)
  · (try replace hc0 := of_decide_eq_true hc0)
    refine vc_skip ?_
    refine vc_seq ?_
    refine vc_block ?_
    refine vc_seq ?_
    refine vc_region ?_
    refine vl_val rfl (.some rfl) (val_move rfl) ?_
    refine vl_val rfl (.some rfl) (val_assign rfl) ?_
    refine vl_nil ?_
    refine vc_seq ?_
    refine vc_region ?_
    refine vl_val rfl (.some rfl) (val_move rfl) ?_
    refine vl_val rfl (.some rfl) (val_move rfl) ?_
    refine vl_val rfl (.some rfl) (val_move rfl) ?_
    refine vl_val rfl (.some rfl) (val_indexAddr Try.runUnderlying37 Try.sizeOf9 rfl rfl (vs := tcS ws) (rd_old hr rfl) (by omega) (by omega) (by rw [tcS_length, Int.toNat_natCast]; omega)) ?_
    refine vl_val rfl (.some rfl) (val_load Try.isAgg9 rfl (cell_rd (rd_old hr rfl) (tcS_at (i := i) (by omega)))) ?_
    have hbi := hb _ (tc_in (ws := ws) (i := i) (by omega))
    refine vl_callvV (fs := []) (cs := []) rfl rfl (.some rfl) rfl Try.call115 rfl (fun w hw => dMay1 (ws.getD i []) hbi w) ?_
    refine vl_nil ?_
    refine vc_cond rfl (fun hc1 => ?_) (fun hc1 => ?_)
    · (try replace hc1 := of_decide_eq_true hc1)
      refine vc_seq ?_
      refine vc_region ?_
      refine vl_val rfl (.some rfl) (val_move rfl) ?_
      refine vl_val rfl (.some rfl) (val_assign rfl) ?_
      refine vl_nil ?_
      refine vc_ret ?_
      refine ⟨_, [], _, res1 Try.results131 rfl, (by repeat constructor), ?_⟩
      refine ⟨_, rfl, ⟨fun _ h => ?_, fun _ => by omega⟩, rfl⟩
      have h9 := h _ (tc_in (ws := ws) (i := i) (by omega))
      have h8 : ¬ fnameP (ws.getD i []) := by simpa using hc1
      exact h8 h9
    · (try replace hc1 := of_decide_eq_false hc1)
      refine vc_skip ?_
      refine vc_region ?_
      refine vl_val rfl (.some rfl) (val_add rfl rfl (by first | exact w_i64 (by omega) (by omega) | rfl)) ?_
      refine vl_val rfl (.some rfl) (val_move rfl) ?_
      refine vl_nil ?_
      exact ⟨(ws.length - (i + 1)), _, _, _, by omega, (by repeat (first | exact trivial | refine ⟨rfl, ?_⟩ | refine ⟨le_item rfl (by first | rfl | (congr 1; omega) | (simp; done) | (simp; omega)), ?_⟩)), (by repeat constructor), ⟨i + 1, by omega, rfl, fun j hj => by
        rcases Nat.lt_or_ge j i with h | h
        · exact hall j h
        · obtain rfl : j = i := by omega
          simpa using hc1, rfl, rfl⟩⟩
  · (try replace hc0 := of_decide_eq_false hc0)
    refine vc_exit ?_
    refine vc_seq ?_
    refine vc_region ?_
    refine vl_val rfl (.some rfl) (val_assign rfl) ?_
    refine vl_nil ?_
    refine vc_ret ?_
    refine ⟨_, [], _, res1 Try.results131 rfl, (by repeat constructor), ?_⟩
    refine ⟨_, rfl, ⟨fun h => absurd h (by decide), fun h => absurd (fun x hx => ?_) h⟩, rfl⟩
    obtain ⟨j, hj, rfl⟩ := List.getElem_of_mem hx
    have := hall j (by omega)
    simpa [List.getD, hj] using this
set_option maxRecDepth 20000 in
theorem dConR (A : Option Addr) (c : Nat) (ws : List (List UInt8)) (hb : ∀ x ∈ ws, x.length < 9223372036854775808) (hl : ws.length ≤ 1000000) (w : World) (hr : Reads w A (tcS ws)) : FnV Try.prog 114 [.slice A ws.length c, may1F] (.bool (decide (¬ ∀ x ∈ ws, fnameP x))) w := by
  refine fn_enter Try.func114 rfl Try.ntmps114 rfl ?_
  refine vc_seq ?_
  refine vc_region ?_
  refine vl_val rfl (.some rfl) (val_assign rfl) ?_
  refine vl_nil ?_
  refine vc_seq ?_
  refine vc_region ?_
  refine vl_val rfl (.some rfl) (val_move rfl) ?_
  refine vl_val rfl (.some rfl) (val_move rfl) ?_
  refine vl_call (C := []) rfl rfl (.some rfl) Try.call131 rfl .nil (fun w hw => dIdxR A c ws hb hl w (rdw (rd_old hr rfl) hw)) (fun v H' h => ?_)
  obtain ⟨p, rfl, hp, rfl⟩ := h
  show VL _ _ _ _ _ _
  refine vl_val rfl (.some rfl) (val_ge rfl rfl) ?_
  refine vl_val rfl (.some rfl) (val_assign rfl) ?_
  refine vl_nil ?_
  refine vc_ret ?_
  refine ⟨_, [], _, res1 Try.results114 rfl, .nil, ?_⟩
  show Value.bool _ = Value.bool _
  refine congrArg Value.bool ?_
  rw [decide_eq_decide]; exact hp
set_option maxRecDepth 20000 in
theorem dMayR (d a : Nat) (cut : Int) (K : Option Addr) (kn kc : Nat) (ops : Int) (A : Option Addr) (c : Nat) (ws : List (List UInt8)) (hb : ∀ x ∈ ws, x.length < 9223372036854775808) (hl : ws.length ≤ 1000000) (w : World) : FnR Try.prog 73 [.pointer (some ⟨d, 0, none⟩), .slice A ws.length c] [DK d a false cut K kn kc ops, sl A ws.length c 9 1 (tcS ws)] (.int .i64 (if ∀ x ∈ ws, fnameP x then 0 else 3)) w := by
  refine fn_enter Try.func73 rfl Try.ntmps73 rfl ?_
  refine vc_seq ?_
  refine vc_region ?_
  refine vl_val rfl (.some rfl) (val_assign rfl) ?_
  refine vl_nil ?_
  refine vc_seq ?_
  refine vc_block ?_
  refine vc_seq ?_
  refine vc_region ?_
  refine vl_val rfl (.some rfl) (val_move rfl) ?_
  refine vl_callR [DK d a false cut K kn kc ops] rfl rfl (.some rfl) Try.call80 rfl (by repeat constructor) (fun w hw => dMade d a false cut K kn kc ops w) ?_
  refine vl_val rfl (.some rfl) (val_not rfl) ?_
  refine vl_val rfl (.some rfl) (val_assign rfl) ?_
  refine vl_nil ?_
  refine vc_cond rfl (fun h => by cases h) (fun _ => ?_)
  refine vc_seq ?_
  refine vc_region ?_
  refine vl_val rfl (.some rfl) (val_move rfl) ?_
  refine vl_val rfl (.some rfl) (val_nil rfl rfl) ?_
  refine vl_val rfl (.some rfl) (by first | exact val_fieldAddr Try.runUnderlying91 rfl Try.sizeOf4 rfl | exact val_fieldAddrR Try.runUnderlying91 rfl Try.sizeOf4 rfl) ?_
  refine vl_val rfl (.some rfl) (val_load Try.isAgg4 rfl (by first | exact cell_cells (by repeat constructor) rfl | exact cell_rd (by first | exact rd_sl (by repeat constructor) | exact rd_old (by assumption) rfl) (by first | exact bcells_at (by omega) | exact ucells_at (by omega) | exact icells_at (by omega) | exact tcells_at (by omega) | exact bcells_get (by omega) | exact icells_get (by omega) | exact tcells_get (by omega) | exact ucells_get (by omega)) | exact cell_old (by assumption) (by simp [fps]))) ?_
  refine vl_val rfl (.some rfl) (val_assign rfl) ?_
  refine vl_nil ?_
  refine vc_cond rfl (fun hc1 => False.elim (by (try replace hc1 := of_decide_eq_true hc1); cases hc1)) (fun hc1 => ?_)
  (try replace hc1 := of_decide_eq_false hc1)
  refine vc_seq ?_
  refine vc_region ?_
  refine vl_val rfl (.some rfl) (val_move rfl) ?_
  refine vl_callV rfl rfl (.some rfl) Try.call114 rfl (fun w hw => dConR A c ws hb hl w (rdw (rd_sl (by repeat constructor)) hw)) ?_
  refine vl_val rfl (.some rfl) (val_assign rfl) ?_
  refine vl_nil ?_
  refine vc_cond rfl (fun hc2 => ?_) (fun hc2 => ?_)
  · (try replace hc2 := of_decide_eq_true hc2)
    refine vc_seq ?_
    refine vc_region ?_
    refine vl_val rfl (.some rfl) (val_assign rfl) ?_
    refine vl_nil ?_
    refine vc_ret ?_
    refine ⟨_, [DK d a false cut K kn kc ops, sl A ws.length c 9 1 (tcS ws)], _, res1 Try.results73 rfl, (by repeat constructor), ?_⟩
    first | exact ⟨by rw [if_neg hc2], rfl⟩ | exact ⟨by rw [if_pos (Decidable.not_not.1 hc2)], rfl⟩
  · (try replace hc2 := of_decide_eq_false hc2)
    refine vc_skip ?_
    refine vc_seq ?_
    refine vc_region ?_
    refine vl_val rfl (.some rfl) (val_assign rfl) ?_
    refine vl_nil ?_
    refine vc_ret ?_
    refine ⟨_, [DK d a false cut K kn kc ops, sl A ws.length c 9 1 (tcS ws)], _, res1 Try.results73 rfl, (by repeat constructor), ?_⟩
    first | exact ⟨by rw [if_neg hc2], rfl⟩ | exact ⟨by rw [if_pos (Decidable.not_not.1 hc2)], rfl⟩
set_option maxRecDepth 20000 in
theorem dOfR (d a : Nat) (cut : Int) (K : Option Addr) (kn kc : Nat) (ops : Int) (name : List UInt8) (hnb : name.length < 9223372036854775808) (O : Option Addr) (on oc : Nat) (os : List (List UInt8)) (hon : os.length = on) (ho5 : on ≤ 5) (hob : ∀ x ∈ os, x.length < 9223372036854775808) (ks : List (List UInt8)) (vs : List Value) (hn : (∀ x ∈ name :: os, fnameP x) → kfind name ks vs 0 = none) (w : World) : Fn Try.prog 76 [.pointer (some ⟨d, 0, none⟩), .string (sL name), .slice O on oc] [DK d a false cut K kn kc ops, sl O on oc 9 1 (tcS os), mq kS a ks vs] (ret fun v H' => ∃ e : Int, e ≠ 0 ∧ v = .tuple #[.pointer none, .int .i64 e] ∧ (( ∀ x ∈ name :: os, fnameP x) → e = 4) ∧ H' = [DK d a false cut K kn kc ops, sl O on oc 9 1 (tcS os), mq kS a ks vs]) w := by
  refine fn_enter Try.func76 rfl Try.ntmps76 rfl ?_
  refine vc_seq ?_
  refine vc_region ?_
  refine vl_val rfl (.some rfl) (val_assign rfl) ?_
  refine vl_val rfl (.some rfl) (val_assign rfl) ?_
  refine vl_nil ?_
  refine vc_seq ?_
  refine vc_seq ?_
  refine vc_region ?_
  refine vl_val rfl (.some rfl) (val_move rfl) ?_
  refine vl_val rfl (.some rfl) (val_move rfl) ?_
  refine vl_lit sT37 rfl rfl (.some rfl) rfl rfl rfl (by decide) (by decide) rfl (flat_one rfl) (fun r12 => ?_)
  refine vl_val rfl (.some rfl) (val_move rfl) ?_
  refine vl_append (vs := [.string (sL name)]) (us := tcS os) sT37 rfl rfl (.some rfl) rfl rfl (rd_sl (by repeat constructor)) (by rw [tcS_length]; omega) (by simp [tcS, List.all_map]; intros; rfl) (by omega) (by omega) (by repeat constructor) (fun A14 k14 => ?_)
  refine (show VL _ _ _ _ _ (sl A14 (1 + on) k14 9 1 (tcS (name :: os)) :: _) from ?_)
  rw [show 1 + on = (name :: os).length by simp; omega]
  refine vl_callR [DK d a false cut K kn kc ops, sl A14 (name :: os).length k14 9 1 (tcS (name :: os))] rfl rfl (.some rfl) Try.call73 rfl (by repeat constructor) (fun w hw => dMayR d a cut K kn kc ops A14 k14 (name :: os) (fun x hx => (List.mem_cons.1 hx).elim (fun h => h ▸ hnb) (hob x)) (by simp; omega) w) ?_
  refine vl_val rfl (.some rfl) (val_assign rfl) ?_
  refine vl_nil ?_
  refine vc_seq ?_
  refine vc_region ?_
  refine vl_val rfl (.some rfl) (val_move rfl) ?_
  refine vl_val rfl (.some rfl) (val_ne rfl rfl) ?_
  refine vl_nil ?_
  refine vc_cond rfl (fun hc0 => ?_) (fun hc0 => ?_)
  · (try replace hc0 := of_decide_eq_true hc0)
    have hbad : ¬ ∀ x ∈ name :: os, fnameP x := fun h => hc0 (if_pos h)
    refine vc_seq ?_
    refine vc_region ?_
    refine vl_val rfl (.some rfl) (val_move rfl) ?_
    refine vl_val rfl (.some rfl) (val_assign rfl) ?_
    refine vl_val rfl (.some rfl) (val_assign rfl) ?_
    refine vl_nil ?_
    refine vc_ret ?_
    refine ⟨_, [DK d a false cut K kn kc ops, sl O on oc 9 1 (tcS os), mq kS a ks vs], _, res2 Try.results76 rfl rfl, (by repeat constructor), ?_⟩
    exact ⟨_, hc0, rfl, fun h => absurd h hbad, rfl⟩
  · (try replace hc0 := of_decide_eq_false hc0)
    have hgood : ∀ x ∈ name :: os, fnameP x := Decidable.byContradiction fun h => hc0 (by rw [if_neg h]; decide)
    refine vc_skip ?_
    refine vc_seq ?_
    refine vc_region ?_
    refine vl_val rfl (.some rfl) (val_move rfl) ?_
    refine vl_val rfl (.some rfl) (val_nil rfl rfl) ?_
    refine vl_val rfl (.some rfl) (by first | exact val_fieldAddr Try.runUnderlying91 rfl Try.sizeOf89 rfl | exact val_fieldAddrR Try.runUnderlying91 rfl Try.sizeOf89 rfl) ?_
    refine vl_val rfl (.some rfl) (val_load Try.isAgg89 rfl (by first | exact cell_cells (by repeat constructor) rfl | exact cell_rd (by first | exact rd_sl (by repeat constructor) | exact rd_old (by assumption) rfl) (by first | exact bcells_at (by omega) | exact ucells_at (by omega) | exact icells_at (by omega) | exact tcells_at (by omega) | exact bcells_get (by omega) | exact icells_get (by omega) | exact tcells_get (by omega) | exact ucells_get (by omega)) | exact cell_old (by assumption) (by simp [fps]))) ?_
    refine vl_val rfl (.some rfl) (val_move rfl) ?_
    refine vl_val rfl (.some rfl) (val_look0 kQ (hn hgood) rfl rfl (by repeat constructor)) ?_
    refine vl_val rfl (.some rfl) (val_assign rfl) ?_
    refine vl_nil ?_
    refine vc_seq ?_
    refine vc_seq ?_
    refine vc_region ?_
    refine vl_val rfl (.some rfl) (val_move rfl) ?_
    refine vl_val rfl (.some rfl) (val_opO rfl rfl guard_ptr (bin_nil_eq Try.runUnderlying136)) ?_
    refine vl_nil ?_
    refine vc_cond rfl (fun _ => ?_) (fun h => by cases h)
    refine vc_seq ?_
    refine vc_region ?_
    refine vl_val rfl (.some rfl) (val_assign rfl) ?_
    refine vl_val rfl (.some rfl) (val_assign rfl) ?_
    refine vl_nil ?_
    refine vc_ret ?_
    refine ⟨_, [DK d a false cut K kn kc ops, sl O on oc 9 1 (tcS os), mq kS a ks vs], _, res2 Try.results76 rfl rfl, (by repeat constructor), ?_⟩
    exact ⟨4, by decide, rfl, fun _ => rfl, rfl⟩




set_option maxRecDepth 20000 in
theorem dRen1 (d a : Nat) (off : Bool) (cut : Int) (K : Option Addr) (kn kc : Nat) (ops : Int) (b1 b2 b3 b4 f : Nat) (nf nt : List UInt8) (w : World) : Fn Try.prog 82 [.pointer (some ⟨b1, 0, none⟩), .pointer (some ⟨b2, 0, none⟩), .pointer (some ⟨b3, 0, none⟩), .pointer (some ⟨b4, 0, none⟩)] (DK d a off cut K kn kc ops :: [cells b1 [.pointer (some ⟨d, 0, none⟩)] 64, cells b2 [.string (sL nf)] 9, cells b3 [.pointer (some ⟨f, 0, none⟩)] 136, cells b4 [.string (sL nt)] 9, mq kS a [nf] [.pointer (some ⟨f, 0, none⟩)]]) (ret fun v H' => ∃ C', H' = DK d a off cut K kn kc ops :: C' ∧ C' = [cells b1 [.pointer (some ⟨d, 0, none⟩)] 64, cells b2 [.string (sL nf)] 9, cells b3 [.pointer (some ⟨f, 0, none⟩)] 136, cells b4 [.string (sL nt)] 9, mq kS a [nt] [.pointer (some ⟨f, 0, none⟩)]]) w := by
  refine fn_enter Try.func82 rfl Try.ntmps82 rfl ?_
  refine vc_seq ?_
  refine vc_drawsS [0, 1, 2, 3, 4] [] [0, 1, 2, 3, 4, 5] [DK d a off cut K kn kc ops, cells b1 [.pointer (some ⟨d, 0, none⟩)] 64, cells b2 [.string (sL nf)] 9] (by repeat constructor) rfl (by kernel_rfl) (fun _ _ _ h => h) ?_
  refine vd_val rfl rfl rfl (.some rfl) (val_load Try.isAgg64 rfl (by first | exact cell_cells (by repeat constructor) rfl | exact cell_rd (by first | exact rd_sl (by repeat constructor) | exact rd_old (by assumption) rfl) (by first | exact bcells_at (by omega) | exact ucells_at (by omega) | exact icells_at (by omega) | exact tcells_at (by omega) | exact bcells_get (by omega) | exact icells_get (by omega) | exact tcells_get (by omega) | exact ucells_get (by omega)) | exact cell_old (by assumption) (by simp [fps]))) ?_
  refine vd_val rfl rfl rfl (.some rfl) (val_nil rfl rfl) ?_
  refine vd_val rfl rfl rfl (.some rfl) (by first | exact val_fieldAddr Try.runUnderlying91 rfl Try.sizeOf89 rfl | exact val_fieldAddrR Try.runUnderlying91 rfl Try.sizeOf89 rfl) ?_
  refine vd_val rfl rfl rfl (.some rfl) (val_load Try.isAgg89 rfl (by first | exact cell_cells (by repeat constructor) rfl | exact cell_rd (by first | exact rd_sl (by repeat constructor) | exact rd_old (by assumption) rfl) (by first | exact bcells_at (by omega) | exact ucells_at (by omega) | exact icells_at (by omega) | exact tcells_at (by omega) | exact bcells_get (by omega) | exact icells_get (by omega) | exact tcells_get (by omega) | exact ucells_get (by omega)) | exact cell_old (by assumption) (by simp [fps]))) ?_
  refine vd_val rfl rfl rfl (.some rfl) (val_load Try.isAgg9 rfl (by first | exact cell_cells (by repeat constructor) rfl | exact cell_rd (by first | exact rd_sl (by repeat constructor) | exact rd_old (by assumption) rfl) (by first | exact bcells_at (by omega) | exact ucells_at (by omega) | exact icells_at (by omega) | exact tcells_at (by omega) | exact bcells_get (by omega) | exact icells_get (by omega) | exact tcells_get (by omega) | exact ucells_get (by omega)) | exact cell_old (by assumption) (by simp [fps]))) ?_
  refine vd_op rfl rfl ?_
  refine vl_deleteQ kQ rfl rfl .none rfl rfl kf1 (by repeat constructor) ?_
  refine vl_nil ?_
  refine ⟨fun _ => ⟨_, (by repeat (first | exact .nil | exact sub_self _ | exact sub_skip (sub_self _) | exact sub_skip (sub_skip (sub_self _)) | exact sub_skip (sub_skip (sub_skip (sub_self _))) | (apply Sub.cons; · repeat (first | exact .head | apply Take.tail))))⟩, ?_⟩
  refine vd_nil ?_
  refine vc_drawsS [0, 1, 2, 3, 4, 5] [6] [0, 1, 2, 3, 4, 5, 6] [DK d a off cut K kn kc ops, cells b1 [.pointer (some ⟨d, 0, none⟩)] 64, cells b3 [.pointer (some ⟨f, 0, none⟩)] 136, cells b4 [.string (sL nt)] 9] (by repeat constructor) rfl (by kernel_rfl) (fun _ _ _ h => h) ?_
  refine vd_val rfl rfl rfl (.some rfl) (val_load Try.isAgg64 rfl (by first | exact cell_cells (by repeat constructor) rfl | exact cell_rd (by first | exact rd_sl (by repeat constructor) | exact rd_old (by assumption) rfl) (by first | exact bcells_at (by omega) | exact ucells_at (by omega) | exact icells_at (by omega) | exact tcells_at (by omega) | exact bcells_get (by omega) | exact icells_get (by omega) | exact tcells_get (by omega) | exact ucells_get (by omega)) | exact cell_old (by assumption) (by simp [fps]))) ?_
  refine vd_val rfl rfl rfl (.some rfl) (val_nil rfl rfl) ?_
  refine vd_val rfl rfl rfl (.some rfl) (by first | exact val_fieldAddr Try.runUnderlying91 rfl Try.sizeOf89 rfl | exact val_fieldAddrR Try.runUnderlying91 rfl Try.sizeOf89 rfl) ?_
  refine vd_val rfl rfl rfl (.some rfl) (val_load Try.isAgg89 rfl (by first | exact cell_cells (by repeat constructor) rfl | exact cell_rd (by first | exact rd_sl (by repeat constructor) | exact rd_old (by assumption) rfl) (by first | exact bcells_at (by omega) | exact ucells_at (by omega) | exact icells_at (by omega) | exact tcells_at (by omega) | exact bcells_get (by omega) | exact icells_get (by omega) | exact tcells_get (by omega) | exact ucells_get (by omega)) | exact cell_old (by assumption) (by simp [fps]))) ?_
  refine vd_val rfl rfl rfl (.some rfl) (val_load Try.isAgg9 rfl (by first | exact cell_cells (by repeat constructor) rfl | exact cell_rd (by first | exact rd_sl (by repeat constructor) | exact rd_old (by assumption) rfl) (by first | exact bcells_at (by omega) | exact ucells_at (by omega) | exact icells_at (by omega) | exact tcells_at (by omega) | exact bcells_get (by omega) | exact icells_get (by omega) | exact tcells_get (by omega) | exact ucells_get (by omega)) | exact cell_old (by assumption) (by simp [fps]))) ?_
  refine vd_val rfl rfl rfl (.some rfl) (val_load Try.isAgg136 rfl (by first | exact cell_cells (by repeat constructor) rfl | exact cell_rd (by first | exact rd_sl (by repeat constructor) | exact rd_old (by assumption) rfl) (by first | exact bcells_at (by omega) | exact ucells_at (by omega) | exact icells_at (by omega) | exact tcells_at (by omega) | exact bcells_get (by omega) | exact icells_get (by omega) | exact tcells_get (by omega) | exact ucells_get (by omega)) | exact cell_old (by assumption) (by simp [fps]))) ?_
  refine vd_op rfl rfl ?_
  refine vl_mapNewQ (k := nt) (ks := []) (vs := []) kQ rfl rfl .none rfl rfl rfl rfl (by repeat constructor) ?_
  refine vl_nil ?_
  refine ⟨fun h => (by cases h), ?_⟩
  refine vd_nil ?_
  refine ⟨_, DK d a off cut K kn kc ops :: [cells b1 [.pointer (some ⟨d, 0, none⟩)] 64, cells b2 [.string (sL nf)] 9, cells b3 [.pointer (some ⟨f, 0, none⟩)] 136, cells b4 [.string (sL nt)] 9, mq kS a [nt] [.pointer (some ⟨f, 0, none⟩)]], _, res0 Try.results82, (by repeat constructor), ?_⟩
  exact ⟨_, rfl, rfl⟩
set_option maxRecDepth 20000 in
theorem dOfM (d a : Nat) (K : Option Addr) (kn kc : Nat) (ops : Int) (nf nt : List UInt8) (h1 : fnameP nf) (h2 : fnameP nt) (f : Nat) (O : Option Addr) (oc : Nat) (w : World) : FnR Try.prog 76 [.pointer (some ⟨d, 0, none⟩), .string (sL nf), .slice O 1 oc] [DK d a false 0 K kn kc ops, sl O 1 oc 9 1 (tcS [nt]), mq kS a [nf] [.pointer (some ⟨f, 0, none⟩)]] (.tuple #[.pointer (some ⟨f, 0, none⟩), .int .i64 0]) w := by
  have hgn : ∀ x ∈ [nf, nt], fnameP x := fun x hx => by
    rcases List.mem_cons.1 hx with rfl | hx
    · exact h1
    · rw [List.mem_singleton.1 hx]; exact h2
  refine fn_enter Try.func76 rfl Try.ntmps76 rfl ?_
  refine vc_seq ?_
  refine vc_region ?_
  refine vl_val rfl (.some rfl) (val_assign rfl) ?_
  refine vl_val rfl (.some rfl) (val_assign rfl) ?_
  refine vl_nil ?_
  refine vc_seq ?_
  refine vc_seq ?_
  refine vc_region ?_
  refine vl_val rfl (.some rfl) (val_move rfl) ?_
  refine vl_val rfl (.some rfl) (val_move rfl) ?_
  refine vl_lit sT37 rfl rfl (.some rfl) rfl rfl rfl (by decide) (by decide) rfl (flat_one rfl) (fun r12 => ?_)
  refine vl_val rfl (.some rfl) (val_move rfl) ?_
  refine vl_append (vs := [.string (sL nf)]) (us := tcS [nt]) sT37 rfl rfl (.some rfl) rfl rfl (rd_sl (by repeat constructor)) rfl rfl (by omega) (by omega) (by repeat constructor) (fun A14 k14 => ?_)
  refine (show VL _ _ _ _ _ (sl A14 [nf, nt].length k14 9 1 (tcS [nf, nt]) :: _) from ?_)
  refine vl_callR [DK d a false 0 K kn kc ops, sl A14 ([nf, nt]).length k14 9 1 (tcS [nf, nt])] rfl rfl (.some rfl) Try.call73 rfl (by repeat constructor) (fun w hw => dMay d a false 0 K kn kc ops A14 k14 [nf, nt] hgn (by simp) w) ?_
  refine vl_val rfl (.some rfl) (val_assign rfl) ?_
  refine vl_nil ?_
  refine vc_seq ?_
  refine vc_region ?_
  refine vl_val rfl (.some rfl) (val_move rfl) ?_
  refine vl_val rfl (.some rfl) (val_ne rfl rfl) ?_
  refine vl_nil ?_
  refine vc_cond rfl (fun hc0 => False.elim (by (try replace hc0 := of_decide_eq_true hc0); exact hc0 rfl)) (fun hc0 => ?_)
  (try replace hc0 := of_decide_eq_false hc0)
  refine vc_skip ?_
  refine vc_seq ?_
  refine vc_region ?_
  refine vl_val rfl (.some rfl) (val_move rfl) ?_
  refine vl_val rfl (.some rfl) (val_nil rfl rfl) ?_
  refine vl_val rfl (.some rfl) (by first | exact val_fieldAddr Try.runUnderlying91 rfl Try.sizeOf89 rfl | exact val_fieldAddrR Try.runUnderlying91 rfl Try.sizeOf89 rfl) ?_
  refine vl_val rfl (.some rfl) (val_load Try.isAgg89 rfl (by first | exact cell_cells (by repeat constructor) rfl | exact cell_rd (by first | exact rd_sl (by repeat constructor) | exact rd_old (by assumption) rfl) (by first | exact bcells_at (by omega) | exact ucells_at (by omega) | exact icells_at (by omega) | exact tcells_at (by omega) | exact bcells_get (by omega) | exact icells_get (by omega) | exact tcells_get (by omega) | exact ucells_get (by omega)) | exact cell_old (by assumption) (by simp [fps]))) ?_
  refine vl_val rfl (.some rfl) (val_move rfl) ?_
  refine vl_val rfl (.some rfl) (val_look1 kQ kf1 rfl rfl (by repeat constructor)) ?_
  refine vl_val rfl (.some rfl) (val_assign rfl) ?_
  refine vl_nil ?_
  refine vc_seq ?_
  refine vc_seq ?_
  refine vc_region ?_
  refine vl_val rfl (.some rfl) (val_move rfl) ?_
  refine vl_val rfl (.some rfl) (val_opO rfl rfl guard_ptr (bin_ptr_eq Try.runUnderlying136)) ?_
  refine vl_nil ?_
  refine vc_cond rfl (fun h => by cases h) (fun _ => ?_)
  refine vc_skip ?_
  refine vc_seq ?_
  refine vc_region ?_
  refine vl_val rfl (.some rfl) (val_move rfl) ?_
  refine vl_val rfl (.some rfl) (val_assign rfl) ?_
  refine vl_val rfl (.some rfl) (val_assign rfl) ?_
  refine vl_nil ?_
  refine vc_ret ?_
  refine ⟨_, [DK d a false 0 K kn kc ops, sl O 1 oc 9 1 (tcS [nt]), mq kS a [nf] [.pointer (some ⟨f, 0, none⟩)]], _, res2 Try.results76 rfl rfl, (by repeat constructor), ?_⟩
  exact ⟨rfl, rfl⟩
set_option maxRecDepth 20000 in
theorem dRenM (d a : Nat) (K : Option Addr) (kn kc : Nat) (ops : Int) (hops : 0 ≤ ops ∧ ops < 4611686018427387904) (nf nt : List UInt8) (h1 : fnameP nf) (h2 : fnameP nt) (f : Nat) (w : World) : Fn Try.prog 41 [.pointer (some ⟨d, 0, none⟩), .string (sL nf), .string (sL nt)] [DK d a false 0 K kn kc ops, mq kS a [nf] [.pointer (some ⟨f, 0, none⟩)]] (ret fun v H' => v = .int .i64 0 ∧ H' = [DK d a false 0 K kn kc (ops + 1), mq kS a [nt] [.pointer (some ⟨f, 0, none⟩)]]) w := by
  refine fn_enter Try.func41 rfl Try.ntmps41 rfl ?_
  refine vc_seq ?_
  refine vc_region ?_
  refine vl_box rfl rfl (.some rfl) rfl (fun r3 => ?_)
  refine vl_box rfl rfl (.some rfl) rfl (fun r4 => ?_)
  refine vl_box rfl rfl (.some rfl) rfl (fun r5 => ?_)
  refine vl_val rfl (.some rfl) (val_assign rfl) ?_
  refine vl_nil ?_
  refine vc_seq ?_
  refine vc_region ?_
  refine vl_val rfl (.some rfl) (val_load Try.isAgg64 rfl (by first | exact cell_cells (by repeat constructor) rfl | exact cell_rd (by first | exact rd_sl (by repeat constructor) | exact rd_old (by assumption) rfl) (by first | exact bcells_at (by omega) | exact ucells_at (by omega) | exact icells_at (by omega) | exact tcells_at (by omega) | exact bcells_get (by omega) | exact icells_get (by omega) | exact tcells_get (by omega) | exact ucells_get (by omega)) | exact cell_old (by assumption) (by simp [fps]))) ?_
  refine vl_val rfl (.some rfl) (val_load Try.isAgg9 rfl (by first | exact cell_cells (by repeat constructor) rfl | exact cell_rd (by first | exact rd_sl (by repeat constructor) | exact rd_old (by assumption) rfl) (by first | exact bcells_at (by omega) | exact ucells_at (by omega) | exact icells_at (by omega) | exact tcells_at (by omega) | exact bcells_get (by omega) | exact icells_get (by omega) | exact tcells_get (by omega) | exact ucells_get (by omega)) | exact cell_old (by assumption) (by simp [fps]))) ?_
  refine vl_val rfl (.some rfl) (val_load Try.isAgg9 rfl (by first | exact cell_cells (by repeat constructor) rfl | exact cell_rd (by first | exact rd_sl (by repeat constructor) | exact rd_old (by assumption) rfl) (by first | exact bcells_at (by omega) | exact ucells_at (by omega) | exact icells_at (by omega) | exact tcells_at (by omega) | exact bcells_get (by omega) | exact icells_get (by omega) | exact tcells_get (by omega) | exact ucells_get (by omega)) | exact cell_old (by assumption) (by simp [fps]))) ?_
  refine vl_lit sT37 rfl rfl (.some rfl) rfl rfl rfl (by decide) (by decide) rfl (flat_one rfl) (fun r13 => ?_)
  refine vl_callR [DK d a false 0 K kn kc ops, sl (some ⟨r13, 0, none⟩) 1 1 9 1 (tcS [nt]), mq kS a [nf] [.pointer (some ⟨f, 0, none⟩)]] rfl rfl (.some rfl) Try.call76 rfl (by repeat constructor) (fun w hw => dOfM d a K kn kc ops nf nt h1 h2 f (some ⟨r13, 0, none⟩) 1 w) ?_
  refine vl_val rfl (.some rfl) (val_move rfl) ?_
  refine vl_val rfl (.some rfl) (val_extract rfl rfl) ?_
  refine vl_val rfl (.some rfl) (val_extract rfl rfl) ?_
  refine vl_alloc rfl rfl (.some rfl) Try.zeroValue136 (fun r7 => ?_)
  first | refine vl_store rfl rfl .none rfl rfl Try.sizeOf136 rfl (by repeat constructor) (by first | decide | exact Nat.le_refl _ | exact Nat.le_of_ble_eq_true rfl | (simp; omega)) ?_ | refine vl_storeSl rfl rfl .none rfl rfl Try.sizeOf136 rfl (by simp [Value.cells]) (by repeat constructor) (by first | decide | (simp [Value.cells]; omega)) ?_
  refine vl_val rfl (.some rfl) (val_assign rfl) ?_
  refine vl_nil ?_
  refine vc_seq ?_
  refine vc_seq ?_
  refine vc_region ?_
  refine vl_val rfl (.some rfl) (val_move rfl) ?_
  refine vl_val rfl (.some rfl) (val_ne rfl rfl) ?_
  refine vl_nil ?_
  refine vc_cond rfl (fun hc0 => False.elim (by (try replace hc0 := of_decide_eq_true hc0); exact hc0 rfl)) (fun hc0 => ?_)
  (try replace hc0 := of_decide_eq_false hc0)
  refine vc_skip ?_
  refine vc_seq ?_
  refine vc_region ?_
  refine vl_val rfl (.some rfl) (val_load Try.isAgg64 rfl (by first | exact cell_cells (by repeat constructor) rfl | exact cell_rd (by first | exact rd_sl (by repeat constructor) | exact rd_old (by assumption) rfl) (by first | exact bcells_at (by omega) | exact ucells_at (by omega) | exact icells_at (by omega) | exact tcells_at (by omega) | exact bcells_get (by omega) | exact icells_get (by omega) | exact tcells_get (by omega) | exact ucells_get (by omega)) | exact cell_old (by assumption) (by simp [fps]))) ?_
  refine vl_val rfl (.some rfl) (val_mkFunc (us := []) (vs := [.pointer (some ⟨r3, 0, none⟩), .pointer (some ⟨r4, 0, none⟩), .pointer (some ⟨r7, 0, none⟩), .pointer (some ⟨r5, 0, none⟩)]) rfl rfl) ?_
  refine vl_call (C := DK d a false 0 K kn kc ops :: [cells r3 [.pointer (some ⟨d, 0, none⟩)] 64, cells r4 [.string (sL nf)] 9, cells r7 [.pointer (some ⟨f, 0, none⟩)] 136, cells r5 [.string (sL nt)] 9, mq kS a [nf] [.pointer (some ⟨f, 0, none⟩)]]) rfl rfl (.some rfl) Try.call74 rfl (by repeat constructor) (fun w hw => dOp0 d a false K kn kc ops hops 82 [] [.pointer (some ⟨r3, 0, none⟩), .pointer (some ⟨r4, 0, none⟩), .pointer (some ⟨r7, 0, none⟩), .pointer (some ⟨r5, 0, none⟩)] [cells r3 [.pointer (some ⟨d, 0, none⟩)] 64, cells r4 [.string (sL nf)] 9, cells r7 [.pointer (some ⟨f, 0, none⟩)] 136, cells r5 [.string (sL nt)] 9, mq kS a [nf] [.pointer (some ⟨f, 0, none⟩)]] (fun C' => C' = [cells r3 [.pointer (some ⟨d, 0, none⟩)] 64, cells r4 [.string (sL nf)] 9, cells r7 [.pointer (some ⟨f, 0, none⟩)] 136, cells r5 [.string (sL nt)] 9, mq kS a [nt] [.pointer (some ⟨f, 0, none⟩)]]) Try.call82 (fun w => by
    have h := dRen1 d a false 0 K kn kc (ops + 1) r3 r4 r7 r5 f nf nt w
    exact h) w) (fun v H' h => ?_)
  obtain ⟨rfl, C', rfl, rfl⟩ := h
  show VL _ _ _ _ _ (_ :: _)
  refine vl_val rfl (.some rfl) (val_assign rfl) ?_
  refine vl_nil ?_
  refine vc_ret ?_
  refine ⟨_, [DK d a false 0 K kn kc (ops + 1), mq kS a [nt] [.pointer (some ⟨f, 0, none⟩)]], _, res1 Try.results41 rfl, (by repeat constructor), ?_⟩
  exact ⟨rfl, rfl⟩
set_option maxRecDepth 20000 in
theorem dRenB (d a : Nat) (K : Option Addr) (kn kc : Nat) (ops : Int) (nf nt : List UInt8) (h1 : nf.length < 9223372036854775808) (h2 : nt.length < 9223372036854775808) (w : World) : Fn Try.prog 41 [.pointer (some ⟨d, 0, none⟩), .string (sL nf), .string (sL nt)] [DK d a false 0 K kn kc ops, mq kS a [] []] (ret fun v H' => ∃ e : Int, e ≠ 0 ∧ v = .int .i64 e ∧ H' = [DK d a false 0 K kn kc ops, mq kS a [] []]) w := by
  refine fn_enter Try.func41 rfl Try.ntmps41 rfl ?_
  refine vc_seq ?_
  refine vc_region ?_
  refine vl_box rfl rfl (.some rfl) rfl (fun r3 => ?_)
  refine vl_box rfl rfl (.some rfl) rfl (fun r4 => ?_)
  refine vl_box rfl rfl (.some rfl) rfl (fun r5 => ?_)
  refine vl_val rfl (.some rfl) (val_assign rfl) ?_
  refine vl_nil ?_
  refine vc_seq ?_
  refine vc_region ?_
  refine vl_val rfl (.some rfl) (val_load Try.isAgg64 rfl (by first | exact cell_cells (by repeat constructor) rfl | exact cell_rd (by first | exact rd_sl (by repeat constructor) | exact rd_old (by assumption) rfl) (by first | exact bcells_at (by omega) | exact ucells_at (by omega) | exact icells_at (by omega) | exact tcells_at (by omega) | exact bcells_get (by omega) | exact icells_get (by omega) | exact tcells_get (by omega) | exact ucells_get (by omega)) | exact cell_old (by assumption) (by simp [fps]))) ?_
  refine vl_val rfl (.some rfl) (val_load Try.isAgg9 rfl (by first | exact cell_cells (by repeat constructor) rfl | exact cell_rd (by first | exact rd_sl (by repeat constructor) | exact rd_old (by assumption) rfl) (by first | exact bcells_at (by omega) | exact ucells_at (by omega) | exact icells_at (by omega) | exact tcells_at (by omega) | exact bcells_get (by omega) | exact icells_get (by omega) | exact tcells_get (by omega) | exact ucells_get (by omega)) | exact cell_old (by assumption) (by simp [fps]))) ?_
  refine vl_val rfl (.some rfl) (val_load Try.isAgg9 rfl (by first | exact cell_cells (by repeat constructor) rfl | exact cell_rd (by first | exact rd_sl (by repeat constructor) | exact rd_old (by assumption) rfl) (by first | exact bcells_at (by omega) | exact ucells_at (by omega) | exact icells_at (by omega) | exact tcells_at (by omega) | exact bcells_get (by omega) | exact icells_get (by omega) | exact tcells_get (by omega) | exact ucells_get (by omega)) | exact cell_old (by assumption) (by simp [fps]))) ?_
  refine vl_lit sT37 rfl rfl (.some rfl) rfl rfl rfl (by decide) (by decide) rfl (flat_one rfl) (fun r13 => ?_)
  refine vl_call (C := [DK d a false 0 K kn kc ops, sl (some ⟨r13, 0, none⟩) 1 1 9 1 (tcS [nt]), mq kS a [] []]) rfl rfl (.some rfl) Try.call76 rfl (by repeat constructor) (fun w hw => dOfR d a 0 K kn kc ops nf h1 (some ⟨r13, 0, none⟩) 1 1 [nt] rfl (by decide) (fun x hx => by rw [List.mem_singleton.1 hx]; exact h2) [] [] (fun _ => rfl) w) (fun v H' h => ?_)
  obtain ⟨e, he0, rfl, _, rfl⟩ := h
  show VL _ _ _ _ _ (_ :: _)
  refine vl_val rfl (.some rfl) (val_move rfl) ?_
  refine vl_val rfl (.some rfl) (val_extract rfl rfl) ?_
  refine vl_val rfl (.some rfl) (val_extract rfl rfl) ?_
  refine vl_alloc rfl rfl (.some rfl) Try.zeroValue136 (fun r7 => ?_)
  first | refine vl_store rfl rfl .none rfl rfl Try.sizeOf136 rfl (by repeat constructor) (by first | decide | exact Nat.le_refl _ | exact Nat.le_of_ble_eq_true rfl | (simp; omega)) ?_ | refine vl_storeSl rfl rfl .none rfl rfl Try.sizeOf136 rfl (by simp [Value.cells]) (by repeat constructor) (by first | decide | (simp [Value.cells]; omega)) ?_
  refine vl_val rfl (.some rfl) (val_assign rfl) ?_
  refine vl_nil ?_
  refine vc_seq ?_
  refine vc_seq ?_
  refine vc_region ?_
  refine vl_val rfl (.some rfl) (val_move rfl) ?_
  refine vl_val rfl (.some rfl) (val_ne rfl rfl) ?_
  refine vl_nil ?_
  refine vc_cond rfl (fun hc0 => ?_) (fun hc0 => False.elim (by (try replace hc0 := of_decide_eq_false hc0); exact hc0 he0))
  (try replace hc0 := of_decide_eq_true hc0)
  refine vc_seq ?_
  refine vc_region ?_
  refine vl_val rfl (.some rfl) (val_move rfl) ?_
  refine vl_val rfl (.some rfl) (val_assign rfl) ?_
  refine vl_nil ?_
  refine vc_ret ?_
  refine ⟨_, [DK d a false 0 K kn kc ops, mq kS a [] []], _, res1 Try.results41 rfl, (by repeat constructor), ?_⟩
  exact ⟨e, he0, rfl, rfl⟩




set_option maxRecDepth 20000 in
theorem dCloneM (A : Option Addr) (c : Nat) (l : List UInt8) (hl : l.length ≤ 1048576) (w : World) (hr : Reads w A (bcells l)) : Fn Try.prog 81 [.slice A l.length c] [] (ret fun u H' => ∃ A' c', u = .slice A' l.length c' ∧ H' = [sl A' l.length c' 5 1 (bcells l)]) w := by
  refine fn_enter Try.func81 rfl Try.ntmps81 rfl ?_
  refine vc_seq ?_
  refine vc_region ?_
  refine vl_val rfl (.some rfl) (val_assign rfl) ?_
  refine vl_nil ?_
  refine vc_seq ?_
  refine vc_seq ?_
  refine vc_region ?_
  refine vl_val rfl (.some rfl) (val_move rfl) ?_
  refine vl_val rfl (.some rfl) (val_opO rfl rfl guard_slice (bin_slice_eq Try.runUnderlying22)) ?_
  refine vl_nil ?_
  refine vc_cond rfl (fun hc0 => ?_) (fun hc0 => ?_)
  · (try replace hc0 := of_decide_eq_true hc0)
    refine vc_seq ?_
    refine vc_region ?_
    obtain rfl : A = none := by simpa using hc0
    have hz : (bcells l) = [] := by
      rcases hc : (bcells l) with _ | ⟨u, t⟩
      · rfl
      · obtain ⟨x, hx', _⟩ := hr 0 u (by rw [hc]; rfl); cases hx'
    obtain rfl : l = [] := by
      have := congrArg List.length hz
      rw [bcells_length] at this
      exact List.eq_nil_of_length_eq_zero (by simp only [List.length_nil] at this; omega)
    refine vl_val rfl (.some rfl) (val_assign rfl) ?_
    refine vl_nilSl 5 1 ?_
    refine vl_nil ?_
    refine vc_ret ?_
    refine ⟨_, [sl none 0 0 5 1 []], _, res1 Try.results81 rfl, (by repeat constructor), ?_⟩
    exact ⟨none, 0, rfl, rfl⟩
  · (try replace hc0 := of_decide_eq_false hc0)
    refine vc_skip ?_
    refine vc_seq ?_
    refine vc_region ?_
    refine vl_lit0 sT22 Try.sizeOf5 rfl rfl (.some rfl) (fun r5 => ?_)
    refine vl_val rfl (.some rfl) (val_move rfl) ?_
    refine vl_append sT22 rfl rfl (.some rfl) rfl rfl (rd_old hr rfl) (by rw [bcells_length]; omega) (one_b l) (by omega) (by omega) (by repeat constructor) (fun A7 k7 => ?_)
    rw [Nat.zero_add, List.nil_append]
    refine vl_val rfl (.some rfl) (val_assign rfl) ?_
    refine vl_nil ?_
    refine vc_ret ?_
    refine ⟨_, [sl A7 l.length k7 5 1 (bcells l)], _, res1 Try.results81 rfl, (by repeat constructor), ?_⟩
    exact ⟨A7, k7, rfl, rfl⟩
set_option maxRecDepth 20000 in
theorem dReadM (d a : Nat) (K : Option Addr) (kn kc : Nat) (ops : Int) (hops : 0 ≤ ops ∧ ops < 4611686018427387904) (name : List UInt8) (hnm : fnameP name) (f : Nat) (A : Option Addr) (c : Nat) (b : List UInt8) (cut sy : Int) (hb : b.length ≤ 1048576) (w : World) : Fn Try.prog 40 [.pointer (some ⟨d, 0, none⟩), .string (sL name)] [DK d a false cut K kn kc ops, mq kS a [name] [.pointer (some ⟨f, 0, none⟩)], FL f A (b).length c sy, BY A (b).length c (b)] (ret fun v H' => ∃ A' c', v = .tuple #[.slice A' b.length c', .int .i64 0] ∧ H' = [DK d a false cut K kn kc ops, mq kS a [name] [.pointer (some ⟨f, 0, none⟩)], FL f A (b).length c sy, BY A (b).length c (b), BY A' b.length c' b]) w := by
  refine fn_enter Try.func40 rfl Try.ntmps40 rfl ?_
  refine vc_seq ?_
  refine vc_region ?_
  refine vl_val rfl (.some rfl) (val_assign rfl) ?_
  refine vl_val rfl (.some rfl) (val_assign rfl) ?_
  refine vl_nil ?_
  refine vc_seq ?_
  refine vc_region ?_
  refine vl_val rfl (.some rfl) (val_move rfl) ?_
  refine vl_val rfl (.some rfl) (val_move rfl) ?_
  refine vl_callR [DK d a false cut K kn kc ops, mq kS a [name] [.pointer (some ⟨f, 0, none⟩)]] rfl rfl (.some rfl) Try.call76 rfl (by repeat constructor) (fun w hw => dOf d a cut K kn kc ops name hnm [name] [.pointer (some ⟨f, 0, none⟩)] 0 f kf1 w) ?_
  refine vl_val rfl (.some rfl) (val_move rfl) ?_
  refine vl_val rfl (.some rfl) (val_extract rfl rfl) ?_
  refine vl_val rfl (.some rfl) (val_extract rfl rfl) ?_
  refine vl_val rfl (.some rfl) (val_assign rfl) ?_
  refine vl_val rfl (.some rfl) (val_assign rfl) ?_
  refine vl_nil ?_
  refine vc_seq ?_
  refine vc_seq ?_
  refine vc_region ?_
  refine vl_val rfl (.some rfl) (val_move rfl) ?_
  refine vl_val rfl (.some rfl) (val_ne rfl rfl) ?_
  refine vl_nil ?_
  refine vc_cond rfl (fun hc0 => False.elim (by (try replace hc0 := of_decide_eq_true hc0); exact hc0 rfl)) (fun hc0 => ?_)
  (try replace hc0 := of_decide_eq_false hc0)
  refine vc_skip ?_
  refine vc_seq ?_
  refine vc_region ?_
  refine vl_val rfl (.some rfl) (val_move rfl) ?_
  refine vl_val rfl (.some rfl) (val_nil rfl rfl) ?_
  refine vl_val rfl (.some rfl) (by first | exact val_fieldAddr Try.runUnderlying139 rfl Try.sizeOf22 rfl | exact val_fieldAddrR Try.runUnderlying139 rfl Try.sizeOf22 rfl) ?_
  refine vl_val rfl (.some rfl) (val_load Try.isAgg22 rfl (by first | exact cell_cells (by repeat constructor) rfl | exact cell_rd (by first | exact rd_sl (by repeat constructor) | exact rd_old (by assumption) rfl) (by first | exact bcells_at (by omega) | exact ucells_at (by omega) | exact icells_at (by omega) | exact tcells_at (by omega) | exact bcells_get (by omega) | exact icells_get (by omega) | exact tcells_get (by omega) | exact ucells_get (by omega)) | exact cell_old (by assumption) (by simp [fps]))) ?_
  refine vl_call (C := []) rfl rfl (.some rfl) Try.call81 rfl .nil (fun w hw => dCloneM A c b hb w (rdw (rd_sl (vs := bcells b) (by repeat constructor)) hw)) (fun v H' h => ?_)
  obtain ⟨A21, c21, rfl, rfl⟩ := h
  show VL _ _ _ _ _ (_ :: _)
  refine vl_val rfl (.some rfl) (val_assign rfl) ?_
  refine vl_val rfl (.some rfl) (val_assign rfl) ?_
  refine vl_nil ?_
  refine vc_ret ?_
  refine ⟨_, [DK d a false cut K kn kc ops, mq kS a [name] [.pointer (some ⟨f, 0, none⟩)], FL f A (b).length c sy, BY A (b).length c (b), BY A21 b.length c21 b], _, res2 Try.results40 rfl rfl, (by repeat constructor), ?_⟩
  exact ⟨A21, c21, rfl, rfl⟩
set_option maxRecDepth 20000 in
theorem dRead4 (d a : Nat) (cut : Int) (K : Option Addr) (kn kc : Nat) (ops : Int) (nm name : List UInt8) (hnm : fnameP nm) (hne : nm ≠ name) (f : Nat) (w : World) : Fn Try.prog 40 [.pointer (some ⟨d, 0, none⟩), .string (sL nm)] [DK d a false cut K kn kc ops, mq kS a [name] [.pointer (some ⟨f, 0, none⟩)]] (ret fun v H' => v = .tuple #[.slice none 0 0, .int .i64 4] ∧ H' = [DK d a false cut K kn kc ops, mq kS a [name] [.pointer (some ⟨f, 0, none⟩)]]) w := by
  refine fn_enter Try.func40 rfl Try.ntmps40 rfl ?_
  refine vc_seq ?_
  refine vc_region ?_
  refine vl_val rfl (.some rfl) (val_assign rfl) ?_
  refine vl_val rfl (.some rfl) (val_assign rfl) ?_
  refine vl_nil ?_
  refine vc_seq ?_
  refine vc_region ?_
  refine vl_val rfl (.some rfl) (val_move rfl) ?_
  refine vl_val rfl (.some rfl) (val_move rfl) ?_
  refine vl_nilSl 9 1 ?_
  refine vl_call (C := [DK d a false cut K kn kc ops, sl none 0 0 9 1 (tcS []), mq kS a [name] [.pointer (some ⟨f, 0, none⟩)]]) rfl rfl (.some rfl) Try.call76 rfl (by repeat constructor) (fun w hw => dOfR d a cut K kn kc ops nm (by have := hnm.1; omega) none 0 0 [] rfl (by decide) (fun x hx => by cases hx) [name] [.pointer (some ⟨f, 0, none⟩)] (fun _ => by simp [kfind, hne]) w) (fun v H' h => ?_)
  obtain ⟨e, he0, rfl, he4, rfl⟩ := h
  obtain rfl : e = 4 := he4 (fun x hx => by rw [List.mem_singleton.1 hx]; exact hnm)
  show VL _ _ _ _ _ (_ :: _)
  refine vl_val rfl (.some rfl) (val_move rfl) ?_
  refine vl_val rfl (.some rfl) (val_extract rfl rfl) ?_
  refine vl_val rfl (.some rfl) (val_extract rfl rfl) ?_
  refine vl_val rfl (.some rfl) (val_assign rfl) ?_
  refine vl_val rfl (.some rfl) (val_assign rfl) ?_
  refine vl_nil ?_
  refine vc_seq ?_
  refine vc_seq ?_
  refine vc_region ?_
  refine vl_val rfl (.some rfl) (val_move rfl) ?_
  refine vl_val rfl (.some rfl) (val_ne rfl rfl) ?_
  refine vl_nil ?_
  refine vc_cond rfl (fun hc0 => ?_) (fun hc0 => False.elim (by (try replace hc0 := of_decide_eq_false hc0); exact hc0 he0))
  (try replace hc0 := of_decide_eq_true hc0)
  refine vc_seq ?_
  refine vc_region ?_
  refine vl_val rfl (.some rfl) (val_move rfl) ?_
  refine vl_val rfl (.some rfl) (val_assign rfl) ?_
  refine vl_val rfl (.some rfl) (val_assign rfl) ?_
  refine vl_nil ?_
  refine vc_ret ?_
  refine ⟨_, [DK d a false cut K kn kc ops, mq kS a [name] [.pointer (some ⟨f, 0, none⟩)]], _, res2 Try.results40 rfl rfl, (by repeat constructor), ?_⟩
  exact ⟨rfl, rfl⟩




theorem dReadAny (d a f : Nat) (na nb b : List UInt8) (ha : fnameP na) (hb : fnameP nb) (hl : b.length ≤ 1048576) (A3 : Option Addr) (c3 : Nat) (w : World) : Fn Try.prog 40 [.pointer (some ⟨d, 0, none⟩), .string (sL na)] [DK d a false 0 none 0 0 3, mq kS a [nb] [.pointer (some ⟨f, 0, none⟩)], FL f A3 b.length c3 0, BY A3 b.length c3 b] (ret fun v H' => ∃ (A' : Option Addr) (n c' : Nat) (e : Int) (R : List Chunk), v = .tuple #[.slice A' n c', .int .i64 e] ∧ (na ≠ nb → e = 4) ∧ H' = DK d a false 0 none 0 0 3 :: mq kS a [nb] [.pointer (some ⟨f, 0, none⟩)] :: R) w := by
  by_cases h : na = nb
  · subst h
    refine (dReadM d a none 0 0 3 (by decide) na ha f A3 c3 b 0 0 hl w).mono fun en H hh => ?_
    cases en <;> simp only [ret] at hh ⊢
    obtain ⟨A', c', rfl, rfl⟩ := hh
    exact ⟨A', _, c', 0, _, rfl, fun h => absurd rfl h, rfl⟩
  · refine (Fn.frame (F := [FL f A3 b.length c3 0, BY A3 b.length c3 b]) (dRead4 d a 0 none 0 0 3 na nb ha h f w)).mono fun en H hh => ?_
    cases en <;> simp only [ret] at hh ⊢
    obtain ⟨C, ⟨rfl, rfl⟩, rfl⟩ := hh
    exact ⟨none, 0, 0, 4, _, rfl, fun _ => rfl, rfl⟩

set_option maxRecDepth 20000 in
set_option maxHeartbeats 1000000 in
theorem xMoves (na nb : List UInt8) (hla : na.length < 9223372036854775808) (hlb : nb.length < 9223372036854775808) (B : Option Addr) (cb : Nat) (b : List UInt8) (w : World) (hr : Reads w B (bcells b)) : FnV Try.prog 10 [.string (sL na), .string (sL nb), .slice B b.length cb] (.bool true) w := by
  refine fn_enter Try.func10 rfl Try.ntmps10 rfl ?_
  refine vc_seq ?_
  refine vc_region ?_
  refine vl_val rfl (.some rfl) (val_assign rfl) ?_
  refine vl_nil ?_
  refine vc_seq ?_
  refine vc_region ?_
  refine vl_call (C := []) rfl rfl (.some rfl) Try.call33 rfl .nil (fun w hw => dNew w) (fun v H' h => ?_)
  obtain ⟨d, a, rfl, rfl⟩ := h
  show VL _ _ _ _ _ (_ :: _)
  refine vl_val rfl (.some rfl) (val_assign rfl) ?_
  refine vl_nil ?_
  refine vc_seq ?_
  refine vc_seq ?_
  refine vc_region ?_
  refine vl_val rfl (.some rfl) (val_move rfl) ?_
  refine vl_val rfl (.some rfl) (val_opO rfl rfl guard_ptr (bin_ptr_eq Try.runUnderlying64)) ?_
  refine vl_nil ?_
  refine vc_cond rfl (fun h => by cases h) (fun _ => ?_)
  refine vc_skip ?_
  refine vc_seq ?_
  refine vc_seq ?_
  refine vc_region ?_
  refine vl_val rfl (.some rfl) (val_move rfl) ?_
  refine vl_callV rfl rfl (.some rfl) Try.call30 rfl (fun w hw => vNameOk na hla w) ?_
  refine vl_val rfl (.some rfl) (val_not rfl) ?_
  refine vl_val rfl (.some rfl) (val_move rfl) ?_
  refine vl_split (t := 18) rfl (fun hg18 => ?_) (fun hg18 => ?_)
  · (try replace hg18 := of_decide_eq_true hg18)
    refine vl_off rfl rfl rfl rfl (.some rfl) ?_
    refine vl_off rfl rfl rfl rfl (.some rfl) ?_
    refine vl_off rfl rfl rfl rfl (.some rfl) ?_
    refine vl_val rfl (.some rfl) (val_pick rfl rfl) ?_
    refine vl_val rfl (.some rfl) (val_move rfl) ?_
    refine vl_off rfl rfl rfl rfl (.some rfl) ?_
    refine vl_off rfl rfl rfl rfl (.some rfl) ?_
    refine vl_off rfl rfl rfl rfl (.some rfl) ?_
    refine vl_val rfl (.some rfl) (val_pick rfl rfl) ?_
    refine vl_nil ?_
    refine vc_cond rfl (fun _ => ?_) (fun h => by cases h)
    refine vc_seq ?_
    refine vc_region ?_
    refine vl_val rfl (.some rfl) (val_move rfl) ?_
    refine vl_val rfl (.some rfl) (val_move rfl) ?_
    refine vl_val rfl (.some rfl) (val_move rfl) ?_
    refine vl_call (C := [DK d a false 0 none 0 0 0, mq kS a [] []]) rfl rfl (.some rfl) Try.call41 rfl (by repeat constructor) (fun w hw => dRenB d a none 0 0 0 na nb hla hlb w) (fun v H' h => ?_)
    obtain ⟨e, he0, rfl, rfl⟩ := h
    show VL _ _ _ _ _ (_ :: _)
    refine vl_val rfl (.some rfl) (val_ne rfl rfl) ?_
    refine vl_val rfl (.some rfl) (val_move rfl) ?_
    refine vl_split (t := 33) rfl (fun hg33 => ?_) (fun hg33 => ?_)
    · (try replace hg33 := of_decide_eq_true hg33)
      refine vl_on rfl rfl rfl rfl ?_
      refine vl_call (C := []) rfl rfl (.some rfl) Try.call32 rfl .nil (fun w hw => dLives w) (fun v H' h => ?_)
      obtain ⟨rfl, rfl⟩ := h
      show VL _ _ _ _ _ _
      refine vl_val rfl (.some rfl) (val_pick rfl rfl) ?_
      refine vl_val rfl (.some rfl) (val_assign rfl) ?_
      refine vl_nil ?_
      refine vc_ret ?_
      refine ⟨_, [], _, res1 Try.results10 rfl, .nil, ?_⟩
      first | rfl | (exfalso; first | omega | contradiction | exact absurd rfl (by assumption) | exact hc2 rfl | (simp_all; done))
    · (try replace hg33 := of_decide_eq_false hg33)
      refine vl_off rfl rfl rfl rfl (.some rfl) ?_
      refine vl_val rfl (.some rfl) (val_pick rfl rfl) ?_
      refine vl_val rfl (.some rfl) (val_assign rfl) ?_
      refine vl_nil ?_
      refine vc_ret ?_
      refine ⟨_, [], _, res1 Try.results10 rfl, .nil, ?_⟩
      first | rfl | (exfalso; first | omega | contradiction | exact absurd rfl (by assumption) | exact hc2 rfl | (simp_all; done))
  · (try replace hg18 := of_decide_eq_false hg18)
    refine vl_on rfl rfl rfl rfl ?_
    refine vl_val rfl (.some rfl) (val_move rfl) ?_
    refine vl_on rfl rfl rfl rfl ?_
    refine vl_callV rfl rfl (.some rfl) Try.call30 rfl (fun w hw => vNameOk nb hlb w) ?_
    refine vl_on rfl rfl rfl rfl ?_
    refine vl_val rfl (.some rfl) (val_not rfl) ?_
    refine vl_val rfl (.some rfl) (val_pick rfl rfl) ?_
    refine vl_val rfl (.some rfl) (val_move rfl) ?_
    refine vl_split (t := 23) rfl (fun hg23 => ?_) (fun hg23 => ?_)
    · (try replace hg23 := of_decide_eq_true hg23)
      refine vl_off rfl rfl rfl rfl (.some rfl) ?_
      refine vl_off rfl rfl rfl rfl (.some rfl) ?_
      refine vl_off rfl rfl rfl rfl (.some rfl) ?_
      refine vl_val rfl (.some rfl) (val_pick rfl rfl) ?_
      refine vl_nil ?_
      refine vc_cond rfl (fun _ => ?_) (fun h => by cases h)
      refine vc_seq ?_
      refine vc_region ?_
      refine vl_val rfl (.some rfl) (val_move rfl) ?_
      refine vl_val rfl (.some rfl) (val_move rfl) ?_
      refine vl_val rfl (.some rfl) (val_move rfl) ?_
      refine vl_call (C := [DK d a false 0 none 0 0 0, mq kS a [] []]) rfl rfl (.some rfl) Try.call41 rfl (by repeat constructor) (fun w hw => dRenB d a none 0 0 0 na nb hla hlb w) (fun v H' h => ?_)
      obtain ⟨e, he0, rfl, rfl⟩ := h
      show VL _ _ _ _ _ (_ :: _)
      refine vl_val rfl (.some rfl) (val_ne rfl rfl) ?_
      refine vl_val rfl (.some rfl) (val_move rfl) ?_
      refine vl_split (t := 33) rfl (fun hg33 => ?_) (fun hg33 => ?_)
      · (try replace hg33 := of_decide_eq_true hg33)
        refine vl_on rfl rfl rfl rfl ?_
        refine vl_call (C := []) rfl rfl (.some rfl) Try.call32 rfl .nil (fun w hw => dLives w) (fun v H' h => ?_)
        obtain ⟨rfl, rfl⟩ := h
        show VL _ _ _ _ _ _
        refine vl_val rfl (.some rfl) (val_pick rfl rfl) ?_
        refine vl_val rfl (.some rfl) (val_assign rfl) ?_
        refine vl_nil ?_
        refine vc_ret ?_
        refine ⟨_, [], _, res1 Try.results10 rfl, .nil, ?_⟩
        first | rfl | (exfalso; first | omega | contradiction | exact absurd rfl (by assumption) | exact hc2 rfl | (simp_all; done))
      · (try replace hg33 := of_decide_eq_false hg33)
        refine vl_off rfl rfl rfl rfl (.some rfl) ?_
        refine vl_val rfl (.some rfl) (val_pick rfl rfl) ?_
        refine vl_val rfl (.some rfl) (val_assign rfl) ?_
        refine vl_nil ?_
        refine vc_ret ?_
        refine ⟨_, [], _, res1 Try.results10 rfl, .nil, ?_⟩
        first | rfl | (exfalso; first | omega | contradiction | exact absurd rfl (by assumption) | exact hc2 rfl | (simp_all; done))
    · (try replace hg23 := of_decide_eq_false hg23)
      refine vl_on rfl rfl rfl rfl ?_
      refine vl_val rfl (.some rfl) (val_move rfl) ?_
      refine vl_on rfl rfl rfl rfl ?_
      refine vl_val rfl (.some rfl) (val_lenSl Try.runUnderlying22 rfl) ?_
      refine vl_on rfl rfl rfl rfl ?_
      refine vl_val rfl (.some rfl) (val_gt rfl rfl) ?_
      refine vl_val rfl (.some rfl) (val_pick rfl rfl) ?_
      refine vl_nil ?_
      refine vc_cond rfl (fun hc1 => ?_) (fun hc1 => ?_)
      · (try replace hc1 := of_decide_eq_true hc1)
        refine vc_seq ?_
        refine vc_region ?_
        refine vl_val rfl (.some rfl) (val_move rfl) ?_
        refine vl_val rfl (.some rfl) (val_move rfl) ?_
        refine vl_val rfl (.some rfl) (val_move rfl) ?_
        refine vl_call (C := [DK d a false 0 none 0 0 0, mq kS a [] []]) rfl rfl (.some rfl) Try.call41 rfl (by repeat constructor) (fun w hw => dRenB d a none 0 0 0 na nb hla hlb w) (fun v H' h => ?_)
        obtain ⟨e, he0, rfl, rfl⟩ := h
        show VL _ _ _ _ _ (_ :: _)
        refine vl_val rfl (.some rfl) (val_ne rfl rfl) ?_
        refine vl_val rfl (.some rfl) (val_move rfl) ?_
        refine vl_split (t := 33) rfl (fun hg33 => ?_) (fun hg33 => ?_)
        · (try replace hg33 := of_decide_eq_true hg33)
          refine vl_on rfl rfl rfl rfl ?_
          refine vl_call (C := []) rfl rfl (.some rfl) Try.call32 rfl .nil (fun w hw => dLives w) (fun v H' h => ?_)
          obtain ⟨rfl, rfl⟩ := h
          show VL _ _ _ _ _ _
          refine vl_val rfl (.some rfl) (val_pick rfl rfl) ?_
          refine vl_val rfl (.some rfl) (val_assign rfl) ?_
          refine vl_nil ?_
          refine vc_ret ?_
          refine ⟨_, [], _, res1 Try.results10 rfl, .nil, ?_⟩
          first | rfl | (exfalso; first | omega | contradiction | exact absurd rfl (by assumption) | exact hc2 rfl | (simp_all; done))
        · (try replace hg33 := of_decide_eq_false hg33)
          refine vl_off rfl rfl rfl rfl (.some rfl) ?_
          refine vl_val rfl (.some rfl) (val_pick rfl rfl) ?_
          refine vl_val rfl (.some rfl) (val_assign rfl) ?_
          refine vl_nil ?_
          refine vc_ret ?_
          refine ⟨_, [], _, res1 Try.results10 rfl, .nil, ?_⟩
          first | rfl | (exfalso; first | omega | contradiction | exact absurd rfl (by assumption) | exact hc2 rfl | (simp_all; done))
      · (try replace hc1 := of_decide_eq_false hc1)
        have ha : fnameP na := by simpa using hg18
        have hb : fnameP nb := by simpa using hg23
        have hl : b.length ≤ 1048576 := by omega
        refine vc_skip ?_
        refine vc_seq ?_
        refine vc_seq ?_
        refine vc_region ?_
        refine vl_val rfl (.some rfl) (val_move rfl) ?_
        refine vl_val rfl (.some rfl) (val_move rfl) ?_
        refine vl_call (C := [DK d a false 0 none 0 0 0, mq kS a [] []]) rfl rfl (.some rfl) Try.call34 rfl (by repeat constructor) (fun w hw => dCreate d a none 0 0 0 (by decide) na [] [] rfl (by decide) ha w) (fun v H' h => ?_)
        obtain ⟨rfl, f, rfl⟩ := h
        refine (show VL _ _ _ _ _ (DK d a false 0 none 0 0 1 :: FL f none 0 0 0 :: mq kS a [na] [.pointer (some ⟨f, 0, none⟩)] :: _) from ?_)
        refine vl_nilSl 5 1 ?_
        refine vl_val rfl (.some rfl) (val_ne rfl rfl) ?_
        refine vl_val rfl (.some rfl) (val_move rfl) ?_
        refine vl_split (t := 40) rfl (fun hg40 => ?_) (fun hg40 => ?_)
        · (try replace hg40 := of_decide_eq_true hg40)
          refine vl_off rfl rfl rfl rfl (.some rfl) ?_
          refine vl_off rfl rfl rfl rfl (.some rfl) ?_
          refine vl_off rfl rfl rfl rfl (.some rfl) ?_
          refine vl_off rfl rfl rfl rfl (.some rfl) ?_
          refine vl_off rfl rfl rfl rfl (.some rfl) ?_
          refine vl_val rfl (.some rfl) (val_pick rfl rfl) ?_
          refine vl_val rfl (.some rfl) (val_move rfl) ?_
          refine vl_off rfl rfl rfl rfl (.some rfl) ?_
          refine vl_off rfl rfl rfl rfl (.some rfl) ?_
          refine vl_off rfl rfl rfl rfl (.some rfl) ?_
          refine vl_off rfl rfl rfl rfl (.some rfl) ?_
          refine vl_off rfl rfl rfl rfl (.some rfl) ?_
          refine vl_val rfl (.some rfl) (val_pick rfl rfl) ?_
          refine vl_nil ?_
          refine vc_cond rfl (fun _ => ?_) (fun h => by cases h)
          refine vc_seq ?_
          refine vc_region ?_
          refine vl_val rfl (.some rfl) (val_assign rfl) ?_
          refine vl_nil ?_
          refine vc_ret ?_
          refine ⟨_, [], _, res1 Try.results10 rfl, .nil, ?_⟩
          first | rfl | (exfalso; first | omega | contradiction | exact absurd rfl (by assumption) | exact hc2 rfl | (simp_all; done))
        · (try replace hg40 := of_decide_eq_false hg40)
          refine vl_on rfl rfl rfl rfl ?_
          refine vl_val rfl (.some rfl) (val_move rfl) ?_
          refine vl_on rfl rfl rfl rfl ?_
          refine vl_val rfl (.some rfl) (val_move rfl) ?_
          refine vl_on rfl rfl rfl rfl ?_
          refine vl_val rfl (.some rfl) (val_move rfl) ?_
          refine vl_on rfl rfl rfl rfl ?_
          refine vl_call (C := [DK d a false 0 none 0 0 1, mq kS a [na] [.pointer (some ⟨f, 0, none⟩)], FL f none ([] : List UInt8).length 0 0, BY none ([] : List UInt8).length 0 []]) rfl rfl (.some rfl) Try.call35 rfl (by repeat constructor) (fun w hw => dWriteO d a none 0 0 1 (by decide) na ha f none 0 [] 0 B cb b (by simp; omega) w (readsM_old (Reads.m hr) (by repeat constructor) hw)) (fun v H' h => ?_)
          obtain ⟨rfl, A3, c3, rfl⟩ := h
          refine (show VL _ _ _ _ _ (DK d a false 0 none 0 0 2 :: mq kS a [na] [.pointer (some ⟨f, 0, none⟩)] :: FL f A3 b.length c3 0 :: BY A3 b.length c3 b :: _) from ?_)
          refine vl_on rfl rfl rfl rfl ?_
          refine vl_val rfl (.some rfl) (val_ne rfl rfl) ?_
          refine vl_val rfl (.some rfl) (val_pick rfl rfl) ?_
          refine vl_val rfl (.some rfl) (val_move rfl) ?_
          refine vl_split (t := 47) rfl (fun hg47 => ?_) (fun hg47 => ?_)
          · (try replace hg47 := of_decide_eq_true hg47)
            refine vl_off rfl rfl rfl rfl (.some rfl) ?_
            refine vl_off rfl rfl rfl rfl (.some rfl) ?_
            refine vl_off rfl rfl rfl rfl (.some rfl) ?_
            refine vl_off rfl rfl rfl rfl (.some rfl) ?_
            refine vl_off rfl rfl rfl rfl (.some rfl) ?_
            refine vl_val rfl (.some rfl) (val_pick rfl rfl) ?_
            refine vl_nil ?_
            refine vc_cond rfl (fun _ => ?_) (fun h => by cases h)
            refine vc_seq ?_
            refine vc_region ?_
            refine vl_val rfl (.some rfl) (val_assign rfl) ?_
            refine vl_nil ?_
            refine vc_ret ?_
            refine ⟨_, [], _, res1 Try.results10 rfl, .nil, ?_⟩
            first | rfl | (exfalso; first | omega | contradiction | exact absurd rfl (by assumption) | exact hc2 rfl | (simp_all; done))
          · (try replace hg47 := of_decide_eq_false hg47)
            refine vl_on rfl rfl rfl rfl ?_
            refine vl_val rfl (.some rfl) (val_move rfl) ?_
            refine vl_on rfl rfl rfl rfl ?_
            refine vl_val rfl (.some rfl) (val_move rfl) ?_
            refine vl_on rfl rfl rfl rfl ?_
            refine vl_val rfl (.some rfl) (val_move rfl) ?_
            refine vl_on rfl rfl rfl rfl ?_
            refine vl_call (C := [DK d a false 0 none 0 0 2, mq kS a [na] [.pointer (some ⟨f, 0, none⟩)]]) rfl rfl (.some rfl) Try.call41 rfl (by repeat constructor) (fun w hw => dRenM d a none 0 0 2 (by decide) na nb ha hb f w) (fun v H' h => ?_)
            obtain ⟨rfl, rfl⟩ := h
            refine (show VL _ _ _ _ _ (DK d a false 0 none 0 0 3 :: mq kS a [nb] [.pointer (some ⟨f, 0, none⟩)] :: _) from ?_)
            refine vl_on rfl rfl rfl rfl ?_
            refine vl_val rfl (.some rfl) (val_ne rfl rfl) ?_
            refine vl_val rfl (.some rfl) (val_pick rfl rfl) ?_
            refine vl_nil ?_
            refine vc_cond rfl (fun hc2 => ?_) (fun hc2 => ?_)
            · (try replace hc2 := of_decide_eq_true hc2)
              refine vc_seq ?_
              refine vc_region ?_
              refine vl_val rfl (.some rfl) (val_assign rfl) ?_
              refine vl_nil ?_
              refine vc_ret ?_
              refine ⟨_, [], _, res1 Try.results10 rfl, .nil, ?_⟩
              first | rfl | (exfalso; first | omega | contradiction | exact absurd rfl (by assumption) | exact hc2 rfl | (simp_all; done))
            · (try replace hc2 := of_decide_eq_false hc2)
              refine vc_skip ?_
              refine vc_seq ?_
              refine vc_region ?_
              refine vl_val rfl (.some rfl) (val_move rfl) ?_
              refine vl_val rfl (.some rfl) (val_move rfl) ?_
              refine vl_call (C := [DK d a false 0 none 0 0 3, mq kS a [nb] [.pointer (some ⟨f, 0, none⟩)], FL f A3 b.length c3 0, BY A3 b.length c3 b]) rfl rfl (.some rfl) Try.call40 rfl (by repeat constructor) (fun w hw => dReadM d a none 0 0 3 (by decide) nb hb f A3 c3 b 0 0 hl w) (fun v H' h => ?_)
              obtain ⟨A8, c8, rfl, rfl⟩ := h
              show VL _ _ _ _ _ (_ :: _)
              refine vl_val rfl (.some rfl) (val_move rfl) ?_
              refine vl_val rfl (.some rfl) (val_extract rfl rfl) ?_
              refine vl_val rfl (.some rfl) (val_extract rfl rfl) ?_
              refine vl_val rfl (.some rfl) (val_assign rfl) ?_
              refine vl_val rfl (.some rfl) (val_assign rfl) ?_
              refine vl_nil ?_
              refine vc_seq ?_
              refine vc_region ?_
              refine vl_val rfl (.some rfl) (val_move rfl) ?_
              refine vl_val rfl (.some rfl) (val_move rfl) ?_
              refine vl_call (C := [DK d a false 0 none 0 0 3, mq kS a [nb] [.pointer (some ⟨f, 0, none⟩)], FL f A3 b.length c3 0, BY A3 b.length c3 b]) rfl rfl (.some rfl) Try.call40 rfl (by repeat constructor) (fun w hw => dReadAny d a f na nb b ha hb hl A3 c3 w) (fun v H' h => ?_)
              obtain ⟨A9, n9, c9, e9, R9, rfl, he9, rfl⟩ := h
              show VL _ _ _ _ _ (_ :: _)
              refine vl_eqv (Eqv.cons _ (Eqv.cons _ (eqv_big R9 _).symm)) ?_
              refine vl_val rfl (.some rfl) (val_move rfl) ?_
              refine vl_val rfl (.some rfl) (val_extract rfl rfl) ?_
              refine vl_val rfl (.some rfl) (val_extract rfl rfl) ?_
              refine vl_val rfl (.some rfl) (val_assign rfl) ?_
              refine vl_val rfl (.some rfl) (val_assign rfl) ?_
              refine vl_nil ?_
              refine vc_seq ?_
              refine vc_region ?_
              refine vl_val rfl (.some rfl) (val_move rfl) ?_
              refine vl_val rfl (.some rfl) (val_eq rfl rfl) ?_
              refine vl_val rfl (.some rfl) (val_move rfl) ?_
              refine vl_split (t := 68) rfl (fun hg68 => ?_) (fun hg68 => ?_)
              · (try replace hg68 := of_decide_eq_true hg68)
                refine vl_on rfl rfl rfl rfl ?_
                refine vl_val rfl (.some rfl) (val_move rfl) ?_
                refine vl_on rfl rfl rfl rfl ?_
                refine vl_val rfl (.some rfl) (val_move rfl) ?_
                refine vl_on rfl rfl rfl rfl ?_
                refine vl_callV rfl rfl (.some rfl) Try.call17 rfl (fun w hw => vSameB _ _ _ _ b b w (rdw (rd_sl (by repeat constructor)) hw) (rdw (rd_old hr rfl) hw)) ?_
                rw [decide_eq_true rfl]
                refine vl_val rfl (.some rfl) (val_pick rfl rfl) ?_
                refine vl_val rfl (.some rfl) (val_move rfl) ?_
                refine vl_on rfl rfl rfl rfl ?_
                refine vl_val rfl (.some rfl) (val_move rfl) ?_
                refine vl_on rfl rfl rfl rfl ?_
                refine vl_val rfl (.some rfl) (val_move rfl) ?_
                refine vl_on rfl rfl rfl rfl ?_
                refine vl_val rfl (.some rfl) (val_seq rfl rfl) ?_
                refine vl_on rfl rfl rfl rfl ?_
                refine vl_val rfl (.some rfl) (val_move rfl) ?_
                refine vl_split (t := 77) rfl (fun hg77 => ?_) (fun hg77 => ?_)
                · (try replace hg77 := of_decide_eq_true hg77)
                  refine vl_off rfl rfl rfl rfl (.some rfl) ?_
                  refine vl_off rfl rfl rfl rfl (.some rfl) ?_
                  refine vl_on rfl rfl rfl rfl ?_
                  refine vl_val rfl (.some rfl) (val_pick rfl rfl) ?_
                  refine vl_val rfl (.some rfl) (val_pick rfl rfl) ?_
                  refine vl_val rfl (.some rfl) (val_move rfl) ?_
                  refine vl_on rfl rfl rfl rfl ?_
                  refine vl_val rfl (.some rfl) (val_move rfl) ?_
                  refine vl_on rfl rfl rfl rfl ?_
                  refine vl_call (C := [DK d a false 0 none 0 0 3, mq kS a [nb] [.pointer (some ⟨f, 0, none⟩)]]) rfl rfl (.some rfl) Try.call42 rfl (by repeat constructor) (fun w hw => dList d a false 0 none 0 0 3 f nb w) (fun v H' h => ?_)
                  obtain ⟨A11, c11, rfl, rfl⟩ := h
                  show VL _ _ _ _ _ (_ :: _)
                  refine vl_on rfl rfl rfl rfl ?_
                  refine vl_val rfl (.some rfl) (val_lenSl Try.runUnderlying37 rfl) ?_
                  refine vl_on rfl rfl rfl rfl ?_
                  refine vl_val rfl (.some rfl) (val_eq rfl rfl) ?_
                  refine vl_val rfl (.some rfl) (val_pick rfl rfl) ?_
                  refine vl_val rfl (.some rfl) (val_move rfl) ?_
                  refine vl_split (t := 88) rfl (fun hg88 => ?_) (fun hg88 => ?_)
                  · (try replace hg88 := of_decide_eq_true hg88)
                    refine vl_on rfl rfl rfl rfl ?_
                    refine vl_call (C := []) rfl rfl (.some rfl) Try.call32 rfl .nil (fun w hw => dLives w) (fun v H' h => ?_)
                    obtain ⟨rfl, rfl⟩ := h
                    show VL _ _ _ _ _ _
                    refine vl_val rfl (.some rfl) (val_pick rfl rfl) ?_
                    refine vl_val rfl (.some rfl) (val_assign rfl) ?_
                    refine vl_nil ?_
                    refine vc_ret ?_
                    refine ⟨_, [], _, res1 Try.results10 rfl, .nil, ?_⟩
                    first | rfl | (exfalso; first | omega | contradiction | exact absurd rfl (by assumption) | exact hc2 rfl | (simp_all; done))
                  · (try replace hg88 := of_decide_eq_false hg88)
                    refine vl_off rfl rfl rfl rfl (.some rfl) ?_
                    refine vl_val rfl (.some rfl) (val_pick rfl rfl) ?_
                    refine vl_val rfl (.some rfl) (val_assign rfl) ?_
                    refine vl_nil ?_
                    refine vc_ret ?_
                    refine ⟨_, [], _, res1 Try.results10 rfl, .nil, ?_⟩
                    first | rfl | (exfalso; first | omega | contradiction | exact absurd rfl (by assumption) | exact hc2 rfl | (simp_all; done))
                · (try replace hg77 := of_decide_eq_false hg77)
                  refine vl_on rfl rfl rfl rfl ?_
                  refine vl_val rfl (.some rfl) (val_move rfl) ?_
                  refine vl_on rfl rfl rfl rfl ?_
                  refine vl_val rfl (.some rfl) (val_eq rfl rfl) ?_
                  refine vl_on rfl rfl rfl rfl ?_
                  refine vl_val rfl (.some rfl) (val_pick rfl rfl) ?_
                  refine vl_val rfl (.some rfl) (val_pick rfl rfl) ?_
                  refine vl_val rfl (.some rfl) (val_move rfl) ?_
                  refine vl_split (t := 82) rfl (fun hg82 => ?_) (fun hg82 => ?_)
                  · (try replace hg82 := of_decide_eq_true hg82)
                    refine vl_on rfl rfl rfl rfl ?_
                    refine vl_val rfl (.some rfl) (val_move rfl) ?_
                    refine vl_on rfl rfl rfl rfl ?_
                    refine vl_call (C := [DK d a false 0 none 0 0 3, mq kS a [nb] [.pointer (some ⟨f, 0, none⟩)]]) rfl rfl (.some rfl) Try.call42 rfl (by repeat constructor) (fun w hw => dList d a false 0 none 0 0 3 f nb w) (fun v H' h => ?_)
                    obtain ⟨A11, c11, rfl, rfl⟩ := h
                    show VL _ _ _ _ _ (_ :: _)
                    refine vl_on rfl rfl rfl rfl ?_
                    refine vl_val rfl (.some rfl) (val_lenSl Try.runUnderlying37 rfl) ?_
                    refine vl_on rfl rfl rfl rfl ?_
                    refine vl_val rfl (.some rfl) (val_eq rfl rfl) ?_
                    refine vl_val rfl (.some rfl) (val_pick rfl rfl) ?_
                    refine vl_val rfl (.some rfl) (val_move rfl) ?_
                    refine vl_split (t := 88) rfl (fun hg88 => ?_) (fun hg88 => ?_)
                    · (try replace hg88 := of_decide_eq_true hg88)
                      refine vl_on rfl rfl rfl rfl ?_
                      refine vl_call (C := []) rfl rfl (.some rfl) Try.call32 rfl .nil (fun w hw => dLives w) (fun v H' h => ?_)
                      obtain ⟨rfl, rfl⟩ := h
                      show VL _ _ _ _ _ _
                      refine vl_val rfl (.some rfl) (val_pick rfl rfl) ?_
                      refine vl_val rfl (.some rfl) (val_assign rfl) ?_
                      refine vl_nil ?_
                      refine vc_ret ?_
                      refine ⟨_, [], _, res1 Try.results10 rfl, .nil, ?_⟩
                      first | rfl | (exfalso; first | omega | contradiction | exact absurd rfl (by assumption) | exact hc2 rfl | (simp_all; done))
                    · (try replace hg88 := of_decide_eq_false hg88)
                      refine vl_off rfl rfl rfl rfl (.some rfl) ?_
                      refine vl_val rfl (.some rfl) (val_pick rfl rfl) ?_
                      refine vl_val rfl (.some rfl) (val_assign rfl) ?_
                      refine vl_nil ?_
                      refine vc_ret ?_
                      refine ⟨_, [], _, res1 Try.results10 rfl, .nil, ?_⟩
                      first | rfl | (exfalso; first | omega | contradiction | exact absurd rfl (by assumption) | exact hc2 rfl | (simp_all; done))
                  · (try replace hg82 := of_decide_eq_false hg82)
                    refine vl_off rfl rfl rfl rfl (.some rfl) ?_
                    refine vl_off rfl rfl rfl rfl (.some rfl) ?_
                    refine vl_off rfl rfl rfl rfl (.some rfl) ?_
                    refine vl_off rfl rfl rfl rfl (.some rfl) ?_
                    refine vl_val rfl (.some rfl) (val_pick rfl rfl) ?_
                    refine vl_val rfl (.some rfl) (val_move rfl) ?_
                    refine vl_off rfl rfl rfl rfl (.some rfl) ?_
                    refine vl_val rfl (.some rfl) (val_pick rfl rfl) ?_
                    refine vl_val rfl (.some rfl) (val_assign rfl) ?_
                    refine vl_nil ?_
                    refine vc_ret ?_
                    refine ⟨_, [], _, res1 Try.results10 rfl, .nil, ?_⟩
                    first | rfl | (exfalso; first | omega | contradiction | exact absurd rfl (by assumption) | exact hc2 rfl | (simp_all; done))
              · (try replace hg68 := of_decide_eq_false hg68)
                refine vl_off rfl rfl rfl rfl (.some rfl) ?_
                refine vl_off rfl rfl rfl rfl (.some rfl) ?_
                refine vl_off rfl rfl rfl rfl (.some rfl) ?_
                refine vl_val rfl (.some rfl) (val_pick rfl rfl) ?_
                refine vl_val rfl (.some rfl) (val_move rfl) ?_
                refine vl_off rfl rfl rfl rfl (.some rfl) ?_
                refine vl_off rfl rfl rfl rfl (.some rfl) ?_
                refine vl_off rfl rfl rfl rfl (.some rfl) ?_
                refine vl_off rfl rfl rfl rfl (.some rfl) ?_
                refine vl_offU rfl rfl rfl rfl (.some rfl) ?_
                refine vl_offU rfl rfl rfl rfl (.some rfl) ?_
                refine vl_off rfl rfl rfl rfl (.some rfl) ?_
                refine vl_val rfl (.some rfl) (val_pick rfl rfl) ?_
                refine vl_val rfl (.some rfl) (val_move rfl) ?_
                refine vl_off rfl rfl rfl rfl (.some rfl) ?_
                refine vl_off rfl rfl rfl rfl (.some rfl) ?_
                refine vl_off rfl rfl rfl rfl (.some rfl) ?_
                refine vl_off rfl rfl rfl rfl (.some rfl) ?_
                refine vl_val rfl (.some rfl) (val_pick rfl rfl) ?_
                refine vl_val rfl (.some rfl) (val_move rfl) ?_
                refine vl_off rfl rfl rfl rfl (.some rfl) ?_
                refine vl_val rfl (.some rfl) (val_pick rfl rfl) ?_
                refine vl_val rfl (.some rfl) (val_assign rfl) ?_
                refine vl_nil ?_
                refine vc_ret ?_
                refine ⟨_, [], _, res1 Try.results10 rfl, .nil, ?_⟩
                first | rfl | (exfalso; first | omega | contradiction | exact absurd rfl (by assumption) | exact hc2 rfl | (simp_all; done))

theorem law_VfsMoves (s s2 : ByteArray) (B : Option Addr) (cb : Nat) (b : List UInt8) (w : World) (g1 : s.size ≤ maxLen) (g2 : s2.size ≤ maxLen) (g3 : Reads w B (bcells b)) (g4 : b.length ≤ cb) (g5 : b.length * 1 ≤ 140737488351232) :
    FnV Try.prog 10 [.string s, .string s2, .slice B b.length cb] (.bool true) w := by
  have hl : s.data.toList.length = s.size := Array.length_toList
  have hl2 : s2.data.toList.length = s2.size := Array.length_toList
  have hm : maxLen < 9223372036854775808 := by decide
  have h := xMoves s.data.toList s2.data.toList (by omega) (by omega) B cb b w g3
  rwa [sL_eta, sL_eta] at h


end Go.Proofs.Ytclnhfdgiaamhaa.K
