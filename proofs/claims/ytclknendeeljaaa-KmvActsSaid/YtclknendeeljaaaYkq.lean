/- Walks of the program's functions, printed by a program of this session; Lean checks them. -/
import Derived.Test.YtclknendeeljaaaYkp
namespace Go.Proofs.Ytclknendeeljaaa.K
open Go Go.RowKit Go.Proofs
set_option linter.unusedVariables false
set_option linter.unusedSimpArgs false


set_option maxRecDepth 20000 in
set_option maxHeartbeats 1000000 in
theorem kAlike (b t : Nat) (As : Option Addr) (cs : Nat) (S : List (Nat × Nat)) (Ac : Option Addr) (cc : Nat) (L : List (Sl Nat)) (b2 : Nat) (As2 : Option Addr) (cs2 : Nat) (Al2 : Option Addr) (cl2 : Nat) (L2 : List (Sl Nat)) (V : List (List Nat)) (hL : vals L = V) (hL2 : vals L2 = V) (hK : OkK t S V) (w : World) : Fn Try.prog 29 [.pointer (some ⟨b, 0, none⟩), .pointer (some ⟨b2, 0, none⟩)] (KQ b t As cs S Ac cc L ++ RQ b2 t As2 cs2 S Al2 cl2 L2) (ret fun u H' => u = .bool true ∧ H' = KQ b t As cs S Ac cc L ++ RQ b2 t As2 cs2 S Al2 cl2 L2) w := by
  have hvl := vals_len L
  rw [hL] at hvl
  have hvl2 := vals_len L2
  rw [hL2] at hvl2
  have hSn := hK.n
  have hn7 := hK.n7
  have ht2 := hK.t2
  have ht64 := hK.t64
  refine fn_enter Try.func29 rfl Try.ntmps29 rfl ?_
  refine vc_seq ?_
  refine vc_region ?_
  refine vl_val rfl (.some rfl) (val_assign rfl) ?_
  refine vl_nil ?_
  refine vc_seq ?_
  refine vc_region ?_
  refine vl_val rfl (.some rfl) (val_move rfl) ?_
  refine vl_call (C := KQ b t As cs S Ac cc L) rfl rfl (.some rfl) Try.call17 rfl (by repeat (first | exact .nil | (apply Sub.cons; · repeat (first | exact .head | apply Take.tail)))) (fun w hw => qCopies hL hK w) (fun v H' h => ?_)
  obtain ⟨A9, c9, D, rfl, hD, rfl⟩ := h
  have hDl := vals_len D
  rw [hD] at hDl
  show VL _ _ _ _ _ (_ :: _ :: _ :: _ :: _ :: _)
  refine vl_val rfl (.some rfl) (val_assign rfl) ?_
  refine vl_nil ?_
  refine vc_seq ?_
  refine vc_seq ?_
  refine vc_region ?_
  refine vl_val rfl (.some rfl) (val_move rfl) ?_
  refine vl_val rfl (.some rfl) (val_lenSl Try.runUnderlying33 rfl) ?_
  refine vl_val rfl (.some rfl) (val_move rfl) ?_
  refine vl_val rfl (.some rfl) (val_nil rfl rfl) ?_
  refine vl_val rfl (.some rfl) (by first | exact val_fieldAddr Try.runUnderlying96 rfl Try.sizeOf33 rfl | exact val_fieldAddrR Try.runUnderlying96 rfl Try.sizeOf33 rfl) ?_
  refine vl_val rfl (.some rfl) (val_load Try.isAgg33 rfl (by first | exact cell_cells (by repeat (first | exact .head | apply In.tail | apply Take.tail | apply Upd.tail)) rfl | exact cell_rd (rd_sl (by repeat (first | exact .head | apply In.tail | apply Take.tail | apply Upd.tail))) (by first | exact bcells_at (by omega) | exact ucells_at (by omega) | exact icells_at (by omega) | exact tcells_at (by omega) | exact bcells_get (by omega) | exact icells_get (by omega) | exact tcells_get (by omega) | exact ucells_get (by omega)) | exact cell_rd (rd_old (by assumption) rfl) (by first | exact bcells_at (by omega) | exact ucells_at (by omega) | exact icells_at (by omega) | exact tcells_at (by omega) | exact bcells_get (by omega) | exact icells_get (by omega) | exact tcells_get (by omega) | exact ucells_get (by omega)) | exact cell_old (by assumption) (by simp [fps]))) ?_
  refine vl_val rfl (.some rfl) (val_lenSl Try.runUnderlying33 rfl) ?_
  refine vl_val rfl (.some rfl) (val_net rfl rfl (by omega)) ?_
  refine vl_val rfl (.some rfl) (val_move rfl) ?_
  refine vl_on rfl rfl rfl rfl ?_
  refine vl_val rfl (.some rfl) (val_move rfl) ?_
  refine vl_on rfl rfl rfl rfl ?_
  refine vl_call (C := KQ b t As cs S Ac cc L) rfl rfl (.some rfl) Try.call18 rfl (by repeat (first | exact .nil | (apply Sub.cons; · repeat (first | exact .head | apply Take.tail)))) (fun w hw => qAnswers hL hK w) (fun v H' h => ?_)
  obtain ⟨A20, c20, rfl, rfl⟩ := h
  show VL _ _ _ _ _ (_ :: _ :: _ :: _ :: _)
  refine vl_on rfl rfl rfl rfl ?_
  refine vl_val rfl (.some rfl) (val_move rfl) ?_
  refine vl_on rfl rfl rfl rfl ?_
  refine vl_call (C := RQ b2 t As2 cs2 S Al2 cl2 L2) rfl rfl (.some rfl) Try.call65 rfl (by repeat (first | exact .nil | (apply Sub.cons; · repeat (first | exact .head | apply Take.tail)))) (fun w hw => wAnswers b2 t As2 cs2 S Al2 cl2 L2 V hL2 hK w) (fun v H' h => ?_)
  obtain ⟨A22, c22, rfl, rfl⟩ := h
  show VL _ _ _ _ _ (_ :: _ :: _ :: _ :: _)
  refine vl_on rfl rfl rfl rfl ?_
  refine vl_callV rfl rfl (.some rfl) Try.call64 rfl (fun w hw => rInts A20 A22 c20 c22 (ansV t V) (ansV t V) (by rw [ansV_len]; omega) w (rdw (rd_sl (A := A20) (vs := icells .i64 (ansV t V)) (by repeat (first | exact .head | apply In.tail | apply Take.tail | apply Upd.tail))) hw) (rdw (rd_sl (A := A22) (vs := icells .i64 (ansV t V)) (by repeat (first | exact .head | apply In.tail | apply Take.tail | apply Upd.tail))) hw)) ?_
  rw [decide_eq_true rfl]
  refine vl_on rfl rfl rfl rfl ?_
  refine vl_val rfl (.some rfl) (val_not rfl) ?_
  refine vl_val rfl (.some rfl) (val_pick rfl rfl) ?_
  refine vl_val rfl (.some rfl) (val_move rfl) ?_
  refine vl_on rfl rfl rfl rfl ?_
  refine vl_val rfl (.some rfl) (val_move rfl) ?_
  refine vl_on rfl rfl rfl rfl ?_
  refine vl_call (C := KQ b t As cs S Ac cc L) rfl rfl (.some rfl) Try.call19 rfl (by repeat (first | exact .nil | (apply Sub.cons; · repeat (first | exact .head | apply Take.tail)))) (fun w hw => qEstimate hL hK w) (fun v H' h => ?_)
  obtain ⟨rfl, rfl⟩ := h
  show VL _ _ _ _ _ (_ :: _ :: _ :: _)
  refine vl_on rfl rfl rfl rfl ?_
  refine vl_val rfl (.some rfl) (val_move rfl) ?_
  refine vl_on rfl rfl rfl rfl ?_
  refine vl_call (C := RQ b2 t As2 cs2 S Al2 cl2 L2) rfl rfl (.some rfl) Try.call66 rfl (by repeat (first | exact .nil | (apply Sub.cons; · repeat (first | exact .head | apply Take.tail)))) (fun w hw => wEstimate b2 t As2 cs2 S Al2 cl2 L2 V hL2 hK w) (fun v H' h => ?_)
  obtain ⟨rfl, rfl⟩ := h
  show VL _ _ _ _ _ (_ :: _ :: _ :: _)
  refine vl_on rfl rfl rfl rfl ?_
  refine vl_val rfl (.some rfl) (val_net rfl rfl (rfl)) ?_
  refine vl_val rfl (.some rfl) (val_pick rfl rfl) ?_
  refine vl_val rfl (.some rfl) (val_move rfl) ?_
  refine vl_on rfl rfl rfl rfl ?_
  refine vl_val rfl (.some rfl) (val_move rfl) ?_
  refine vl_on rfl rfl rfl rfl ?_
  refine vl_call (C := KQ b t As cs S Ac cc L) rfl rfl (.some rfl) Try.call22 rfl (by repeat (first | exact .nil | (apply Sub.cons; · repeat (first | exact .head | apply Take.tail)))) (fun w hw => qBytes hL hK w) (fun v H' h => ?_)
  obtain ⟨A35, c35, rfl, rfl⟩ := h
  show VL _ _ _ _ _ (_ :: _ :: _ :: _ :: _)
  refine vl_on rfl rfl rfl rfl ?_
  refine vl_val rfl (.some rfl) (val_move rfl) ?_
  refine vl_on rfl rfl rfl rfl ?_
  refine vl_call (C := RQ b2 t As2 cs2 S Al2 cl2 L2) rfl rfl (.some rfl) Try.call67 rfl (by repeat (first | exact .nil | (apply Sub.cons; · repeat (first | exact .head | apply Take.tail)))) (fun w hw => wBytes b2 t As2 cs2 S Al2 cl2 L2 V hL2 hK w) (fun v H' h => ?_)
  obtain ⟨A37, c37, rfl, rfl⟩ := h
  show VL _ _ _ _ _ (_ :: _ :: _ :: _ :: _)
  refine vl_on rfl rfl rfl rfl ?_
  refine vl_callV rfl rfl (.some rfl) Try.call21 rfl (fun w hw => rSame A35 A37 c35 c37 (bytesK V) (bytesK V) w (rdw (rd_sl (A := A35) (vs := bcells (bytesK V)) (by repeat (first | exact .head | apply In.tail | apply Take.tail | apply Upd.tail))) hw) (rdw (rd_sl (A := A37) (vs := bcells (bytesK V)) (by repeat (first | exact .head | apply In.tail | apply Take.tail | apply Upd.tail))) hw)) ?_
  rw [decide_eq_true rfl]
  refine vl_on rfl rfl rfl rfl ?_
  refine vl_val rfl (.some rfl) (val_not rfl) ?_
  refine vl_val rfl (.some rfl) (val_pick rfl rfl) ?_
  refine vl_nil ?_
  refine vc_cond rfl (fun h => by cases h) (fun _ => ?_)
  refine vc_skip ?_
  refine vc_seq ?_
  refine vc_seq ?_
  refine vc_region ?_
  refine vl_val rfl (.some rfl) (val_move rfl) ?_
  refine vl_val rfl (.some rfl) (val_lenSl Try.runUnderlying33 rfl) ?_
  refine vl_val rfl (.some rfl) (val_move rfl) ?_
  refine vl_nil ?_
  refine vc_block ?_
  refine vc_loopw (fun m E H => ∃ (i : Nat) (D' : List (Sl Nat)), i ≤ D.length ∧ m = D.length - i ∧ D'.length = D.length ∧ (∀ j, i ≤ j → D'[j]? = D[j]?) ∧ E = [(0, .pointer (some ⟨b, 0, none⟩)), (1, .pointer (some ⟨b2, 0, none⟩)), (5, .slice A9 D.length c9), (42, .int .i64 D.length), (43, .int .i64 i)] ∧ H = [big (D'.map rwC), HR A9 D.length c9 (D.map hdr)] ++ KQ b t As cs S Ac cc L ++ RQ b2 t As2 cs2 S Al2 cl2 L2) (D.length) ⟨_, _, _, ⟨0, D, by omega, rfl, rfl, fun _ _ => rfl, rfl, rfl⟩, (by repeat (first | exact trivial | refine ⟨rfl, ?_⟩ | refine ⟨le_item rfl (by first | rfl | (congr 1; omega) | (simp; done) | (simp; omega)), ?_⟩)), (by repeat (first | exact .nil | (apply Sub.cons; · repeat (first | exact .head | apply Take.tail))))⟩ ?_
  intro m E H hI
  obtain ⟨i, D', hi, rfl, hDl', hDr, rfl, rfl⟩ := hI
  refine vc_seq ?_
  refine vc_region ?_
  refine vl_val rfl (.some rfl) (val_lt rfl rfl) ?_
  refine vl_nil ?_
  refine vc_seq ?_
  refine vc_cond rfl (fun hc1 => ?_) (fun hc1 => ?_)
  · (try replace hc1 := of_decide_eq_true hc1)
    obtain ⟨r, hr⟩ := row_at (L := D) (i := i) (by omega)
    have hri := vals_get hr
    rw [hD] at hri
    have hr' : D'[i]? = some r := (hDr i (by omega)).trans hr
    obtain ⟨r2, hr2⟩ := row_at (L := L2) (i := i) (by omega)
    have hri2 := vals_get hr2
    rw [hL2] at hri2
    have hrl := (hK.good i (by omega)).2
    rw [hri] at hrl
    refine vc_skip ?_
    refine vc_seq ?_
    refine vc_block ?_
    refine vc_seq ?_
    refine vc_region ?_
    refine vl_val rfl (.some rfl) (val_move rfl) ?_
    refine vl_val rfl (.some rfl) (val_assign rfl) ?_
    refine vl_nil ?_
    refine vc_seq ?_
    refine vc_seq ?_
    refine vc_drawsS [0, 1, 2, 3, 4, 5, 6, 7, 8, 9, 10, 12] [] [0, 1, 2, 3, 4, 5, 6, 7, 8, 9, 10, 11, 12] ([big (D'.map rwC), HR A9 D.length c9 (D.map hdr)] ++ RQ b2 t As2 cs2 S Al2 cl2 L2) (by repeat (first | exact .nil | (apply Sub.cons; · repeat (first | exact .head | apply Take.tail)))) rfl (by kernel_rfl) (fun _ _ _ h => h) ?_
    refine vd_val rfl rfl rfl (.some rfl) (val_move rfl) ?_
    refine vd_val rfl rfl rfl (.some rfl) (val_move rfl) ?_
    refine vd_val rfl rfl rfl (.some rfl) (val_indexAddr Try.runUnderlying33 Try.sizeOf25 rfl rfl (rd_sl (vs := D.map hdr) (by repeat (first | exact .head | apply In.tail | apply Take.tail | apply Upd.tail))) (by omega) (by omega) (by rw [List.length_map]; omega)) ?_
    refine vd_val rfl rfl rfl (.some rfl) (val_load Try.isAgg25 rfl (cell_rd (rd_sl (vs := D.map hdr) (by repeat (first | exact .head | apply In.tail | apply Take.tail | apply Upd.tail))) (hdr_at hr))) ?_
    refine vd_val rfl rfl rfl (.some rfl) (val_move rfl) ?_
    refine vd_val rfl rfl rfl (.some rfl) (val_nil rfl rfl) ?_
    refine vd_val rfl rfl rfl (.some rfl) (by first | exact val_fieldAddr Try.runUnderlying96 rfl Try.sizeOf33 rfl | exact val_fieldAddrR Try.runUnderlying96 rfl Try.sizeOf33 rfl) ?_
    refine vd_val rfl rfl rfl (.some rfl) (val_load Try.isAgg33 rfl (by first | exact cell_cells (by repeat (first | exact .head | apply In.tail | apply Take.tail | apply Upd.tail)) rfl | exact cell_rd (rd_sl (by repeat (first | exact .head | apply In.tail | apply Take.tail | apply Upd.tail))) (by first | exact bcells_at (by omega) | exact ucells_at (by omega) | exact icells_at (by omega) | exact tcells_at (by omega) | exact bcells_get (by omega) | exact icells_get (by omega) | exact tcells_get (by omega) | exact ucells_get (by omega)) | exact cell_rd (rd_old (by assumption) rfl) (by first | exact bcells_at (by omega) | exact ucells_at (by omega) | exact icells_at (by omega) | exact tcells_at (by omega) | exact bcells_get (by omega) | exact icells_get (by omega) | exact tcells_get (by omega) | exact ucells_get (by omega)) | exact cell_old (by assumption) (by simp [fps]))) ?_
    refine vd_val rfl rfl rfl (.some rfl) (val_move rfl) ?_
    refine vd_val rfl rfl rfl (.some rfl) (val_indexAddr Try.runUnderlying33 Try.sizeOf25 rfl rfl (rd_sl (vs := L2.map hdr) (by repeat (first | exact .head | apply In.tail | apply Take.tail | apply Upd.tail))) (by omega) (by omega) (by rw [List.length_map]; omega)) ?_
    refine vd_val rfl rfl rfl (.some rfl) (val_load Try.isAgg25 rfl (cell_rd (rd_sl (vs := L2.map hdr) (by repeat (first | exact .head | apply In.tail | apply Take.tail | apply Upd.tail))) (hdr_at hr2))) ?_
    refine vd_op rfl rfl ?_
    refine vl_callV rfl rfl (.some rfl) Try.call52 rfl (fun w hw => rWords r.A r2.A r.c r2.c r.l r2.l (by omega) w (rdw (rd_big (n := r.l.length) (c := r.c) (e := 30) (sz := 1) (l := D'.map rwC) (by repeat (first | exact .head | apply In.tail | apply Take.tail | apply Upd.tail)) (List.mem_map.2 ⟨r, List.mem_of_getElem? hr', rfl⟩)) hw) (rdw (rd_big (n := r2.l.length) (c := r2.c) (e := 30) (sz := 1) (l := L2.map rwC) (by repeat (first | exact .head | apply In.tail | apply Take.tail | apply Upd.tail)) (List.mem_map.2 ⟨r2, List.mem_of_getElem? hr2, rfl⟩)) hw)) ?_
    rw [decide_eq_true (show r.l = r2.l from hri.symm.trans hri2)]
    refine vl_nil ?_
    refine ⟨fun _ => ⟨_, (by repeat (first | exact .nil | (apply Sub.cons; · repeat (first | exact .head | apply Take.tail))))⟩, ?_⟩
    refine vd_val rfl rfl rfl (.some rfl) (val_not rfl) ?_
    refine vd_nil ?_
    refine vc_cond rfl (fun h => by cases h) (fun _ => ?_)
    refine vc_skip ?_
    refine vc_seq ?_
    refine vc_region ?_
    refine vl_val rfl (.some rfl) (val_move rfl) ?_
    refine vl_val rfl (.some rfl) (val_move rfl) ?_
    refine vl_val rfl (.some rfl) (val_indexAddr Try.runUnderlying33 Try.sizeOf25 rfl rfl (rd_sl (vs := D.map hdr) (by repeat (first | exact .head | apply In.tail | apply Take.tail | apply Upd.tail))) (by omega) (by omega) (by rw [List.length_map]; omega)) ?_
    refine vl_val rfl (.some rfl) (val_load Try.isAgg25 rfl (cell_rd (rd_sl (vs := D.map hdr) (by repeat (first | exact .head | apply In.tail | apply Take.tail | apply Upd.tail))) (hdr_at hr))) ?_
    refine vl_val rfl (.some rfl) (val_lenSl Try.runUnderlying25 rfl) ?_
    refine vl_val rfl (.some rfl) (val_move rfl) ?_
    refine vl_nil ?_
    refine vc_block ?_
    refine vc_eqv (Eqv.perm (Take.perm (c := big (D'.map rwC)) (by repeat (first | exact .head | apply In.tail | apply Take.tail | apply Upd.tail)))) ?_
    refine vc_eqv (rows_open D' i r hr' _) ?_
    refine vc_loopw (fun m E H => ∃ (j : Nat) (X : List Nat), j ≤ r.l.length ∧ m = r.l.length - j ∧ X.length = r.l.length ∧ E = [(0, .pointer (some ⟨b, 0, none⟩)), (1, .pointer (some ⟨b2, 0, none⟩)), (5, .slice A9 D.length c9), (6, .int .i64 i), (42, .int .i64 D.length), (43, .int .i64 i), (63, .int .i64 r.l.length), (64, .int .i64 j)] ∧ H = [UW r.A r.l.length r.c X, big ((D'.take i ++ D'.drop (i + 1)).map rwC), HR A9 D.length c9 (D.map hdr)] ++ KQ b t As cs S Ac cc L ++ RQ b2 t As2 cs2 S Al2 cl2 L2) (r.l.length) ⟨_, _, _, ⟨0, r.l, by omega, rfl, rfl, rfl, rfl⟩, (by repeat (first | exact trivial | refine ⟨rfl, ?_⟩ | refine ⟨le_item rfl (by first | rfl | (congr 1; omega) | (simp; done) | (simp; omega)), ?_⟩)), (by repeat (first | exact .nil | (apply Sub.cons; · repeat (first | exact .head | apply Take.tail))))⟩ ?_
    intro m E H hI
    obtain ⟨j, X, hj, rfl, hXl, rfl, rfl⟩ := hI
    refine vc_seq ?_
    refine vc_region ?_
    refine vl_val rfl (.some rfl) (val_lt rfl rfl) ?_
    refine vl_nil ?_
    refine vc_seq ?_
    refine vc_cond rfl (fun hc3 => ?_) (fun hc3 => ?_)
    · (try replace hc3 := of_decide_eq_true hc3)
      refine vc_skip ?_
      refine vc_seq ?_
      refine vc_block ?_
      refine vc_seq ?_
      refine vc_region ?_
      refine vl_val rfl (.some rfl) (val_move rfl) ?_
      refine vl_val rfl (.some rfl) (val_assign rfl) ?_
      refine vl_nil ?_
      refine vc_region ?_
      refine vl_val rfl (.some rfl) (val_move rfl) ?_
      refine vl_val rfl (.some rfl) (val_move rfl) ?_
      refine vl_val rfl (.some rfl) (val_indexAddr Try.runUnderlying33 Try.sizeOf25 rfl rfl (rd_sl (vs := D.map hdr) (by repeat (first | exact .head | apply In.tail | apply Take.tail | apply Upd.tail))) (by omega) (by omega) (by rw [List.length_map]; omega)) ?_
      refine vl_val rfl (.some rfl) (val_load Try.isAgg25 rfl (cell_rd (rd_sl (vs := D.map hdr) (by repeat (first | exact .head | apply In.tail | apply Take.tail | apply Upd.tail))) (hdr_at hr))) ?_
      refine vl_val rfl (.some rfl) (val_move rfl) ?_
      refine vl_val rfl (.some rfl) (val_indexAddr Try.runUnderlying25 Try.sizeOf30 rfl rfl (rd_sl (A := r.A) (vs := ucells X) (by repeat (first | exact .head | apply In.tail | apply Take.tail | apply Upd.tail))) (by omega) (by omega) (by rw [ucells_length]; omega)) ?_
      refine vl_storeSl (A := r.A) (n := r.l.length) (c := r.c) (vs := ucells X) rfl rfl .none rfl rfl Try.sizeOf30 rfl (by simp [Value.cells]) (by repeat (first | exact .head | apply In.tail | apply Take.tail | apply Upd.tail)) (by rw [ucells_length]; show Int.toNat (j : Int) * 1 + 1 ≤ _; omega) ?_
      rw [show laid (ucells X) (Int.toNat (j : Int) * 1) (Value.cells (.int .u64 3)).toList = ucells (X.set j 3) from laid_u (x := 3) (by omega) (by omega)]
      refine vl_nil ?_
      refine vc_region ?_
      refine vl_val rfl (.some rfl) (val_add rfl rfl (by first | exact w_i64 (by omega) (by omega) | rfl)) ?_
      refine vl_val rfl (.some rfl) (val_move rfl) ?_
      refine vl_nil ?_
      exact ⟨(r.l.length - (j + 1)), _, _, _, by omega, (by repeat (first | exact trivial | refine ⟨rfl, ?_⟩ | refine ⟨le_item rfl (by first | rfl | (congr 1; omega) | (simp; done) | (simp; omega)), ?_⟩)), (by repeat (first | exact .nil | (apply Sub.cons; · repeat (first | exact .head | apply Take.tail)))), ⟨j + 1, X.set j 3, by omega, rfl, by rw [List.length_set, hXl], rfl, rfl⟩⟩
    · (try replace hc3 := of_decide_eq_false hc3)
      refine vc_exit ?_
      refine vc_region ?_
      rw [show UW r.A r.l.length r.c X = rwC ⟨r.A, r.c, X⟩ by show UW _ _ _ _ = UW _ X.length _ _; rw [hXl]]
      refine vl_eqv (Eqv.perm (Take.perm (c := big ((D'.take i ++ D'.drop (i + 1)).map rwC)) (by repeat (first | exact .head | apply In.tail | apply Take.tail | apply Upd.tail)))) ?_
      refine vl_eqv (Eqv.perm (Take.perm (c := rwC ⟨r.A, r.c, X⟩) (by repeat (first | exact .head | apply In.tail | apply Take.tail | apply Upd.tail)))) ?_
      refine vl_eqv (rows_close D' i ⟨r.A, r.c, X⟩ (by omega) _) ?_
      refine vl_val rfl (.some rfl) (val_add rfl rfl (by first | exact w_i64 (by omega) (by omega) | rfl)) ?_
      refine vl_val rfl (.some rfl) (val_move rfl) ?_
      refine vl_nil ?_
      exact ⟨(D.length - (i + 1)), _, _, _, by omega, (by repeat (first | exact trivial | refine ⟨rfl, ?_⟩ | refine ⟨le_item rfl (by first | rfl | (congr 1; omega) | (simp; done) | (simp; omega)), ?_⟩)), (by repeat (first | exact .nil | (apply Sub.cons; · repeat (first | exact .head | apply Take.tail)))), ⟨i + 1, D'.set i ⟨r.A, r.c, X⟩, by omega, rfl, by rw [List.length_set, hDl'], fun j hj => by rw [List.getElem?_set_ne (by omega)]; exact hDr j (by omega), rfl, rfl⟩⟩
  · (try replace hc1 := of_decide_eq_false hc1)
    refine vc_exit ?_
    refine vc_seq ?_
    refine vc_region ?_
    refine vl_val rfl (.some rfl) (val_assign rfl) ?_
    refine vl_nil ?_
    refine vc_ret ?_
    refine ⟨_, KQ b t As cs S Ac cc L ++ RQ b2 t As2 cs2 S Al2 cl2 L2, _, res1 Try.results29 rfl, (by repeat (first | exact .nil | (apply Sub.cons; · repeat (first | exact .head | apply Take.tail)))), ?_⟩
    exact ⟨rfl, rfl⟩

end Go.Proofs.Ytclknendeeljaaa.K
