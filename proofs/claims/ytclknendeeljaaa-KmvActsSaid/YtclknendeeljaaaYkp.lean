/- Walks of the program's functions, printed by a program of this session; Lean checks them. -/
import Derived.Test.YtclknendeeljaaaYko
namespace Go.Proofs.Ytclknendeeljaaa.K
open Go Go.RowKit Go.Proofs
set_option linter.unusedVariables false
set_option linter.unusedSimpArgs false


/-- An empty sketch of the document's. -/
theorem wNew (t : Nat) (Kk Mm : Int) (A : Option Addr) (c : Nat) (S : List (Nat × Nat)) (hS : S.length < 9223372036854775808) (hb : ∀ s ∈ S, s.1 < 18446744073709551616 ∧ s.2 < 18446744073709551616) (w : World) (hr : Reads w A (seedC S)) (hg : goodK t S Kk Mm) : Fn Try.prog 23 [(.agg #[.int .i64 (t : Nat), .slice A S.length c, .int .i64 Kk, .int .i64 Mm])] [] (ret fun v H' => ∃ b As cs Al cl L, v = .pointer (some ⟨b, 0, none⟩) ∧ vals L = List.replicate S.length [] ∧ H' = SDc As S.length cs S :: RQ b t As cs S Al cl L) w := by
  refine (wNew0 t Kk Mm A c S hS hb w hr hg).out fun v H h => ?_
  obtain ⟨b, As, cs, Al, cl, rfl, rfl⟩ := h
  have e1 : (List.replicate S.length (⟨none, 0, []⟩ : Sl Nat)).length = S.length := List.length_replicate
  have e2 : (List.replicate S.length (⟨none, 0, []⟩ : Sl Nat)).map hdr = List.replicate S.length (.slice none 0 0) := List.map_replicate
  refine ⟨_, [], ?_, b, As, cs, Al, cl, List.replicate S.length ⟨none, 0, []⟩, rfl, by simp [vals], rfl⟩
  show Eqv _ ([SDc As S.length cs S, RKb b t As S.length cs Al (List.replicate S.length (⟨none, 0, []⟩ : Sl Nat)).length cl, HR Al (List.replicate S.length (⟨none, 0, []⟩ : Sl Nat)).length cl ((List.replicate S.length (⟨none, 0, []⟩ : Sl Nat)).map hdr), big ((List.replicate S.length (⟨none, 0, []⟩ : Sl Nat)).map rwC)] ++ [])
  rw [e1, e2, List.append_nil]
  exact (nils_eqv S.length _).trans (Eqv.perm (List.perm_append_comm (l₁ := [_]) (l₂ := [_, _, _])))

set_option maxRecDepth 20000 in
theorem wAnswers (b t : Nat) (As : Option Addr) (cs : Nat) (S : List (Nat × Nat)) (Al : Option Addr) (cl : Nat) (L : List (Sl Nat)) (V : List (List Nat)) (hL : vals L = V) (hK : OkK t S V) (w : World) : Fn Try.prog 65 [.pointer (some ⟨b, 0, none⟩)] (RQ b t As cs S Al cl L) (ret fun u H' => ∃ A c, u = .slice A (ansV t V).length c ∧ H' = RQ b t As cs S Al cl L ++ [IW A (ansV t V).length c (ansV t V)]) w := by
  have hvl := vals_len L
  rw [hL] at hvl
  have hSn := hK.n
  have hn7 := hK.n7
  have ht2 := hK.t2
  have ht64 := hK.t64
  refine fn_enter Try.func65 rfl Try.ntmps65 rfl ?_
  refine vc_seq ?_
  refine vc_region ?_
  refine vl_val rfl (.some rfl) (val_assign rfl) ?_
  refine vl_nil ?_
  refine vc_seq ?_
  refine vc_region ?_
  refine vl_val rfl (.some rfl) (val_assign rfl) ?_
  refine vl_nilSl 3 1 ?_
  refine vl_nil ?_
  refine vc_seq ?_
  refine vc_seq ?_
  refine vc_region ?_
  refine vl_val rfl (.some rfl) (val_move rfl) ?_
  refine vl_val rfl (.some rfl) (val_nil rfl rfl) ?_
  refine vl_val rfl (.some rfl) (by first | exact val_fieldAddr Try.runUnderlying96 rfl Try.sizeOf33 rfl | exact val_fieldAddrR Try.runUnderlying96 rfl Try.sizeOf33 rfl) ?_
  refine vl_val rfl (.some rfl) (val_load Try.isAgg33 rfl (by first | exact cell_cells (by repeat (first | exact .head | apply In.tail | apply Take.tail | apply Upd.tail)) rfl | exact cell_rd (rd_sl (by repeat (first | exact .head | apply In.tail | apply Take.tail | apply Upd.tail))) (by first | exact bcells_at (by omega) | exact ucells_at (by omega) | exact icells_at (by omega) | exact tcells_at (by omega) | exact bcells_get (by omega) | exact icells_get (by omega) | exact tcells_get (by omega) | exact ucells_get (by omega)) | exact cell_rd (rd_old (by assumption) rfl) (by first | exact bcells_at (by omega) | exact ucells_at (by omega) | exact icells_at (by omega) | exact tcells_at (by omega) | exact bcells_get (by omega) | exact icells_get (by omega) | exact tcells_get (by omega) | exact ucells_get (by omega)) | exact cell_old (by assumption) (by simp [fps]))) ?_
  refine vl_val rfl (.some rfl) (val_lenSl Try.runUnderlying33 rfl) ?_
  refine vl_val rfl (.some rfl) (val_move rfl) ?_
  refine vl_nil ?_
  refine vc_block ?_
  refine vc_loopw (fun m E H => ∃ (i : Nat) (A : Option Addr) (c : Nat), i ≤ L.length ∧ m = L.length - i ∧ E = [(0, .pointer (some ⟨b, 0, none⟩)), (3, .slice A i c), (11, .slice Al L.length cl), (12, .int .i64 L.length), (13, .int .i64 i)] ∧ H = [sl A i c 3 1 (icells .i64 (ansV t (V.take i))), RKb b t As S.length cs Al L.length cl, HR Al L.length cl (L.map hdr), big (L.map rwC)]) (L.length) ⟨_, _, _, ⟨0, none, 0, by omega, rfl, rfl, rfl⟩, (by repeat (first | exact trivial | refine ⟨rfl, ?_⟩ | refine ⟨le_item rfl (by first | rfl | (congr 1; omega) | (simp; done) | (simp; omega)), ?_⟩)), (by repeat (first | exact .nil | (apply Sub.cons; · repeat (first | exact .head | apply Take.tail))))⟩ ?_
  intro m E H hI
  obtain ⟨i, A, c, hi, rfl, rfl, rfl⟩ := hI
  refine vc_seq ?_
  refine vc_region ?_
  refine vl_val rfl (.some rfl) (val_lt rfl rfl) ?_
  refine vl_nil ?_
  refine vc_seq ?_
  refine vc_cond rfl (fun hc0 => ?_) (fun hc0 => ?_)
  · (try replace hc0 := of_decide_eq_true hc0)
    obtain ⟨r, hr⟩ := row_at (L := L) (i := i) (by omega)
    have hri := vals_get hr
    rw [hL] at hri
    have hrg := hK.good i (by omega)
    rw [hri] at hrg
    have hbg : ∀ x ∈ r.l, x < 18446744073709551616 := by have := hK.big i (by omega); rwa [hri] at this
    refine vc_skip ?_
    refine vc_seq ?_
    refine vc_block ?_
    refine vc_seq ?_
    refine vc_region ?_
    refine vl_val rfl (.some rfl) (val_indexAddr Try.runUnderlying33 Try.sizeOf25 rfl rfl (rd_sl (vs := L.map hdr) (by repeat (first | exact .head | apply In.tail | apply Take.tail | apply Upd.tail))) (by omega) (by omega) (by rw [List.length_map]; omega)) ?_
    refine vl_val rfl (.some rfl) (val_load Try.isAgg25 rfl (cell_rd (rd_sl (vs := L.map hdr) (by repeat (first | exact .head | apply In.tail | apply Take.tail | apply Upd.tail))) (hdr_at hr))) ?_
    refine vl_val rfl (.some rfl) (val_assign rfl) ?_
    refine vl_nil ?_
    refine vc_seq ?_
    refine vc_seq ?_
    refine vc_region ?_
    refine vl_val rfl (.some rfl) (val_move rfl) ?_
    refine vl_val rfl (.some rfl) (val_lenSl Try.runUnderlying25 rfl) ?_
    refine vl_val rfl (.some rfl) (val_move rfl) ?_
    refine vl_val rfl (.some rfl) (val_nil rfl rfl) ?_
    refine vl_val rfl (.some rfl) (by first | exact val_fieldAddr Try.runUnderlying96 rfl Try.sizeOf3 rfl | exact val_fieldAddrR Try.runUnderlying96 rfl Try.sizeOf3 rfl) ?_
    refine vl_val rfl (.some rfl) (val_load Try.isAgg3 rfl (by first | exact cell_cells (by repeat (first | exact .head | apply In.tail | apply Take.tail | apply Upd.tail)) rfl | exact cell_rd (rd_sl (by repeat (first | exact .head | apply In.tail | apply Take.tail | apply Upd.tail))) (by first | exact bcells_at (by omega) | exact ucells_at (by omega) | exact icells_at (by omega) | exact tcells_at (by omega) | exact bcells_get (by omega) | exact icells_get (by omega) | exact tcells_get (by omega) | exact ucells_get (by omega)) | exact cell_rd (rd_old (by assumption) rfl) (by first | exact bcells_at (by omega) | exact ucells_at (by omega) | exact icells_at (by omega) | exact tcells_at (by omega) | exact bcells_get (by omega) | exact icells_get (by omega) | exact tcells_get (by omega) | exact ucells_get (by omega)) | exact cell_old (by assumption) (by simp [fps]))) ?_
    refine vl_val rfl (.some rfl) (val_lt rfl rfl) ?_
    refine vl_nil ?_
    refine vc_cond rfl (fun hc1 => ?_) (fun hc1 => ?_)
    · (try replace hc1 := of_decide_eq_true hc1)
      refine vc_seq ?_
      refine vc_region ?_
      refine vl_val rfl (.some rfl) (val_move rfl) ?_
      refine vl_val rfl (.some rfl) (val_move rfl) ?_
      refine vl_val rfl (.some rfl) (val_lenSl Try.runUnderlying25 rfl) ?_
      refine vl_lit sT35 rfl rfl (.some rfl) rfl rfl rfl (by decide) (by decide) rfl (flat_one rfl) (fun r27 => ?_)
      refine vl_append (A := A) (n := i) (vs := icells .i64 (ansV t (V.take i))) sT35 rfl rfl (.some rfl) rfl rfl (rd_sl (A := some ⟨r27, 0, none⟩) (by repeat (first | exact .head | apply In.tail | apply Take.tail | apply Upd.tail))) (by rfl) (by rfl) (by omega) (by omega) (by repeat (first | exact .head | apply In.tail | apply Take.tail | apply Upd.tail)) (fun A28 k28 => ?_)
      have hpush := ans_push (t := t) (by omega) hri
      rw [show ((r.l.length : Nat) : Int) = ((ansN t r.l : Nat) : Int) by unfold ansN; rw [if_neg (by omega)], hpush]
      refine vl_val rfl (.some rfl) (val_assign rfl) ?_
      refine vl_nil ?_
      refine vc_exit ?_
      refine vc_region ?_
      refine vl_val rfl (.some rfl) (val_add rfl rfl (by first | exact w_i64 (by omega) (by omega) | rfl)) ?_
      refine vl_val rfl (.some rfl) (val_move rfl) ?_
      refine vl_nil ?_
      exact ⟨(L.length - (i + 1)), _, _, _, by omega, (by repeat (first | exact trivial | refine ⟨rfl, ?_⟩ | refine ⟨le_item rfl (by first | rfl | (congr 1; omega) | (simp; done) | (simp; omega)), ?_⟩)), (by repeat (first | exact .nil | (apply Sub.cons; · repeat (first | exact .head | apply Take.tail)))), ⟨i + 1, _, _, by omega, rfl, rfl, rfl⟩⟩
    · (try replace hc1 := of_decide_eq_false hc1)
      have hrl : r.l.length = t := by have := hrg.2; omega
      have hq : mdQ (t - 1) pM (r.l.getD (t - 1) 0) < 18446744073709551616 := mdQ_lt _ _ _
      refine vc_skip ?_
      refine vc_seq ?_
      refine vc_drawsS [0, 1, 2, 3, 4, 5, 6, 7, 8, 9, 10, 11, 13, 14, 15, 16, 17] [] [0, 1, 2, 3, 4, 5, 6, 7, 8, 9, 10, 11, 12, 13, 14, 15, 16, 17] [sl A i c 3 1 (icells .i64 (ansV t (V.take i))), RKb b t As S.length cs Al L.length cl, HR Al L.length cl (L.map hdr), big (L.map rwC)] (by repeat (first | exact .nil | (apply Sub.cons; · repeat (first | exact .head | apply Take.tail)))) rfl (by kernel_rfl) (fun _ _ _ h => h) ?_
      refine vd_val rfl rfl rfl (.some rfl) (val_move rfl) ?_
      refine vd_val rfl rfl rfl (.some rfl) (val_nil rfl rfl) ?_
      refine vd_val rfl rfl rfl (.some rfl) (by first | exact val_fieldAddr Try.runUnderlying96 rfl Try.sizeOf3 rfl | exact val_fieldAddrR Try.runUnderlying96 rfl Try.sizeOf3 rfl) ?_
      refine vd_val rfl rfl rfl (.some rfl) (val_load Try.isAgg3 rfl (by first | exact cell_cells (by repeat (first | exact .head | apply In.tail | apply Take.tail | apply Upd.tail)) rfl | exact cell_rd (rd_sl (by repeat (first | exact .head | apply In.tail | apply Take.tail | apply Upd.tail))) (by first | exact bcells_at (by omega) | exact ucells_at (by omega) | exact icells_at (by omega) | exact tcells_at (by omega) | exact bcells_get (by omega) | exact icells_get (by omega) | exact tcells_get (by omega) | exact ucells_get (by omega)) | exact cell_rd (rd_old (by assumption) rfl) (by first | exact bcells_at (by omega) | exact ucells_at (by omega) | exact icells_at (by omega) | exact tcells_at (by omega) | exact bcells_get (by omega) | exact icells_get (by omega) | exact tcells_get (by omega) | exact ucells_get (by omega)) | exact cell_old (by assumption) (by simp [fps]))) ?_
      refine vd_val rfl rfl rfl (.some rfl) (val_sub rfl rfl (show _ = ((t - 1 : Nat) : Int) by rw [w_i64 (by omega) (by omega)]; omega)) ?_
      refine vd_val rfl rfl rfl (.some rfl) (val_convInt Try.runUnderlying3 Try.runUnderlying30 rfl (wN (by omega))) ?_
      refine vd_val rfl rfl rfl (.some rfl) (val_move rfl) ?_
      refine vd_val rfl rfl rfl (.some rfl) (val_move rfl) ?_
      refine vd_val rfl rfl rfl (.some rfl) (val_lenSl Try.runUnderlying25 rfl) ?_
      refine vd_val rfl rfl rfl (.some rfl) (val_sub rfl rfl (show _ = ((t - 1 : Nat) : Int) by rw [w_i64 (by omega) (by omega)]; omega)) ?_
      refine vd_val rfl rfl rfl (.some rfl) (val_indexAddr Try.runUnderlying25 Try.sizeOf30 rfl rfl (vs := ucells r.l) (rd_big (n := r.l.length) (c := r.c) (e := 30) (sz := 1) (l := L.map rwC) (by repeat (first | exact .head | apply In.tail | apply Take.tail | apply Upd.tail)) (List.mem_map.2 ⟨r, List.mem_of_getElem? hr, rfl⟩)) (by omega) (by omega) (by rw [ucells_length]; omega)) ?_
      refine vd_val rfl rfl rfl (.some rfl) (val_load Try.isAgg30 rfl (cell_rd (rd_big (n := r.l.length) (c := r.c) (e := 30) (sz := 1) (l := L.map rwC) (by repeat (first | exact .head | apply In.tail | apply Take.tail | apply Upd.tail)) (List.mem_map.2 ⟨r, List.mem_of_getElem? hr, rfl⟩)) (ucells_at (by omega)))) ?_
      refine vd_op rfl rfl ?_
      refine vl_callV rfl rfl (.some rfl) Try.call100 rfl (fun w hw => gMulDiv (t - 1) pM (r.l.getD (t - 1) 0) (by omega) (by decide) (hbg _ (getD_mem 0 (by omega))) w) ?_
      refine vl_nil ?_
      refine ⟨fun _ => ⟨_, (by repeat (first | exact .nil | (apply Sub.cons; · repeat (first | exact .head | apply Take.tail))))⟩, ?_⟩
      refine vd_val rfl rfl rfl (.some rfl) (val_move rfl) ?_
      refine vd_val rfl rfl rfl (.some rfl) (val_extract rfl rfl) ?_
      refine vd_val rfl rfl rfl (.some rfl) (val_extract rfl rfl) ?_
      refine vd_val rfl rfl rfl (.some rfl) (val_assign rfl) ?_
      refine vd_val rfl rfl rfl (.some rfl) (val_assign rfl) ?_
      refine vd_nil ?_
      refine vc_seq ?_
      refine vc_seq ?_
      refine vc_region ?_
      refine vl_val rfl (.some rfl) (val_move rfl) ?_
      refine vl_val rfl (.some rfl) (val_not rfl) ?_
      refine vl_val rfl (.some rfl) (val_move rfl) ?_
      refine vl_split (t := 47) rfl (fun hg47 => ?_) (fun hg47 => ?_)
      · (try replace hg47 := of_decide_eq_true hg47)
        refine vl_off rfl rfl rfl rfl (.some rfl) ?_
        refine vl_off rfl rfl rfl rfl (.some rfl) ?_
        refine vl_val rfl (.some rfl) (val_pick rfl rfl) ?_
        refine vl_nil ?_
        refine vc_cond rfl (fun _ => ?_) (fun h => by cases h)
        refine vc_region ?_
        refine vl_val rfl (.some rfl) (val_assign rfl) ?_
        refine vl_nil ?_
        refine vc_region ?_
        refine vl_val rfl (.some rfl) (val_move rfl) ?_
        refine vl_val rfl (.some rfl) (val_move rfl) ?_
        refine vl_val rfl (.some rfl) (val_convInt Try.runUnderlying30 Try.runUnderlying3 rfl (show _ = ((ansN t r.l : Nat) : Int) by unfold ansN; rw [if_pos hrl]; first | (rw [if_pos (by simpa using hg47)]; rw [w_i64 (by omega) (by omega)]; omega) | (rw [if_neg (by simpa using hg47)]; rfl))) ?_
        refine vl_lit sT35 rfl rfl (.some rfl) rfl rfl rfl (by decide) (by decide) rfl (flat_one rfl) (fun r54 => ?_)
        refine vl_append (A := A) (n := i) (vs := icells .i64 (ansV t (V.take i))) sT35 rfl rfl (.some rfl) rfl rfl (rd_sl (A := some ⟨r54, 0, none⟩) (by repeat (first | exact .head | apply In.tail | apply Take.tail | apply Upd.tail))) (by rfl) (by rfl) (by omega) (by omega) (by repeat (first | exact .head | apply In.tail | apply Take.tail | apply Upd.tail)) (fun A55 k55 => ?_)
        have hpush := ans_push (t := t) (by omega) hri
        rw [hpush]
        refine vl_val rfl (.some rfl) (val_assign rfl) ?_
        refine vl_nil ?_
        refine vc_region ?_
        refine vl_val rfl (.some rfl) (val_add rfl rfl (by first | exact w_i64 (by omega) (by omega) | rfl)) ?_
        refine vl_val rfl (.some rfl) (val_move rfl) ?_
        refine vl_nil ?_
        exact ⟨(L.length - (i + 1)), _, _, _, by omega, (by repeat (first | exact trivial | refine ⟨rfl, ?_⟩ | refine ⟨le_item rfl (by first | rfl | (congr 1; omega) | (simp; done) | (simp; omega)), ?_⟩)), (by repeat (first | exact .nil | (apply Sub.cons; · repeat (first | exact .head | apply Take.tail)))), ⟨i + 1, _, _, by omega, rfl, rfl, rfl⟩⟩
      · (try replace hg47 := of_decide_eq_false hg47)
        refine vl_on rfl rfl rfl rfl ?_
        refine vl_val rfl (.some rfl) (val_move rfl) ?_
        refine vl_on rfl rfl rfl rfl ?_
        refine vl_val rfl (.some rfl) (val_gt rfl rfl) ?_
        refine vl_val rfl (.some rfl) (val_pick rfl rfl) ?_
        refine vl_nil ?_
        refine vc_cond rfl (fun hc2 => ?_) (fun hc2 => ?_)
        · (try replace hc2 := of_decide_eq_true hc2)
          refine vc_region ?_
          refine vl_val rfl (.some rfl) (val_assign rfl) ?_
          refine vl_nil ?_
          refine vc_region ?_
          refine vl_val rfl (.some rfl) (val_move rfl) ?_
          refine vl_val rfl (.some rfl) (val_move rfl) ?_
          refine vl_val rfl (.some rfl) (val_convInt Try.runUnderlying30 Try.runUnderlying3 rfl (show _ = ((ansN t r.l : Nat) : Int) by unfold ansN; rw [if_pos hrl]; first | (rw [if_pos (by simpa using hg47)]; rw [w_i64 (by omega) (by omega)]; omega) | (rw [if_neg (by simpa using hg47)]; rfl))) ?_
          refine vl_lit sT35 rfl rfl (.some rfl) rfl rfl rfl (by decide) (by decide) rfl (flat_one rfl) (fun r54 => ?_)
          refine vl_append (A := A) (n := i) (vs := icells .i64 (ansV t (V.take i))) sT35 rfl rfl (.some rfl) rfl rfl (rd_sl (A := some ⟨r54, 0, none⟩) (by repeat (first | exact .head | apply In.tail | apply Take.tail | apply Upd.tail))) (by rfl) (by rfl) (by omega) (by omega) (by repeat (first | exact .head | apply In.tail | apply Take.tail | apply Upd.tail)) (fun A55 k55 => ?_)
          have hpush := ans_push (t := t) (by omega) hri
          rw [hpush]
          refine vl_val rfl (.some rfl) (val_assign rfl) ?_
          refine vl_nil ?_
          refine vc_region ?_
          refine vl_val rfl (.some rfl) (val_add rfl rfl (by first | exact w_i64 (by omega) (by omega) | rfl)) ?_
          refine vl_val rfl (.some rfl) (val_move rfl) ?_
          refine vl_nil ?_
          exact ⟨(L.length - (i + 1)), _, _, _, by omega, (by repeat (first | exact trivial | refine ⟨rfl, ?_⟩ | refine ⟨le_item rfl (by first | rfl | (congr 1; omega) | (simp; done) | (simp; omega)), ?_⟩)), (by repeat (first | exact .nil | (apply Sub.cons; · repeat (first | exact .head | apply Take.tail)))), ⟨i + 1, _, _, by omega, rfl, rfl, rfl⟩⟩
        · (try replace hc2 := of_decide_eq_false hc2)
          refine vc_skip ?_
          refine vc_region ?_
          refine vl_val rfl (.some rfl) (val_move rfl) ?_
          refine vl_val rfl (.some rfl) (val_move rfl) ?_
          refine vl_val rfl (.some rfl) (val_convInt Try.runUnderlying30 Try.runUnderlying3 rfl (show _ = ((ansN t r.l : Nat) : Int) by unfold ansN; rw [if_pos hrl]; first | (rw [if_pos (by simpa using hg47)]; rw [w_i64 (by omega) (by omega)]; omega) | (rw [if_neg (by simpa using hg47)]; rfl))) ?_
          refine vl_lit sT35 rfl rfl (.some rfl) rfl rfl rfl (by decide) (by decide) rfl (flat_one rfl) (fun r54 => ?_)
          refine vl_append (A := A) (n := i) (vs := icells .i64 (ansV t (V.take i))) sT35 rfl rfl (.some rfl) rfl rfl (rd_sl (A := some ⟨r54, 0, none⟩) (by repeat (first | exact .head | apply In.tail | apply Take.tail | apply Upd.tail))) (by rfl) (by rfl) (by omega) (by omega) (by repeat (first | exact .head | apply In.tail | apply Take.tail | apply Upd.tail)) (fun A55 k55 => ?_)
          have hpush := ans_push (t := t) (by omega) hri
          rw [hpush]
          refine vl_val rfl (.some rfl) (val_assign rfl) ?_
          refine vl_nil ?_
          refine vc_region ?_
          refine vl_val rfl (.some rfl) (val_add rfl rfl (by first | exact w_i64 (by omega) (by omega) | rfl)) ?_
          refine vl_val rfl (.some rfl) (val_move rfl) ?_
          refine vl_nil ?_
          exact ⟨(L.length - (i + 1)), _, _, _, by omega, (by repeat (first | exact trivial | refine ⟨rfl, ?_⟩ | refine ⟨le_item rfl (by first | rfl | (congr 1; omega) | (simp; done) | (simp; omega)), ?_⟩)), (by repeat (first | exact .nil | (apply Sub.cons; · repeat (first | exact .head | apply Take.tail)))), ⟨i + 1, _, _, by omega, rfl, rfl, rfl⟩⟩
  · (try replace hc0 := of_decide_eq_false hc0)
    refine vc_exit ?_
    refine vc_seq ?_
    refine vc_region ?_
    refine vl_val rfl (.some rfl) (val_move rfl) ?_
    refine vl_val rfl (.some rfl) (val_assign rfl) ?_
    refine vl_nil ?_
    refine vc_ret ?_
    obtain rfl : i = L.length := by omega
    refine ⟨_, [RKb b t As S.length cs Al L.length cl, HR Al L.length cl (L.map hdr), big (L.map rwC), sl A L.length c 3 1 (icells .i64 (ansV t (V.take L.length)))], _, res1 Try.results65 rfl, (by repeat (first | exact .nil | (apply Sub.cons; · repeat (first | exact .head | apply Take.tail)))), ?_⟩
    rw [List.take_of_length_le (by omega)]
    have he : (ansV t V).length = L.length := by rw [ansV_len, hvl]
    exact ⟨A, c, by rw [he], by rw [he]; rfl⟩
set_option maxRecDepth 20000 in
theorem wEstimate (b t : Nat) (As : Option Addr) (cs : Nat) (S : List (Nat × Nat)) (Al : Option Addr) (cl : Nat) (L : List (Sl Nat)) (V : List (List Nat)) (hL : vals L = V) (hK : OkK t S V) (w : World) : Fn Try.prog 66 [.pointer (some ⟨b, 0, none⟩)] (RQ b t As cs S Al cl L) (ret fun u H' => u = .int .i64 (midI (ansV t V)) ∧ H' = RQ b t As cs S Al cl L) w := by
  have hvl := vals_len L
  rw [hL] at hvl
  have hSn := hK.n
  have hn7 := hK.n7
  have ht2 := hK.t2
  have ht64 := hK.t64
  have hn1 := hK.n1
  obtain ⟨l, hl⟩ : ∃ l, ansV t V = l := ⟨_, rfl⟩
  have hll : l.length = V.length := by rw [← hl, ansV_len]
  rw [hl]
  refine fn_enter Try.func66 rfl Try.ntmps66 rfl ?_
  refine vc_seq ?_
  refine vc_region ?_
  refine vl_val rfl (.some rfl) (val_assign rfl) ?_
  refine vl_nil ?_
  refine vc_seq ?_
  refine vc_region ?_
  refine vl_val rfl (.some rfl) (val_move rfl) ?_
  refine vl_call (C := RQ b t As cs S Al cl L) rfl rfl (.some rfl) Try.call65 rfl (by repeat (first | exact .nil | (apply Sub.cons; · repeat (first | exact .head | apply Take.tail)))) (fun w hw => wAnswers b t As cs S Al cl L V hL hK w) (fun v H' h => ?_)
  rw [hl] at h
  obtain ⟨A5, c5, rfl, rfl⟩ := h
  show VL _ _ _ _ _ (_ :: _ :: _ :: _ :: _)
  refine vl_val rfl (.some rfl) (val_assign rfl) ?_
  refine vl_nil ?_
  refine vc_seq ?_
  refine vc_seq ?_
  refine vc_region ?_
  refine vl_val rfl (.some rfl) (val_move rfl) ?_
  refine vl_val rfl (.some rfl) (val_lenSl Try.runUnderlying35 rfl) ?_
  refine vl_val rfl (.some rfl) (val_move rfl) ?_
  refine vl_nil ?_
  refine vc_block ?_
  refine vc_loopw (fun m E H => ∃ i : Nat, i ≤ l.length ∧ m = l.length - i ∧ (∀ j, j < i → midB l (l.getD j 0) = false) ∧ E = [(3, .slice A5 l.length c5), (12, .int .i64 l.length), (13, .int .i64 i)] ∧ H = [RKb b t As S.length cs Al L.length cl, HR Al L.length cl (L.map hdr), big (L.map rwC), IW A5 l.length c5 l]) (l.length) ⟨_, _, _, ⟨0, by omega, rfl, fun j hj => absurd hj (by omega), rfl, rfl⟩, (by repeat (first | exact trivial | refine ⟨rfl, ?_⟩ | refine ⟨le_item rfl (by first | rfl | (congr 1; omega) | (simp; done) | (simp; omega)), ?_⟩)), (by repeat (first | exact .nil | (apply Sub.cons; · repeat (first | exact .head | apply Take.tail))))⟩ ?_
  intro m E H hI
  obtain ⟨i, hi, rfl, hno, rfl, rfl⟩ := hI
  refine vc_seq ?_
  refine vc_region ?_
  refine vl_val rfl (.some rfl) (val_lt rfl rfl) ?_
  refine vl_nil ?_
  refine vc_seq ?_
  refine vc_cond rfl (fun hc0 => ?_) (fun hc0 => ?_)
  · (try replace hc0 := of_decide_eq_true hc0)
    refine vc_skip ?_
    refine vc_seq ?_
    refine vc_block ?_
    refine vc_seq ?_
    refine vc_region ?_
    refine vl_val rfl (.some rfl) (val_move rfl) ?_
    refine vl_val rfl (.some rfl) (val_assign rfl) ?_
    refine vl_nil ?_
    refine vc_seq ?_
    refine vc_region ?_
    refine vl_val rfl (.some rfl) (val_assign rfl) ?_
    refine vl_val rfl (.some rfl) (val_assign rfl) ?_
    refine vl_nil ?_
    refine vc_seq ?_
    refine vc_seq ?_
    refine vc_region ?_
    refine vl_val rfl (.some rfl) (val_move rfl) ?_
    refine vl_val rfl (.some rfl) (val_lenSl Try.runUnderlying35 rfl) ?_
    refine vl_val rfl (.some rfl) (val_move rfl) ?_
    refine vl_nil ?_
    refine vc_block ?_
    refine vc_loopw (fun m E H => ∃ j pb qa : Nat, j ≤ l.length ∧ m = l.length - j ∧ pb ≤ j ∧ qa ≤ j ∧ pb = (l.take j).countP (fun x => decide (x < l.getD i 0)) ∧ qa = (l.take j).countP (fun x => x == l.getD i 0) ∧ E = [(3, .slice A5 l.length c5), (4, .int .i64 i), (5, .int .i64 pb), (6, .int .i64 qa), (12, .int .i64 l.length), (13, .int .i64 i), (16, .slice A5 l.length c5), (17, .int .i64 l.length), (18, .int .i64 j)] ∧ H = [RKb b t As S.length cs Al L.length cl, HR Al L.length cl (L.map hdr), big (L.map rwC), IW A5 l.length c5 l]) (l.length) ⟨_, _, _, ⟨0, 0, 0, by omega, rfl, by omega, by omega, rfl, rfl, rfl, rfl⟩, (by repeat (first | exact trivial | refine ⟨rfl, ?_⟩ | refine ⟨le_item rfl (by first | rfl | (congr 1; omega) | (simp; done) | (simp; omega)), ?_⟩)), (by repeat (first | exact .nil | (apply Sub.cons; · repeat (first | exact .head | apply Take.tail))))⟩ ?_
    intro m E H hI
    obtain ⟨j, pb, qa, hj, rfl, hpj, hqj, hpb, hqa, rfl, rfl⟩ := hI
    refine vc_seq ?_
    refine vc_region ?_
    refine vl_val rfl (.some rfl) (val_lt rfl rfl) ?_
    refine vl_nil ?_
    refine vc_seq ?_
    refine vc_cond rfl (fun hc1 => ?_) (fun hc1 => ?_)
    · (try replace hc1 := of_decide_eq_true hc1)
      refine vc_skip ?_
      refine vc_seq ?_
      refine vc_block ?_
      refine vc_seq ?_
      refine vc_region ?_
      refine vl_val rfl (.some rfl) (val_indexAddr Try.runUnderlying35 Try.sizeOf3 rfl rfl (rd_sl (A := A5) (vs := icells .i64 l) (by repeat (first | exact .head | apply In.tail | apply Take.tail | apply Upd.tail))) (by omega) (by omega) (by rw [icells_length]; omega)) ?_
      refine vl_val rfl (.some rfl) (val_load Try.isAgg3 rfl (cell_rd (rd_sl (A := A5) (vs := icells .i64 l) (by repeat (first | exact .head | apply In.tail | apply Take.tail | apply Upd.tail))) (icells_at (i := j) (by omega)))) ?_
      refine vl_val rfl (.some rfl) (val_assign rfl) ?_
      refine vl_nil ?_
      refine vc_seq ?_
      refine vc_seq ?_
      refine vc_region ?_
      refine vl_val rfl (.some rfl) (val_move rfl) ?_
      refine vl_val rfl (.some rfl) (val_move rfl) ?_
      refine vl_val rfl (.some rfl) (val_move rfl) ?_
      refine vl_val rfl (.some rfl) (val_indexAddr Try.runUnderlying35 Try.sizeOf3 rfl rfl (rd_sl (A := A5) (vs := icells .i64 l) (by repeat (first | exact .head | apply In.tail | apply Take.tail | apply Upd.tail))) (by omega) (by omega) (by rw [icells_length]; omega)) ?_
      refine vl_val rfl (.some rfl) (val_load Try.isAgg3 rfl (cell_rd (rd_sl (A := A5) (vs := icells .i64 l) (by repeat (first | exact .head | apply In.tail | apply Take.tail | apply Upd.tail))) (icells_at (i := i) (by omega)))) ?_
      refine vl_val rfl (.some rfl) (val_lt rfl rfl) ?_
      refine vl_nil ?_
      refine vc_cond rfl (fun hc2 => ?_) (fun hc2 => ?_)
      · (try replace hc2 := of_decide_eq_true hc2)
        refine vc_region ?_
        refine vl_val rfl (.some rfl) (val_move rfl) ?_
        refine vl_val rfl (.some rfl) (val_add rfl rfl (show _ = ((pb + 1 : Nat) : Int) by rw [w_i64 (by omega) (by omega)]; omega)) ?_
        refine vl_val rfl (.some rfl) (val_assign rfl) ?_
        refine vl_nil ?_
        refine vc_seq ?_
        refine vc_region ?_
        refine vl_val rfl (.some rfl) (val_move rfl) ?_
        refine vl_val rfl (.some rfl) (val_move rfl) ?_
        refine vl_val rfl (.some rfl) (val_move rfl) ?_
        refine vl_val rfl (.some rfl) (val_indexAddr Try.runUnderlying35 Try.sizeOf3 rfl rfl (rd_sl (A := A5) (vs := icells .i64 l) (by repeat (first | exact .head | apply In.tail | apply Take.tail | apply Upd.tail))) (by omega) (by omega) (by rw [icells_length]; omega)) ?_
        refine vl_val rfl (.some rfl) (val_load Try.isAgg3 rfl (cell_rd (rd_sl (A := A5) (vs := icells .i64 l) (by repeat (first | exact .head | apply In.tail | apply Take.tail | apply Upd.tail))) (icells_at (i := i) (by omega)))) ?_
        refine vl_val rfl (.some rfl) (val_eq rfl rfl) ?_
        refine vl_nil ?_
        refine vc_cond rfl (fun hc3 => ?_) (fun hc3 => ?_)
        · (try replace hc3 := of_decide_eq_true hc3)
          refine vc_region ?_
          refine vl_val rfl (.some rfl) (val_move rfl) ?_
          refine vl_val rfl (.some rfl) (val_add rfl rfl (show _ = ((qa + 1 : Nat) : Int) by rw [w_i64 (by omega) (by omega)]; omega)) ?_
          refine vl_val rfl (.some rfl) (val_assign rfl) ?_
          refine vl_nil ?_
          refine vc_region ?_
          refine vl_val rfl (.some rfl) (val_add rfl rfl (by first | exact w_i64 (by omega) (by omega) | rfl)) ?_
          refine vl_val rfl (.some rfl) (val_move rfl) ?_
          refine vl_nil ?_
          exact ⟨(l.length - (j + 1)), _, _, _, by omega, (by repeat (first | exact trivial | refine ⟨rfl, ?_⟩ | refine ⟨le_item rfl (by first | rfl | (congr 1; omega) | (simp; done) | (simp; omega)), ?_⟩)), (by repeat (first | exact .nil | (apply Sub.cons; · repeat (first | exact .head | apply Take.tail)))), ⟨j + 1, _, _, by omega, rfl, by omega, by omega, by rw [count_step (by omega), ← hpb]; first | rw [if_pos (by simpa using hc2)] | rw [if_neg (by simpa using hc2), Nat.add_zero], by rw [count_step (by omega), ← hqa]; first | rw [if_pos (by simpa using hc3)] | rw [if_neg (by simpa using hc3), Nat.add_zero], rfl, rfl⟩⟩
        · (try replace hc3 := of_decide_eq_false hc3)
          refine vc_skip ?_
          refine vc_region ?_
          refine vl_val rfl (.some rfl) (val_add rfl rfl (by first | exact w_i64 (by omega) (by omega) | rfl)) ?_
          refine vl_val rfl (.some rfl) (val_move rfl) ?_
          refine vl_nil ?_
          exact ⟨(l.length - (j + 1)), _, _, _, by omega, (by repeat (first | exact trivial | refine ⟨rfl, ?_⟩ | refine ⟨le_item rfl (by first | rfl | (congr 1; omega) | (simp; done) | (simp; omega)), ?_⟩)), (by repeat (first | exact .nil | (apply Sub.cons; · repeat (first | exact .head | apply Take.tail)))), ⟨j + 1, _, _, by omega, rfl, by omega, by omega, by rw [count_step (by omega), ← hpb]; first | rw [if_pos (by simpa using hc2)] | rw [if_neg (by simpa using hc2), Nat.add_zero], by rw [count_step (by omega), ← hqa]; first | rw [if_pos (by simpa using hc3)] | rw [if_neg (by simpa using hc3), Nat.add_zero], rfl, rfl⟩⟩
      · (try replace hc2 := of_decide_eq_false hc2)
        refine vc_skip ?_
        refine vc_seq ?_
        refine vc_region ?_
        refine vl_val rfl (.some rfl) (val_move rfl) ?_
        refine vl_val rfl (.some rfl) (val_move rfl) ?_
        refine vl_val rfl (.some rfl) (val_move rfl) ?_
        refine vl_val rfl (.some rfl) (val_indexAddr Try.runUnderlying35 Try.sizeOf3 rfl rfl (rd_sl (A := A5) (vs := icells .i64 l) (by repeat (first | exact .head | apply In.tail | apply Take.tail | apply Upd.tail))) (by omega) (by omega) (by rw [icells_length]; omega)) ?_
        refine vl_val rfl (.some rfl) (val_load Try.isAgg3 rfl (cell_rd (rd_sl (A := A5) (vs := icells .i64 l) (by repeat (first | exact .head | apply In.tail | apply Take.tail | apply Upd.tail))) (icells_at (i := i) (by omega)))) ?_
        refine vl_val rfl (.some rfl) (val_eq rfl rfl) ?_
        refine vl_nil ?_
        refine vc_cond rfl (fun hc3 => ?_) (fun hc3 => ?_)
        · (try replace hc3 := of_decide_eq_true hc3)
          refine vc_region ?_
          refine vl_val rfl (.some rfl) (val_move rfl) ?_
          refine vl_val rfl (.some rfl) (val_add rfl rfl (show _ = ((qa + 1 : Nat) : Int) by rw [w_i64 (by omega) (by omega)]; omega)) ?_
          refine vl_val rfl (.some rfl) (val_assign rfl) ?_
          refine vl_nil ?_
          refine vc_region ?_
          refine vl_val rfl (.some rfl) (val_add rfl rfl (by first | exact w_i64 (by omega) (by omega) | rfl)) ?_
          refine vl_val rfl (.some rfl) (val_move rfl) ?_
          refine vl_nil ?_
          exact ⟨(l.length - (j + 1)), _, _, _, by omega, (by repeat (first | exact trivial | refine ⟨rfl, ?_⟩ | refine ⟨le_item rfl (by first | rfl | (congr 1; omega) | (simp; done) | (simp; omega)), ?_⟩)), (by repeat (first | exact .nil | (apply Sub.cons; · repeat (first | exact .head | apply Take.tail)))), ⟨j + 1, _, _, by omega, rfl, by omega, by omega, by rw [count_step (by omega), ← hpb]; first | rw [if_pos (by simpa using hc2)] | rw [if_neg (by simpa using hc2), Nat.add_zero], by rw [count_step (by omega), ← hqa]; first | rw [if_pos (by simpa using hc3)] | rw [if_neg (by simpa using hc3), Nat.add_zero], rfl, rfl⟩⟩
        · (try replace hc3 := of_decide_eq_false hc3)
          refine vc_skip ?_
          refine vc_region ?_
          refine vl_val rfl (.some rfl) (val_add rfl rfl (by first | exact w_i64 (by omega) (by omega) | rfl)) ?_
          refine vl_val rfl (.some rfl) (val_move rfl) ?_
          refine vl_nil ?_
          exact ⟨(l.length - (j + 1)), _, _, _, by omega, (by repeat (first | exact trivial | refine ⟨rfl, ?_⟩ | refine ⟨le_item rfl (by first | rfl | (congr 1; omega) | (simp; done) | (simp; omega)), ?_⟩)), (by repeat (first | exact .nil | (apply Sub.cons; · repeat (first | exact .head | apply Take.tail)))), ⟨j + 1, _, _, by omega, rfl, by omega, by omega, by rw [count_step (by omega), ← hpb]; first | rw [if_pos (by simpa using hc2)] | rw [if_neg (by simpa using hc2), Nat.add_zero], by rw [count_step (by omega), ← hqa]; first | rw [if_pos (by simpa using hc3)] | rw [if_neg (by simpa using hc3), Nat.add_zero], rfl, rfl⟩⟩
    · (try replace hc1 := of_decide_eq_false hc1)
      refine vc_exit ?_
      refine vc_seq ?_
      refine vc_region ?_
      obtain rfl : j = l.length := by omega
      rw [List.take_length] at hpb hqa
      refine vl_val rfl (.some rfl) (val_move rfl) ?_
      refine vl_val rfl (.some rfl) (val_move rfl) ?_
      refine vl_val rfl (.some rfl) (val_lenSl Try.runUnderlying35 rfl) ?_
      refine vl_val rfl (.some rfl) (val_quo rfl rfl (by omega) (show _ = ((l.length / 2 : Nat) : Int) by rw [quo_nn (by omega) (w_i64 (by omega) (by omega))]; omega)) ?_
      refine vl_val rfl (.some rfl) (val_le rfl rfl) ?_
      refine vl_val rfl (.some rfl) (val_move rfl) ?_
      refine vl_split (t := 44) rfl (fun hg44 => ?_) (fun hg44 => ?_)
      · (try replace hg44 := of_decide_eq_true hg44)
        have hgt : pb ≤ l.length / 2 := by first | omega | (have := of_decide_eq_true hg44; omega)
        refine vl_on rfl rfl rfl rfl ?_
        refine vl_val rfl (.some rfl) (val_move rfl) ?_
        refine vl_on rfl rfl rfl rfl ?_
        refine vl_val rfl (.some rfl) (val_lenSl Try.runUnderlying35 rfl) ?_
        refine vl_on rfl rfl rfl rfl ?_
        refine vl_val rfl (.some rfl) (val_quo rfl rfl (by omega) (show _ = ((l.length / 2 : Nat) : Int) by rw [quo_nn (by omega) (w_i64 (by omega) (by omega))]; omega)) ?_
        refine vl_on rfl rfl rfl rfl ?_
        refine vl_val rfl (.some rfl) (val_move rfl) ?_
        refine vl_on rfl rfl rfl rfl ?_
        refine vl_val rfl (.some rfl) (val_move rfl) ?_
        refine vl_on rfl rfl rfl rfl ?_
        refine vl_val rfl (.some rfl) (val_add rfl rfl (show _ = ((pb + qa : Nat) : Int) by rw [w_i64 (by omega) (by omega)]; omega)) ?_
        refine vl_on rfl rfl rfl rfl ?_
        refine vl_val rfl (.some rfl) (val_lt rfl rfl) ?_
        refine vl_val rfl (.some rfl) (val_pick rfl rfl) ?_
        refine vl_nil ?_
        refine vc_cond rfl (fun hc4 => ?_) (fun hc4 => ?_)
        · (try replace hc4 := of_decide_eq_true hc4)
          refine vc_seq ?_
          refine vc_region ?_
          refine vl_val rfl (.some rfl) (val_move rfl) ?_
          refine vl_val rfl (.some rfl) (val_move rfl) ?_
          refine vl_val rfl (.some rfl) (val_indexAddr Try.runUnderlying35 Try.sizeOf3 rfl rfl (rd_sl (A := A5) (vs := icells .i64 l) (by repeat (first | exact .head | apply In.tail | apply Take.tail | apply Upd.tail))) (by omega) (by omega) (by rw [icells_length]; omega)) ?_
          refine vl_val rfl (.some rfl) (val_load Try.isAgg3 rfl (cell_rd (rd_sl (A := A5) (vs := icells .i64 l) (by repeat (first | exact .head | apply In.tail | apply Take.tail | apply Upd.tail))) (icells_at (i := i) (by omega)))) ?_
          refine vl_val rfl (.some rfl) (val_assign rfl) ?_
          refine vl_nil ?_
          refine vc_ret ?_
          refine ⟨_, RQ b t As cs S Al cl L, _, res1 Try.results66 rfl, (by repeat (first | exact .nil | (apply Sub.cons; · repeat (first | exact .head | apply Take.tail)))), ?_⟩
          exact ⟨by rw [mid_is (getD_mem 0 (show i < l.length by omega)) (by unfold midB; rw [Bool.and_eq_true, decide_eq_true_eq, decide_eq_true_eq]; omega)], rfl⟩
        · (try replace hc4 := of_decide_eq_false hc4)
          refine vc_skip ?_
          refine vc_region ?_
          refine vl_val rfl (.some rfl) (val_add rfl rfl (by first | exact w_i64 (by omega) (by omega) | rfl)) ?_
          refine vl_val rfl (.some rfl) (val_move rfl) ?_
          refine vl_nil ?_
          exact ⟨(l.length - (i + 1)), _, _, _, by omega, (by repeat (first | exact trivial | refine ⟨rfl, ?_⟩ | refine ⟨le_item rfl (by first | rfl | (congr 1; omega) | (simp; done) | (simp; omega)), ?_⟩)), (by repeat (first | exact .nil | (apply Sub.cons; · repeat (first | exact .head | apply Take.tail)))), ⟨i + 1, by omega, rfl, fun j hj => by
            rcases Nat.lt_or_ge j i with h | h
            · exact hno j h
            · obtain rfl : j = i := by omega
              cases hmm : midB l (l.getD j 0) with
              | false => rfl
              | true =>
                simp only [midB, Bool.and_eq_true, decide_eq_true_eq] at hmm
                omega, rfl, rfl⟩⟩
      · (try replace hg44 := of_decide_eq_false hg44)
        have hgf : ¬ pb ≤ l.length / 2 := by first | omega | (have := of_decide_eq_false hg44; omega)
        refine vl_off rfl rfl rfl rfl (.some rfl) ?_
        refine vl_off rfl rfl rfl rfl (.some rfl) ?_
        refine vl_off rfl rfl rfl rfl (.some rfl) ?_
        refine vl_off rfl rfl rfl rfl (.some rfl) ?_
        refine vl_off rfl rfl rfl rfl (.some rfl) ?_
        refine vl_off rfl rfl rfl rfl (.some rfl) ?_
        refine vl_off rfl rfl rfl rfl (.some rfl) ?_
        refine vl_val rfl (.some rfl) (val_pick rfl rfl) ?_
        refine vl_nil ?_
        refine vc_cond rfl (fun h => by cases h) (fun _ => ?_)
        refine vc_skip ?_
        refine vc_region ?_
        refine vl_val rfl (.some rfl) (val_add rfl rfl (by first | exact w_i64 (by omega) (by omega) | rfl)) ?_
        refine vl_val rfl (.some rfl) (val_move rfl) ?_
        refine vl_nil ?_
        exact ⟨(l.length - (i + 1)), _, _, _, by omega, (by repeat (first | exact trivial | refine ⟨rfl, ?_⟩ | refine ⟨le_item rfl (by first | rfl | (congr 1; omega) | (simp; done) | (simp; omega)), ?_⟩)), (by repeat (first | exact .nil | (apply Sub.cons; · repeat (first | exact .head | apply Take.tail)))), ⟨i + 1, by omega, rfl, fun j hj => by
          rcases Nat.lt_or_ge j i with h | h
          · exact hno j h
          · obtain rfl : j = i := by omega
            cases hmm : midB l (l.getD j 0) with
            | false => rfl
            | true =>
              simp only [midB, Bool.and_eq_true, decide_eq_true_eq] at hmm
              omega, rfl, rfl⟩⟩
  · (try replace hc0 := of_decide_eq_false hc0)
    refine vc_exit ?_
    refine vc_seq ?_
    refine vc_region ?_
    refine vl_val rfl (.some rfl) (val_assign rfl) ?_
    refine vl_nil ?_
    refine vc_ret ?_
    obtain ⟨j, hj, hm⟩ := mid_some (l := l) (by omega)
    rw [hno j (by omega)] at hm
    cases hm
set_option maxRecDepth 20000 in
theorem wBytes (b t : Nat) (As : Option Addr) (cs : Nat) (S : List (Nat × Nat)) (Al : Option Addr) (cl : Nat) (L : List (Sl Nat)) (V : List (List Nat)) (hL : vals L = V) (hK : OkK t S V) (w : World) : Fn Try.prog 67 [.pointer (some ⟨b, 0, none⟩)] (RQ b t As cs S Al cl L) (ret fun u H' => ∃ A c, u = .slice A (bytesK V).length c ∧ H' = RQ b t As cs S Al cl L ++ [BY A (bytesK V).length c (bytesK V)]) w := by
  have hvl := vals_len L
  rw [hL] at hvl
  have hSn := hK.n
  have hn7 := hK.n7
  have ht2 := hK.t2
  have ht64 := hK.t64
  have hbl : ∀ i, (bytesK (V.take i)).length ≤ 100000 := fun i => by
    have := bytesK_len (t := 1000) (V.take i) (fun l hl => by obtain ⟨j, hj, e⟩ := mem_getD (d := []) (List.mem_of_mem_take hl); have := (hK.good j hj).2; rw [e] at this; omega)
    rw [List.length_take] at this
    omega
  refine fn_enter Try.func67 rfl Try.ntmps67 rfl ?_
  refine vc_seq ?_
  refine vc_region ?_
  refine vl_val rfl (.some rfl) (val_assign rfl) ?_
  refine vl_nil ?_
  refine vc_seq ?_
  refine vc_region ?_
  refine vl_val rfl (.some rfl) (val_assign rfl) ?_
  refine vl_nilSl 5 1 ?_
  refine vl_nil ?_
  refine vc_seq ?_
  refine vc_seq ?_
  refine vc_region ?_
  refine vl_val rfl (.some rfl) (val_move rfl) ?_
  refine vl_val rfl (.some rfl) (val_nil rfl rfl) ?_
  refine vl_val rfl (.some rfl) (by first | exact val_fieldAddr Try.runUnderlying96 rfl Try.sizeOf33 rfl | exact val_fieldAddrR Try.runUnderlying96 rfl Try.sizeOf33 rfl) ?_
  refine vl_val rfl (.some rfl) (val_load Try.isAgg33 rfl (by first | exact cell_cells (by repeat (first | exact .head | apply In.tail | apply Take.tail | apply Upd.tail)) rfl | exact cell_rd (rd_sl (by repeat (first | exact .head | apply In.tail | apply Take.tail | apply Upd.tail))) (by first | exact bcells_at (by omega) | exact ucells_at (by omega) | exact icells_at (by omega) | exact tcells_at (by omega) | exact bcells_get (by omega) | exact icells_get (by omega) | exact tcells_get (by omega) | exact ucells_get (by omega)) | exact cell_rd (rd_old (by assumption) rfl) (by first | exact bcells_at (by omega) | exact ucells_at (by omega) | exact icells_at (by omega) | exact tcells_at (by omega) | exact bcells_get (by omega) | exact icells_get (by omega) | exact tcells_get (by omega) | exact ucells_get (by omega)) | exact cell_old (by assumption) (by simp [fps]))) ?_
  refine vl_val rfl (.some rfl) (val_lenSl Try.runUnderlying33 rfl) ?_
  refine vl_val rfl (.some rfl) (val_move rfl) ?_
  refine vl_nil ?_
  refine vc_block ?_
  refine vc_loopw (fun m E H => ∃ (i : Nat) (A : Option Addr) (c : Nat), i ≤ L.length ∧ m = L.length - i ∧ E = [(0, .pointer (some ⟨b, 0, none⟩)), (3, .slice A (bytesK (V.take i)).length c), (12, .slice Al L.length cl), (13, .int .i64 L.length), (14, .int .i64 i)] ∧ H = [BY A (bytesK (V.take i)).length c (bytesK (V.take i)), RKb b t As S.length cs Al L.length cl, HR Al L.length cl (L.map hdr), big (L.map rwC)]) (L.length) ⟨_, _, _, ⟨0, none, 0, by omega, rfl, rfl, rfl⟩, (by repeat (first | exact trivial | refine ⟨rfl, ?_⟩ | refine ⟨le_item rfl (by first | rfl | (congr 1; omega) | (simp; done) | (simp; omega)), ?_⟩)), (by repeat (first | exact .nil | (apply Sub.cons; · repeat (first | exact .head | apply Take.tail))))⟩ ?_
  intro m E H hI
  obtain ⟨i, A, c, hi, rfl, rfl, rfl⟩ := hI
  refine vc_seq ?_
  refine vc_region ?_
  refine vl_val rfl (.some rfl) (val_lt rfl rfl) ?_
  refine vl_nil ?_
  refine vc_seq ?_
  refine vc_cond rfl (fun hc0 => ?_) (fun hc0 => ?_)
  · (try replace hc0 := of_decide_eq_true hc0)
    obtain ⟨r, hr⟩ := row_at (L := L) (i := i) (by omega)
    have hri := vals_get hr
    rw [hL] at hri
    have hrg := hK.good i (by omega)
    rw [hri] at hrg
    have hbg : ∀ x ∈ r.l, x < 18446744073709551616 := by have := hK.big i (by omega); rwa [hri] at this
    have hbi := hbl i
    have hpl := putN_len r.l.length
    have hrt := hrg.2
    refine vc_skip ?_
    refine vc_seq ?_
    refine vc_block ?_
    refine vc_seq ?_
    refine vc_region ?_
    refine vl_val rfl (.some rfl) (val_indexAddr Try.runUnderlying33 Try.sizeOf25 rfl rfl (rd_sl (vs := L.map hdr) (by repeat (first | exact .head | apply In.tail | apply Take.tail | apply Upd.tail))) (by omega) (by omega) (by rw [List.length_map]; omega)) ?_
    refine vl_val rfl (.some rfl) (val_load Try.isAgg25 rfl (cell_rd (rd_sl (vs := L.map hdr) (by repeat (first | exact .head | apply In.tail | apply Take.tail | apply Upd.tail))) (hdr_at hr))) ?_
    refine vl_val rfl (.some rfl) (val_assign rfl) ?_
    refine vl_nil ?_
    refine vc_seq ?_
    refine vc_region ?_
    refine vl_val rfl (.some rfl) (val_move rfl) ?_
    refine vl_val rfl (.some rfl) (val_move rfl) ?_
    refine vl_val rfl (.some rfl) (val_lenSl Try.runUnderlying25 rfl) ?_
    refine vl_val rfl (.some rfl) (val_convInt Try.runUnderlying3 Try.runUnderlying30 rfl (wN (by omega))) ?_
    refine vl_call (C := []) rfl rfl (.some rfl) Try.call85 rfl .nil (fun w hw => rPut A c (bytesK (V.take i)) (r.l.length) (by omega) (by omega) w (rdw (rd_sl (vs := bcells (bytesK (V.take i))) (by repeat (first | exact .head | apply In.tail | apply Take.tail | apply Upd.tail))) hw)) (fun v H' h => ?_)
    obtain ⟨A22, c22, rfl, rfl⟩ := h
    show VL _ _ _ _ _ (_ :: _)
    refine vl_val rfl (.some rfl) (val_assign rfl) ?_
    refine vl_nil ?_
    refine vc_seq ?_
    refine vc_region ?_
    refine vl_val rfl (.some rfl) (val_assign rfl) ?_
    refine vl_nil ?_
    refine vc_seq ?_
    refine vc_region ?_
    refine vl_val rfl (.some rfl) (val_move rfl) ?_
    refine vl_val rfl (.some rfl) (val_lenSl Try.runUnderlying25 rfl) ?_
    refine vl_val rfl (.some rfl) (val_move rfl) ?_
    refine vl_nil ?_
    refine vc_block ?_
    rw [show bytesK (V.take i) ++ putN r.l.length = bytesK (V.take i) ++ putN r.l.length ++ deltaB 0 (r.l.take 0) by simp [deltaB]]
    refine vc_loopw (fun m E H => ∃ (j : Nat) (A : Option Addr) (c : Nat), j ≤ r.l.length ∧ m = r.l.length - j ∧ E = [(0, .pointer (some ⟨b, 0, none⟩)), (3, .slice A (bytesK (V.take i) ++ putN r.l.length ++ deltaB 0 (r.l.take j)).length c), (6, .int .u64 ((r.l.take j).getLastD 0 : Nat)), (12, .slice Al L.length cl), (13, .int .i64 L.length), (14, .int .i64 i), (23, hdr r), (24, .int .i64 r.l.length), (25, .int .i64 j)] ∧ H = [BY A (bytesK (V.take i) ++ putN r.l.length ++ deltaB 0 (r.l.take j)).length c (bytesK (V.take i) ++ putN r.l.length ++ deltaB 0 (r.l.take j)), RKb b t As S.length cs Al L.length cl, HR Al L.length cl (L.map hdr), big (L.map rwC)]) (r.l.length) ⟨_, _, _, ⟨0, A22, c22, by omega, rfl, rfl, rfl⟩, (by repeat (first | exact trivial | refine ⟨rfl, ?_⟩ | refine ⟨le_item rfl (by first | rfl | (congr 1; omega) | (simp; done) | (simp; omega)), ?_⟩)), (by repeat (first | exact .nil | (apply Sub.cons; · repeat (first | exact .head | apply Take.tail))))⟩ ?_
    clear A c
    intro m E H hI
    obtain ⟨j, A, c, hj, rfl, rfl, rfl⟩ := hI
    refine vc_seq ?_
    refine vc_region ?_
    refine vl_val rfl (.some rfl) (val_lt rfl rfl) ?_
    refine vl_nil ?_
    refine vc_seq ?_
    refine vc_cond rfl (fun hc1 => ?_) (fun hc1 => ?_)
    · (try replace hc1 := of_decide_eq_true hc1)
      have hlast := rise_last hrg.1 (i := j) (by omega)
      have hdl := deltaB_len (r.l.take j) 0
      rw [List.length_take] at hdl
      have hx := hbg _ (getD_mem 0 (show j < r.l.length by omega))
      have hbl2 : (bytesK (V.take i) ++ putN r.l.length ++ deltaB 0 (r.l.take j)).length ≤ 1000000 := by simp only [List.length_append]; omega
      refine vc_skip ?_
      refine vc_seq ?_
      refine vc_block ?_
      refine vc_seq ?_
      refine vc_region ?_
      refine vl_val rfl (.some rfl) (val_indexAddr Try.runUnderlying25 Try.sizeOf30 rfl rfl (vs := ucells r.l) (rd_big (n := r.l.length) (c := r.c) (e := 30) (sz := 1) (l := L.map rwC) (by repeat (first | exact .head | apply In.tail | apply Take.tail | apply Upd.tail)) (List.mem_map.2 ⟨r, List.mem_of_getElem? hr, rfl⟩)) (by omega) (by omega) (by rw [ucells_length]; omega)) ?_
      refine vl_val rfl (.some rfl) (val_load Try.isAgg30 rfl (cell_rd (rd_big (n := r.l.length) (c := r.c) (e := 30) (sz := 1) (l := L.map rwC) (by repeat (first | exact .head | apply In.tail | apply Take.tail | apply Upd.tail)) (List.mem_map.2 ⟨r, List.mem_of_getElem? hr, rfl⟩)) (ucells_at (by omega)))) ?_
      refine vl_val rfl (.some rfl) (val_assign rfl) ?_
      refine vl_nil ?_
      refine vc_seq ?_
      refine vc_region ?_
      refine vl_val rfl (.some rfl) (val_move rfl) ?_
      refine vl_val rfl (.some rfl) (val_move rfl) ?_
      refine vl_val rfl (.some rfl) (val_move rfl) ?_
      refine vl_val rfl (.some rfl) (val_sub rfl rfl (subN (a := r.l.getD j 0) (b := (r.l.take j).getLastD 0) hlast hx)) ?_
      refine vl_call (C := []) rfl rfl (.some rfl) Try.call85 rfl .nil (fun w hw => rPut A c (bytesK (V.take i) ++ putN r.l.length ++ deltaB 0 (r.l.take j)) (r.l.getD j 0 - (r.l.take j).getLastD 0) (by omega) (by omega) w (rdw (rd_sl (vs := bcells (bytesK (V.take i) ++ putN r.l.length ++ deltaB 0 (r.l.take j))) (by repeat (first | exact .head | apply In.tail | apply Take.tail | apply Upd.tail))) hw)) (fun v H' h => ?_)
      obtain ⟨A33, c33, rfl, rfl⟩ := h
      show VL _ _ _ _ _ (_ :: _)
      refine vl_val rfl (.some rfl) (val_assign rfl) ?_
      refine vl_nil ?_
      refine vc_region ?_
      refine vl_val rfl (.some rfl) (val_move rfl) ?_
      refine vl_val rfl (.some rfl) (val_assign rfl) ?_
      refine vl_nil ?_
      refine vc_region ?_
      refine vl_val rfl (.some rfl) (val_add rfl rfl (by first | exact w_i64 (by omega) (by omega) | rfl)) ?_
      refine vl_val rfl (.some rfl) (val_move rfl) ?_
      refine vl_nil ?_
      rw [List.append_assoc, delta_push (by omega), ← last_take (l := r.l) (i := j) (by omega)]
      exact ⟨(r.l.length - (j + 1)), _, _, _, by omega, (by repeat (first | exact trivial | refine ⟨rfl, ?_⟩ | refine ⟨le_item rfl (by first | rfl | (congr 1; omega) | (simp; done) | (simp; omega)), ?_⟩)), (by repeat (first | exact .nil | (apply Sub.cons; · repeat (first | exact .head | apply Take.tail)))), ⟨j + 1, A33, c33, by omega, rfl, rfl, rfl⟩⟩
    · (try replace hc1 := of_decide_eq_false hc1)
      refine vc_exit ?_
      refine vc_region ?_
      refine vl_val rfl (.some rfl) (val_add rfl rfl (by first | exact w_i64 (by omega) (by omega) | rfl)) ?_
      refine vl_val rfl (.some rfl) (val_move rfl) ?_
      refine vl_nil ?_
      obtain rfl : j = r.l.length := by omega
      rw [List.take_length, List.append_assoc, show putN r.l.length ++ deltaB 0 r.l = rowB r.l from rfl, bytesK_push (by omega) hri]
      exact ⟨(L.length - (i + 1)), _, _, _, by omega, (by repeat (first | exact trivial | refine ⟨rfl, ?_⟩ | refine ⟨le_item rfl (by first | rfl | (congr 1; omega) | (simp; done) | (simp; omega)), ?_⟩)), (by repeat (first | exact .nil | (apply Sub.cons; · repeat (first | exact .head | apply Take.tail)))), ⟨i + 1, A, c, by omega, rfl, rfl, rfl⟩⟩
  · (try replace hc0 := of_decide_eq_false hc0)
    refine vc_exit ?_
    refine vc_seq ?_
    refine vc_region ?_
    refine vl_val rfl (.some rfl) (val_move rfl) ?_
    refine vl_val rfl (.some rfl) (val_assign rfl) ?_
    refine vl_nil ?_
    refine vc_ret ?_
    refine ⟨_, [RKb b t As S.length cs Al L.length cl, HR Al L.length cl (L.map hdr), big (L.map rwC), BY A (bytesK (V.take i)).length c (bytesK (V.take i))], _, res1 Try.results67 rfl, (by repeat (first | exact .nil | (apply Sub.cons; · repeat (first | exact .head | apply Take.tail)))), ?_⟩
    obtain rfl : i = L.length := by omega
    rw [List.take_of_length_le (by omega)]
    exact ⟨A, c, rfl, rfl⟩

end Go.Proofs.Ytclknendeeljaaa.K
