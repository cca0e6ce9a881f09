/- Walks of the program's functions, printed by a program of this session; Lean checks them. -/
import Derived.Test.YtclnhfdgiaamhaaYrp
namespace Go.Proofs.Ytclnhfdgiaamhaa.K
open Go Go.RowKit Go.Proofs
set_option linter.unusedVariables false
set_option linter.unusedSimpArgs false


set_option maxRecDepth 20000 in
set_option maxHeartbeats 1000000 in
theorem xBack (m : RecM) (hS : RecS m) (hW : RecW (recOf m)) (w : World) (hR : RecR w m) : FnV Try.prog 6 [recA m] (.bool true) w := by
  refine fn_enter Try.func6 rfl Try.ntmps6 rfl ?_
  refine vc_seq ?_
  refine vc_region ?_
  refine vl_box rfl rfl (.some rfl) rfl (fun r1 => ?_)
  refine vl_val rfl (.some rfl) (val_assign rfl) ?_
  refine vl_nil ?_
  refine vc_seq ?_
  refine vc_seq ?_
  refine vc_region ?_
  refine vl_val rfl (.some rfl) (val_loadAgg Try.isAgg43 Try.sizeOf43 rfl (by first | exact cells_whole (by repeat constructor) | exact cells_part (by repeat constructor) rfl) rfl) ?_
  refine vl_call (C := []) rfl rfl (.some rfl) Try.call21 rfl .nil (fun w hw => xGreat m hS w (rec_here hR hw)) (fun v H' h => ?_)
  obtain ⟨gr, rfl, hgr, rfl⟩ := h
  show VL _ _ _ _ _ _
  refine vl_nil ?_
  refine vc_cond rfl (fun hc0 => ?_) (fun hc0 => ?_)
  · (try replace hc0 := of_decide_eq_true hc0)
    refine vc_seq ?_
    refine vc_region ?_
    refine vl_call (C := []) rfl rfl (.some rfl) Try.call14 rfl .nil (fun w hw => xLives w) (fun v H' h => ?_)
    obtain ⟨rfl, rfl⟩ := h
    show VL _ _ _ _ _ _
    refine vl_val rfl (.some rfl) (val_assign rfl) ?_
    refine vl_nil ?_
    refine vc_ret ?_
    refine ⟨_, [], _, res1 Try.results6 rfl, .nil, ?_⟩
    first | rfl | (exfalso; first | exact hg22 rfl | exact hg27 rfl | exact absurd rfl (by assumption) | contradiction)
  · (try replace hc0 := of_decide_eq_false hc0)
    have hgf : gr = false := by simpa using hc0
    refine vc_skip ?_
    refine vc_seq ?_
    refine vc_region ?_
    refine vl_val rfl (.some rfl) (val_loadAgg Try.isAgg43 Try.sizeOf43 rfl (by first | exact cells_whole (by repeat constructor) | exact cells_part (by repeat constructor) rfl) rfl) ?_
    refine vl_call (C := []) rfl rfl (.some rfl) Try.call22 rfl .nil (fun w hw => xBytesR m hS.recL (fun hg => gS3_B (hgr hgf hg)) w (rec_here hR hw)) (fun v H' h => ?_)
    obtain ⟨A12, c12, rfl, rfl⟩ := h
    show VL _ _ _ _ _ (_ :: _)
    refine vl_val rfl (.some rfl) (val_move rfl) ?_
    refine vl_val rfl (.some rfl) (val_extract rfl rfl) ?_
    refine vl_val rfl (.some rfl) (val_extract rfl rfl) ?_
    refine vl_val rfl (.some rfl) (val_assign rfl) ?_
    refine vl_val rfl (.some rfl) (val_assign rfl) ?_
    refine vl_nil ?_
    refine vc_seq ?_
    refine vc_seq ?_
    refine vc_region ?_
    refine vl_val rfl (.some rfl) (val_loadAgg Try.isAgg43 Try.sizeOf43 rfl (by first | exact cells_whole (by repeat constructor) | exact cells_part (by repeat constructor) rfl) rfl) ?_
    refine vl_callV rfl rfl (.some rfl) Try.call27 rfl (fun w hw => xGoodR m hS.recL w (rec_here hR hw)) ?_
    refine vl_val rfl (.some rfl) (val_not rfl) ?_
    refine vl_nil ?_
    refine vc_cond rfl (fun hc1 => ?_) (fun hc1 => ?_)
    · (try replace hc1 := of_decide_eq_true hc1)
      have hg : ¬ goodRec (recOf m) := by simpa using hc1
      obtain ⟨e1, e2⟩ := byt_bad hg
      rw [e1, e2]
      refine vc_seq ?_
      refine vc_region ?_
      refine vl_val rfl (.some rfl) (val_move rfl) ?_
      refine vl_val rfl (.some rfl) (val_eq rfl rfl) ?_
      refine vl_val rfl (.some rfl) (val_move rfl) ?_
      refine vl_split (t := 22) rfl (fun hg22 => ?_) (fun hg22 => ?_)
      · (try replace hg22 := of_decide_eq_true hg22)
        refine vl_on rfl rfl rfl rfl ?_
        refine vl_val rfl (.some rfl) (val_move rfl) ?_
        refine vl_on rfl rfl rfl rfl ?_
        refine vl_val rfl (.some rfl) (val_lenSl Try.runUnderlying22 rfl) ?_
        refine vl_on rfl rfl rfl rfl ?_
        refine vl_val rfl (.some rfl) (val_eq rfl rfl) ?_
        refine vl_val rfl (.some rfl) (val_pick rfl rfl) ?_
        refine vl_val rfl (.some rfl) (val_move rfl) ?_
        refine vl_split (t := 27) rfl (fun hg27 => ?_) (fun hg27 => ?_)
        · (try replace hg27 := of_decide_eq_true hg27)
          refine vl_on rfl rfl rfl rfl ?_
          refine vl_call (C := []) rfl rfl (.some rfl) Try.call14 rfl .nil (fun w hw => xLives w) (fun v H' h => ?_)
          obtain ⟨rfl, rfl⟩ := h
          show VL _ _ _ _ _ _
          refine vl_val rfl (.some rfl) (val_pick rfl rfl) ?_
          refine vl_val rfl (.some rfl) (val_assign rfl) ?_
          refine vl_nil ?_
          refine vc_ret ?_
          refine ⟨_, [], _, res1 Try.results6 rfl, .nil, ?_⟩
          first | rfl | (exfalso; first | exact hg22 rfl | exact hg27 rfl | exact absurd rfl (by assumption) | contradiction)
        · (try replace hg27 := of_decide_eq_false hg27)
          refine vl_off rfl rfl rfl rfl (.some rfl) ?_
          refine vl_val rfl (.some rfl) (val_pick rfl rfl) ?_
          refine vl_val rfl (.some rfl) (val_assign rfl) ?_
          refine vl_nil ?_
          refine vc_ret ?_
          refine ⟨_, [], _, res1 Try.results6 rfl, .nil, ?_⟩
          first | rfl | (exfalso; first | exact hg22 rfl | exact hg27 rfl | exact absurd rfl (by assumption) | contradiction)
      · (try replace hg22 := of_decide_eq_false hg22)
        refine vl_off rfl rfl rfl rfl (.some rfl) ?_
        refine vl_off rfl rfl rfl rfl (.some rfl) ?_
        refine vl_off rfl rfl rfl rfl (.some rfl) ?_
        refine vl_val rfl (.some rfl) (val_pick rfl rfl) ?_
        refine vl_val rfl (.some rfl) (val_move rfl) ?_
        refine vl_off rfl rfl rfl rfl (.some rfl) ?_
        refine vl_val rfl (.some rfl) (val_pick rfl rfl) ?_
        refine vl_val rfl (.some rfl) (val_assign rfl) ?_
        refine vl_nil ?_
        refine vc_ret ?_
        refine ⟨_, [], _, res1 Try.results6 rfl, .nil, ?_⟩
        first | rfl | (exfalso; first | exact hg22 rfl | exact hg27 rfl | exact absurd rfl (by assumption) | contradiction)
    · (try replace hc1 := of_decide_eq_false hc1)
      have hg : goodRec (recOf m) := by simpa using hc1
      have hrl := rec_len hg (hgr hgf hg)
      obtain ⟨e1, e2⟩ := byt_ok hg hrl
      rw [e1, e2]
      obtain ⟨f1, f2⟩ := load_rec hg hW hrl
      refine vc_skip ?_
      refine vc_seq ?_
      refine vc_region ?_
      refine vl_val rfl (.some rfl) (val_move rfl) ?_
      refine vl_slCap (A := A12) (n := (recB (recOf m)).length) (c := c12) (sz := 1) (e := 5) (vs := bcells (recB (recOf m))) (by repeat constructor) (fun hcap5 => ?_)
      refine vl_call (C := []) rfl rfl (.some rfl) Try.call25 rfl .nil (fun w hw => pLoad A12 c12 (recB (recOf m)) (by first | omega | (simp only [List.length_append, List.length_cons, List.length_nil]; omega)) hcap5 w (rdw (rd_sl (vs := bcells (recB (recOf m))) (by repeat constructor)) hw)) (fun v H' h => ?_)
      obtain ⟨m5, l5, rfl, hm5, hD5, hH5⟩ := h
      rw [hH5]
      refine vl_eqv (eqv_big l5 _).symm ?_
      obtain ⟨i1, i2⟩ := ld_some f1
      rw [i2]
      have hpl5 : PL (recB (recOf m)).length (recOf m5) := by rw [hm5, i1]; exact (load_is f1).2
      refine vl_val rfl (.some rfl) (val_move rfl) ?_
      refine vl_val rfl (.some rfl) (val_extract rfl rfl) ?_
      refine vl_val rfl (.some rfl) (val_extract rfl rfl) ?_
      refine vl_alloc rfl rfl (.some rfl) Try.zeroValue43 (fun r5 => ?_)
      first | refine vl_store rfl rfl .none rfl rfl Try.sizeOf43 rfl (by repeat constructor) (by first | decide | exact Nat.le_refl _ | exact Nat.le_of_ble_eq_true rfl | (simp; omega)) ?_ | refine vl_storeSl rfl rfl .none rfl rfl Try.sizeOf43 rfl (by simp [Value.cells]) (by repeat constructor) (by first | decide | (simp [Value.cells]; omega)) ?_
      refine vl_val rfl (.some rfl) (val_assign rfl) ?_
      refine vl_nil ?_
      refine vc_seq ?_
      refine vc_region ?_
      refine vl_lit0 sT22 Try.sizeOf5 rfl rfl (.some rfl) (fun r36 => ?_)
      refine vl_val rfl (.some rfl) (val_move rfl) ?_
      refine vl_append (vs := []) (us := bcells (recB (recOf m))) sT22 rfl rfl (.some rfl) rfl rfl (rd_sl (vs := bcells (recB (recOf m))) (by repeat constructor)) (by rw [bcells_length, Nat.mul_one]) (one_b _) (by omega) (by omega) (by repeat constructor) (fun A38 k38 => ?_)
      rw [List.nil_append, Nat.zero_add]
      refine vl_lit sT22 rfl rfl (.some rfl) rfl rfl rfl (by decide) (by decide) rfl (flat_one rfl) (fun r39 => ?_)
      refine vl_append (us := bcells [0]) sT22 rfl rfl (.some rfl) rfl rfl (rd_sl (by repeat constructor)) rfl (one_b _) (by omega) (by omega) (by repeat constructor) (fun A40 k40 => ?_)
      rw [bcells_app, show (recB (recOf m)).length + 1 = (recB (recOf m) ++ [0]).length by simp]
      refine vl_slCap (A := A40) (n := (recB (recOf m) ++ [0]).length) (c := k40) (sz := 1) (e := 5) (vs := bcells (recB (recOf m) ++ [0])) (by repeat constructor) (fun hcap7 => ?_)
      refine vl_call (C := []) rfl rfl (.some rfl) Try.call25 rfl .nil (fun w hw => pLoad A40 k40 (recB (recOf m) ++ [0]) (by first | omega | (simp only [List.length_append, List.length_cons, List.length_nil]; omega)) hcap7 w (rdw (rd_sl (vs := bcells (recB (recOf m) ++ [0])) (by repeat constructor)) hw)) (fun v H' h => ?_)
      obtain ⟨m7, l7, rfl, hm7, hD7, hH7⟩ := h
      rw [hH7]
      refine vl_eqv (eqv_big l7 _).symm ?_
      obtain ⟨j1, j2⟩ := ld_none f2
      rw [j2]
      refine vl_val rfl (.some rfl) (val_move rfl) ?_
      refine vl_val rfl (.some rfl) (val_extract rfl rfl) ?_
      refine vl_val rfl (.some rfl) (val_extract rfl rfl) ?_
      refine vl_alloc rfl rfl (.some rfl) Try.zeroValue43 (fun r7 => ?_)
      first | refine vl_store rfl rfl .none rfl rfl Try.sizeOf43 rfl (by repeat constructor) (by first | decide | exact Nat.le_refl _ | exact Nat.le_of_ble_eq_true rfl | (simp; omega)) ?_ | refine vl_storeSl rfl rfl .none rfl rfl Try.sizeOf43 rfl (by simp [Value.cells]) (by repeat constructor) (by first | decide | (simp [Value.cells]; omega)) ?_
      refine vl_val rfl (.some rfl) (val_assign rfl) ?_
      refine vl_nil ?_
      refine vc_seq ?_
      refine vc_draws [0, 1, 2, 3, 4, 5, 6, 7, 8, 11, 12, 13, 14, 15, 16, 18, 19] [] [0, 1, 2, 3, 4, 5, 6, 7, 8, 9, 10, 11, 12, 13, 14, 15, 16, 17, 18, 19] rfl (by kernel_rfl) (fun _ _ _ h => h) ?_
      refine vd_val rfl rfl rfl (.some rfl) (val_move rfl) ?_
      refine vd_val rfl rfl rfl (.some rfl) (val_eq rfl rfl) ?_
      refine vd_val rfl rfl rfl (.some rfl) (val_move rfl) ?_
      refine vd_split (t := 46) rfl (fun hg46 => ?_) (fun hg46 => ?_)
      · (try replace hg46 := of_decide_eq_true hg46)
        refine vd_on rfl rfl rfl rfl rfl rfl (.some rfl) (val_move rfl) ?_
        refine vd_on rfl rfl rfl rfl rfl rfl (.some rfl) (val_eq rfl rfl) ?_
        refine vd_val rfl rfl rfl (.some rfl) (val_pick rfl rfl) ?_
        refine vd_val rfl rfl rfl (.some rfl) (val_move rfl) ?_
        refine vd_split (t := 50) rfl (fun hg50 => ?_) (fun hg50 => ?_)
        · (try replace hg50 := of_decide_eq_true hg50)
          refine vd_on rfl rfl rfl rfl rfl rfl (.some rfl) (val_loadAgg Try.isAgg43 Try.sizeOf43 rfl (by first | exact cells_whole (by repeat constructor) | exact cells_part (by repeat constructor) rfl) rfl) ?_
          refine vd_on rfl rfl rfl rfl rfl rfl (.some rfl) (val_loadAgg Try.isAgg43 Try.sizeOf43 rfl (by first | exact cells_whole (by repeat constructor) | exact cells_part (by repeat constructor) rfl) rfl) ?_
          refine vd_op rfl rfl ?_
          refine vl_on rfl rfl rfl rfl ?_
          refine vl_callV rfl rfl (.some rfl) Try.call24 rfl (fun w hw => lPlain m w) ?_
          refine vl_nil ?_
          refine ⟨fun _ => ⟨_, (by repeat (first | exact .nil | exact sub_self _ | exact sub_skip (sub_self _) | exact sub_skip (sub_skip (sub_self _)) | exact sub_skip (sub_skip (sub_skip (sub_self _))) | (apply Sub.cons; · repeat (first | exact .head | apply Take.tail))))⟩, ?_⟩
          refine vd_op rfl rfl ?_
          refine vl_on rfl rfl rfl rfl ?_
          refine vl_call (C := []) rfl rfl (.some rfl) Try.call20 rfl .nil (fun w hw => xSame m5 m (hm5.trans i1) (.inl ⟨hg, hrl⟩) (PL.recL hpl5 (by omega)) hS.recL (PL.recB hpl5 (by omega)) (gS3_B (hgr hgf hg)) w (hD5 w (hw.chunk (big l5) (In.mem (by repeat constructor)))) (rec_here hR hw)) (fun v H' h => ?_)
          obtain ⟨rfl, rfl⟩ := h
          show VL _ _ _ _ _ _
          refine vl_nil ?_
          refine ⟨fun _ => ⟨_, (by repeat (first | exact .nil | exact sub_self _ | exact sub_skip (sub_self _) | exact sub_skip (sub_skip (sub_self _)) | exact sub_skip (sub_skip (sub_skip (sub_self _))) | (apply Sub.cons; · repeat (first | exact .head | apply Take.tail))))⟩, ?_⟩
          refine vd_val rfl rfl rfl (.some rfl) (val_pick rfl rfl) ?_
          refine vd_val rfl rfl rfl (.some rfl) (val_move rfl) ?_
          refine vd_split (t := 56) rfl (fun hg56 => ?_) (fun hg56 => ?_)
          · (try replace hg56 := of_decide_eq_true hg56)
            refine vd_on rfl rfl rfl rfl rfl rfl (.some rfl) (val_move rfl) ?_
            refine vd_on rfl rfl rfl rfl rfl rfl (.some rfl) (val_eq rfl rfl) ?_
            refine vd_val rfl rfl rfl (.some rfl) (val_pick rfl rfl) ?_
            refine vd_val rfl rfl rfl (.some rfl) (val_move rfl) ?_
            refine vd_split (t := 60) rfl (fun hg60 => ?_) (fun hg60 => ?_)
            · (try replace hg60 := of_decide_eq_true hg60)
              refine vd_op rfl rfl ?_
              refine vl_on rfl rfl rfl rfl ?_
              refine vl_call (C := []) rfl rfl (.some rfl) Try.call14 rfl .nil (fun w hw => xLives w) (fun v H' h => ?_)
              obtain ⟨rfl, rfl⟩ := h
              show VL _ _ _ _ _ _
              refine vl_nil ?_
              refine ⟨fun _ => ⟨_, (by repeat (first | exact .nil | exact sub_self _ | exact sub_skip (sub_self _) | exact sub_skip (sub_skip (sub_self _)) | exact sub_skip (sub_skip (sub_skip (sub_self _))) | (apply Sub.cons; · repeat (first | exact .head | apply Take.tail))))⟩, ?_⟩
              refine vd_val rfl rfl rfl (.some rfl) (val_pick rfl rfl) ?_
              refine vd_val rfl rfl rfl (.some rfl) (val_assign rfl) ?_
              refine vd_nil ?_
              refine vc_ret ?_
              refine ⟨_, [], _, res1 Try.results6 rfl, .nil, ?_⟩
              first | rfl | (exfalso; first | exact hg22 rfl | exact hg27 rfl | exact absurd rfl (by assumption) | contradiction)
            · (try replace hg60 := of_decide_eq_false hg60)
              refine vd_op rfl rfl ?_
              refine vl_off rfl rfl rfl rfl (.some rfl) ?_
              refine vl_nil ?_
              refine ⟨fun _ => ⟨_, (by repeat (first | exact .nil | exact sub_self _ | exact sub_skip (sub_self _) | exact sub_skip (sub_skip (sub_self _)) | exact sub_skip (sub_skip (sub_skip (sub_self _))) | (apply Sub.cons; · repeat (first | exact .head | apply Take.tail))))⟩, ?_⟩
              refine vd_val rfl rfl rfl (.some rfl) (val_pick rfl rfl) ?_
              refine vd_val rfl rfl rfl (.some rfl) (val_assign rfl) ?_
              refine vd_nil ?_
              refine vc_ret ?_
              refine ⟨_, [], _, res1 Try.results6 rfl, .nil, ?_⟩
              first | rfl | (exfalso; first | exact hg22 rfl | exact hg27 rfl | exact absurd rfl (by assumption) | contradiction)
          · (try replace hg56 := of_decide_eq_false hg56)
            refine vd_off rfl rfl rfl rfl rfl rfl (.some rfl) ?_
            refine vd_off rfl rfl rfl rfl rfl rfl (.some rfl) ?_
            refine vd_val rfl rfl rfl (.some rfl) (val_pick rfl rfl) ?_
            refine vd_val rfl rfl rfl (.some rfl) (val_move rfl) ?_
            refine vd_op rfl rfl ?_
            refine vl_off rfl rfl rfl rfl (.some rfl) ?_
            refine vl_nil ?_
            refine ⟨fun _ => ⟨_, (by repeat (first | exact .nil | exact sub_self _ | exact sub_skip (sub_self _) | exact sub_skip (sub_skip (sub_self _)) | exact sub_skip (sub_skip (sub_skip (sub_self _))) | (apply Sub.cons; · repeat (first | exact .head | apply Take.tail))))⟩, ?_⟩
            refine vd_val rfl rfl rfl (.some rfl) (val_pick rfl rfl) ?_
            refine vd_val rfl rfl rfl (.some rfl) (val_assign rfl) ?_
            refine vd_nil ?_
            refine vc_ret ?_
            refine ⟨_, [], _, res1 Try.results6 rfl, .nil, ?_⟩
            first | rfl | (exfalso; first | exact hg22 rfl | exact hg27 rfl | exact absurd rfl (by assumption) | contradiction)
        · (try replace hg50 := of_decide_eq_false hg50)
          refine vd_off rfl rfl rfl rfl rfl rfl (.some rfl) ?_
          refine vd_off rfl rfl rfl rfl rfl rfl (.some rfl) ?_
          refine vd_op rfl rfl ?_
          refine vl_off rfl rfl rfl rfl (.some rfl) ?_
          refine vl_nil ?_
          refine ⟨fun _ => ⟨_, (by repeat (first | exact .nil | exact sub_self _ | exact sub_skip (sub_self _) | exact sub_skip (sub_skip (sub_self _)) | exact sub_skip (sub_skip (sub_skip (sub_self _))) | (apply Sub.cons; · repeat (first | exact .head | apply Take.tail))))⟩, ?_⟩
          refine vd_op rfl rfl ?_
          refine vl_off rfl rfl rfl rfl (.some rfl) ?_
          refine vl_nil ?_
          refine ⟨fun _ => ⟨_, (by repeat (first | exact .nil | exact sub_self _ | exact sub_skip (sub_self _) | exact sub_skip (sub_skip (sub_self _)) | exact sub_skip (sub_skip (sub_skip (sub_self _))) | (apply Sub.cons; · repeat (first | exact .head | apply Take.tail))))⟩, ?_⟩
          refine vd_val rfl rfl rfl (.some rfl) (val_pick rfl rfl) ?_
          refine vd_val rfl rfl rfl (.some rfl) (val_move rfl) ?_
          refine vd_off rfl rfl rfl rfl rfl rfl (.some rfl) ?_
          refine vd_off rfl rfl rfl rfl rfl rfl (.some rfl) ?_
          refine vd_val rfl rfl rfl (.some rfl) (val_pick rfl rfl) ?_
          refine vd_val rfl rfl rfl (.some rfl) (val_move rfl) ?_
          refine vd_op rfl rfl ?_
          refine vl_off rfl rfl rfl rfl (.some rfl) ?_
          refine vl_nil ?_
          refine ⟨fun _ => ⟨_, (by repeat (first | exact .nil | exact sub_self _ | exact sub_skip (sub_self _) | exact sub_skip (sub_skip (sub_self _)) | exact sub_skip (sub_skip (sub_skip (sub_self _))) | (apply Sub.cons; · repeat (first | exact .head | apply Take.tail))))⟩, ?_⟩
          refine vd_val rfl rfl rfl (.some rfl) (val_pick rfl rfl) ?_
          refine vd_val rfl rfl rfl (.some rfl) (val_assign rfl) ?_
          refine vd_nil ?_
          refine vc_ret ?_
          refine ⟨_, [], _, res1 Try.results6 rfl, .nil, ?_⟩
          first | rfl | (exfalso; first | exact hg22 rfl | exact hg27 rfl | exact absurd rfl (by assumption) | contradiction)
      · (try replace hg46 := of_decide_eq_false hg46)
        refine vd_off rfl rfl rfl rfl rfl rfl (.some rfl) ?_
        refine vd_off rfl rfl rfl rfl rfl rfl (.some rfl) ?_
        refine vd_val rfl rfl rfl (.some rfl) (val_pick rfl rfl) ?_
        refine vd_val rfl rfl rfl (.some rfl) (val_move rfl) ?_
        refine vd_off rfl rfl rfl rfl rfl rfl (.some rfl) ?_
        refine vd_off rfl rfl rfl rfl rfl rfl (.some rfl) ?_
        refine vd_op rfl rfl ?_
        refine vl_off rfl rfl rfl rfl (.some rfl) ?_
        refine vl_nil ?_
        refine ⟨fun _ => ⟨_, (by repeat (first | exact .nil | exact sub_self _ | exact sub_skip (sub_self _) | exact sub_skip (sub_skip (sub_self _)) | exact sub_skip (sub_skip (sub_skip (sub_self _))) | (apply Sub.cons; · repeat (first | exact .head | apply Take.tail))))⟩, ?_⟩
        refine vd_op rfl rfl ?_
        refine vl_off rfl rfl rfl rfl (.some rfl) ?_
        refine vl_nil ?_
        refine ⟨fun _ => ⟨_, (by repeat (first | exact .nil | exact sub_self _ | exact sub_skip (sub_self _) | exact sub_skip (sub_skip (sub_self _)) | exact sub_skip (sub_skip (sub_skip (sub_self _))) | (apply Sub.cons; · repeat (first | exact .head | apply Take.tail))))⟩, ?_⟩
        refine vd_val rfl rfl rfl (.some rfl) (val_pick rfl rfl) ?_
        refine vd_val rfl rfl rfl (.some rfl) (val_move rfl) ?_
        refine vd_off rfl rfl rfl rfl rfl rfl (.some rfl) ?_
        refine vd_off rfl rfl rfl rfl rfl rfl (.some rfl) ?_
        refine vd_val rfl rfl rfl (.some rfl) (val_pick rfl rfl) ?_
        refine vd_val rfl rfl rfl (.some rfl) (val_move rfl) ?_
        refine vd_op rfl rfl ?_
        refine vl_off rfl rfl rfl rfl (.some rfl) ?_
        refine vl_nil ?_
        refine ⟨fun _ => ⟨_, (by repeat (first | exact .nil | exact sub_self _ | exact sub_skip (sub_self _) | exact sub_skip (sub_skip (sub_self _)) | exact sub_skip (sub_skip (sub_skip (sub_self _))) | (apply Sub.cons; · repeat (first | exact .head | apply Take.tail))))⟩, ?_⟩
        refine vd_val rfl rfl rfl (.some rfl) (val_pick rfl rfl) ?_
        refine vd_val rfl rfl rfl (.some rfl) (val_assign rfl) ?_
        refine vd_nil ?_
        refine vc_ret ?_
        refine ⟨_, [], _, res1 Try.results6 rfl, .nil, ?_⟩
        first | rfl | (exfalso; first | exact hg22 rfl | exact hg27 rfl | exact absurd rfl (by assumption) | contradiction)

abbrev colW (p : ByteArray × Int × Unit) : List Value := [.string p.1] ++ ([.int .i64 p.2.1] ++ [])
def colOf (p : ByteArray × Int × Unit) : Cq := (p.1.data.toList, p.2.1)
theorem colW_flat (l : List (ByteArray × Int × Unit)) : (l.map colOf).flatMap colV = l.flatMap colW := by
  rw [List.flatMap_map]
  refine congrArg (fun f => List.flatMap f l) (funext fun p => ?_)
  show [Value.string (sL p.1.data.toList), Value.int .i64 p.2.1] = _
  rw [sL_eta]; rfl
abbrev meaW (p : Int × ByteArray × Unit) : List Value := [.int .i64 p.1] ++ ([.string p.2.1] ++ [])
def meaOf (p : Int × ByteArray × Unit) : Mq := (p.1, p.2.1.data.toList)
theorem meaW_flat (l : List (Int × ByteArray × Unit)) : (l.map meaOf).flatMap meaV = l.flatMap meaW := by
  rw [List.flatMap_map]
  refine congrArg (fun f => List.flatMap f l) (funext fun p => ?_)
  show [Value.int .i64 p.1, Value.string (sL p.2.1.data.toList)] = _
  rw [sL_eta]; rfl
theorem txt_flat (l : List ByteArray) : tcS (l.map fun s => s.data.toList) = scells l := by
  unfold tcS scells
  rw [List.map_map]
  refine congrArg (fun f => List.map f l) (funext fun s => ?_)
  show Value.string (sL s.data.toList) = _
  rw [sL_eta]
abbrev valW (p : Int × Int × ByteArray × Unit) : List Value := [.int .i64 p.1] ++ ([.int .i64 p.2.1] ++ ([.string p.2.2.1] ++ []))
def vkOf (p : Int × Int × ByteArray × Unit) : Vk := ⟨p.1, p.2.1, p.2.2.1⟩
abbrev RowW := Sl (Int × Int × ByteArray × Unit)
abbrev slW (s : RowW) : List Value := [.slice s.A s.l.length s.c]
def rwOf (s : RowW) : Rw := (s.A, s.c, s.l.map vkOf)
theorem row_flat (l : List RowW) : (l.map rwOf).flatMap rowV = l.flatMap slW := by
  rw [List.flatMap_map]
  refine congrArg (fun f => List.flatMap f l) (funext fun p => ?_)
  show [Value.slice p.A (p.l.map vkOf).length p.c] = _
  rw [List.length_map]
theorem val_flat (l : List (Int × Int × ByteArray × Unit)) : flat (l.map vkOf) = l.flatMap valW := by
  unfold flat
  rw [List.flatMap_map]
  rfl
theorem len_48 {s : ByteArray} (h : s.size ≤ 140737488351232) : s.data.toList.length < 562949953421312 := by
  have hl : s.data.toList.length = s.size := Array.length_toList
  omega
/-- The record that a law is given. -/
def recOfW (k : Int) (tn : ByteArray) (Ac : Option Addr) (cc : Nat) (cs : List (ByteArray × Int × Unit)) (rn rt : ByteArray) (Ad : Option Addr) (cd : Nat) (ds : List ByteArray) (Am : Option Addr) (cm : Nat) (ms : List (Int × ByteArray × Unit)) (nm : ByteArray) (Ar : Option Addr) (cr : Nat) (rs : List RowW) : RecM :=
  ⟨k, tn.data.toList, Ac, cc, cs.map colOf, rn.data.toList, rt.data.toList, Ad, cd, ds.map fun s => s.data.toList, Am, cm, ms.map meaOf, nm.data.toList, Ar, cr, rs.map rwOf⟩
section
variable {k : Int} {tn : ByteArray} {Ac : Option Addr} {cc : Nat} {cs : List (ByteArray × Int × Unit)} {rn rt : ByteArray} {Ad : Option Addr} {cd : Nat} {ds : List ByteArray} {Am : Option Addr} {cm : Nat} {ms : List (Int × ByteArray × Unit)} {nm : ByteArray} {Ar : Option Addr} {cr : Nat} {rs : List RowW} {w : World}
  (g0 : -9223372036854775808 ≤ k ∧ k < 9223372036854775808) (g1 : tn.size ≤ 140737488351232) (g2 : Reads w Ac (cs.flatMap colW)) (g3 : cs.length ≤ cc) (g4 : cs.length * 24 ≤ 140737488351232) (g5 : ∀ a ∈ cs, a.1.size ≤ 140737488351232 ∧ (-9223372036854775808 ≤ a.2.1 ∧ a.2.1 < 9223372036854775808) ∧ True)
  (g6 : rn.size ≤ 140737488351232) (g7 : rt.size ≤ 140737488351232) (g8 : Reads w Ad (scells ds)) (g9 : ds.length ≤ cd) (g10 : ds.length * 16 ≤ 140737488351232) (g11 : ∀ a ∈ ds, a.size ≤ 140737488351232) (g12 : Reads w Am (ms.flatMap meaW)) (g13 : ms.length ≤ cm) (g14 : ms.length * 24 ≤ 140737488351232) (g15 : ∀ a ∈ ms, (-9223372036854775808 ≤ a.1 ∧ a.1 < 9223372036854775808) ∧ a.2.1.size ≤ 140737488351232 ∧ True)
  (g16 : nm.size ≤ 140737488351232) (g17 : Reads w Ar (rs.flatMap slW)) (g18 : rs.length ≤ cr) (g19 : rs.length * 24 ≤ 140737488351232) (g20 : ∀ s ∈ rs, Reads w s.A (s.l.flatMap valW) ∧ s.l.length ≤ s.c ∧ s.l.length * 32 ≤ 140737488351232 ∧ ∀ a ∈ s.l, (-9223372036854775808 ≤ a.1 ∧ a.1 < 9223372036854775808) ∧ (-9223372036854775808 ≤ a.2.1 ∧ a.2.1 < 9223372036854775808) ∧ a.2.2.1.size ≤ 140737488351232 ∧ True)
include g1 g4 g5 g6 g7 g10 g11 g14 g15 g16 g19 g20 in
theorem law_recS : RecS (recOfW k tn Ac cc cs rn rt Ad cd ds Am cm ms nm Ar cr rs) := by
  refine ⟨len_48 g1, len_48 g6, len_48 g7, len_48 g16, ?_, ?_, ?_, ?_, fun q hq => ?_, fun c hc => ?_, fun c hc => ?_, fun c hc => ?_⟩
  · show (cs.map colOf).length < _
    rw [List.length_map]; omega
  · show (ds.map _).length < _
    rw [List.length_map]; omega
  · show (ms.map meaOf).length < _
    rw [List.length_map]; omega
  · show (rs.map rwOf).length < _
    rw [List.length_map]; omega
  · obtain ⟨s, hs, rfl⟩ := List.mem_map.1 hq
    show (s.l.map vkOf).length < _
    have := g20 s hs
    rw [List.length_map]; omega
  · obtain ⟨a, ha, rfl⟩ := List.mem_map.1 hc
    exact Nat.le_of_lt (len_48 (g5 a ha).1)
  · obtain ⟨a, ha, rfl⟩ := List.mem_map.1 hc
    exact Nat.le_of_lt (len_48 (g11 a ha))
  · obtain ⟨a, ha, rfl⟩ := List.mem_map.1 hc
    exact Nat.le_of_lt (len_48 (g15 a ha).2.1)
include g2 g8 g12 g17 g20 in
theorem law_recR : RecR w (recOfW k tn Ac cc cs rn rt Ad cd ds Am cm ms nm Ar cr rs) := by
  refine ⟨?_, ?_, ?_, ?_, fun q hq => ?_⟩
  · show Reads w Ac ((cs.map colOf).flatMap colV)
    rw [colW_flat]; exact g2
  · show Reads w Ad (tcS (ds.map fun s => s.data.toList))
    rw [txt_flat]; exact g8
  · show Reads w Am ((ms.map meaOf).flatMap meaV)
    rw [meaW_flat]; exact g12
  · show Reads w Ar ((rs.map rwOf).flatMap rowV)
    rw [row_flat]; exact g17
  · obtain ⟨s, hs, rfl⟩ := List.mem_map.1 hq
    refine ⟨?_, fun p hp => ?_⟩
    · show Reads w s.A (flat (s.l.map vkOf))
      rw [val_flat]; exact (g20 s hs).1
    · obtain ⟨a, ha, rfl⟩ := List.mem_map.1 hp
      exact ((g20 s hs).2.2.2 a ha).2.1
theorem law_recA : recA (recOfW k tn Ac cc cs rn rt Ad cd ds Am cm ms nm Ar cr rs) = .agg #[.int .i64 k, .string tn, .slice Ac cs.length cc, .string rn, .string rt, .slice Ad ds.length cd, .slice Am ms.length cm, .string nm, .slice Ar rs.length cr] := by
  show Value.agg #[.int .i64 k, .string (sL tn.data.toList), .slice Ac (cs.map colOf).length cc, .string (sL rn.data.toList), .string (sL rt.data.toList), .slice Ad (ds.map _).length cd, .slice Am (ms.map meaOf).length cm, .string (sL nm.data.toList), .slice Ar (rs.map rwOf).length cr] = _
  rw [sL_eta, sL_eta, sL_eta, sL_eta, List.length_map, List.length_map, List.length_map, List.length_map]
include g1 g4 g5 g6 g7 g10 g11 g14 g15 g16 g19 g20 in
theorem law_recW : RecW (recOf (recOfW k tn Ac cc cs rn rt Ad cd ds Am cm ms nm Ar cr rs)) := by
  refine (law_recS g1 g4 g5 g6 g7 g10 g11 g14 g15 g16 g19 g20).recW (fun c hc => ?_) (fun c hc => ?_) (fun q hq p hp => ?_)
  · obtain ⟨a, ha, rfl⟩ := List.mem_map.1 hc
    exact (g5 a ha).2.1
  · obtain ⟨a, ha, rfl⟩ := List.mem_map.1 hc
    exact (g15 a ha).1
  · obtain ⟨s, hs, rfl⟩ := List.mem_map.1 hq
    obtain ⟨a, ha, rfl⟩ := List.mem_map.1 hp
    exact ((g20 s hs).2.2.2 a ha).2.1
end

theorem law_RecordBack (k : Int) (tn : ByteArray) (Ac : Option Addr) (cc : Nat) (cs : List (ByteArray × Int × Unit)) (rn rt : ByteArray) (Ad : Option Addr) (cd : Nat) (ds : List ByteArray) (Am : Option Addr) (cm : Nat) (ms : List (Int × ByteArray × Unit)) (nm : ByteArray) (Ar : Option Addr) (cr : Nat) (rs : List RowW) (w : World)
  (g0 : -9223372036854775808 ≤ k ∧ k < 9223372036854775808) (g1 : tn.size ≤ 140737488351232) (g2 : Reads w Ac (cs.flatMap colW)) (g3 : cs.length ≤ cc) (g4 : cs.length * 24 ≤ 140737488351232) (g5 : ∀ a ∈ cs, a.1.size ≤ 140737488351232 ∧ (-9223372036854775808 ≤ a.2.1 ∧ a.2.1 < 9223372036854775808) ∧ True)
  (g6 : rn.size ≤ 140737488351232) (g7 : rt.size ≤ 140737488351232) (g8 : Reads w Ad (scells ds)) (g9 : ds.length ≤ cd) (g10 : ds.length * 16 ≤ 140737488351232) (g11 : ∀ a ∈ ds, a.size ≤ 140737488351232) (g12 : Reads w Am (ms.flatMap meaW)) (g13 : ms.length ≤ cm) (g14 : ms.length * 24 ≤ 140737488351232) (g15 : ∀ a ∈ ms, (-9223372036854775808 ≤ a.1 ∧ a.1 < 9223372036854775808) ∧ a.2.1.size ≤ 140737488351232 ∧ True)
  (g16 : nm.size ≤ 140737488351232) (g17 : Reads w Ar (rs.flatMap slW)) (g18 : rs.length ≤ cr) (g19 : rs.length * 24 ≤ 140737488351232) (g20 : ∀ s ∈ rs, Reads w s.A (s.l.flatMap valW) ∧ s.l.length ≤ s.c ∧ s.l.length * 32 ≤ 140737488351232 ∧ ∀ a ∈ s.l, (-9223372036854775808 ≤ a.1 ∧ a.1 < 9223372036854775808) ∧ (-9223372036854775808 ≤ a.2.1 ∧ a.2.1 < 9223372036854775808) ∧ a.2.2.1.size ≤ 140737488351232 ∧ True) :
    FnV Try.prog 6 [Value.agg #[.int .i64 k, .string tn, .slice Ac cs.length cc, .string rn, .string rt, .slice Ad ds.length cd, .slice Am ms.length cm, .string nm, .slice Ar rs.length cr]] (.bool true) w := by
  have h := xBack (recOfW k tn Ac cc cs rn rt Ad cd ds Am cm ms nm Ar cr rs) (law_recS g1 g4 g5 g6 g7 g10 g11 g14 g15 g16 g19 g20) (law_recW g1 g4 g5 g6 g7 g10 g11 g14 g15 g16 g19 g20) w (law_recR g2 g8 g12 g17 g20)
  rwa [law_recA] at h


end Go.Proofs.Ytclnhfdgiaamhaa.K
