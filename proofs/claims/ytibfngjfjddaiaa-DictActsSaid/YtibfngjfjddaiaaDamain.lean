/- Walks of the program's functions, printed by a program of this session; Lean checks them. -/
import Derived.Test.YtibfngjfjddaiaaDacts
namespace Go.Proofs.Ytibfngjfjddaiaa.K
open Go Go.RowKit Go.Proofs
set_option linter.unusedVariables false
set_option linter.unusedSimpArgs false


set_option maxRecDepth 20000 in
theorem law_DictActsBad (kd : Int) (A : Option Addr) (c : Nat) (l : List Vk) (j : Int) (hk : ¬ (1 ≤ kd ∧ kd ≤ 4)) (w : World) : FnV Try.prog 6 [.int .i64 kd, .slice A l.length c, .int .i64 j] (.bool true) w := by
  refine fn_enter Try.func6 rfl Try.ntmps6 rfl ?_
  refine vc_seq ?_
  refine vc_region ?_
  refine vl_val rfl (.some rfl) (val_assign rfl) ?_
  refine vl_nil ?_
  refine vc_seq ?_
  refine vc_region ?_
  refine vl_val rfl (.some rfl) (val_move rfl) ?_
  refine vl_callV rfl rfl (.some rfl) Try.call13 rfl (fun w hw => dNewBad _ hk w) ?_
  refine vl_val rfl (.some rfl) (val_move rfl) ?_
  refine vl_callV rfl rfl (.some rfl) Try.call23 rfl (fun w hw => xNewBad _ hk w) ?_
  refine vl_val rfl (.some rfl) (val_assign rfl) ?_
  refine vl_val rfl (.some rfl) (val_assign rfl) ?_
  refine vl_nil ?_
  refine vc_seq ?_
  refine vc_seq ?_
  refine vc_region ?_
  refine vl_val rfl (.some rfl) (val_move rfl) ?_
  refine vl_val rfl (.some rfl) (val_opO rfl rfl guard_ptr (bin_nil_eq Try.runUnderlying23)) ?_
  refine vl_val rfl (.some rfl) (val_move rfl) ?_
  refine vl_val rfl (.some rfl) (val_opO rfl rfl guard_ptr (bin_nil_eq Try.runUnderlying43)) ?_
  refine vl_val rfl (.some rfl) (val_bnet Try.underlying4 rfl rfl (rfl)) ?_
  refine vl_nil ?_
  refine vc_cond rfl (fun h => by cases h) (fun _ => ?_)
  refine vc_skip ?_
  refine vc_seq ?_
  refine vc_seq ?_
  refine vc_region ?_
  refine vl_val rfl (.some rfl) (val_move rfl) ?_
  refine vl_val rfl (.some rfl) (val_opO rfl rfl guard_ptr (bin_nil_eq Try.runUnderlying43)) ?_
  refine vl_val rfl (.some rfl) (val_move rfl) ?_
  refine vl_off rfl rfl rfl rfl (.some rfl) ?_
  refine vl_off rfl rfl rfl rfl (.some rfl) ?_
  refine vl_off rfl rfl rfl rfl (.some rfl) ?_
  refine vl_val rfl (.some rfl) (val_pick rfl rfl) ?_
  refine vl_nil ?_
  refine vc_cond rfl (fun _ => ?_) (fun h => by cases h)
  refine vc_seq ?_
  refine vc_region ?_
  refine vl_callV rfl rfl (.some rfl) Try.call14 rfl (fun w hw => dLives w) ?_
  refine vl_val rfl (.some rfl) (val_assign rfl) ?_
  refine vl_nil ?_
  refine vc_ret ?_
  refine ⟨_, [], _, res1 Try.results6 rfl, .nil, ?_⟩
  rfl
set_option maxRecDepth 20000 in
set_option maxHeartbeats 2000000 in
theorem law_DictActsGood (kd : Int) (A : Option Addr) (c : Nat) (l : List Vk) (j : Int) (hk : 1 ≤ kd ∧ kd ≤ 4) (w : World) (hR : Reads w A (flat l)) (hW : ∀ p ∈ l, WV p) : FnV Try.prog 6 [.int .i64 kd, .slice A l.length c, .int .i64 j] (.bool true) w := by
  refine fn_enter Try.func6 rfl Try.ntmps6 rfl ?_
  refine vc_seq ?_
  refine vc_region ?_
  refine vl_val rfl (.some rfl) (val_assign rfl) ?_
  refine vl_nil ?_
  refine vc_seq ?_
  refine vc_region ?_
  refine vl_val rfl (.some rfl) (val_move rfl) ?_
  refine vl_call rfl rfl (.some rfl) Try.call13 rfl .nil (fun w hw => dNew kd hk.1 hk.2 w) (fun v H' h => ?_)
  obtain ⟨r, m, rfl, rfl⟩ := h
  show VL _ _ _ _ _ (_ :: _ :: _ :: _)
  refine vl_val rfl (.some rfl) (val_move rfl) ?_
  refine vl_call rfl rfl (.some rfl) Try.call23 rfl .nil (fun w hw => xNew kd hk.1 hk.2 w) (fun v H' h => ?_)
  obtain ⟨x, rfl, rfl⟩ := h
  show VL _ _ _ _ _ (_ :: _ :: _)
  refine vl_val rfl (.some rfl) (val_assign rfl) ?_
  refine vl_val rfl (.some rfl) (val_assign rfl) ?_
  refine vl_nil ?_
  refine vc_seq ?_
  refine vc_seq ?_
  refine vc_region ?_
  refine vl_val rfl (.some rfl) (val_move rfl) ?_
  refine vl_val rfl (.some rfl) (val_opO rfl rfl guard_ptr (bin_ptr_eq Try.runUnderlying23)) ?_
  refine vl_val rfl (.some rfl) (val_move rfl) ?_
  refine vl_val rfl (.some rfl) (val_opO rfl rfl guard_ptr (bin_ptr_eq Try.runUnderlying43)) ?_
  refine vl_val rfl (.some rfl) (val_bnet Try.underlying4 rfl rfl (rfl)) ?_
  refine vl_nil ?_
  refine vc_cond rfl (fun h => by cases h) (fun _ => ?_)
  refine vc_skip ?_
  refine vc_seq ?_
  refine vc_seq ?_
  refine vc_region ?_
  refine vl_val rfl (.some rfl) (val_move rfl) ?_
  refine vl_val rfl (.some rfl) (val_opO rfl rfl guard_ptr (bin_ptr_eq Try.runUnderlying43)) ?_
  refine vl_val rfl (.some rfl) (val_move rfl) ?_
  refine vl_on rfl rfl rfl rfl ?_
  refine vl_val rfl (.some rfl) (val_move rfl) ?_
  refine vl_on rfl rfl rfl rfl ?_
  refine vl_val rfl (.some rfl) (val_lenSl Try.runUnderlying22 rfl) ?_
  refine vl_on rfl rfl rfl rfl ?_
  refine vl_val rfl (.some rfl) (val_gt rfl rfl) ?_
  refine vl_val rfl (.some rfl) (val_pick rfl rfl) ?_
  refine vl_nil ?_
  refine vc_cond rfl (fun hc1 => ?_) (fun hc1 => ?_)
  · (try replace hc1 := of_decide_eq_true hc1)
    refine vc_seq ?_
    refine vc_region ?_
    refine vl_callV rfl rfl (.some rfl) Try.call14 rfl (fun w hw => dLives w) ?_
    refine vl_val rfl (.some rfl) (val_assign rfl) ?_
    refine vl_nil ?_
    refine vc_ret ?_
    refine ⟨_, [], _, res1 Try.results6 rfl, .nil, ?_⟩
    rfl
  · (try replace hc1 := of_decide_eq_false hc1)
    refine vc_skip ?_
    refine vc_seq ?_
    refine vc_region ?_
    refine vl_val rfl (.some rfl) (val_assign rfl) ?_
    refine vl_nil ?_
    refine vc_seq ?_
    refine vc_region ?_
    refine vl_val rfl (.some rfl) (val_assign rfl) ?_
    refine vl_nil ?_
    refine vc_seq ?_
    refine vc_seq ?_
    refine vc_region ?_
    refine vl_val rfl (.some rfl) (val_move rfl) ?_
    refine vl_val rfl (.some rfl) (val_lenSl Try.runUnderlying22 rfl) ?_
    refine vl_val rfl (.some rfl) (val_move rfl) ?_
    refine vl_nil ?_
    refine vc_block ?_
    refine vc_loopw (fun k E H => ∃ (i : Nat) (A1 : Option Addr) (c1 : Nat) (vs : List Vk) (B1 : Option Addr) (b1 : Nat) (o1 o2 : Option Addr) (X : List Chunk), i ≤ l.length ∧ k = l.length - i ∧ vs.Nodup ∧ vs.length ≤ 512 ∧ (∀ q ∈ vs, takesB kd q = true) ∧ Kept kd o1 o2 X ∧ E = [(1, .slice A l.length c), (2, .int .i64 j), (7, .pointer (some ⟨r, 0, none⟩)), (8, .pointer (some ⟨x, 0, none⟩)), (9, .pointer o1), (10, .pointer o2), (42, .slice A l.length c), (43, .int .i64 l.length), (44, .int .i64 i)] ∧ H = DC r m kd A1 vs.length c1 :: DM m vs :: DS A1 c1 vs :: RC x kd B1 vs.length b1 :: DS B1 b1 vs :: X) (l.length) ⟨_, _, _, ⟨0, none, 0, [], none, 0, none, none, [], by omega, rfl, List.nodup_nil, by simp, by simp, ⟨fun _ => rfl, fun h => absurd rfl h⟩, rfl, rfl⟩, (by repeat (first | exact trivial | refine ⟨rfl, ?_⟩ | refine ⟨le_item rfl (by first | rfl | (congr 1; omega) | (simp; done) | (simp; omega)), ?_⟩)), (by repeat (first | exact .nil | (apply Sub.cons; · repeat (first | exact .head | apply Take.tail))))⟩ ?_
    intro k E H hI
    obtain ⟨i, A1, c1, vs, B1, b1, o1, o2, X, hi, rfl, hN, hL, hT, hG, rfl, rfl⟩ := hI
    refine vc_seq ?_
    refine vc_region ?_
    refine vl_val rfl (.some rfl) (val_lt rfl rfl) ?_
    refine vl_nil ?_
    refine vc_seq ?_
    refine vc_cond rfl (fun hc2 => ?_) (fun hc2 => ?_)
    · (try replace hc2 := of_decide_eq_true hc2)
      have hf := flat_at l i (by omega)
      have hwp := hW (l.getD i z3) (by simp [List.getD, List.getElem?_eq_getElem (show i < l.length by omega)])
      generalize l.getD i z3 = p at hf hwp
      refine vc_skip ?_
      refine vc_seq ?_
      refine vc_block ?_
      refine vc_seq ?_
      refine vc_region ?_
      refine vl_val rfl (.some rfl) (val_move rfl) ?_
      refine vl_val rfl (.some rfl) (val_indexAddr Try.runUnderlying22 Try.sizeOf27 rfl rfl (rd_old hR rfl) (by omega) (by omega) (by rw [vflat_len]; omega)) ?_
      refine vl_val rfl (.some rfl) (val_loadAgg Try.isAgg27 Try.sizeOf27 rfl (rd_part (us := [.int .i64 p.k, .int .i64 p.n, .string p.s]) (rd_old hR rfl) hf) rfl) ?_
      refine vl_alloc rfl rfl (.some rfl) Try.zeroValue27 (fun r12 => ?_)
      refine vl_val rfl (.some rfl) (val_assign rfl) ?_
      first | refine vl_store rfl rfl .none rfl rfl Try.sizeOf27 rfl (by repeat (first | exact .head | apply In.tail | apply Take.tail | apply Upd.tail)) (by first | decide | exact Nat.le_refl _ | (simp; omega)) ?_ | refine vl_storeSl rfl rfl .none rfl rfl Try.sizeOf27 rfl (by simp [Value.cells]) (by repeat (first | exact .head | apply In.tail | apply Take.tail | apply Upd.tail)) (by first | decide | (simp [Value.cells]; omega)) ?_
      refine vl_nil ?_
      refine vc_seq ?_
      refine vc_seq ?_
      refine vc_region ?_
      refine vl_val rfl (.some rfl) (val_move rfl) ?_
      refine vl_val rfl (.some rfl) (val_move rfl) ?_
      refine vl_val rfl (.some rfl) (val_lenSl Try.runUnderlying22 rfl) ?_
      refine vl_val rfl (.some rfl) (val_quo rfl rfl (by omega) (by first | exact quo_nn (by omega) (w_i64 (by omega) (by omega)) | rfl)) ?_
      refine vl_val rfl (.some rfl) (val_eq rfl rfl) ?_
      refine vl_nil ?_
      refine vc_cond rfl (fun hc3 => ?_) (fun hc3 => ?_)
      · (try replace hc3 := of_decide_eq_true hc3)
        
        refine vc_region ?_
        refine vl_val rfl (.some rfl) (val_move rfl) ?_
        refine vl_call (C := [DC r m kd A1 vs.length c1, DS A1 c1 vs]) rfl rfl (.some rfl) Try.call20 rfl (by repeat (first | exact .nil | (apply Sub.cons; · repeat (first | exact .head | apply Take.tail)))) (fun w hw => dCopy r m kd A1 c1 vs hk hT hN hL w) (fun v H' h => ?_)
        obtain ⟨r2, m2, A3, c3, rfl, rfl⟩ := h
        show VL _ _ _ _ _ (_ :: _ :: _ :: _ :: _ :: _)
        refine vl_val rfl (.some rfl) (val_move rfl) ?_
        refine vl_call (C := [RC x kd B1 vs.length b1, DS B1 b1 vs]) rfl rfl (.some rfl) Try.call24 rfl (by repeat (first | exact .nil | (apply Sub.cons; · repeat (first | exact .head | apply Take.tail)))) (fun w hw => xCopy x kd B1 b1 vs hL w) (fun v H' h => ?_)
        obtain ⟨x2, B3, b3, rfl, rfl⟩ := h
        show VL _ _ _ _ _ (_ :: _ :: _ :: _ :: _)
        have hG2 : Kept kd (some ⟨r2, 0, none⟩) (some ⟨x2, 0, none⟩) [DC r2 m2 kd A3 vs.length c3, DS A3 c3 vs, RC x2 kd B3 vs.length b3, DS B3 b3 vs] := ⟨fun h => by simp at h, fun _ => ⟨r2, m2, A3, c3, vs, x2, B3, b3, hL, rfl, rfl, rfl⟩⟩
        refine vl_val rfl (.some rfl) (val_assign rfl) ?_
        refine vl_val rfl (.some rfl) (val_assign rfl) ?_
        refine vl_nil ?_
        refine vc_seq ?_
        refine vc_region ?_
        refine vl_val rfl (.some rfl) (val_move rfl) ?_
        refine vl_val rfl (.some rfl) (val_loadAgg Try.isAgg27 Try.sizeOf27 rfl (by first | exact cells_whole (by repeat (first | exact .head | apply In.tail | apply Take.tail | apply Upd.tail)) | exact cells_part (by repeat (first | exact .head | apply In.tail | apply Take.tail | apply Upd.tail)) rfl) rfl) ?_
        refine vl_callR [DC r m kd A1 vs.length c1, DM m vs] rfl rfl (.some rfl) Try.call18 rfl (by repeat (first | exact .nil | (apply Sub.cons; · repeat (first | exact .head | apply Take.tail)))) (fun w hw => dFind r m kd A1 c1 vs p w) ?_
        refine vl_val rfl (.some rfl) (val_move rfl) ?_
        refine vl_val rfl (.some rfl) (val_extract rfl rfl) ?_
        refine vl_val rfl (.some rfl) (val_extract rfl rfl) ?_
        refine vl_val rfl (.some rfl) (val_assign rfl) ?_
        refine vl_val rfl (.some rfl) (val_assign rfl) ?_
        refine vl_nil ?_
        refine vc_seq ?_
        refine vc_region ?_
        refine vl_val rfl (.some rfl) (val_move rfl) ?_
        refine vl_val rfl (.some rfl) (val_loadAgg Try.isAgg27 Try.sizeOf27 rfl (by first | exact cells_whole (by repeat (first | exact .head | apply In.tail | apply Take.tail | apply Upd.tail)) | exact cells_part (by repeat (first | exact .head | apply In.tail | apply Take.tail | apply Upd.tail)) rfl) rfl) ?_
        refine vl_callR [RC x kd B1 vs.length b1, DS B1 b1 vs] rfl rfl (.some rfl) Try.call25 rfl (by repeat (first | exact .nil | (apply Sub.cons; · repeat (first | exact .head | apply Take.tail)))) (fun w hw => xFind x kd B1 b1 vs hL p w) ?_
        refine vl_val rfl (.some rfl) (val_move rfl) ?_
        refine vl_val rfl (.some rfl) (val_extract rfl rfl) ?_
        refine vl_val rfl (.some rfl) (val_extract rfl rfl) ?_
        refine vl_val rfl (.some rfl) (val_assign rfl) ?_
        refine vl_val rfl (.some rfl) (val_assign rfl) ?_
        refine vl_nil ?_
        refine vc_seq ?_
        refine vc_region ?_
        refine vl_val rfl (.some rfl) (val_move rfl) ?_
        refine vl_val rfl (.some rfl) (val_loadAgg Try.isAgg27 Try.sizeOf27 rfl (by first | exact cells_whole (by repeat (first | exact .head | apply In.tail | apply Take.tail | apply Upd.tail)) | exact cells_part (by repeat (first | exact .head | apply In.tail | apply Take.tail | apply Upd.tail)) rfl) rfl) ?_
        refine vl_call (C := DH r m kd A1 c1 vs) rfl rfl (.some rfl) Try.call16 rfl (by repeat (first | exact .nil | (apply Sub.cons; · repeat (first | exact .head | apply Take.tail)))) (fun w hw => dAdd r m kd A1 c1 vs p w) (fun v H' h => ?_)
        obtain ⟨A2, c2, rfl, rfl⟩ := h
        show VL _ _ _ _ _ (_ :: _ :: _ :: _)
        refine vl_val rfl (.some rfl) (val_move rfl) ?_
        refine vl_val rfl (.some rfl) (val_extract rfl rfl) ?_
        refine vl_val rfl (.some rfl) (val_extract rfl rfl) ?_
        refine vl_val rfl (.some rfl) (val_assign rfl) ?_
        refine vl_val rfl (.some rfl) (val_assign rfl) ?_
        refine vl_nil ?_
        refine vc_seq ?_
        refine vc_region ?_
        refine vl_val rfl (.some rfl) (val_move rfl) ?_
        refine vl_val rfl (.some rfl) (val_loadAgg Try.isAgg27 Try.sizeOf27 rfl (by first | exact cells_whole (by repeat (first | exact .head | apply In.tail | apply Take.tail | apply Upd.tail)) | exact cells_part (by repeat (first | exact .head | apply In.tail | apply Take.tail | apply Upd.tail)) rfl) rfl) ?_
        refine vl_call (C := [RC x kd B1 vs.length b1, DS B1 b1 vs]) rfl rfl (.some rfl) Try.call26 rfl (by repeat (first | exact .nil | (apply Sub.cons; · repeat (first | exact .head | apply Take.tail)))) (fun w hw => xAdd x kd B1 b1 vs hL p hk.1 hk.2 hwp.1 hwp.2 w) (fun v H' h => ?_)
        obtain ⟨B2, b2, rfl, rfl⟩ := h
        have hs := dadd_spec (kd := kd) (p := p) hN hL
        have hT2 := dadd_takes (kd := kd) (p := p) hT
        generalize dadd kd vs p = q at hs hT2 ⊢
        obtain ⟨⟨id, er⟩, vs2⟩ := q
        dsimp only at hs hT2
        obtain ⟨hN2, hL2, _⟩ := hs
        show VL _ _ _ _ ((79, .tuple #[.int .i64 id, .int .i64 er]) :: _) (RC x kd B2 vs2.length b2 :: DS B2 b2 vs2 :: _)
        refine vl_val rfl (.some rfl) (val_move rfl) ?_
        refine vl_val rfl (.some rfl) (val_extract rfl rfl) ?_
        refine vl_val rfl (.some rfl) (val_extract rfl rfl) ?_
        refine vl_val rfl (.some rfl) (val_assign rfl) ?_
        refine vl_val rfl (.some rfl) (val_assign rfl) ?_
        refine vl_nil ?_
        refine vc_seq ?_
        refine vc_region ?_
        refine vl_val rfl (.some rfl) (val_move rfl) ?_
        refine vl_val rfl (.some rfl) (val_move rfl) ?_
        refine vl_val rfl (.some rfl) (val_net rfl rfl (rfl)) ?_
        refine vl_val rfl (.some rfl) (val_move rfl) ?_
        refine vl_on rfl rfl rfl rfl ?_
        refine vl_val rfl (.some rfl) (val_move rfl) ?_
        refine vl_on rfl rfl rfl rfl ?_
        refine vl_val rfl (.some rfl) (val_move rfl) ?_
        refine vl_on rfl rfl rfl rfl ?_
        refine vl_val rfl (.some rfl) (val_bnet Try.underlying4 rfl rfl (rfl)) ?_
        refine vl_val rfl (.some rfl) (val_pick rfl rfl) ?_
        refine vl_val rfl (.some rfl) (val_move rfl) ?_
        refine vl_on rfl rfl rfl rfl ?_
        refine vl_val rfl (.some rfl) (val_move rfl) ?_
        refine vl_on rfl rfl rfl rfl ?_
        refine vl_val rfl (.some rfl) (val_move rfl) ?_
        refine vl_on rfl rfl rfl rfl ?_
        refine vl_val rfl (.some rfl) (val_net rfl rfl (rfl)) ?_
        refine vl_val rfl (.some rfl) (val_pick rfl rfl) ?_
        refine vl_val rfl (.some rfl) (val_move rfl) ?_
        refine vl_on rfl rfl rfl rfl ?_
        refine vl_val rfl (.some rfl) (val_move rfl) ?_
        refine vl_on rfl rfl rfl rfl ?_
        refine vl_val rfl (.some rfl) (val_move rfl) ?_
        refine vl_on rfl rfl rfl rfl ?_
        refine vl_val rfl (.some rfl) (val_net rfl rfl (rfl)) ?_
        refine vl_val rfl (.some rfl) (val_pick rfl rfl) ?_
        refine vl_nil ?_
        refine vc_cond rfl (fun h => by cases h) (fun _ => ?_)
        refine vc_skip ?_
        refine vc_region ?_
        refine vl_val rfl (.some rfl) (val_add rfl rfl (by first | exact w_i64 (by omega) (by omega) | rfl)) ?_
        refine vl_val rfl (.some rfl) (val_move rfl) ?_
        refine vl_nil ?_
        exact ⟨l.length - (i + 1), _, _, _, by omega, (by repeat (first | exact trivial | refine ⟨rfl, ?_⟩ | refine ⟨le_item rfl (by first | rfl | (congr 1; omega) | (simp; done) | (simp; omega)), ?_⟩)), (by repeat (first | exact .nil | exact sub_self _ | exact sub_skip (sub_self _) | exact sub_skip (sub_skip (sub_self _)) | exact sub_skip (sub_skip (sub_skip (sub_self _))) | (apply Sub.cons; · repeat (first | exact .head | apply Take.tail)))), ⟨i + 1, A2, c2, vs2, B2, b2, _, _, _, by omega, rfl, hN2, hL2, hT2, hG2, rfl, rfl⟩⟩
      · (try replace hc3 := of_decide_eq_false hc3)
        have hG2 := hG
        refine vc_skip ?_
        refine vc_seq ?_
        refine vc_region ?_
        refine vl_val rfl (.some rfl) (val_move rfl) ?_
        refine vl_val rfl (.some rfl) (val_loadAgg Try.isAgg27 Try.sizeOf27 rfl (by first | exact cells_whole (by repeat (first | exact .head | apply In.tail | apply Take.tail | apply Upd.tail)) | exact cells_part (by repeat (first | exact .head | apply In.tail | apply Take.tail | apply Upd.tail)) rfl) rfl) ?_
        refine vl_callR [DC r m kd A1 vs.length c1, DM m vs] rfl rfl (.some rfl) Try.call18 rfl (by repeat (first | exact .nil | (apply Sub.cons; · repeat (first | exact .head | apply Take.tail)))) (fun w hw => dFind r m kd A1 c1 vs p w) ?_
        refine vl_val rfl (.some rfl) (val_move rfl) ?_
        refine vl_val rfl (.some rfl) (val_extract rfl rfl) ?_
        refine vl_val rfl (.some rfl) (val_extract rfl rfl) ?_
        refine vl_val rfl (.some rfl) (val_assign rfl) ?_
        refine vl_val rfl (.some rfl) (val_assign rfl) ?_
        refine vl_nil ?_
        refine vc_seq ?_
        refine vc_region ?_
        refine vl_val rfl (.some rfl) (val_move rfl) ?_
        refine vl_val rfl (.some rfl) (val_loadAgg Try.isAgg27 Try.sizeOf27 rfl (by first | exact cells_whole (by repeat (first | exact .head | apply In.tail | apply Take.tail | apply Upd.tail)) | exact cells_part (by repeat (first | exact .head | apply In.tail | apply Take.tail | apply Upd.tail)) rfl) rfl) ?_
        refine vl_callR [RC x kd B1 vs.length b1, DS B1 b1 vs] rfl rfl (.some rfl) Try.call25 rfl (by repeat (first | exact .nil | (apply Sub.cons; · repeat (first | exact .head | apply Take.tail)))) (fun w hw => xFind x kd B1 b1 vs hL p w) ?_
        refine vl_val rfl (.some rfl) (val_move rfl) ?_
        refine vl_val rfl (.some rfl) (val_extract rfl rfl) ?_
        refine vl_val rfl (.some rfl) (val_extract rfl rfl) ?_
        refine vl_val rfl (.some rfl) (val_assign rfl) ?_
        refine vl_val rfl (.some rfl) (val_assign rfl) ?_
        refine vl_nil ?_
        refine vc_seq ?_
        refine vc_region ?_
        refine vl_val rfl (.some rfl) (val_move rfl) ?_
        refine vl_val rfl (.some rfl) (val_loadAgg Try.isAgg27 Try.sizeOf27 rfl (by first | exact cells_whole (by repeat (first | exact .head | apply In.tail | apply Take.tail | apply Upd.tail)) | exact cells_part (by repeat (first | exact .head | apply In.tail | apply Take.tail | apply Upd.tail)) rfl) rfl) ?_
        refine vl_call (C := DH r m kd A1 c1 vs) rfl rfl (.some rfl) Try.call16 rfl (by repeat (first | exact .nil | (apply Sub.cons; · repeat (first | exact .head | apply Take.tail)))) (fun w hw => dAdd r m kd A1 c1 vs p w) (fun v H' h => ?_)
        obtain ⟨A2, c2, rfl, rfl⟩ := h
        show VL _ _ _ _ _ (_ :: _ :: _ :: _)
        refine vl_val rfl (.some rfl) (val_move rfl) ?_
        refine vl_val rfl (.some rfl) (val_extract rfl rfl) ?_
        refine vl_val rfl (.some rfl) (val_extract rfl rfl) ?_
        refine vl_val rfl (.some rfl) (val_assign rfl) ?_
        refine vl_val rfl (.some rfl) (val_assign rfl) ?_
        refine vl_nil ?_
        refine vc_seq ?_
        refine vc_region ?_
        refine vl_val rfl (.some rfl) (val_move rfl) ?_
        refine vl_val rfl (.some rfl) (val_loadAgg Try.isAgg27 Try.sizeOf27 rfl (by first | exact cells_whole (by repeat (first | exact .head | apply In.tail | apply Take.tail | apply Upd.tail)) | exact cells_part (by repeat (first | exact .head | apply In.tail | apply Take.tail | apply Upd.tail)) rfl) rfl) ?_
        refine vl_call (C := [RC x kd B1 vs.length b1, DS B1 b1 vs]) rfl rfl (.some rfl) Try.call26 rfl (by repeat (first | exact .nil | (apply Sub.cons; · repeat (first | exact .head | apply Take.tail)))) (fun w hw => xAdd x kd B1 b1 vs hL p hk.1 hk.2 hwp.1 hwp.2 w) (fun v H' h => ?_)
        obtain ⟨B2, b2, rfl, rfl⟩ := h
        have hs := dadd_spec (kd := kd) (p := p) hN hL
        have hT2 := dadd_takes (kd := kd) (p := p) hT
        generalize dadd kd vs p = q at hs hT2 ⊢
        obtain ⟨⟨id, er⟩, vs2⟩ := q
        dsimp only at hs hT2
        obtain ⟨hN2, hL2, _⟩ := hs
        show VL _ _ _ _ ((79, .tuple #[.int .i64 id, .int .i64 er]) :: _) (RC x kd B2 vs2.length b2 :: DS B2 b2 vs2 :: _)
        refine vl_val rfl (.some rfl) (val_move rfl) ?_
        refine vl_val rfl (.some rfl) (val_extract rfl rfl) ?_
        refine vl_val rfl (.some rfl) (val_extract rfl rfl) ?_
        refine vl_val rfl (.some rfl) (val_assign rfl) ?_
        refine vl_val rfl (.some rfl) (val_assign rfl) ?_
        refine vl_nil ?_
        refine vc_seq ?_
        refine vc_region ?_
        refine vl_val rfl (.some rfl) (val_move rfl) ?_
        refine vl_val rfl (.some rfl) (val_move rfl) ?_
        refine vl_val rfl (.some rfl) (val_net rfl rfl (rfl)) ?_
        refine vl_val rfl (.some rfl) (val_move rfl) ?_
        refine vl_on rfl rfl rfl rfl ?_
        refine vl_val rfl (.some rfl) (val_move rfl) ?_
        refine vl_on rfl rfl rfl rfl ?_
        refine vl_val rfl (.some rfl) (val_move rfl) ?_
        refine vl_on rfl rfl rfl rfl ?_
        refine vl_val rfl (.some rfl) (val_bnet Try.underlying4 rfl rfl (rfl)) ?_
        refine vl_val rfl (.some rfl) (val_pick rfl rfl) ?_
        refine vl_val rfl (.some rfl) (val_move rfl) ?_
        refine vl_on rfl rfl rfl rfl ?_
        refine vl_val rfl (.some rfl) (val_move rfl) ?_
        refine vl_on rfl rfl rfl rfl ?_
        refine vl_val rfl (.some rfl) (val_move rfl) ?_
        refine vl_on rfl rfl rfl rfl ?_
        refine vl_val rfl (.some rfl) (val_net rfl rfl (rfl)) ?_
        refine vl_val rfl (.some rfl) (val_pick rfl rfl) ?_
        refine vl_val rfl (.some rfl) (val_move rfl) ?_
        refine vl_on rfl rfl rfl rfl ?_
        refine vl_val rfl (.some rfl) (val_move rfl) ?_
        refine vl_on rfl rfl rfl rfl ?_
        refine vl_val rfl (.some rfl) (val_move rfl) ?_
        refine vl_on rfl rfl rfl rfl ?_
        refine vl_val rfl (.some rfl) (val_net rfl rfl (rfl)) ?_
        refine vl_val rfl (.some rfl) (val_pick rfl rfl) ?_
        refine vl_nil ?_
        refine vc_cond rfl (fun h => by cases h) (fun _ => ?_)
        refine vc_skip ?_
        refine vc_region ?_
        refine vl_val rfl (.some rfl) (val_add rfl rfl (by first | exact w_i64 (by omega) (by omega) | rfl)) ?_
        refine vl_val rfl (.some rfl) (val_move rfl) ?_
        refine vl_nil ?_
        exact ⟨l.length - (i + 1), _, _, _, by omega, (by repeat (first | exact trivial | refine ⟨rfl, ?_⟩ | refine ⟨le_item rfl (by first | rfl | (congr 1; omega) | (simp; done) | (simp; omega)), ?_⟩)), (by repeat (first | exact .nil | exact sub_self _ | exact sub_skip (sub_self _) | exact sub_skip (sub_skip (sub_self _)) | exact sub_skip (sub_skip (sub_skip (sub_self _))) | (apply Sub.cons; · repeat (first | exact .head | apply Take.tail)))), ⟨i + 1, A2, c2, vs2, B2, b2, _, _, _, by omega, rfl, hN2, hL2, hT2, hG2, rfl, rfl⟩⟩
    · (try replace hc2 := of_decide_eq_false hc2)
      
      refine vc_exit ?_
      refine vc_seq ?_
      refine vc_region ?_
      refine vl_val rfl (.some rfl) (val_move rfl) ?_
      refine vl_val rfl (.some rfl) (val_move rfl) ?_
      refine vl_callR [DC r m kd A1 vs.length c1, DS A1 c1 vs] rfl rfl (.some rfl) Try.call17 rfl (by repeat (first | exact .nil | (apply Sub.cons; · repeat (first | exact .head | apply Take.tail)))) (fun w hw => dValue r m kd A1 c1 vs j w) ?_
      refine vl_val rfl (.some rfl) (val_move rfl) ?_
      refine vl_val rfl (.some rfl) (val_extract rfl rfl) ?_
      refine vl_val rfl (.some rfl) (val_extract rfl rfl) ?_
      refine vl_alloc rfl rfl (.some rfl) Try.zeroValue27 (fun r21 => ?_)
      first | refine vl_store rfl rfl .none rfl rfl Try.sizeOf27 rfl (by repeat (first | exact .head | apply In.tail | apply Take.tail | apply Upd.tail)) (by first | decide | exact Nat.le_refl _ | (simp; omega)) ?_ | refine vl_storeSl rfl rfl .none rfl rfl Try.sizeOf27 rfl (by simp [Value.cells]) (by repeat (first | exact .head | apply In.tail | apply Take.tail | apply Upd.tail)) (by first | decide | (simp [Value.cells]; omega)) ?_
      refine vl_val rfl (.some rfl) (val_assign rfl) ?_
      refine vl_nil ?_
      refine vc_seq ?_
      refine vc_region ?_
      refine vl_val rfl (.some rfl) (val_move rfl) ?_
      refine vl_val rfl (.some rfl) (val_move rfl) ?_
      refine vl_callR [RC x kd B1 vs.length b1, DS B1 b1 vs] rfl rfl (.some rfl) Try.call27 rfl (by repeat (first | exact .nil | (apply Sub.cons; · repeat (first | exact .head | apply Take.tail)))) (fun w hw => xValue x kd B1 b1 vs j w) ?_
      generalize (if 0 ≤ j ∧ j < (vs.length : Int) then vs.getD j.toNat z3 else z3) = pv
      generalize decide (0 ≤ j ∧ j < (vs.length : Int)) = pb
      refine vl_val rfl (.some rfl) (val_move rfl) ?_
      refine vl_val rfl (.some rfl) (val_extract rfl rfl) ?_
      refine vl_val rfl (.some rfl) (val_extract rfl rfl) ?_
      refine vl_alloc rfl rfl (.some rfl) Try.zeroValue27 (fun r23 => ?_)
      first | refine vl_store rfl rfl .none rfl rfl Try.sizeOf27 rfl (by repeat (first | exact .head | apply In.tail | apply Take.tail | apply Upd.tail)) (by first | decide | exact Nat.le_refl _ | (simp; omega)) ?_ | refine vl_storeSl rfl rfl .none rfl rfl Try.sizeOf27 rfl (by simp [Value.cells]) (by repeat (first | exact .head | apply In.tail | apply Take.tail | apply Upd.tail)) (by first | decide | (simp [Value.cells]; omega)) ?_
      refine vl_val rfl (.some rfl) (val_assign rfl) ?_
      refine vl_nil ?_
      refine vc_seq ?_
      refine vc_seq ?_
      refine vc_region ?_
      refine vl_val rfl (.some rfl) (val_loadAgg Try.isAgg27 Try.sizeOf27 rfl (by first | exact cells_whole (by repeat (first | exact .head | apply In.tail | apply Take.tail | apply Upd.tail)) | exact cells_part (by repeat (first | exact .head | apply In.tail | apply Take.tail | apply Upd.tail)) rfl) rfl) ?_
      refine vl_val rfl (.some rfl) (val_loadAgg Try.isAgg27 Try.sizeOf27 rfl (by first | exact cells_whole (by repeat (first | exact .head | apply In.tail | apply Take.tail | apply Upd.tail)) | exact cells_part (by repeat (first | exact .head | apply In.tail | apply Take.tail | apply Upd.tail)) rfl) rfl) ?_
      refine vl_val rfl (.some rfl) (val_opO rfl rfl (fun w => run_eqGuard_agg w _ _ _ _ _ _ (by kernel_rfl)) (bin_agg_ne (b := true) (fun w => (vk_equal pv pv w).trans (by simp)))) ?_
      refine vl_val rfl (.some rfl) (val_move rfl) ?_
      refine vl_on rfl rfl rfl rfl ?_
      refine vl_val rfl (.some rfl) (val_move rfl) ?_
      refine vl_on rfl rfl rfl rfl ?_
      refine vl_val rfl (.some rfl) (val_move rfl) ?_
      refine vl_on rfl rfl rfl rfl ?_
      refine vl_val rfl (.some rfl) (val_bnet Try.underlying4 rfl rfl (rfl)) ?_
      refine vl_val rfl (.some rfl) (val_pick rfl rfl) ?_
      refine vl_val rfl (.some rfl) (val_move rfl) ?_
      refine vl_on rfl rfl rfl rfl ?_
      refine vl_val rfl (.some rfl) (val_move rfl) ?_
      refine vl_on rfl rfl rfl rfl ?_
      refine vl_val rfl (.some rfl) (val_move rfl) ?_
      refine vl_on rfl rfl rfl rfl ?_
      refine vl_callR (v := .bool true) [DC r m kd A1 vs.length c1, DS A1 c1 vs, RC x kd B1 vs.length b1, DS B1 b1 vs] rfl rfl (.some rfl) Try.call28 rfl (by repeat (first | exact .nil | (apply Sub.cons; · repeat (first | exact .head | apply Take.tail)))) (fun w hw => dAlike r m kd A1 c1 vs hL x B1 b1 w) ?_
      refine vl_on rfl rfl rfl rfl ?_
      refine vl_val rfl (.some rfl) (val_not rfl) ?_
      refine vl_val rfl (.some rfl) (val_pick rfl rfl) ?_
      refine vl_val rfl (.some rfl) (val_move rfl) ?_
      refine vl_on rfl rfl rfl rfl ?_
      refine vl_val rfl (.some rfl) (val_move rfl) ?_
      refine vl_on rfl rfl rfl rfl ?_
      refine vl_val rfl (.some rfl) (val_move rfl) ?_
      refine vl_on rfl rfl rfl rfl ?_
      refine vl_callR [DC r m kd A1 vs.length c1, DM m vs] rfl rfl (.some rfl) Try.call19 rfl (by repeat (first | exact .nil | (apply Sub.cons; · repeat (first | exact .head | apply Take.tail)))) (fun w' hw' => dRoomT r m kd A1 c1 vs hL A c l (by omega) w' (reads_callee hR rfl (by repeat (first | exact .nil | (apply Sub.cons; · repeat (first | exact .head | apply Take.tail)))) hw')) ?_
      refine vl_on rfl rfl rfl rfl ?_
      refine vl_val rfl (.some rfl) (val_move rfl) ?_
      refine vl_on rfl rfl rfl rfl ?_
      refine vl_val rfl (.some rfl) (val_move rfl) ?_
      refine vl_on rfl rfl rfl rfl ?_
      refine vl_callR [RC x kd B1 vs.length b1, DS B1 b1 vs] rfl rfl (.some rfl) Try.call29 rfl (by repeat (first | exact .nil | (apply Sub.cons; · repeat (first | exact .head | apply Take.tail)))) (fun w' hw' => xRoom x kd B1 b1 vs hL A c l hk.1 hk.2 (by omega) hW w' (reads_callee hR rfl (by repeat (first | exact .nil | (apply Sub.cons; · repeat (first | exact .head | apply Take.tail)))) hw')) ?_
      refine vl_on rfl rfl rfl rfl ?_
      refine vl_val rfl (.some rfl) (val_bnet Try.underlying4 rfl rfl (rfl)) ?_
      refine vl_val rfl (.some rfl) (val_pick rfl rfl) ?_
      refine vl_nil ?_
      refine vc_cond rfl (fun h => by cases h) (fun _ => ?_)
      refine vc_skip ?_
      refine vc_seq ?_
      refine vc_region ?_
      refine vl_val rfl (.some rfl) (val_move rfl) ?_
      refine vl_val rfl (.some rfl) (val_opO rfl rfl guard_ptr (bin_ptr_any Try.runUnderlying23)) ?_
      refine vl_val rfl (.some rfl) (val_move rfl) ?_
      refine vl_split (t := 138) rfl (fun hg138 => ?_) (fun hg138 => ?_)
      · (try replace hg138 := of_decide_eq_true hg138)
        obtain rfl : o2 = none := hG.1 (by simpa using hg138)
        refine vl_on rfl rfl rfl rfl ?_
        refine vl_val rfl (.some rfl) (val_move rfl) ?_
        refine vl_on rfl rfl rfl rfl ?_
        refine vl_val rfl (.some rfl) (val_opO rfl rfl guard_ptr (bin_nil_eq Try.runUnderlying43)) ?_
        refine vl_val rfl (.some rfl) (val_pick rfl rfl) ?_
        refine vl_val rfl (.some rfl) (val_move rfl) ?_
        refine vl_off rfl rfl rfl rfl (.some rfl) ?_
        refine vl_off rfl rfl rfl rfl (.some rfl) ?_
        refine vl_off rfl rfl rfl rfl (.some rfl) ?_
        refine vl_val rfl (.some rfl) (val_pick rfl rfl) ?_
        refine vl_val rfl (.some rfl) (val_move rfl) ?_
        refine vl_on rfl rfl rfl rfl ?_
        refine vl_callV rfl rfl (.some rfl) Try.call14 rfl (fun w hw => dLives w) ?_
        refine vl_val rfl (.some rfl) (val_pick rfl rfl) ?_
        refine vl_val rfl (.some rfl) (val_assign rfl) ?_
        refine vl_nil ?_
        refine vc_ret ?_
        refine ⟨_, [], _, res1 Try.results6 rfl, .nil, ?_⟩
        rfl
      · (try replace hg138 := of_decide_eq_false hg138)
        obtain ⟨r3, m3, A5, c5, ws, x3, B5, b5, hws, rfl, rfl, rfl⟩ := hG.2 (fun e => by rw [e] at hg138; simp at hg138)
        refine vl_off rfl rfl rfl rfl (.some rfl) ?_
        refine vl_off rfl rfl rfl rfl (.some rfl) ?_
        refine vl_val rfl (.some rfl) (val_pick rfl rfl) ?_
        refine vl_val rfl (.some rfl) (val_move rfl) ?_
        refine vl_on rfl rfl rfl rfl ?_
        refine vl_val rfl (.some rfl) (val_move rfl) ?_
        refine vl_on rfl rfl rfl rfl ?_
        refine vl_val rfl (.some rfl) (val_move rfl) ?_
        refine vl_on rfl rfl rfl rfl ?_
        refine vl_callR (v := .bool true) [DC r3 m3 kd A5 ws.length c5, DS A5 c5 ws, RC x3 kd B5 ws.length b5, DS B5 b5 ws] rfl rfl (.some rfl) Try.call28 rfl (by repeat (first | exact .nil | (apply Sub.cons; · repeat (first | exact .head | apply Take.tail)))) (fun w hw => dAlike r3 m3 kd A5 c5 ws hws x3 B5 b5 w) ?_
        refine vl_val rfl (.some rfl) (val_pick rfl rfl) ?_
        refine vl_val rfl (.some rfl) (val_move rfl) ?_
        refine vl_on rfl rfl rfl rfl ?_
        refine vl_callV rfl rfl (.some rfl) Try.call14 rfl (fun w hw => dLives w) ?_
        refine vl_val rfl (.some rfl) (val_pick rfl rfl) ?_
        refine vl_val rfl (.some rfl) (val_assign rfl) ?_
        refine vl_nil ?_
        refine vc_ret ?_
        refine ⟨_, [], _, res1 Try.results6 rfl, .nil, ?_⟩
        rfl
theorem law_DictActs (kd : Int) (A : Option Addr) (c : Nat) (l : List Vk) (j : Int) (w : World) (hR : Reads w A (flat l)) (hW : ∀ p ∈ l, WV p) : FnV Try.prog 6 [.int .i64 kd, .slice A l.length c, .int .i64 j] (.bool true) w := by
  by_cases hk : 1 ≤ kd ∧ kd ≤ 4
  · exact law_DictActsGood kd A c l j hk w hR hW
  · exact law_DictActsBad kd A c l j hk w

end Go.Proofs.Ytibfngjfjddaiaa.K
