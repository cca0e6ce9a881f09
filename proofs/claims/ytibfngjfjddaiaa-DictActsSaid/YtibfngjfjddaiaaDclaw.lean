/- Walks of the program's functions, printed by a program of this session; Lean checks them. -/
import Derived.Test.YtibfngjfjddaiaaDcopy
namespace Go.Proofs.Ytibfngjfjddaiaa.K
open Go Go.RowKit Go.Proofs
set_option linter.unusedVariables false
set_option linter.unusedSimpArgs false


set_option maxRecDepth 20000 in
theorem law_DictCopiesBad (kd : Int) (A : Option Addr) (c : Nat) (l : List Vk) (B : Option Addr) (cb : Nat) (l2 : List Vk) (hk : ¬ (1 ≤ kd ∧ kd ≤ 4)) (w : World) : FnV Try.prog 5 [.int .i64 kd, .slice A l.length c, .slice B l2.length cb] (.bool true) w := by
  refine fn_enter Try.func5 rfl Try.ntmps5 rfl ?_
  refine vc_seq ?_
  refine vc_region ?_
  refine vl_val rfl (.some rfl) (val_assign rfl) ?_
  refine vl_nil ?_
  refine vc_seq ?_
  refine vc_region ?_
  refine vl_val rfl (.some rfl) (val_move rfl) ?_
  refine vl_callV rfl rfl (.some rfl) Try.call13 rfl (fun w hw => dNewBad _ hk w) ?_
  refine vl_val rfl (.some rfl) (val_assign rfl) ?_
  refine vl_nil ?_
  refine vc_seq ?_
  refine vc_seq ?_
  refine vc_region ?_
  refine vl_val rfl (.some rfl) (val_move rfl) ?_
  refine vl_val rfl (.some rfl) (val_opO rfl rfl guard_ptr (bin_nil_eq Try.runUnderlying23)) ?_
  refine vl_val rfl (.some rfl) (val_move rfl) ?_
  refine vl_off rfl rfl rfl rfl (.some rfl) ?_
  refine vl_off rfl rfl rfl rfl (.some rfl) ?_
  refine vl_off rfl rfl rfl rfl (.some rfl) ?_
  refine vl_off rfl rfl rfl rfl (.some rfl) ?_
  refine vl_off rfl rfl rfl rfl (.some rfl) ?_
  refine vl_off rfl rfl rfl rfl (.some rfl) ?_
  refine vl_val rfl (.some rfl) (val_pick rfl rfl) ?_
  refine vl_nil ?_
  refine vc_cond rfl (fun _ => ?_) (fun h => by cases h)
  refine vc_seq ?_
  refine vc_region ?_
  refine vl_callV rfl rfl (.some rfl) Try.call14 rfl (fun w hw => dLives w) ?_
  refine vl_val rfl (.some rfl) (val_assign rfl) ?_
  refine vl_nil ?_
  refine vc_ret ?_
  refine ⟨_, [], _, res1 Try.results5 rfl, .nil, ?_⟩
  rfl
set_option maxRecDepth 20000 in
set_option maxHeartbeats 1000000 in
theorem law_DictCopiesGood (kd : Int) (A : Option Addr) (c : Nat) (l : List Vk) (B : Option Addr) (cb : Nat) (l2 : List Vk) (hk : 1 ≤ kd ∧ kd ≤ 4) (w : World) (hR : Reads w A (flat l)) (hb1 : l.length ≤ 4611686018427387) (hR2 : Reads w B (flat l2)) (hb2 : l2.length ≤ 4611686018427387) : FnV Try.prog 5 [.int .i64 kd, .slice A l.length c, .slice B l2.length cb] (.bool true) w := by
  refine fn_enter Try.func5 rfl Try.ntmps5 rfl ?_
  refine vc_seq ?_
  refine vc_region ?_
  refine vl_val rfl (.some rfl) (val_assign rfl) ?_
  refine vl_nil ?_
  refine vc_seq ?_
  refine vc_region ?_
  refine vl_val rfl (.some rfl) (val_move rfl) ?_
  refine vl_call rfl rfl (.some rfl) Try.call13 rfl .nil (fun w hw => dNew kd hk.1 hk.2 w) (fun v H' h => ?_)
  obtain ⟨r, m, rfl, rfl⟩ := h
  show VL _ _ _ _ _ (_ :: _ :: _ :: _)
  refine vl_val rfl (.some rfl) (val_assign rfl) ?_
  refine vl_nil ?_
  refine vc_seq ?_
  refine vc_seq ?_
  refine vc_region ?_
  refine vl_val rfl (.some rfl) (val_move rfl) ?_
  refine vl_val rfl (.some rfl) (val_opO rfl rfl guard_ptr (bin_ptr_eq Try.runUnderlying23)) ?_
  refine vl_val rfl (.some rfl) (val_move rfl) ?_
  refine vl_on rfl rfl rfl rfl ?_
  refine vl_val rfl (.some rfl) (val_move rfl) ?_
  refine vl_on rfl rfl rfl rfl ?_
  refine vl_val rfl (.some rfl) (val_lenSl Try.runUnderlying22 rfl) ?_
  refine vl_on rfl rfl rfl rfl ?_
  refine vl_val rfl (.some rfl) (val_move rfl) ?_
  refine vl_on rfl rfl rfl rfl ?_
  refine vl_val rfl (.some rfl) (val_lenSl Try.runUnderlying22 rfl) ?_
  refine vl_on rfl rfl rfl rfl ?_
  refine vl_val rfl (.some rfl) (val_add rfl rfl (by first | exact w_i64 (by omega) (by omega) | rfl)) ?_
  refine vl_on rfl rfl rfl rfl ?_
  refine vl_val rfl (.some rfl) (val_gt rfl rfl) ?_
  refine vl_val rfl (.some rfl) (val_pick rfl rfl) ?_
  refine vl_nil ?_
  refine vc_cond rfl (fun hc0 => ?_) (fun hc0 => ?_)
  · (try replace hc0 := of_decide_eq_true hc0)
    refine vc_seq ?_
    refine vc_region ?_
    refine vl_callV rfl rfl (.some rfl) Try.call14 rfl (fun w hw => dLives w) ?_
    refine vl_val rfl (.some rfl) (val_assign rfl) ?_
    refine vl_nil ?_
    refine vc_ret ?_
    refine ⟨_, [], _, res1 Try.results5 rfl, .nil, ?_⟩
    rfl
  · (try replace hc0 := of_decide_eq_false hc0)
    refine vc_skip ?_
    refine vc_seq ?_
    refine vc_seq ?_
    refine vc_region ?_
    refine vl_val rfl (.some rfl) (val_move rfl) ?_
    refine vl_val rfl (.some rfl) (val_lenSl Try.runUnderlying22 rfl) ?_
    refine vl_val rfl (.some rfl) (val_move rfl) ?_
    refine vl_nil ?_
    refine vc_block ?_
    refine vc_loopw (fun k E H => ∃ (i : Nat) (A1 : Option Addr) (c1 : Nat) (vs : List Vk), i ≤ l.length ∧ k = l.length - i ∧ vs.Nodup ∧ vs.length ≤ 512 ∧ (∀ q ∈ vs, takesB kd q = true) ∧ E = [(2, .slice B l2.length cb), (7, .pointer (some ⟨r, 0, none⟩)), (35, .slice A l.length c), (36, .int .i64 l.length), (37, .int .i64 i)] ∧ H = DH r m kd A1 c1 vs) (l.length) ⟨_, _, _, ⟨0, none, 0, [], by omega, rfl, List.nodup_nil, by simp, by simp, rfl, rfl⟩, (by repeat (first | exact trivial | refine ⟨rfl, ?_⟩ | refine ⟨le_item rfl (by first | rfl | (congr 1; omega) | (simp; done) | (simp; omega)), ?_⟩)), (by repeat (first | exact .nil | (apply Sub.cons; · repeat (first | exact .head | apply Take.tail))))⟩ ?_
    intro k E H hI
    obtain ⟨i, A1, c1, vs, hi, rfl, hN, hL, hT, rfl, rfl⟩ := hI
    refine vc_seq ?_
    refine vc_region ?_
    refine vl_val rfl (.some rfl) (val_lt rfl rfl) ?_
    refine vl_nil ?_
    refine vc_seq ?_
    refine vc_cond rfl (fun hc1 => ?_) (fun hc1 => ?_)
    · (try replace hc1 := of_decide_eq_true hc1)
      have hf := flat_at l i (by omega)
      generalize l.getD i z3 = p at hf
      refine vc_skip ?_
      refine vc_seq ?_
      refine vc_block ?_
      refine vc_seq ?_
      refine vc_region ?_
      refine vl_val rfl (.some rfl) (val_indexAddr Try.runUnderlying22 Try.sizeOf27 rfl rfl (rd_old hR rfl) (by omega) (by omega) (by rw [vflat_len]; omega)) ?_
      refine vl_val rfl (.some rfl) (val_loadAgg Try.isAgg27 Try.sizeOf27 rfl (rd_part (us := [.int .i64 p.k, .int .i64 p.n, .string p.s]) (rd_old hR rfl) hf) rfl) ?_
      refine vl_alloc rfl rfl (.some rfl) Try.zeroValue27 (fun r9 => ?_)
      first | refine vl_store rfl rfl .none rfl rfl Try.sizeOf27 rfl (by repeat (first | exact .head | apply In.tail | apply Take.tail | apply Upd.tail)) (by first | decide | exact Nat.le_refl _ | (simp; omega)) ?_ | refine vl_storeSl rfl rfl .none rfl rfl Try.sizeOf27 rfl (by simp [Value.cells]) (by repeat (first | exact .head | apply In.tail | apply Take.tail | apply Upd.tail)) (by first | decide | (simp [Value.cells]; omega)) ?_
      refine vl_nil ?_
      refine vc_region ?_
      refine vl_val rfl (.some rfl) (val_move rfl) ?_
      refine vl_val rfl (.some rfl) (val_loadAgg Try.isAgg27 Try.sizeOf27 rfl (by first | exact cells_whole (by repeat (first | exact .head | apply In.tail | apply Take.tail | apply Upd.tail)) | exact cells_part (by repeat (first | exact .head | apply In.tail | apply Take.tail | apply Upd.tail)) rfl) rfl) ?_
      refine vl_call (C := DH r m kd A1 c1 vs) rfl rfl (.some rfl) Try.call16 rfl (by repeat (first | exact .nil | (apply Sub.cons; · repeat (first | exact .head | apply Take.tail)))) (fun w hw => dAdd r m kd A1 c1 vs p w) (fun v H' h => ?_)
      obtain ⟨A2, cA2, rfl, rfl⟩ := h
      have hs := dadd_spec (kd := kd) (p := p) hN hL
      have hT2 := dadd_takes (kd := kd) (p := p) hT
      have hF2 := dadd_front (kd := kd) (vs := vs) (p := p)
      generalize dadd kd vs p = q at hs hT2 hF2 ⊢
      obtain ⟨⟨id, er⟩, vs2⟩ := q
      dsimp only at hs hT2 hF2
      show VL _ _ _ _ ((43, .tuple #[.int .i64 id, .int .i64 er]) :: _) (DC r m kd A2 vs2.length cA2 :: DM m vs2 :: DS A2 cA2 vs2 :: _)
      obtain ⟨hN2, hL2, _⟩ := hs
      refine vl_nil ?_
      refine vc_region ?_
      refine vl_val rfl (.some rfl) (val_add rfl rfl (by first | exact w_i64 (by omega) (by omega) | rfl)) ?_
      refine vl_val rfl (.some rfl) (val_move rfl) ?_
      refine vl_nil ?_
      exact ⟨l.length - (i + 1), _, _, _, by omega, (by repeat (first | exact trivial | refine ⟨rfl, ?_⟩ | refine ⟨le_item rfl (by first | rfl | (congr 1; omega) | (simp; done) | (simp; omega)), ?_⟩)), (by repeat (first | exact .nil | (apply Sub.cons; · repeat (first | exact .head | apply Take.tail)))), ⟨i + 1, A2, cA2, vs2, by omega, rfl, hN2, hL2, hT2, rfl, rfl⟩⟩
    · (try replace hc1 := of_decide_eq_false hc1)
      refine vc_exit ?_
      refine vc_seq ?_
      refine vc_region ?_
      refine vl_val rfl (.some rfl) (val_move rfl) ?_
      refine vl_callR [DC r m kd A1 vs.length c1] rfl rfl (.some rfl) Try.call15 rfl (by repeat (first | exact .nil | (apply Sub.cons; · repeat (first | exact .head | apply Take.tail)))) (fun w hw => dLen r m kd A1 c1 vs w) ?_
      refine vl_val rfl (.some rfl) (val_assign rfl) ?_
      refine vl_nil ?_
      refine vc_seq ?_
      refine vc_region ?_
      refine vl_val rfl (.some rfl) (val_move rfl) ?_
      refine vl_call (C := [DC r m kd A1 vs.length c1, DS A1 c1 vs]) rfl rfl (.some rfl) Try.call20 rfl (by repeat (first | exact .nil | (apply Sub.cons; · repeat (first | exact .head | apply Take.tail)))) (fun w hw => dCopy r m kd A1 c1 vs hk hT hN hL w) (fun v H' h => ?_)
      obtain ⟨r2, m2, A3, c3, rfl, rfl⟩ := h
      show VL _ _ _ _ _ (_ :: _ :: _ :: _ :: _ :: _)
      refine vl_val rfl (.some rfl) (val_assign rfl) ?_
      refine vl_nil ?_
      refine vc_seq ?_
      refine vc_seq ?_
      refine vc_region ?_
      refine vl_val rfl (.some rfl) (val_move rfl) ?_
      refine vl_val rfl (.some rfl) (val_lenSl Try.runUnderlying22 rfl) ?_
      refine vl_val rfl (.some rfl) (val_move rfl) ?_
      refine vl_nil ?_
      refine vc_block ?_
      have hLv := hL
      refine vc_loopw (fun k E H => ∃ (i : Nat) (A4 : Option Addr) (c4 : Nat) (us : List Vk), i ≤ l2.length ∧ k = l2.length - i ∧ us.Nodup ∧ us.length ≤ 512 ∧ (∀ q ∈ us, takesB kd q = true) ∧ (∃ t, us = vs ++ t) ∧ E = [(2, .slice B l2.length cb), (7, .pointer (some ⟨r, 0, none⟩)), (10, .int .i64 vs.length), (11, .pointer (some ⟨r2, 0, none⟩)), (49, .slice B l2.length cb), (50, .int .i64 l2.length), (51, .int .i64 i)] ∧ H = [DC r m kd A4 us.length c4, DM m us, DS A4 c4 us, DC r2 m2 kd A3 vs.length c3, DM m2 vs, DS A3 c3 vs]) (l2.length) ⟨_, _, _, ⟨0, A1, c1, vs, by omega, rfl, hN, hL, hT, ⟨[], by simp⟩, rfl, rfl⟩, (by repeat (first | exact trivial | refine ⟨rfl, ?_⟩ | refine ⟨le_item rfl (by first | rfl | (congr 1; omega) | (simp; done) | (simp; omega)), ?_⟩)), (by repeat (first | exact .nil | (apply Sub.cons; · repeat (first | exact .head | apply Take.tail))))⟩ ?_
      intro k E H hI
      obtain ⟨i, A4, c4, us, hi, rfl, hN, hL, hT, hfr, rfl, rfl⟩ := hI
      refine vc_seq ?_
      refine vc_region ?_
      refine vl_val rfl (.some rfl) (val_lt rfl rfl) ?_
      refine vl_nil ?_
      refine vc_seq ?_
      refine vc_cond rfl (fun hc2 => ?_) (fun hc2 => ?_)
      · (try replace hc2 := of_decide_eq_true hc2)
        have hf := flat_at l2 i (by omega)
        generalize l2.getD i z3 = p at hf
        refine vc_skip ?_
        refine vc_seq ?_
        refine vc_block ?_
        refine vc_seq ?_
        refine vc_region ?_
        refine vl_val rfl (.some rfl) (val_indexAddr Try.runUnderlying22 Try.sizeOf27 rfl rfl (rd_old hR2 rfl) (by omega) (by omega) (by rw [vflat_len]; omega)) ?_
        refine vl_val rfl (.some rfl) (val_loadAgg Try.isAgg27 Try.sizeOf27 rfl (rd_part (us := [.int .i64 p.k, .int .i64 p.n, .string p.s]) (rd_old hR2 rfl) hf) rfl) ?_
        refine vl_alloc rfl rfl (.some rfl) Try.zeroValue27 (fun r13 => ?_)
        first | refine vl_store rfl rfl .none rfl rfl Try.sizeOf27 rfl (by repeat (first | exact .head | apply In.tail | apply Take.tail | apply Upd.tail)) (by first | decide | exact Nat.le_refl _ | (simp; omega)) ?_ | refine vl_storeSl rfl rfl .none rfl rfl Try.sizeOf27 rfl (by simp [Value.cells]) (by repeat (first | exact .head | apply In.tail | apply Take.tail | apply Upd.tail)) (by first | decide | (simp [Value.cells]; omega)) ?_
        refine vl_nil ?_
        refine vc_region ?_
        refine vl_val rfl (.some rfl) (val_move rfl) ?_
        refine vl_val rfl (.some rfl) (val_loadAgg Try.isAgg27 Try.sizeOf27 rfl (by first | exact cells_whole (by repeat (first | exact .head | apply In.tail | apply Take.tail | apply Upd.tail)) | exact cells_part (by repeat (first | exact .head | apply In.tail | apply Take.tail | apply Upd.tail)) rfl) rfl) ?_
        refine vl_call (C := DH r m kd A4 c4 us) rfl rfl (.some rfl) Try.call16 rfl (by repeat (first | exact .nil | (apply Sub.cons; · repeat (first | exact .head | apply Take.tail)))) (fun w hw => dAdd r m kd A4 c4 us p w) (fun v H' h => ?_)
        obtain ⟨A5, cA5, rfl, rfl⟩ := h
        have hs := dadd_spec (kd := kd) (p := p) hN hL
        have hT2 := dadd_takes (kd := kd) (p := p) hT
        have hF2 := dadd_front (kd := kd) (vs := us) (p := p)
        generalize dadd kd us p = q at hs hT2 hF2 ⊢
        obtain ⟨⟨id, er⟩, us2⟩ := q
        dsimp only at hs hT2 hF2
        show VL _ _ _ _ ((57, .tuple #[.int .i64 id, .int .i64 er]) :: _) (DC r m kd A5 us2.length cA5 :: DM m us2 :: DS A5 cA5 us2 :: _)
        obtain ⟨hN2, hL2, _⟩ := hs
        refine vl_nil ?_
        refine vc_region ?_
        refine vl_val rfl (.some rfl) (val_add rfl rfl (by first | exact w_i64 (by omega) (by omega) | rfl)) ?_
        refine vl_val rfl (.some rfl) (val_move rfl) ?_
        refine vl_nil ?_
        have hfr2 : ∃ t, us2 = vs ++ t := by
          obtain ⟨t1, e1⟩ := hfr
          obtain ⟨t2, e2⟩ := hF2
          exact ⟨t1 ++ t2, by rw [e2, e1, List.append_assoc]⟩
        exact ⟨l2.length - (i + 1), _, _, _, by omega, (by repeat (first | exact trivial | refine ⟨rfl, ?_⟩ | refine ⟨le_item rfl (by first | rfl | (congr 1; omega) | (simp; done) | (simp; omega)), ?_⟩)), (by repeat (first | exact .nil | (apply Sub.cons; · repeat (first | exact .head | apply Take.tail)))), ⟨i + 1, A5, cA5, us2, by omega, rfl, hN2, hL2, hT2, hfr2, rfl, rfl⟩⟩
      · (try replace hc2 := of_decide_eq_false hc2)
        refine vc_exit ?_
        refine vc_seq ?_
        refine vc_seq ?_
        refine vc_region ?_
        refine vl_val rfl (.some rfl) (val_move rfl) ?_
        refine vl_val rfl (.some rfl) (val_opO rfl rfl guard_ptr (bin_ptr_eq Try.runUnderlying23)) ?_
        refine vl_val rfl (.some rfl) (val_move rfl) ?_
        refine vl_on rfl rfl rfl rfl ?_
        refine vl_val rfl (.some rfl) (val_move rfl) ?_
        refine vl_on rfl rfl rfl rfl ?_
        refine vl_callR [DC r2 m2 kd A3 vs.length c3] rfl rfl (.some rfl) Try.call15 rfl (by repeat (first | exact .nil | (apply Sub.cons; · repeat (first | exact .head | apply Take.tail)))) (fun w hw => dLen r2 m2 kd A3 c3 vs w) ?_
        refine vl_on rfl rfl rfl rfl ?_
        refine vl_val rfl (.some rfl) (val_move rfl) ?_
        refine vl_on rfl rfl rfl rfl ?_
        refine vl_val rfl (.some rfl) (val_net rfl rfl (rfl)) ?_
        refine vl_val rfl (.some rfl) (val_pick rfl rfl) ?_
        refine vl_val rfl (.some rfl) (val_move rfl) ?_
        refine vl_on rfl rfl rfl rfl ?_
        refine vl_val rfl (.some rfl) (val_move rfl) ?_
        refine vl_on rfl rfl rfl rfl ?_
        refine vl_callR [DC r2 m2 kd A3 vs.length c3] rfl rfl (.some rfl) Try.call21 rfl (by repeat (first | exact .nil | (apply Sub.cons; · repeat (first | exact .head | apply Take.tail)))) (fun w hw => dKind r2 m2 kd A3 c3 vs w) ?_
        refine vl_on rfl rfl rfl rfl ?_
        refine vl_val rfl (.some rfl) (val_move rfl) ?_
        refine vl_on rfl rfl rfl rfl ?_
        refine vl_callR [DC r m kd A4 us.length c4] rfl rfl (.some rfl) Try.call21 rfl (by repeat (first | exact .nil | (apply Sub.cons; · repeat (first | exact .head | apply Take.tail)))) (fun w hw => dKind r m kd A4 c4 us w) ?_
        refine vl_on rfl rfl rfl rfl ?_
        refine vl_val rfl (.some rfl) (val_net rfl rfl (rfl)) ?_
        refine vl_val rfl (.some rfl) (val_pick rfl rfl) ?_
        refine vl_nil ?_
        refine vc_cond rfl (fun h => by cases h) (fun _ => ?_)
        refine vc_skip ?_
        refine vc_seq ?_
        refine vc_seq ?_
        refine vc_region ?_
        refine vl_val rfl (.some rfl) (val_move rfl) ?_
        refine vl_call (C := [DC r2 m2 kd A3 vs.length c3, DS A3 c3 vs]) rfl rfl (.some rfl) Try.call22 rfl (by repeat (first | exact .nil | (apply Sub.cons; · repeat (first | exact .head | apply Take.tail)))) (fun w hw => dValues r2 m2 kd A3 c3 vs hLv w) (fun v H' h => ?_)
        obtain ⟨A6, c6, rfl, rfl⟩ := h
        show VL _ _ _ _ _ (_ :: _ :: _ :: _)
        refine vl_val rfl (.some rfl) (val_lenSl Try.runUnderlying22 rfl) ?_
        refine vl_val rfl (.some rfl) (val_move rfl) ?_
        refine vl_nil ?_
        refine vc_block ?_
        obtain ⟨tt, hfr⟩ := hfr
        refine vc_loopw (fun k E H => ∃ i : Nat, i ≤ vs.length ∧ k = vs.length - i ∧ E = [(2, .slice B l2.length cb), (7, .pointer (some ⟨r, 0, none⟩)), (10, .int .i64 vs.length), (11, .pointer (some ⟨r2, 0, none⟩)), (75, .slice A6 vs.length c6), (76, .int .i64 vs.length), (77, .int .i64 i)] ∧ H = [DC r m kd A4 us.length c4, DM m us, DS A4 c4 us, DC r2 m2 kd A3 vs.length c3, DM m2 vs, DS A3 c3 vs, DS A6 c6 vs]) (vs.length) ⟨_, _, _, ⟨0, by omega, rfl, rfl, rfl⟩, (by repeat (first | exact trivial | refine ⟨rfl, ?_⟩ | refine ⟨le_item rfl (by first | rfl | (congr 1; omega) | (simp; done) | (simp; omega)), ?_⟩)), (by repeat (first | exact .nil | (apply Sub.cons; · repeat (first | exact .head | apply Take.tail))))⟩ ?_
        intro k E H hI
        obtain ⟨i, hi, rfl, rfl, rfl⟩ := hI
        refine vc_seq ?_
        refine vc_region ?_
        refine vl_val rfl (.some rfl) (val_lt rfl rfl) ?_
        refine vl_nil ?_
        refine vc_seq ?_
        refine vc_cond rfl (fun hc4 => ?_) (fun hc4 => ?_)
        · (try replace hc4 := of_decide_eq_true hc4)
          have hf := flat_at vs i (by omega)
          obtain ⟨p, hp⟩ : ∃ p, vs.getD i z3 = p := ⟨_, rfl⟩
          rw [hp] at hf
          refine vc_skip ?_
          refine vc_seq ?_
          refine vc_block ?_
          refine vc_seq ?_
          refine vc_region ?_
          refine vl_val rfl (.some rfl) (val_move rfl) ?_
          refine vl_val rfl (.some rfl) (val_indexAddr Try.runUnderlying22 Try.sizeOf27 rfl rfl (rd_sl (A := A6) (n := vs.length) (c := c6) (e := 27) (sz := 3) (vs := flat vs) (by repeat (first | exact .head | apply In.tail | apply Take.tail | apply Upd.tail))) (by omega) (by omega) (by rw [vflat_len]; omega)) ?_
          refine vl_val rfl (.some rfl) (val_loadAgg Try.isAgg27 Try.sizeOf27 rfl (rd_part (us := [.int .i64 p.k, .int .i64 p.n, .string p.s]) (rd_sl (A := A6) (n := vs.length) (c := c6) (e := 27) (sz := 3) (vs := flat vs) (by repeat (first | exact .head | apply In.tail | apply Take.tail | apply Upd.tail))) hf) rfl) ?_
          refine vl_alloc rfl rfl (.some rfl) Try.zeroValue27 (fun r15 => ?_)
          refine vl_val rfl (.some rfl) (val_assign rfl) ?_
          first | refine vl_store rfl rfl .none rfl rfl Try.sizeOf27 rfl (by repeat (first | exact .head | apply In.tail | apply Take.tail | apply Upd.tail)) (by first | decide | exact Nat.le_refl _ | (simp; omega)) ?_ | refine vl_storeSl rfl rfl .none rfl rfl Try.sizeOf27 rfl (by simp [Value.cells]) (by repeat (first | exact .head | apply In.tail | apply Take.tail | apply Upd.tail)) (by first | decide | (simp [Value.cells]; omega)) ?_
          refine vl_nil ?_
          refine vc_seq ?_
          refine vc_region ?_
          refine vl_val rfl (.some rfl) (val_move rfl) ?_
          refine vl_val rfl (.some rfl) (val_move rfl) ?_
          refine vl_callR [DC r m kd A4 us.length c4, DS A4 c4 us] rfl rfl (.some rfl) Try.call17 rfl (by repeat (first | exact .nil | (apply Sub.cons; · repeat (first | exact .head | apply Take.tail)))) (fun w hw => dValueAt r m kd A4 c4 us i p (by rw [hfr, List.length_append]; omega) (by rw [hfr]; exact front_at (by omega) hp) w) ?_
          refine vl_val rfl (.some rfl) (val_move rfl) ?_
          refine vl_val rfl (.some rfl) (val_extract rfl rfl) ?_
          refine vl_val rfl (.some rfl) (val_extract rfl rfl) ?_
          refine vl_alloc rfl rfl (.some rfl) Try.zeroValue27 (fun r16 => ?_)
          first | refine vl_store rfl rfl .none rfl rfl Try.sizeOf27 rfl (by repeat (first | exact .head | apply In.tail | apply Take.tail | apply Upd.tail)) (by first | decide | exact Nat.le_refl _ | (simp; omega)) ?_ | refine vl_storeSl rfl rfl .none rfl rfl Try.sizeOf27 rfl (by simp [Value.cells]) (by repeat (first | exact .head | apply In.tail | apply Take.tail | apply Upd.tail)) (by first | decide | (simp [Value.cells]; omega)) ?_
          refine vl_val rfl (.some rfl) (val_assign rfl) ?_
          refine vl_nil ?_
          refine vc_seq ?_
          refine vc_region ?_
          refine vl_val rfl (.some rfl) (val_move rfl) ?_
          refine vl_val rfl (.some rfl) (val_not rfl) ?_
          refine vl_val rfl (.some rfl) (val_move rfl) ?_
          refine vl_on rfl rfl rfl rfl ?_
          refine vl_val rfl (.some rfl) (val_loadAgg Try.isAgg27 Try.sizeOf27 rfl (by first | exact cells_whole (by repeat (first | exact .head | apply In.tail | apply Take.tail | apply Upd.tail)) | exact cells_part (by repeat (first | exact .head | apply In.tail | apply Take.tail | apply Upd.tail)) rfl) rfl) ?_
          refine vl_on rfl rfl rfl rfl ?_
          refine vl_val rfl (.some rfl) (val_loadAgg Try.isAgg27 Try.sizeOf27 rfl (by first | exact cells_whole (by repeat (first | exact .head | apply In.tail | apply Take.tail | apply Upd.tail)) | exact cells_part (by repeat (first | exact .head | apply In.tail | apply Take.tail | apply Upd.tail)) rfl) rfl) ?_
          refine vl_on rfl rfl rfl rfl ?_
          refine vl_val rfl (.some rfl) (val_opO rfl rfl (fun w => run_eqGuard_agg w _ _ _ _ _ _ (by kernel_rfl)) (bin_agg_ne (b := true) (fun w => (vk_equal p p w).trans (by simp)))) ?_
          refine vl_val rfl (.some rfl) (val_pick rfl rfl) ?_
          refine vl_nil ?_
          refine vc_cond rfl (fun h => by cases h) (fun _ => ?_)
          refine vc_skip ?_
          refine vc_region ?_
          refine vl_val rfl (.some rfl) (val_add rfl rfl (by first | exact w_i64 (by omega) (by omega) | rfl)) ?_
          refine vl_val rfl (.some rfl) (val_move rfl) ?_
          refine vl_nil ?_
          exact ⟨vs.length - (i + 1), _, _, _, by omega, (by repeat (first | exact trivial | refine ⟨rfl, ?_⟩ | refine ⟨le_item rfl (by first | rfl | (congr 1; omega) | (simp; done) | (simp; omega)), ?_⟩)), (by repeat (first | exact .nil | (apply Sub.cons; · repeat (first | exact .head | apply Take.tail)))), ⟨i + 1, by omega, rfl, rfl, rfl⟩⟩
        · (try replace hc4 := of_decide_eq_false hc4)
          refine vc_exit ?_
          refine vc_seq ?_
          refine vc_seq ?_
          refine vc_region ?_
          refine vl_val rfl (.some rfl) (val_move rfl) ?_
          refine vl_val rfl (.some rfl) (val_lenSl Try.runUnderlying22 rfl) ?_
          refine vl_val rfl (.some rfl) (val_move rfl) ?_
          refine vl_nil ?_
          refine vc_block ?_
          refine vc_loopw (fun k E H => ∃ i : Nat, i ≤ l2.length ∧ k = l2.length - i ∧ E = [(10, .int .i64 vs.length), (11, .pointer (some ⟨r2, 0, none⟩)), (96, .slice B l2.length cb), (97, .int .i64 l2.length), (98, .int .i64 i)] ∧ H = [DC r2 m2 kd A3 vs.length c3, DM m2 vs]) (l2.length) ⟨_, _, _, ⟨0, by omega, rfl, rfl, rfl⟩, (by repeat (first | exact trivial | refine ⟨rfl, ?_⟩ | refine ⟨le_item rfl (by first | rfl | (congr 1; omega) | (simp; done) | (simp; omega)), ?_⟩)), (by repeat (first | exact .nil | (apply Sub.cons; · repeat (first | exact .head | apply Take.tail))))⟩ ?_
          intro k E H hI
          obtain ⟨i, hi, rfl, rfl, rfl⟩ := hI
          refine vc_seq ?_
          refine vc_region ?_
          refine vl_val rfl (.some rfl) (val_lt rfl rfl) ?_
          refine vl_nil ?_
          refine vc_seq ?_
          refine vc_cond rfl (fun hc6 => ?_) (fun hc6 => ?_)
          · (try replace hc6 := of_decide_eq_true hc6)
            have hf := flat_at l2 i (by omega)
            generalize l2.getD i z3 = p at hf
            refine vc_skip ?_
            refine vc_seq ?_
            refine vc_block ?_
            refine vc_seq ?_
            refine vc_region ?_
            refine vl_val rfl (.some rfl) (val_indexAddr Try.runUnderlying22 Try.sizeOf27 rfl rfl (rd_old hR2 rfl) (by omega) (by omega) (by rw [vflat_len]; omega)) ?_
            refine vl_val rfl (.some rfl) (val_loadAgg Try.isAgg27 Try.sizeOf27 rfl (rd_part (us := [.int .i64 p.k, .int .i64 p.n, .string p.s]) (rd_old hR2 rfl) hf) rfl) ?_
            refine vl_alloc rfl rfl (.some rfl) Try.zeroValue27 (fun r19 => ?_)
            first | refine vl_store rfl rfl .none rfl rfl Try.sizeOf27 rfl (by repeat (first | exact .head | apply In.tail | apply Take.tail | apply Upd.tail)) (by first | decide | exact Nat.le_refl _ | (simp; omega)) ?_ | refine vl_storeSl rfl rfl .none rfl rfl Try.sizeOf27 rfl (by simp [Value.cells]) (by repeat (first | exact .head | apply In.tail | apply Take.tail | apply Upd.tail)) (by first | decide | (simp [Value.cells]; omega)) ?_
            refine vl_nil ?_
            refine vc_seq ?_
            refine vc_region ?_
            refine vl_val rfl (.some rfl) (val_move rfl) ?_
            refine vl_val rfl (.some rfl) (val_loadAgg Try.isAgg27 Try.sizeOf27 rfl (by first | exact cells_whole (by repeat (first | exact .head | apply In.tail | apply Take.tail | apply Upd.tail)) | exact cells_part (by repeat (first | exact .head | apply In.tail | apply Take.tail | apply Upd.tail)) rfl) rfl) ?_
            refine vl_callR [DC r2 m2 kd A3 vs.length c3, DM m2 vs] rfl rfl (.some rfl) Try.call18 rfl (by repeat (first | exact .nil | (apply Sub.cons; · repeat (first | exact .head | apply Take.tail)))) (fun w hw => dFind r2 m2 kd A3 c3 vs p w) ?_
            refine vl_val rfl (.some rfl) (val_move rfl) ?_
            refine vl_val rfl (.some rfl) (val_extract rfl rfl) ?_
            refine vl_val rfl (.some rfl) (val_extract rfl rfl) ?_
            refine vl_val rfl (.some rfl) (val_assign rfl) ?_
            refine vl_val rfl (.some rfl) (val_assign rfl) ?_
            refine vl_nil ?_
            refine vc_seq ?_
            refine vc_region ?_
            refine vl_val rfl (.some rfl) (val_move rfl) ?_
            refine vl_val rfl (.some rfl) (val_move rfl) ?_
            refine vl_split (t := 109) rfl (fun hg109 => ?_) (fun hg109 => ?_)
            · (try replace hg109 := of_decide_eq_true hg109)
              refine vl_on rfl rfl rfl rfl ?_
              refine vl_val rfl (.some rfl) (val_move rfl) ?_
              refine vl_on rfl rfl rfl rfl ?_
              refine vl_val rfl (.some rfl) (val_move rfl) ?_
              refine vl_on rfl rfl rfl rfl ?_
              refine vl_val rfl (.some rfl) (val_ge rfl rfl) ?_
              refine vl_val rfl (.some rfl) (val_pick rfl rfl) ?_
              refine vl_nil ?_
              refine vc_cond rfl (fun hc7 => False.elim (by (try replace hc7 := of_decide_eq_true hc7); rw [if_pos hg109] at hc7; have := List.idxOf_lt_length_of_mem hg109; omega)) (fun hc7 => ?_)
              (try replace hc7 := of_decide_eq_false hc7)
              refine vc_skip ?_
              refine vc_region ?_
              refine vl_val rfl (.some rfl) (val_add rfl rfl (by first | exact w_i64 (by omega) (by omega) | rfl)) ?_
              refine vl_val rfl (.some rfl) (val_move rfl) ?_
              refine vl_nil ?_
              exact ⟨l2.length - (i + 1), _, _, _, by omega, (by repeat (first | exact trivial | refine ⟨rfl, ?_⟩ | refine ⟨le_item rfl (by first | rfl | (congr 1; omega) | (simp; done) | (simp; omega)), ?_⟩)), (by repeat (first | exact .nil | (apply Sub.cons; · repeat (first | exact .head | apply Take.tail)))), ⟨i + 1, by omega, rfl, rfl, rfl⟩⟩
            · (try replace hg109 := of_decide_eq_false hg109)
              refine vl_off rfl rfl rfl rfl (.some rfl) ?_
              refine vl_off rfl rfl rfl rfl (.some rfl) ?_
              refine vl_off rfl rfl rfl rfl (.some rfl) ?_
              refine vl_val rfl (.some rfl) (val_pick rfl rfl) ?_
              refine vl_nil ?_
              refine vc_cond rfl (fun h => by cases h) (fun _ => ?_)
              refine vc_skip ?_
              refine vc_region ?_
              refine vl_val rfl (.some rfl) (val_add rfl rfl (by first | exact w_i64 (by omega) (by omega) | rfl)) ?_
              refine vl_val rfl (.some rfl) (val_move rfl) ?_
              refine vl_nil ?_
              exact ⟨l2.length - (i + 1), _, _, _, by omega, (by repeat (first | exact trivial | refine ⟨rfl, ?_⟩ | refine ⟨le_item rfl (by first | rfl | (congr 1; omega) | (simp; done) | (simp; omega)), ?_⟩)), (by repeat (first | exact .nil | (apply Sub.cons; · repeat (first | exact .head | apply Take.tail)))), ⟨i + 1, by omega, rfl, rfl, rfl⟩⟩
          · (try replace hc6 := of_decide_eq_false hc6)
            refine vc_exit ?_
            refine vc_seq ?_
            refine vc_region ?_
            refine vl_callV rfl rfl (.some rfl) Try.call14 rfl (fun w hw => dLives w) ?_
            refine vl_val rfl (.some rfl) (val_assign rfl) ?_
            refine vl_nil ?_
            refine vc_ret ?_
            refine ⟨_, [], _, res1 Try.results5 rfl, .nil, ?_⟩
            rfl
theorem law_DictCopies (kd : Int) (A : Option Addr) (c : Nat) (l : List Vk) (B : Option Addr) (cb : Nat) (l2 : List Vk) (w : World) (hR : Reads w A (flat l)) (hb1 : l.length ≤ 4611686018427387) (hR2 : Reads w B (flat l2)) (hb2 : l2.length ≤ 4611686018427387) : FnV Try.prog 5 [.int .i64 kd, .slice A l.length c, .slice B l2.length cb] (.bool true) w := by
  by_cases hk : 1 ≤ kd ∧ kd ≤ 4
  · exact law_DictCopiesGood kd A c l B cb l2 hk w hR (by omega) hR2 (by omega)
  · exact law_DictCopiesBad kd A c l B cb l2 hk w

end Go.Proofs.Ytibfngjfjddaiaa.K
