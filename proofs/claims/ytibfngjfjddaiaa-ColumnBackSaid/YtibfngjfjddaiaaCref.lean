/- Walks of the program's functions, printed by a program of this session; Lean checks them. -/
import Derived.Test.YtibfngjfjddaiaaCund
namespace Go.Proofs.Ytibfngjfjddaiaa.K
open Go Go.RowKit Go.Proofs
set_option linter.unusedVariables false
set_option linter.unusedSimpArgs false


set_option maxRecDepth 20000 in
theorem rUnruns (A : Option Addr) (c : Nat) (b : List UInt8) (hb : b.length ≤ 1000000000) (hbc : b.length ≤ c) (w : World) (hr : Reads w A (bcells b)) : Fn Try.prog 91 [.slice A b.length c] [] (ret fun v H' => ∃ A' c', v = .tuple #[.slice A' (unrL b).length c', .int .i64 (unrE b)] ∧ H' = [UW A' (unrL b).length c' (unrL b)]) w := by
  refine fn_enter Try.func91 rfl Try.ntmps91 rfl ?_
  refine vc_seq ?_
  refine vc_region ?_
  refine vl_val rfl (.some rfl) (val_assign rfl) ?_
  refine vl_val rfl (.some rfl) (val_assign rfl) ?_
  refine vl_nil ?_
  refine vc_seq ?_
  refine vc_region ?_
  refine vl_val rfl (.some rfl) (val_assign rfl) ?_
  refine vl_nilSl 96 1 ?_
  refine vl_nil ?_
  refine vc_seq ?_
  refine vc_block ?_
  refine vc_loopw (fun k E H => ∃ (A2 : Option Addr) (c2 n2 : Nat) (b2 : List UInt8) (q la n3 : Nat) (acc : List Nat) (A3 : Option Addr) (c3 : Nat), k = b2.length ∧ b2.length ≤ q ∧ finR (itF stepR q ⟨acc, la, false⟩ b2) = unrunsO b ∧ n2 = b2.length ∧ b2.length ≤ c2 ∧ b2.length ≤ 1000000000 ∧ Reads w A2 (bcells b2) ∧ n3 = acc.length ∧ acc.length ≤ 100000 ∧ E = [(0, .slice A2 n2 c2), (4, .slice A3 n3 c3)] ∧ H = [UW A3 n3 c3 acc]) (b.length) ⟨_, _, _, ⟨A, c, b.length, b, b.length, 0, 0, [], none, 0, rfl, Nat.le_refl _, (unrunsO_is b).symm, rfl, hbc, hb, hr, rfl, by simp, rfl, rfl⟩, (by repeat (first | exact trivial | refine ⟨rfl, ?_⟩ | refine ⟨le_item rfl (by first | rfl | (congr 1; omega) | (simp; done) | (simp; omega)), ?_⟩)), (by repeat (first | exact .nil | (apply Sub.cons; · repeat (first | exact .head | apply Take.tail))))⟩ ?_
  intro k E H hI
  obtain ⟨A2, c2, n2, b2, q, la, n3, acc, A3, c3, rfl, hq, hit, rfl, hbc2, hb2, hrm, hn3, hacc, rfl, rfl⟩ := hI
  have hbd := getN_bd b2
  have hbd2 := getN_bd (b2.drop (getN b2).2)
  simp only [List.length_drop] at hbd2
  refine vc_seq ?_
  refine vc_seq ?_
  refine vc_region ?_
  refine vl_val rfl (.some rfl) (val_move rfl) ?_
  refine vl_val rfl (.some rfl) (val_lenSl Try.runUnderlying59 rfl) ?_
  refine vl_val rfl (.some rfl) (val_gt rfl rfl) ?_
  refine vl_nil ?_
  refine vc_cond rfl (fun hc0 => ?_) (fun hc0 => ?_)
  · (try replace hc0 := of_decide_eq_true hc0)
    refine vc_skip ?_
    refine vc_block ?_
    refine vc_seq ?_
    refine vc_region ?_
    refine vl_val rfl (.some rfl) (val_move rfl) ?_
    refine vl_callV rfl rfl (.some rfl) Try.call71 rfl (fun w' hw => rGet _ _ b2 (by omega) w' (rdw (rd_old hrm rfl) hw)) ?_
    refine vl_val rfl (.some rfl) (val_move rfl) ?_
    refine vl_val rfl (.some rfl) (val_extract rfl rfl) ?_
    refine vl_val rfl (.some rfl) (val_extract rfl rfl) ?_
    refine vl_val rfl (.some rfl) (val_assign rfl) ?_
    refine vl_val rfl (.some rfl) (val_assign rfl) ?_
    refine vl_nil ?_
    refine vc_seq ?_
    refine vc_seq ?_
    refine vc_region ?_
    refine vl_val rfl (.some rfl) (val_move rfl) ?_
    refine vl_val rfl (.some rfl) (val_eq rfl rfl) ?_
    refine vl_nil ?_
    refine vc_cond rfl (fun hc1 => ?_) (fun hc1 => ?_)
    · (try replace hc1 := of_decide_eq_true hc1)
      refine vc_seq ?_
      refine vc_region ?_
      refine vl_val rfl (.some rfl) (val_assign rfl) ?_
      refine vl_nilSl 96 1 ?_
      refine vl_val rfl (.some rfl) (val_assign rfl) ?_
      refine vl_nil ?_
      refine vc_ret ?_
      refine ⟨_, [UW none 0 0 []], _, res2 Try.results91 rfl rfl, (by repeat (first | exact .nil | (apply Sub.cons; · repeat (first | exact .head | apply Take.tail)))), ?_⟩
      have hn : unrunsO b = none := by rw [← hit, unr_bad (by omega) (by omega)]
      have e1 : unrL b = [] := by unfold unrL; rw [hn]; rfl
      have e2 : unrE b = 8 := by unfold unrE; rw [hn]; rfl
      show ∃ A' c', _ ∧ _
      rw [e1, e2]
      exact ⟨none, 0, rfl, rfl⟩
    · (try replace hc1 := of_decide_eq_false hc1)
      have h0 : (getN b2).2 ≠ 0 := by omega
      refine vc_skip ?_
      refine vc_seq ?_
      refine vc_region ?_
      refine vl_val rfl (.some rfl) (val_move rfl) ?_
      refine vl_val rfl (.some rfl) (val_move rfl) ?_
      refine vl_val rfl (.some rfl) (val_cutFrom Try.runUnderlying59 Try.sizeOf5 rfl rfl (by omega) (by omega)) ?_
      rw [Int.toNat_natCast, show b2.length - (getN b2).2 = (b2.drop (getN b2).2).length by rw [List.length_drop]]
      refine vl_callV rfl rfl (.some rfl) Try.call71 rfl (fun w' hw => rGet _ _ (b2.drop (getN b2).2) (by rw [List.length_drop]; omega) w' (rdw (rd_old (reads_cutB hrm hbc2) rfl) hw)) ?_
      refine vl_val rfl (.some rfl) (val_move rfl) ?_
      refine vl_val rfl (.some rfl) (val_extract rfl rfl) ?_
      refine vl_val rfl (.some rfl) (val_extract rfl rfl) ?_
      refine vl_val rfl (.some rfl) (val_assign rfl) ?_
      refine vl_val rfl (.some rfl) (val_assign rfl) ?_
      refine vl_nil ?_
      refine vc_seq ?_
      refine vc_seq ?_
      refine vc_region ?_
      refine vl_val rfl (.some rfl) (val_move rfl) ?_
      refine vl_val rfl (.some rfl) (val_eq rfl rfl) ?_
      refine vl_val rfl (.some rfl) (val_move rfl) ?_
      refine vl_split (t := 29) rfl (fun hg29 => ?_) (fun hg29 => ?_)
      · (try replace hg29 := of_decide_eq_true hg29)
        refine vl_off rfl rfl rfl rfl (.some rfl) ?_
        refine vl_off rfl rfl rfl rfl (.some rfl) ?_
        refine vl_val rfl (.some rfl) (val_pick rfl rfl) ?_
        refine vl_val rfl (.some rfl) (val_move rfl) ?_
        refine vl_off rfl rfl rfl rfl (.some rfl) ?_
        refine vl_off rfl rfl rfl rfl (.some rfl) ?_
        refine vl_off rfl rfl rfl rfl (.some rfl) ?_
        refine vl_off rfl rfl rfl rfl (.some rfl) ?_
        refine vl_off rfl rfl rfl rfl (.some rfl) ?_
        refine vl_off rfl rfl rfl rfl (.some rfl) ?_
        refine vl_val rfl (.some rfl) (val_pick rfl rfl) ?_
        refine vl_val rfl (.some rfl) (val_move rfl) ?_
        refine vl_off rfl rfl rfl rfl (.some rfl) ?_
        refine vl_off rfl rfl rfl rfl (.some rfl) ?_
        refine vl_off rfl rfl rfl rfl (.some rfl) ?_
        refine vl_off rfl rfl rfl rfl (.some rfl) ?_
        refine vl_offU rfl rfl rfl rfl (.some rfl) ?_
        refine vl_offU rfl rfl rfl rfl (.some rfl) ?_
        refine vl_offU rfl rfl rfl rfl (.some rfl) ?_
        refine vl_offU rfl rfl rfl rfl (.some rfl) ?_
        refine vl_offU rfl rfl rfl rfl (.some rfl) ?_
        refine vl_offU rfl rfl rfl rfl (.some rfl) ?_
        refine vl_offU rfl rfl rfl rfl (.some rfl) ?_
        refine vl_offU rfl rfl rfl rfl (.some rfl) ?_
        refine vl_off rfl rfl rfl rfl (.some rfl) ?_
        refine vl_val rfl (.some rfl) (val_pick rfl rfl) ?_
        refine vl_nil ?_
        refine vc_cond rfl (fun _ => ?_) (fun h => by cases h)
        refine vc_seq ?_
        refine vc_region ?_
        refine vl_val rfl (.some rfl) (val_assign rfl) ?_
        refine vl_nilSl 96 1 ?_
        refine vl_val rfl (.some rfl) (val_assign rfl) ?_
        refine vl_nil ?_
        refine vc_ret ?_
        refine ⟨_, [UW none 0 0 []], _, res2 Try.results91 rfl rfl, (by repeat (first | exact .nil | (apply Sub.cons; · repeat (first | exact .head | apply Take.tail)))), ?_⟩
        have hn : unrunsO b = none := by rw [← hit, unr_err (by omega) hq h0 (by omega)]
        have e1 : unrL b = [] := by unfold unrL; rw [hn]; rfl
        have e2 : unrE b = 8 := by unfold unrE; rw [hn]; rfl
        show ∃ A' c', _ ∧ _
        rw [e1, e2]
        exact ⟨none, 0, rfl, rfl⟩
      · (try replace hg29 := of_decide_eq_false hg29)
        refine vl_on rfl rfl rfl rfl ?_
        refine vl_val rfl (.some rfl) (val_move rfl) ?_
        refine vl_on rfl rfl rfl rfl ?_
        refine vl_val rfl (.some rfl) (val_eq rfl rfl) ?_
        refine vl_val rfl (.some rfl) (val_pick rfl rfl) ?_
        refine vl_val rfl (.some rfl) (val_move rfl) ?_
        refine vl_split (t := 33) rfl (fun hg33 => ?_) (fun hg33 => ?_)
        · (try replace hg33 := of_decide_eq_true hg33)
          refine vl_off rfl rfl rfl rfl (.some rfl) ?_
          refine vl_off rfl rfl rfl rfl (.some rfl) ?_
          refine vl_off rfl rfl rfl rfl (.some rfl) ?_
          refine vl_off rfl rfl rfl rfl (.some rfl) ?_
          refine vl_off rfl rfl rfl rfl (.some rfl) ?_
          refine vl_off rfl rfl rfl rfl (.some rfl) ?_
          refine vl_val rfl (.some rfl) (val_pick rfl rfl) ?_
          refine vl_val rfl (.some rfl) (val_move rfl) ?_
          refine vl_off rfl rfl rfl rfl (.some rfl) ?_
          refine vl_off rfl rfl rfl rfl (.some rfl) ?_
          refine vl_off rfl rfl rfl rfl (.some rfl) ?_
          refine vl_off rfl rfl rfl rfl (.some rfl) ?_
          refine vl_offU rfl rfl rfl rfl (.some rfl) ?_
          refine vl_offU rfl rfl rfl rfl (.some rfl) ?_
          refine vl_offU rfl rfl rfl rfl (.some rfl) ?_
          refine vl_offU rfl rfl rfl rfl (.some rfl) ?_
          refine vl_offU rfl rfl rfl rfl (.some rfl) ?_
          refine vl_offU rfl rfl rfl rfl (.some rfl) ?_
          refine vl_offU rfl rfl rfl rfl (.some rfl) ?_
          refine vl_offU rfl rfl rfl rfl (.some rfl) ?_
          refine vl_off rfl rfl rfl rfl (.some rfl) ?_
          refine vl_val rfl (.some rfl) (val_pick rfl rfl) ?_
          refine vl_nil ?_
          refine vc_cond rfl (fun _ => ?_) (fun h => by cases h)
          refine vc_seq ?_
          refine vc_region ?_
          refine vl_val rfl (.some rfl) (val_assign rfl) ?_
          refine vl_nilSl 96 1 ?_
          refine vl_val rfl (.some rfl) (val_assign rfl) ?_
          refine vl_nil ?_
          refine vc_ret ?_
          refine ⟨_, [UW none 0 0 []], _, res2 Try.results91 rfl rfl, (by repeat (first | exact .nil | (apply Sub.cons; · repeat (first | exact .head | apply Take.tail)))), ?_⟩
          have hn : unrunsO b = none := by rw [← hit, unr_err (by omega) hq h0 (by omega)]
          have e1 : unrL b = [] := by unfold unrL; rw [hn]; rfl
          have e2 : unrE b = 8 := by unfold unrE; rw [hn]; rfl
          show ∃ A' c', _ ∧ _
          rw [e1, e2]
          exact ⟨none, 0, rfl, rfl⟩
        · (try replace hg33 := of_decide_eq_false hg33)
          refine vl_on rfl rfl rfl rfl ?_
          refine vl_val rfl (.some rfl) (val_move rfl) ?_
          refine vl_on rfl rfl rfl rfl ?_
          refine vl_val rfl (.some rfl) (val_move rfl) ?_
          refine vl_on rfl rfl rfl rfl ?_
          refine vl_val rfl (.some rfl) (val_lenSl Try.runUnderlying95 rfl) ?_
          refine vl_on rfl rfl rfl rfl ?_
          refine vl_val rfl (.some rfl) (val_sub rfl rfl (by first | exact w_i64 (by omega) (by omega) | rfl)) ?_
          refine vl_on rfl rfl rfl rfl ?_
          refine vl_val rfl (.some rfl) (val_convInt Try.runUnderlying3 Try.runUnderlying96 rfl (by first | exact w_u64 (by omega) (by omega) | rfl)) ?_
          refine vl_on rfl rfl rfl rfl ?_
          refine vl_val rfl (.some rfl) (val_gt rfl rfl) ?_
          refine vl_val rfl (.some rfl) (val_pick rfl rfl) ?_
          refine vl_val rfl (.some rfl) (val_move rfl) ?_
          refine vl_split (t := 41) rfl (fun hg41 => ?_) (fun hg41 => ?_)
          · (try replace hg41 := of_decide_eq_true hg41)
            refine vl_off rfl rfl rfl rfl (.some rfl) ?_
            refine vl_off rfl rfl rfl rfl (.some rfl) ?_
            refine vl_off rfl rfl rfl rfl (.some rfl) ?_
            refine vl_off rfl rfl rfl rfl (.some rfl) ?_
            refine vl_offU rfl rfl rfl rfl (.some rfl) ?_
            refine vl_offU rfl rfl rfl rfl (.some rfl) ?_
            refine vl_offU rfl rfl rfl rfl (.some rfl) ?_
            refine vl_offU rfl rfl rfl rfl (.some rfl) ?_
            refine vl_offU rfl rfl rfl rfl (.some rfl) ?_
            refine vl_offU rfl rfl rfl rfl (.some rfl) ?_
            refine vl_offU rfl rfl rfl rfl (.some rfl) ?_
            refine vl_offU rfl rfl rfl rfl (.some rfl) ?_
            refine vl_off rfl rfl rfl rfl (.some rfl) ?_
            refine vl_val rfl (.some rfl) (val_pick rfl rfl) ?_
            refine vl_nil ?_
            refine vc_cond rfl (fun _ => ?_) (fun h => by cases h)
            refine vc_seq ?_
            refine vc_region ?_
            refine vl_val rfl (.some rfl) (val_assign rfl) ?_
            refine vl_nilSl 96 1 ?_
            refine vl_val rfl (.some rfl) (val_assign rfl) ?_
            refine vl_nil ?_
            refine vc_ret ?_
            refine ⟨_, [UW none 0 0 []], _, res2 Try.results91 rfl rfl, (by repeat (first | exact .nil | (apply Sub.cons; · repeat (first | exact .head | apply Take.tail)))), ?_⟩
            have hn : unrunsO b = none := by rw [← hit, unr_err (by omega) hq h0 (by omega)]
            have e1 : unrL b = [] := by unfold unrL; rw [hn]; rfl
            have e2 : unrE b = 8 := by unfold unrE; rw [hn]; rfl
            show ∃ A' c', _ ∧ _
            rw [e1, e2]
            exact ⟨none, 0, rfl, rfl⟩
          · (try replace hg41 := of_decide_eq_false hg41)
            refine vl_on rfl rfl rfl rfl ?_
            refine vl_val rfl (.some rfl) (val_move rfl) ?_
            refine vl_on rfl rfl rfl rfl ?_
            refine vl_val rfl (.some rfl) (val_lenSl Try.runUnderlying95 rfl) ?_
            refine vl_on rfl rfl rfl rfl ?_
            refine vl_val rfl (.some rfl) (val_gt rfl rfl) ?_
            refine vl_on rfl rfl rfl rfl ?_
            refine vl_val rfl (.some rfl) (val_move rfl) ?_
            refine vl_split (t := 45) rfl (fun hg45 => ?_) (fun hg45 => ?_)
            · (try replace hg45 := of_decide_eq_true hg45)
              refine vl_on rfl rfl rfl rfl ?_
              refine vl_val rfl (.some rfl) (val_move rfl) ?_
              refine vl_on rfl rfl rfl rfl ?_
              refine vl_val rfl (.some rfl) (val_move rfl) ?_
              refine vl_on rfl rfl rfl rfl ?_
              refine vl_val rfl (.some rfl) (val_lenSl Try.runUnderlying95 rfl) ?_
              refine vl_on rfl rfl rfl rfl ?_
              refine vl_val rfl (.some rfl) (val_sub rfl rfl (by first | exact w_i64 (by omega) (by omega) | rfl)) ?_
              refine vl_on rfl rfl rfl rfl ?_
              refine vl_val rfl (.some rfl) (val_indexAddr Try.runUnderlying95 Try.sizeOf96 rfl rfl (by first | exact rd_sl (by repeat (first | exact .head | apply In.tail | apply Take.tail | apply Upd.tail)) | exact rd_slr (by repeat (first | exact .head | apply In.tail | apply Take.tail | apply Upd.tail)) | exact rd_old (by assumption) rfl) (by omega) (by omega) (by first | omega | (simp only [bcells_length, icells_length, ucells_length, tcells_length]; omega) | (simp only [bcells_length, icells_length, ucells_length, tcells_length, fillG_length]; omega) | (simp; omega))) ?_
              refine vl_on rfl rfl rfl rfl ?_
              refine vl_val rfl (.some rfl) (val_load Try.isAgg96 rfl (cell_rd (rd_sl (by repeat (first | exact .head | apply In.tail | apply Take.tail | apply Upd.tail))) (ucells_of (p := acc.length - 1) (by omega) (by omega)))) ?_
              refine vl_on rfl rfl rfl rfl ?_
              refine vl_val rfl (.some rfl) (val_move rfl) ?_
              refine vl_on rfl rfl rfl rfl ?_
              refine vl_val rfl (.some rfl) (val_eq rfl rfl) ?_
              refine vl_on rfl rfl rfl rfl ?_
              refine vl_val rfl (.some rfl) (val_pick rfl rfl) ?_
              refine vl_val rfl (.some rfl) (val_pick rfl rfl) ?_
              refine vl_nil ?_
              refine vc_cond rfl (fun hc2 => ?_) (fun hc2 => ?_)
              · (try replace hc2 := of_decide_eq_true hc2)
                refine vc_seq ?_
                refine vc_region ?_
                refine vl_val rfl (.some rfl) (val_assign rfl) ?_
                refine vl_nilSl 96 1 ?_
                refine vl_val rfl (.some rfl) (val_assign rfl) ?_
                refine vl_nil ?_
                refine vc_ret ?_
                refine ⟨_, [UW none 0 0 []], _, res2 Try.results91 rfl rfl, (by repeat (first | exact .nil | (apply Sub.cons; · repeat (first | exact .head | apply Take.tail)))), ?_⟩
                have hn : unrunsO b = none := by rw [← hit, unr_err (by omega) hq h0 (by omega)]
                have e1 : unrL b = [] := by unfold unrL; rw [hn]; rfl
                have e2 : unrE b = 8 := by unfold unrE; rw [hn]; rfl
                show ∃ A' c', _ ∧ _
                rw [e1, e2]
                exact ⟨none, 0, rfl, rfl⟩
              · (try replace hc2 := of_decide_eq_false hc2)
                refine vc_skip ?_
                refine vc_seq ?_
                refine vc_seq ?_
                refine vc_region ?_
                have hgo : ¬ ((getN (b2.drop (getN b2).2)).2 = 0 ∨ (getN (b2.drop (getN b2).2)).1 = 0 ∨ 100000 - acc.length < (getN (b2.drop (getN b2).2)).1 ∨ (0 < acc.length ∧ acc.getD (acc.length - 1) 0 = (getN b2).1)) := by omega
                refine vl_val rfl (.some rfl) (val_assign rfl) ?_
                refine vl_nil ?_
                refine vc_block ?_
                refine vc_loopw (fun k E H => ∃ (j n4 : Nat) (l4 : List Nat) (A4 : Option Addr) (c4 : Nat), j ≤ (getN (b2.drop (getN b2).2)).1 ∧ k = (getN (b2.drop (getN b2).2)).1 - j ∧ n4 = l4.length ∧ l4 = acc ++ List.replicate j (getN b2).1 ∧ E = [(0, .slice A2 b2.length c2), (4, .slice A4 n4 c4), (5, .int .u64 (getN b2).1), (6, .int .i64 (getN b2).2), (7, .int .u64 (getN (b2.drop (getN b2).2)).1), (8, .int .i64 (getN (b2.drop (getN b2).2)).2), (9, .int .u64 j)] ∧ H = [UW A4 n4 c4 l4]) ((getN (b2.drop (getN b2).2)).1) ⟨_, _, _, ⟨0, n3, acc, A3, c3, by omega, rfl, hn3, by simp, rfl, rfl⟩, (by repeat (first | exact trivial | refine ⟨rfl, ?_⟩ | refine ⟨le_item rfl (by first | rfl | (congr 1; omega) | (simp; done) | (simp; omega)), ?_⟩)), (by repeat (first | exact .nil | (apply Sub.cons; · repeat (first | exact .head | apply Take.tail))))⟩ ?_
                intro k E H hI
                obtain ⟨j, n4, l4, A4, c4, hj, rfl, hn4, hl4, rfl, rfl⟩ := hI
                have hl4n : l4.length = acc.length + j := by rw [hl4]; simp
                refine vc_seq ?_
                refine vc_seq ?_
                refine vc_region ?_
                refine vl_val rfl (.some rfl) (val_move rfl) ?_
                refine vl_val rfl (.some rfl) (val_move rfl) ?_
                refine vl_val rfl (.some rfl) (val_lt rfl rfl) ?_
                refine vl_nil ?_
                refine vc_cond rfl (fun hc3 => ?_) (fun hc3 => ?_)
                · (try replace hc3 := of_decide_eq_true hc3)
                  refine vc_skip ?_
                  refine vc_seq ?_
                  refine vc_block ?_
                  refine vc_region ?_
                  refine vl_val rfl (.some rfl) (val_move rfl) ?_
                  refine vl_val rfl (.some rfl) (val_move rfl) ?_
                  refine vl_lit sT95 rfl rfl (.some rfl) rfl rfl rfl (by decide) (by decide) rfl (flat_one rfl) (fun r63 => ?_)
                  refine vl_append sT95 rfl rfl (.some rfl) rfl rfl (by first | exact rd_sl (by repeat (first | exact .head | apply In.tail | apply Take.tail | apply Upd.tail)) | exact rd_slr (by repeat (first | exact .head | apply In.tail | apply Take.tail | apply Upd.tail)) | exact rd_old (by assumption) rfl) (by first | rfl | (simp; done) | (simp; omega) | (simp only [bcells_length, icells_length, ucells_length, tcells_length]; omega)) (by first | rfl | exact one_b _ | exact one_u _ | exact one_i _ | exact one_t _) (by omega) (by omega) (by repeat (first | exact .head | apply In.tail | apply Take.tail | apply Upd.tail)) (fun A64 k64 => ?_)
                  refine vl_val rfl (.some rfl) (val_assign rfl) ?_
                  refine vl_nil ?_
                  refine vc_region ?_
                  refine vl_val rfl (.some rfl) (val_move rfl) ?_
                  refine vl_val rfl (.some rfl) (val_add rfl rfl (by first | exact w_u64 (by omega) (by omega) | rfl)) ?_
                  refine vl_val rfl (.some rfl) (val_assign rfl) ?_
                  refine vl_nil ?_
                  rw [upush]
                  exact ⟨(getN (b2.drop (getN b2).2)).1 - (j + 1), _, _, _, by omega, (by repeat (first | exact trivial | refine ⟨rfl, ?_⟩ | refine ⟨le_item rfl (by first | rfl | (congr 1; omega) | (simp; done) | (simp; omega)), ?_⟩)), (by repeat (first | exact .nil | (apply Sub.cons; · repeat (first | exact .head | apply Take.tail)))), ⟨j + 1, n4 + 1, _, _, _, by omega, rfl, by rw [List.length_append, hn4]; rfl, by rw [hl4, rep_push], rfl, rfl⟩⟩
                · (try replace hc3 := of_decide_eq_false hc3)
                  refine vc_exit ?_
                  refine vc_region ?_
                  refine vl_val rfl (.some rfl) (val_move rfl) ?_
                  refine vl_val rfl (.some rfl) (val_move rfl) ?_
                  refine vl_val rfl (.some rfl) (val_move rfl) ?_
                  refine vl_val rfl (.some rfl) (val_add rfl rfl (by first | exact w_i64 (by omega) (by omega) | rfl)) ?_
                  refine vl_val rfl (.some rfl) (val_cutFrom Try.runUnderlying59 Try.sizeOf5 rfl rfl (by omega) (by omega)) ?_
                  refine vl_val rfl (.some rfl) (val_assign rfl) ?_
                  refine vl_nil ?_
                  rw [show Int.toNat (((getN b2).2 : Int) + ((getN (b2.drop (getN b2).2)).2 : Int)) = (getN b2).2 + (getN (b2.drop (getN b2).2)).2 by omega]
                  exact ⟨(b2.drop ((getN b2).2 + (getN (b2.drop (getN b2).2)).2)).length, _, _, _, (by simp only [List.length_drop]; omega), (by repeat (first | exact trivial | refine ⟨rfl, ?_⟩ | refine ⟨le_item rfl (by first | rfl | (congr 1; omega) | (simp; done) | (simp; omega)), ?_⟩)), (by repeat (first | exact .nil | (apply Sub.cons; · repeat (first | exact .head | apply Take.tail)))), ⟨_, _, b2.length - ((getN b2).2 + (getN (b2.drop (getN b2).2)).2), b2.drop ((getN b2).2 + (getN (b2.drop (getN b2).2)).2), q - 2, (getN b2).1, n4, l4, A4, c4, rfl, by simp only [List.length_drop]; omega, by rw [hl4, ← hit, unr_go (by omega) hq h0 hgo]; rw [show j = (getN (b2.drop (getN b2).2)).1 by omega], by simp only [List.length_drop], by simp only [List.length_drop]; omega, by simp only [List.length_drop]; omega, reads_cutB hrm hbc2, hn4, by omega, rfl, rfl⟩⟩
            · (try replace hg45 := of_decide_eq_false hg45)
              refine vl_off rfl rfl rfl rfl (.some rfl) ?_
              refine vl_off rfl rfl rfl rfl (.some rfl) ?_
              refine vl_off rfl rfl rfl rfl (.some rfl) ?_
              refine vl_off rfl rfl rfl rfl (.some rfl) ?_
              refine vl_off rfl rfl rfl rfl (.some rfl) ?_
              refine vl_off rfl rfl rfl rfl (.some rfl) ?_
              refine vl_off rfl rfl rfl rfl (.some rfl) ?_
              refine vl_off rfl rfl rfl rfl (.some rfl) ?_
              refine vl_on rfl rfl rfl rfl ?_
              refine vl_val rfl (.some rfl) (val_pick rfl rfl) ?_
              refine vl_val rfl (.some rfl) (val_pick rfl rfl) ?_
              refine vl_nil ?_
              refine vc_cond rfl (fun h => by cases h) (fun _ => ?_)
              refine vc_skip ?_
              refine vc_seq ?_
              refine vc_seq ?_
              refine vc_region ?_
              have hgo : ¬ ((getN (b2.drop (getN b2).2)).2 = 0 ∨ (getN (b2.drop (getN b2).2)).1 = 0 ∨ 100000 - acc.length < (getN (b2.drop (getN b2).2)).1 ∨ (0 < acc.length ∧ acc.getD (acc.length - 1) 0 = (getN b2).1)) := by omega
              refine vl_val rfl (.some rfl) (val_assign rfl) ?_
              refine vl_nil ?_
              refine vc_block ?_
              refine vc_loopw (fun k E H => ∃ (j n4 : Nat) (l4 : List Nat) (A4 : Option Addr) (c4 : Nat), j ≤ (getN (b2.drop (getN b2).2)).1 ∧ k = (getN (b2.drop (getN b2).2)).1 - j ∧ n4 = l4.length ∧ l4 = acc ++ List.replicate j (getN b2).1 ∧ E = [(0, .slice A2 b2.length c2), (4, .slice A4 n4 c4), (5, .int .u64 (getN b2).1), (6, .int .i64 (getN b2).2), (7, .int .u64 (getN (b2.drop (getN b2).2)).1), (8, .int .i64 (getN (b2.drop (getN b2).2)).2), (9, .int .u64 j)] ∧ H = [UW A4 n4 c4 l4]) ((getN (b2.drop (getN b2).2)).1) ⟨_, _, _, ⟨0, n3, acc, A3, c3, by omega, rfl, hn3, by simp, rfl, rfl⟩, (by repeat (first | exact trivial | refine ⟨rfl, ?_⟩ | refine ⟨le_item rfl (by first | rfl | (congr 1; omega) | (simp; done) | (simp; omega)), ?_⟩)), (by repeat (first | exact .nil | (apply Sub.cons; · repeat (first | exact .head | apply Take.tail))))⟩ ?_
              intro k E H hI
              obtain ⟨j, n4, l4, A4, c4, hj, rfl, hn4, hl4, rfl, rfl⟩ := hI
              have hl4n : l4.length = acc.length + j := by rw [hl4]; simp
              refine vc_seq ?_
              refine vc_seq ?_
              refine vc_region ?_
              refine vl_val rfl (.some rfl) (val_move rfl) ?_
              refine vl_val rfl (.some rfl) (val_move rfl) ?_
              refine vl_val rfl (.some rfl) (val_lt rfl rfl) ?_
              refine vl_nil ?_
              refine vc_cond rfl (fun hc3 => ?_) (fun hc3 => ?_)
              · (try replace hc3 := of_decide_eq_true hc3)
                refine vc_skip ?_
                refine vc_seq ?_
                refine vc_block ?_
                refine vc_region ?_
                refine vl_val rfl (.some rfl) (val_move rfl) ?_
                refine vl_val rfl (.some rfl) (val_move rfl) ?_
                refine vl_lit sT95 rfl rfl (.some rfl) rfl rfl rfl (by decide) (by decide) rfl (flat_one rfl) (fun r63 => ?_)
                refine vl_append sT95 rfl rfl (.some rfl) rfl rfl (by first | exact rd_sl (by repeat (first | exact .head | apply In.tail | apply Take.tail | apply Upd.tail)) | exact rd_slr (by repeat (first | exact .head | apply In.tail | apply Take.tail | apply Upd.tail)) | exact rd_old (by assumption) rfl) (by first | rfl | (simp; done) | (simp; omega) | (simp only [bcells_length, icells_length, ucells_length, tcells_length]; omega)) (by first | rfl | exact one_b _ | exact one_u _ | exact one_i _ | exact one_t _) (by omega) (by omega) (by repeat (first | exact .head | apply In.tail | apply Take.tail | apply Upd.tail)) (fun A64 k64 => ?_)
                refine vl_val rfl (.some rfl) (val_assign rfl) ?_
                refine vl_nil ?_
                refine vc_region ?_
                refine vl_val rfl (.some rfl) (val_move rfl) ?_
                refine vl_val rfl (.some rfl) (val_add rfl rfl (by first | exact w_u64 (by omega) (by omega) | rfl)) ?_
                refine vl_val rfl (.some rfl) (val_assign rfl) ?_
                refine vl_nil ?_
                rw [upush]
                exact ⟨(getN (b2.drop (getN b2).2)).1 - (j + 1), _, _, _, by omega, (by repeat (first | exact trivial | refine ⟨rfl, ?_⟩ | refine ⟨le_item rfl (by first | rfl | (congr 1; omega) | (simp; done) | (simp; omega)), ?_⟩)), (by repeat (first | exact .nil | (apply Sub.cons; · repeat (first | exact .head | apply Take.tail)))), ⟨j + 1, n4 + 1, _, _, _, by omega, rfl, by rw [List.length_append, hn4]; rfl, by rw [hl4, rep_push], rfl, rfl⟩⟩
              · (try replace hc3 := of_decide_eq_false hc3)
                refine vc_exit ?_
                refine vc_region ?_
                refine vl_val rfl (.some rfl) (val_move rfl) ?_
                refine vl_val rfl (.some rfl) (val_move rfl) ?_
                refine vl_val rfl (.some rfl) (val_move rfl) ?_
                refine vl_val rfl (.some rfl) (val_add rfl rfl (by first | exact w_i64 (by omega) (by omega) | rfl)) ?_
                refine vl_val rfl (.some rfl) (val_cutFrom Try.runUnderlying59 Try.sizeOf5 rfl rfl (by omega) (by omega)) ?_
                refine vl_val rfl (.some rfl) (val_assign rfl) ?_
                refine vl_nil ?_
                rw [show Int.toNat (((getN b2).2 : Int) + ((getN (b2.drop (getN b2).2)).2 : Int)) = (getN b2).2 + (getN (b2.drop (getN b2).2)).2 by omega]
                exact ⟨(b2.drop ((getN b2).2 + (getN (b2.drop (getN b2).2)).2)).length, _, _, _, (by simp only [List.length_drop]; omega), (by repeat (first | exact trivial | refine ⟨rfl, ?_⟩ | refine ⟨le_item rfl (by first | rfl | (congr 1; omega) | (simp; done) | (simp; omega)), ?_⟩)), (by repeat (first | exact .nil | (apply Sub.cons; · repeat (first | exact .head | apply Take.tail)))), ⟨_, _, b2.length - ((getN b2).2 + (getN (b2.drop (getN b2).2)).2), b2.drop ((getN b2).2 + (getN (b2.drop (getN b2).2)).2), q - 2, (getN b2).1, n4, l4, A4, c4, rfl, by simp only [List.length_drop]; omega, by rw [hl4, ← hit, unr_go (by omega) hq h0 hgo]; rw [show j = (getN (b2.drop (getN b2).2)).1 by omega], by simp only [List.length_drop], by simp only [List.length_drop]; omega, by simp only [List.length_drop]; omega, reads_cutB hrm hbc2, hn4, by omega, rfl, rfl⟩⟩
  · (try replace hc0 := of_decide_eq_false hc0)
    refine vc_exit ?_
    refine vc_seq ?_
    refine vc_region ?_
    refine vl_val rfl (.some rfl) (val_move rfl) ?_
    refine vl_val rfl (.some rfl) (val_assign rfl) ?_
    refine vl_val rfl (.some rfl) (val_assign rfl) ?_
    refine vl_nil ?_
    refine vc_ret ?_
    refine ⟨_, [UW A3 n3 c3 acc], _, res2 Try.results91 rfl rfl, (by repeat (first | exact .nil | (apply Sub.cons; · repeat (first | exact .head | apply Take.tail)))), ?_⟩
    have hn : unrunsO b = some acc := by rw [← hit, itF_nil (by omega)]; rw [finR, if_neg (by simp)]
    have e1 : unrL b = acc := by unfold unrL; rw [hn]; rfl
    have e2 : unrE b = 0 := by unfold unrE; rw [hn]; rfl
    show ∃ A' c', _ ∧ _
    rw [e1, e2, ← hn3]
    exact ⟨A3, c3, rfl, rfl⟩
set_option maxRecDepth 20000 in
theorem rUndeltas (A : Option Addr) (c : Nat) (b : List UInt8) (hb : b.length ≤ 1000000000) (hbc : b.length ≤ c) (w : World) (hr : Reads w A (bcells b)) : Fn Try.prog 92 [.slice A b.length c] [] (ret fun v H' => ∃ A' c', v = .tuple #[.slice A' (undL b).length c', .int .i64 (undE b)] ∧ H' = [IW A' (undL b).length c' (undL b)]) w := by
  refine fn_enter Try.func92 rfl Try.ntmps92 rfl ?_
  refine vc_seq ?_
  refine vc_region ?_
  refine vl_val rfl (.some rfl) (val_assign rfl) ?_
  refine vl_val rfl (.some rfl) (val_assign rfl) ?_
  refine vl_nil ?_
  refine vc_seq ?_
  refine vc_region ?_
  refine vl_val rfl (.some rfl) (val_assign rfl) ?_
  refine vl_nilSl 3 1 ?_
  refine vl_nil ?_
  refine vc_seq ?_
  refine vc_region ?_
  refine vl_val rfl (.some rfl) (val_assign rfl) ?_
  refine vl_nil ?_
  refine vc_seq ?_
  refine vc_block ?_
  refine vc_loopw (fun k E H => ∃ (A2 : Option Addr) (c2 n2 : Nat) (b2 : List UInt8) (q n3 : Nat) (la : Int) (acc : List Int) (A3 : Option Addr) (c3 : Nat), k = b2.length ∧ b2.length ≤ q ∧ (itF stepD q ⟨acc, la⟩ b2).map DSt.acc = undeltO b ∧ n2 = b2.length ∧ b2.length ≤ c2 ∧ b2.length ≤ 1000000000 ∧ Reads w A2 (bcells b2) ∧ n3 = acc.length ∧ acc.length + b2.length ≤ 1000000000 ∧ E = [(0, .slice A2 n2 c2), (4, .slice A3 n3 c3), (5, .int .u64 (IntKind.u64.wrap la))] ∧ H = [IW A3 n3 c3 acc]) (b.length) ⟨_, _, _, ⟨A, c, b.length, b, b.length, 0, 0, [], none, 0, rfl, Nat.le_refl _, rfl, rfl, hbc, hb, hr, rfl, by simp; omega, rfl, rfl⟩, (by repeat (first | exact trivial | refine ⟨rfl, ?_⟩ | refine ⟨le_item rfl (by first | rfl | (congr 1; omega) | (simp; done) | (simp; omega)), ?_⟩)), (by repeat (first | exact .nil | (apply Sub.cons; · repeat (first | exact .head | apply Take.tail))))⟩ ?_
  intro k E H hI
  obtain ⟨A2, c2, n2, b2, q, n3, la, acc, A3, c3, rfl, hq, hit, rfl, hbc2, hb2, hrm, hn3, hacc, rfl, rfl⟩ := hI
  have hbd := getN_bd b2
  refine vc_seq ?_
  refine vc_seq ?_
  refine vc_region ?_
  refine vl_val rfl (.some rfl) (val_move rfl) ?_
  refine vl_val rfl (.some rfl) (val_lenSl Try.runUnderlying59 rfl) ?_
  refine vl_val rfl (.some rfl) (val_gt rfl rfl) ?_
  refine vl_nil ?_
  refine vc_cond rfl (fun hc0 => ?_) (fun hc0 => ?_)
  · (try replace hc0 := of_decide_eq_true hc0)
    refine vc_skip ?_
    refine vc_block ?_
    refine vc_seq ?_
    refine vc_region ?_
    refine vl_val rfl (.some rfl) (val_move rfl) ?_
    refine vl_callV rfl rfl (.some rfl) Try.call71 rfl (fun w' hw => rGet _ _ b2 (by omega) w' (rdw (rd_old hrm rfl) hw)) ?_
    refine vl_val rfl (.some rfl) (val_move rfl) ?_
    refine vl_val rfl (.some rfl) (val_extract rfl rfl) ?_
    refine vl_val rfl (.some rfl) (val_extract rfl rfl) ?_
    refine vl_val rfl (.some rfl) (val_assign rfl) ?_
    refine vl_val rfl (.some rfl) (val_assign rfl) ?_
    refine vl_nil ?_
    refine vc_seq ?_
    refine vc_seq ?_
    refine vc_region ?_
    refine vl_val rfl (.some rfl) (val_move rfl) ?_
    refine vl_val rfl (.some rfl) (val_eq rfl rfl) ?_
    refine vl_nil ?_
    refine vc_cond rfl (fun hc1 => ?_) (fun hc1 => ?_)
    · (try replace hc1 := of_decide_eq_true hc1)
      refine vc_seq ?_
      refine vc_region ?_
      refine vl_val rfl (.some rfl) (val_assign rfl) ?_
      refine vl_nilSl 3 1 ?_
      refine vl_val rfl (.some rfl) (val_assign rfl) ?_
      refine vl_nil ?_
      refine vc_ret ?_
      refine ⟨_, [IW none 0 0 []], _, res2 Try.results92 rfl rfl, (by repeat (first | exact .nil | (apply Sub.cons; · repeat (first | exact .head | apply Take.tail)))), ?_⟩
      have hn : undeltO b = none := by rw [← hit, itF_bad (by omega) (by omega)]; rw [Option.map_none]
      have e1 : undL b = [] := by unfold undL; rw [hn]; rfl
      have e2 : undE b = 8 := by unfold undE; rw [hn]; rfl
      show ∃ A' c', _ ∧ _
      rw [e1, e2]
      exact ⟨none, 0, rfl, rfl⟩
    · (try replace hc1 := of_decide_eq_false hc1)
      have h0 : (getN b2).2 ≠ 0 := by omega
      refine vc_skip ?_
      refine vc_seq ?_
      refine vc_region ?_
      refine vl_val rfl (.some rfl) (val_move rfl) ?_
      refine vl_val rfl (.some rfl) (val_move rfl) ?_
      refine vl_callV rfl rfl (.some rfl) Try.call103 rfl (fun w' hw => rZag _ hbd.1 w') ?_
      refine vl_val rfl (.some rfl) (val_convInt Try.runUnderlying3 Try.runUnderlying96 rfl rfl) ?_
      refine vl_val rfl (.some rfl) (val_add rfl rfl (show _ = IntKind.u64.wrap (IntKind.i64.wrap (la + zagS (getN b2).1)) from add_wrap2 _ _)) ?_
      refine vl_val rfl (.some rfl) (val_assign rfl) ?_
      refine vl_nil ?_
      refine vc_seq ?_
      refine vc_region ?_
      refine vl_val rfl (.some rfl) (val_move rfl) ?_
      refine vl_val rfl (.some rfl) (val_move rfl) ?_
      refine vl_val rfl (.some rfl) (val_convInt Try.runUnderlying96 Try.runUnderlying3 rfl (show _ = IntKind.i64.wrap (la + zagS (getN b2).1) by rw [← add_wrap2, add_wrap])) ?_
      refine vl_lit sT56 rfl rfl (.some rfl) rfl rfl rfl (by decide) (by decide) rfl (flat_one rfl) (fun r26 => ?_)
      refine vl_append sT56 rfl rfl (.some rfl) rfl rfl (by first | exact rd_sl (by repeat (first | exact .head | apply In.tail | apply Take.tail | apply Upd.tail)) | exact rd_slr (by repeat (first | exact .head | apply In.tail | apply Take.tail | apply Upd.tail)) | exact rd_old (by assumption) rfl) (by first | rfl | (simp; done) | (simp; omega) | (simp only [bcells_length, icells_length, ucells_length, tcells_length]; omega)) (by first | rfl | exact one_b _ | exact one_u _ | exact one_i _ | exact one_t _) (by omega) (by omega) (by repeat (first | exact .head | apply In.tail | apply Take.tail | apply Upd.tail)) (fun A27 k27 => ?_)
      refine vl_val rfl (.some rfl) (val_assign rfl) ?_
      refine vl_nil ?_
      refine vc_region ?_
      refine vl_val rfl (.some rfl) (val_move rfl) ?_
      refine vl_val rfl (.some rfl) (val_move rfl) ?_
      refine vl_val rfl (.some rfl) (val_cutFrom Try.runUnderlying59 Try.sizeOf5 rfl rfl (by omega) (by omega)) ?_
      refine vl_val rfl (.some rfl) (val_assign rfl) ?_
      refine vl_nil ?_
      rw [ipush, Int.toNat_natCast]
      exact ⟨(b2.drop (getN b2).2).length, _, _, _, (by simp only [List.length_drop]; omega), (by repeat (first | exact trivial | refine ⟨rfl, ?_⟩ | refine ⟨le_item rfl (by first | rfl | (congr 1; omega) | (simp; done) | (simp; omega)), ?_⟩)), (by repeat (first | exact .nil | (apply Sub.cons; · repeat (first | exact .head | apply Take.tail)))), ⟨_, _, b2.length - (getN b2).2, b2.drop (getN b2).2, q - 1, n3 + 1, IntKind.i64.wrap (la + zagS (getN b2).1), acc ++ [IntKind.i64.wrap (la + zagS (getN b2).1)], _, _, rfl, by simp only [List.length_drop]; omega, by rw [← hit, show q = q - 1 + 1 by omega]; exact congrArg (Option.map DSt.acc) (itF_go (by omega) h0 rfl).symm, by simp only [List.length_drop], by simp only [List.length_drop]; omega, by simp only [List.length_drop]; omega, reads_cutB hrm hbc2, by rw [List.length_append, hn3]; rfl, by simp only [List.length_append, List.length_cons, List.length_nil, List.length_drop]; omega, rfl, rfl⟩⟩
  · (try replace hc0 := of_decide_eq_false hc0)
    refine vc_exit ?_
    refine vc_seq ?_
    refine vc_region ?_
    refine vl_val rfl (.some rfl) (val_move rfl) ?_
    refine vl_val rfl (.some rfl) (val_assign rfl) ?_
    refine vl_val rfl (.some rfl) (val_assign rfl) ?_
    refine vl_nil ?_
    refine vc_ret ?_
    refine ⟨_, [IW A3 n3 c3 acc], _, res2 Try.results92 rfl rfl, (by repeat (first | exact .nil | (apply Sub.cons; · repeat (first | exact .head | apply Take.tail)))), ?_⟩
    have hn : undeltO b = some acc := by rw [← hit, itF_nil (by omega)]; rw [Option.map_some]
    have e1 : undL b = acc := by unfold undL; rw [hn]; rfl
    have e2 : undE b = 0 := by unfold undE; rw [hn]; rfl
    show ∃ A' c', _ ∧ _
    rw [e1, e2, ← hn3]
    exact ⟨A3, c3, rfl, rfl⟩

end Go.Proofs.Ytibfngjfjddaiaa.K
