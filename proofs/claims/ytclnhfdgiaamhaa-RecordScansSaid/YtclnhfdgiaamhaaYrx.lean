/- Walks of the program's functions, printed by a program of this session; Lean checks them. -/
import Derived.Test.YtclnhfdgiaamhaaYry
namespace Go.Proofs.Ytclnhfdgiaamhaa.K
open Go Go.RowKit Go.Proofs
set_option linter.unusedVariables false
set_option linter.unusedSimpArgs false
set_option maxRecDepth 20000 in
theorem sT28 : SlT Try.prog 28 44 9 168 (.agg #[.int .i64 0, .string .empty, .slice none 0 0, .string .empty, .string .empty, .slice none 0 0, .slice none 0 0, .string .empty, .slice none 0 0]) := ⟨Try.underlying28, ⟨Try.t44, Try.type44, rfl, rfl, rfl⟩, rfl, Nat.lt_of_sub_eq_succ rfl⟩

set_option maxRecDepth 20000 in
theorem rScan (A : Option Addr) (c : Nat) (b : Tx) (hb : b.length ≤ 1000000000) (hbc : b.length ≤ c) (id : Nat) (hid : id < 18446744073709551616) (w : World) (hr : Reads w A (bcells b)) : Fn Try.prog 16 [.slice A b.length c, .int .u64 id] [] (ret fun v H' => ∃ ms A2 c2 l, v = .tuple #[.slice A2 ms.length c2, .int .i64 (scN id b : Nat), .bool (scO id b)] ∧ ms.map recOf = scL id b ∧ RecsD l ms A2 ∧ H' = l) w := by
  have hbl : (beginL id).length ≤ 30 := by
    unfold beginL
    have := putN_len id
    rw [frame_is (by simp only [List.length_cons]; omega)]
    simp only [List.length_append, four_len, List.length_cons]
    omega
  refine fn_enter Try.func16 rfl Try.ntmps16 rfl ?_
  refine vc_seq ?_
  refine vc_region ?_
  refine vl_val rfl (.some rfl) (val_assign rfl) ?_
  refine vl_val rfl (.some rfl) (val_assign rfl) ?_
  refine vl_val rfl (.some rfl) (val_assign rfl) ?_
  refine vl_nil ?_
  refine vc_seq ?_
  refine vc_region ?_
  refine vl_val rfl (.some rfl) (val_move rfl) ?_
  refine vl_call (C := []) rfl rfl (.some rfl) Try.call19 rfl .nil (fun w hw => rBegin id hid w) (fun v H' h => ?_)
  obtain ⟨A7, c7, rfl, rfl⟩ := h
  show VL _ _ _ _ _ (_ :: _)
  refine vl_val rfl (.some rfl) (val_assign rfl) ?_
  refine vl_nil ?_
  refine vc_seq ?_
  refine vc_seq ?_
  refine vc_draws [0, 1, 2, 3, 4, 5, 6, 7, 8, 9, 10, 11, 12, 13, 14] [] [0, 1, 2, 3, 4, 5, 6, 7, 8, 9, 10, 11, 12, 13, 14] rfl (by kernel_rfl) (fun _ _ _ h => h) ?_
  refine vd_val rfl rfl rfl (.some rfl) (val_move rfl) ?_
  refine vd_val rfl rfl rfl (.some rfl) (val_lenSl Try.runUnderlying22 rfl) ?_
  refine vd_val rfl rfl rfl (.some rfl) (val_move rfl) ?_
  refine vd_val rfl rfl rfl (.some rfl) (val_lenSl Try.runUnderlying22 rfl) ?_
  refine vd_val rfl rfl rfl (.some rfl) (val_lt rfl rfl) ?_
  refine vd_val rfl rfl rfl (.some rfl) (val_move rfl) ?_
  refine vd_split (t := 22) rfl (fun hg22 => ?_) (fun hg22 => ?_)
  · (try replace hg22 := of_decide_eq_true hg22)
    refine vd_off rfl rfl rfl rfl rfl rfl (.some rfl) ?_
    refine vd_off rfl rfl rfl rfl rfl rfl (.some rfl) ?_
    refine vd_off rfl rfl rfl rfl rfl rfl (.some rfl) ?_
    refine vd_off rfl rfl rfl rfl rfl rfl (.some rfl) ?_
    refine vd_off rfl rfl rfl rfl rfl rfl (.some rfl) ?_
    refine vd_off rfl rfl rfl rfl rfl rfl (.some rfl) ?_
    refine vd_off rfl rfl rfl rfl rfl rfl (.some rfl) ?_
    refine vd_off rfl rfl rfl rfl rfl rfl (.some rfl) ?_
    refine vd_val rfl rfl rfl (.some rfl) (val_pick rfl rfl) ?_
    refine vd_nil ?_
    refine vc_cond rfl (fun _ => ?_) (fun h => by cases h)
    have hpo : scO id b = false := decide_eq_false (fun h => by have := congrArg List.length h; rw [List.length_take] at this; omega)
    refine vc_seq ?_
    refine vc_region ?_
    refine vl_val rfl (.some rfl) (val_assign rfl) ?_
    refine vl_val rfl (.some rfl) (val_assign rfl) ?_
    refine vl_val rfl (.some rfl) (val_assign rfl) ?_
    refine vl_nil ?_
    refine vc_ret ?_
    refine ⟨_, [], _, res3 Try.results16 rfl rfl rfl, (by repeat constructor), ?_⟩
    obtain ⟨e1, e2⟩ := sc_1 hpo
    refine ⟨[], none, 0, [], ?_, e1.symm, fun w _ => ⟨reads_nilR rfl, fun m hm => by cases hm⟩, rfl⟩
    rw [e2, hpo]
    rfl
  · (try replace hg22 := of_decide_eq_false hg22)
    refine vd_on rfl rfl rfl rfl rfl rfl (.some rfl) (val_move rfl) ?_
    refine vd_on rfl rfl rfl rfl rfl rfl (.some rfl) (val_move rfl) ?_
    refine vd_on rfl rfl rfl rfl rfl rfl (.some rfl) (val_lenSl Try.runUnderlying22 rfl) ?_
    refine vd_on rfl rfl rfl rfl rfl rfl (.some rfl) (val_cutTo Try.runUnderlying22 Try.sizeOf5 rfl rfl (by omega) (by omega)) ?_
    refine vd_on rfl rfl rfl rfl rfl rfl (.some rfl) (val_bytesToStr Try.runUnderlying22 Try.runUnderlying5 Try.runUnderlying9 rfl (rd_old (reads_takeB hr (beginL id).length) rfl) (by rw [List.length_take, Int.toNat_natCast]; omega)) ?_
    refine vd_on rfl rfl rfl rfl rfl rfl (.some rfl) (val_move rfl) ?_
    refine vd_on rfl rfl rfl rfl rfl rfl (.some rfl) (val_bytesToStr Try.runUnderlying22 Try.runUnderlying5 Try.runUnderlying9 rfl (rd_sl (by repeat constructor)) rfl) ?_
    refine vd_on rfl rfl rfl rfl rfl rfl (.some rfl) (val_sne rfl rfl) ?_
    refine vd_val rfl rfl rfl (.some rfl) (val_pick rfl rfl) ?_
    refine vd_nil ?_
    refine vc_cond rfl (fun hc0 => ?_) (fun hc0 => ?_)
    · (try replace hc0 := of_decide_eq_true hc0)
      have hpo : scO id b = false := decide_eq_false (fun h => by simp [h] at hc0)
      refine vc_seq ?_
      refine vc_region ?_
      refine vl_val rfl (.some rfl) (val_assign rfl) ?_
      refine vl_val rfl (.some rfl) (val_assign rfl) ?_
      refine vl_val rfl (.some rfl) (val_assign rfl) ?_
      refine vl_nil ?_
      refine vc_ret ?_
      refine ⟨_, [], _, res3 Try.results16 rfl rfl rfl, (by repeat constructor), ?_⟩
      obtain ⟨e1, e2⟩ := sc_1 hpo
      refine ⟨[], none, 0, [], ?_, e1.symm, fun w _ => ⟨reads_nilR rfl, fun m hm => by cases hm⟩, rfl⟩
      rw [e2, hpo]
      rfl
    · (try replace hc0 := of_decide_eq_false hc0)
      have hpo : scO id b = true := decide_eq_true (sL_inj.1 (by simpa using hc0))
      have hle := scO_le hpo
      refine vc_skip ?_
      refine vc_seq ?_
      refine vc_region ?_
      refine vl_val rfl (.some rfl) (val_move rfl) ?_
      refine vl_val rfl (.some rfl) (val_lenSl Try.runUnderlying22 rfl) ?_
      refine vl_val rfl (.some rfl) (val_assign rfl) ?_
      refine vl_nil ?_
      refine vc_seq ?_
      refine vc_region ?_
      refine vl_val rfl (.some rfl) (val_assign rfl) ?_
      refine vl_nil ?_
      refine vc_block ?_
      refine vc_eqv (eqv_big [] _).symm ?_
      refine vc_nilSl 44 9 ?_
      refine vc_loopw (fun q E H => ∃ (t : Nat) (ms : List RecM) (A1 : Option Addr) (c1 : Nat) (L : List Chunk), t ≤ b.length ∧ ms.length ≤ t ∧ q = b.length - t ∧ (∃ f, ScI b (beginL id).length f t (ms.map recOf)) ∧ (∀ m ∈ ms, RecD L m) ∧ E = [(8, .int .i64 (t : Nat)), (9, .slice A1 ms.length c1), (0, .slice A b.length c)] ∧ H = [sl A1 ms.length c1 44 9 (ms.flatMap recC), big L]) ((b.length - (beginL id).length)) ⟨_, _, _, ⟨(beginL id).length, [], none, 0, [], hle, by simp, rfl, ⟨_, sc_0 hle⟩, (fun m hm => by cases hm), rfl, rfl⟩, (by repeat (first | exact trivial | refine ⟨rfl, ?_⟩ | refine ⟨le_item rfl (by first | rfl | (congr 1; omega) | (simp; done) | (simp; omega)), ?_⟩)), (by repeat constructor)⟩ ?_
      intro q E H hI
      obtain ⟨t, ms, A1, c1, L, htb, hmt, rfl, ⟨f, hSI⟩, hms, rfl, rfl⟩ := hI
      refine vc_block ?_
      refine vc_seq ?_
      refine vc_region ?_
      refine vl_val rfl (.some rfl) (val_move rfl) ?_
      refine vl_val rfl (.some rfl) (val_move rfl) ?_
      refine vl_val rfl (.some rfl) (val_cutFrom Try.runUnderlying22 Try.sizeOf5 rfl rfl (by omega) (by omega)) ?_
      rw [Int.toNat_natCast, show b.length - t = (b.drop t).length from List.length_drop.symm]
      refine vl_call (C := []) rfl rfl (.some rfl) Try.call51 rfl .nil (fun w hw => rUnframe _ _ (b.drop t) (by rw [List.length_drop]; omega) (by rw [List.length_drop]; omega) w (reads_cutB (rdw (rd_old hr rfl) hw) hbc)) (fun v H' h => ?_)
      obtain ⟨A9, c9, rfl, rfl⟩ := h
      show VL _ _ _ _ _ (_ :: _)
      refine vl_slCap (A := A9) (n := (unfrL (b.drop t)).length) (c := c9) (sz := 1) (e := 5) (vs := bcells (unfrL (b.drop t))) (by repeat constructor) (fun hcap => ?_)
      refine vl_val rfl (.some rfl) (val_move rfl) ?_
      refine vl_val rfl (.some rfl) (val_extract rfl rfl) ?_
      refine vl_val rfl (.some rfl) (val_extract rfl rfl) ?_
      refine vl_val rfl (.some rfl) (val_extract rfl rfl) ?_
      refine vl_val rfl (.some rfl) (val_assign rfl) ?_
      refine vl_val rfl (.some rfl) (val_assign rfl) ?_
      refine vl_val rfl (.some rfl) (val_assign rfl) ?_
      refine vl_nil ?_
      refine vc_seq ?_
      refine vc_seq ?_
      refine vc_region ?_
      refine vl_val rfl (.some rfl) (val_move rfl) ?_
      refine vl_val rfl (.some rfl) (val_ne rfl rfl) ?_
      refine vl_nil ?_
      refine vc_cond rfl (fun hc1 => ?_) (fun hc1 => ?_)
      · (try replace hc1 := of_decide_eq_true hc1)
        refine vc_seq ?_
        refine vc_region ?_
        refine vl_val rfl (.some rfl) (val_move rfl) ?_
        refine vl_val rfl (.some rfl) (val_move rfl) ?_
        refine vl_val rfl (.some rfl) (val_assign rfl) ?_
        refine vl_val rfl (.some rfl) (val_assign rfl) ?_
        refine vl_val rfl (.some rfl) (val_assign rfl) ?_
        refine vl_nil ?_
        refine vc_ret ?_
        refine ⟨_, [sl A1 ms.length c1 44 9 (ms.flatMap recC), big L], _, res3 Try.results16 rfl rfl rfl, (by repeat constructor), ?_⟩
        obtain ⟨e1, e2⟩ := sc_2 hpo (sc_stop hSI (.inl (by omega)))
        refine ⟨ms, A1, c1, _, ?_, e1.symm, recsD_of hms, rfl⟩
        rw [e2, hpo, show (beginL id).length + (t - (beginL id).length) = t by have := hSI.2.2.1; omega]
      · (try replace hc1 := of_decide_eq_false hc1)
        refine vc_skip ?_
        refine vc_seq ?_
        refine vc_region ?_
        refine vl_val rfl (.some rfl) (val_move rfl) ?_
        have hul := unfrL_le (b.drop t)
        refine vl_call (C := []) rfl rfl (.some rfl) Try.call26 rfl .nil (fun w hw => qLoad A9 c9 (unfrL (b.drop t)) (by omega) hcap w (rdw (rd_sl (vs := bcells (unfrL (b.drop t))) (by repeat constructor)) hw)) (fun v H' h => ?_)
        obtain ⟨m, l, rfl, hm, hD, hH⟩ := h
        rw [hH]
        refine vl_eqv (eqv_big l _).symm ?_
        refine vl_val rfl (.some rfl) (val_move rfl) ?_
        refine vl_val rfl (.some rfl) (val_extract rfl rfl) ?_
        refine vl_val rfl (.some rfl) (val_extract rfl rfl) ?_
        refine vl_alloc rfl rfl (.some rfl) Try.zeroValue44 (fun r13 => ?_)
        first | refine vl_store rfl rfl .none rfl rfl Try.sizeOf44 rfl (by repeat constructor) (by first | decide | exact Nat.le_refl _ | exact Nat.le_of_ble_eq_true rfl | (simp; omega)) ?_ | refine vl_storeSl rfl rfl .none rfl rfl Try.sizeOf44 rfl (by simp [Value.cells]) (by repeat constructor) (by first | decide | (simp [Value.cells]; omega)) ?_
        refine vl_val rfl (.some rfl) (val_assign rfl) ?_
        refine vl_nil ?_
        refine vc_seq ?_
        refine vc_seq ?_
        refine vc_region ?_
        refine vl_val rfl (.some rfl) (val_move rfl) ?_
        refine vl_val rfl (.some rfl) (val_ne rfl rfl) ?_
        refine vl_nil ?_
        refine vc_cond rfl (fun hc2 => ?_) (fun hc2 => ?_)
        · (try replace hc2 := of_decide_eq_true hc2)
          refine vc_seq ?_
          refine vc_region ?_
          refine vl_val rfl (.some rfl) (val_move rfl) ?_
          refine vl_val rfl (.some rfl) (val_move rfl) ?_
          refine vl_val rfl (.some rfl) (val_assign rfl) ?_
          refine vl_val rfl (.some rfl) (val_assign rfl) ?_
          refine vl_val rfl (.some rfl) (val_assign rfl) ?_
          refine vl_nil ?_
          refine vc_ret ?_
          refine ⟨_, [sl A1 ms.length c1 44 9 (ms.flatMap recC), big L], _, res3 Try.results16 rfl rfl rfl, (by repeat constructor), ?_⟩
          obtain ⟨e1, e2⟩ := sc_2 hpo (sc_stop hSI (.inr ((ldE_cases (unfrL (b.drop t))).elim (fun h => absurd h.1 (by omega)) (fun h => h.2))))
          refine ⟨ms, A1, c1, _, ?_, e1.symm, recsD_of hms, rfl⟩
          rw [e2, hpo, show (beginL id).length + (t - (beginL id).length) = t by have := hSI.2.2.1; omega]
        · (try replace hc2 := of_decide_eq_false hc2)
          have hue : unfrE (b.drop t) = 0 := by omega
          obtain ⟨he0, hl0⟩ | ⟨he0, _⟩ := ldE_cases (unfrL (b.drop t))
          rotate_left
          · omega
          rw [← hm] at hl0
          obtain ⟨hs1, hs2, f', hSI2⟩ := sc_step hSI hue hl0
          refine vc_eqv (Eqv.trans (Eqv.perm (Sub.perm (C := [big l, big L]) (by repeat constructor))) (eqv_two_big l L _)) ?_
          refine vc_skip ?_
          refine vc_seq ?_
          refine vc_region ?_
          refine vl_val rfl (.some rfl) (val_move rfl) ?_
          refine vl_val rfl (.some rfl) (val_loadAgg Try.isAgg44 Try.sizeOf44 rfl (by first | exact cells_whole (by repeat constructor) | exact cells_part (by repeat constructor) rfl) rfl) ?_
          refine vl_lit sT28 rfl rfl (.some rfl) rfl rfl rfl (by decide) (by decide) rfl rfl (fun r57 => ?_)
          refine vl_append (vs := ms.flatMap recC) (us := recC m) sT28 rfl rfl (.some rfl) rfl rfl (rd_sl (by repeat constructor)) rfl rfl (by omega) (by omega) (by repeat constructor) (fun A58 k58 => ?_)
          rw [show ms.flatMap recC ++ recC m = (ms ++ [m]).flatMap recC by simp, show ms.length + 1 = (ms ++ [m]).length by simp]
          refine vl_val rfl (.some rfl) (val_assign rfl) ?_
          refine vl_nil ?_
          refine vc_region ?_
          refine vl_val rfl (.some rfl) (val_move rfl) ?_
          refine vl_val rfl (.some rfl) (val_move rfl) ?_
          refine vl_val rfl (.some rfl) (val_add rfl rfl (by first | exact w_i64 (by omega) (by omega) | rfl)) ?_
          refine vl_val rfl (.some rfl) (val_assign rfl) ?_
          refine vl_nil ?_
          exact ⟨(b.length - (t + unfrN (b.drop t))), _, _, _, by first | omega | (rw [List.length_drop]; omega), (by repeat (first | exact trivial | refine ⟨rfl, ?_⟩ | refine ⟨le_item rfl (by first | rfl | (congr 1; omega) | (simp; done) | (simp; omega)), ?_⟩)), (by repeat constructor), ⟨t + unfrN (b.drop t), ms ++ [m], A58, k58, L ++ l, hs1, by simp; omega, rfl, ⟨f', by rw [List.map_append]; exact hSI2⟩, (fun x hx => (List.mem_append.1 hx).elim (fun h => recD_monoL (hms x h)) (fun h => by rw [List.mem_singleton.1 h]; exact recD_monoR hD)), rfl, rfl⟩⟩




theorem scan_all : ∀ (f : Nat) (b : Tx), ∀ x ∈ (scanF f b).1, ∃ c, loadRec c = some x
  | 0, _, x, h => by cases h
  | f + 1, b, x, h => by
    unfold scanF at h
    split at h
    · split at h
      · cases h
      · rename_i y hy
        rcases List.mem_cons.1 h with rfl | h
        · exact ⟨_, hy⟩
        · exact scan_all f _ x h
    · cases h
theorem load_le {b : Tx} {x : Rec} (h : loadRec b = some x) : b.length ≤ 262144 := by
  cases h1 : rNum b with
  | none => rw [loadRec_1 h1] at h; cases h
  | some p =>
    cases h2 : rPart p.1 p.2 with
    | none => rw [loadRec_2 h1 h2] at h; cases h
    | some q =>
      rw [loadRec_3 h1 h2] at h
      split at h
      · rename_i hh; exact hh.2.2
      · cases h
theorem scL_all {id : Nat} {b : Tx} {x : Rec} (h : x ∈ scL id b) : goodRec x ∧ ¬ 262144 < (recB x).length ∧ ∃ N, N ≤ 262144 ∧ PL N x := by
  unfold scL at h
  split at h
  · obtain ⟨c, hc⟩ := scan_all _ _ _ h
    have hl := load_le hc
    refine ⟨(load_is hc).1, by rw [rec_inv hc]; omega, c.length, hl, (load_is hc).2⟩
  · cases h
theorem recs_at {l : List RecM} {i : Nat} (h : i < l.length) : ((l.flatMap recC).drop (Int.toNat (i : Int) * 9)).take 9 = recC (l.getD i rec0M) := by
  rw [Int.toNat_natCast]
  exact flat_atM (m := 9) (f := recC) (fun _ => rfl) rec0M l i h
theorem recs_in {l : List RecM} {i : Nat} (h : i < l.length) : l.getD i rec0M ∈ l := by simp [List.getD, h]
theorem recs_map {l : List RecM} {i : Nat} (h : i < l.length) : recOf (l.getD i rec0M) = (l.map recOf).getD i rec0 := by simp [List.getD, h]
theorem rd_recs {X : Cx} {H : List Chunk} {l : List Chunk} {ms : List RecM} {A : Option Addr} (hD : RecsD l ms A) (h : In (big l) H) : Rd X H A (ms.flatMap recC) := fun w hw => (hD w (hw.chunk (big l) h.mem)).1

theorem scan_len : ∀ (f : Nat) (b : Tx), (scanF f b).1.length ≤ f
  | 0, _ => Nat.le_refl _
  | f + 1, b => by
    unfold scanF
    split
    · split
      · exact Nat.zero_le _
      · have := scan_len f (b.drop (unfrN b))
        simp only [List.length_cons]; omega
    · exact Nat.zero_le _
theorem scL_len (id : Nat) (b : Tx) : (scL id b).length ≤ b.length := by
  unfold scL
  split
  · exact scan_len _ _
  · exact Nat.zero_le _

set_option maxRecDepth 20000 in
set_option maxHeartbeats 1000000 in
theorem xRScans (B : Option Addr) (d : Nat) (b : Tx) (id : Nat) (hid : id < 18446744073709551616) (hbd : b.length ≤ d) (hbm : b.length ≤ 140737488351232) (w : World) (hrb : Reads w B (bcells b)) : FnV Try.prog 3 [.slice B b.length d, .int .u64 id] (.bool true) w := by
  refine fn_enter Try.func3 rfl Try.ntmps3 rfl ?_
  refine vc_seq ?_
  refine vc_region ?_
  refine vl_val rfl (.some rfl) (val_assign rfl) ?_
  refine vl_nil ?_
  refine vc_seq ?_
  refine vc_seq ?_
  refine vc_region ?_
  refine vl_val rfl (.some rfl) (val_move rfl) ?_
  refine vl_val rfl (.some rfl) (val_lenSl Try.runUnderlying22 rfl) ?_
  refine vl_val rfl (.some rfl) (val_gt rfl rfl) ?_
  refine vl_nil ?_
  refine vc_cond rfl (fun hc0 => ?_) (fun hc0 => ?_)
  · (try replace hc0 := of_decide_eq_true hc0)
    refine vc_seq ?_
    refine vc_region ?_
    refine vl_call (C := []) rfl rfl (.some rfl) Try.call14 rfl .nil (fun w hw => xLives w) (fun v H' h => ?_)
    obtain ⟨rfl, rfl⟩ := h
    show VL _ _ _ _ _ _
    refine vl_val rfl (.some rfl) (val_assign rfl) ?_
    refine vl_nil ?_
    refine vc_ret ?_
    refine ⟨_, [], _, res1 Try.results3 rfl, .nil, ?_⟩
    rfl
  · (try replace hc0 := of_decide_eq_false hc0)
    refine vc_skip ?_
    refine vc_seq ?_
    refine vc_region ?_
    refine vl_val rfl (.some rfl) (val_move rfl) ?_
    refine vl_val rfl (.some rfl) (val_move rfl) ?_
    refine vl_call (C := []) rfl rfl (.some rfl) Try.call15 rfl .nil (fun w hw => xScan B d b (by omega) hbd id hid w (rdw (rd_old hrb rfl) hw)) (fun v H' h => ?_)
    obtain ⟨ms, A5, c5, l5, rfl, hm5, hD5, hH5⟩ := h
    rw [hH5]
    refine vl_eqv (eqv_big l5 _).symm ?_
    refine vl_val rfl (.some rfl) (val_move rfl) ?_
    refine vl_val rfl (.some rfl) (val_extract rfl rfl) ?_
    refine vl_val rfl (.some rfl) (val_extract rfl rfl) ?_
    refine vl_val rfl (.some rfl) (val_extract rfl rfl) ?_
    refine vl_val rfl (.some rfl) (val_assign rfl) ?_
    refine vl_val rfl (.some rfl) (val_assign rfl) ?_
    refine vl_val rfl (.some rfl) (val_assign rfl) ?_
    refine vl_nil ?_
    refine vc_seq ?_
    refine vc_region ?_
    refine vl_val rfl (.some rfl) (val_move rfl) ?_
    refine vl_val rfl (.some rfl) (val_move rfl) ?_
    refine vl_call (C := []) rfl rfl (.some rfl) Try.call16 rfl .nil (fun w hw => rScan B d b (by omega) hbd id hid w (rdw (rd_old hrb rfl) hw)) (fun v H' h => ?_)
    obtain ⟨ns, A8, c8, l8, rfl, hm8, hD8, hH8⟩ := h
    rw [hH8]
    refine vl_eqv (eqv_big l8 _).symm ?_
    have hmn : ms.length = ns.length := by have := congrArg List.length (hm5.trans hm8.symm); simpa using this
    have hml : ms.length ≤ 1000000000 := by
      have h1 : ms.length = (scL id b).length := by rw [← hm5, List.length_map]
      rw [h1]; exact Nat.le_trans (scL_len id b) (by omega)
    refine vl_val rfl (.some rfl) (val_move rfl) ?_
    refine vl_val rfl (.some rfl) (val_extract rfl rfl) ?_
    refine vl_val rfl (.some rfl) (val_extract rfl rfl) ?_
    refine vl_val rfl (.some rfl) (val_extract rfl rfl) ?_
    refine vl_val rfl (.some rfl) (val_assign rfl) ?_
    refine vl_val rfl (.some rfl) (val_assign rfl) ?_
    refine vl_val rfl (.some rfl) (val_assign rfl) ?_
    refine vl_nil ?_
    refine vc_seq ?_
    refine vc_seq ?_
    refine vc_region ?_
    refine vl_val rfl (.some rfl) (val_move rfl) ?_
    refine vl_val rfl (.some rfl) (val_lenSl Try.runUnderlying25 rfl) ?_
    refine vl_val rfl (.some rfl) (val_move rfl) ?_
    refine vl_val rfl (.some rfl) (val_lenSl Try.runUnderlying28 rfl) ?_
    refine vl_val rfl (.some rfl) (val_net rfl rfl (congrArg Nat.cast hmn)) ?_
    refine vl_val rfl (.some rfl) (val_move rfl) ?_
    refine vl_on rfl rfl rfl rfl ?_
    refine vl_val rfl (.some rfl) (val_move rfl) ?_
    refine vl_on rfl rfl rfl rfl ?_
    refine vl_val rfl (.some rfl) (val_move rfl) ?_
    refine vl_on rfl rfl rfl rfl ?_
    refine vl_val rfl (.some rfl) (val_net rfl rfl (rfl)) ?_
    refine vl_val rfl (.some rfl) (val_pick rfl rfl) ?_
    refine vl_val rfl (.some rfl) (val_move rfl) ?_
    refine vl_on rfl rfl rfl rfl ?_
    refine vl_val rfl (.some rfl) (val_move rfl) ?_
    refine vl_on rfl rfl rfl rfl ?_
    refine vl_val rfl (.some rfl) (val_move rfl) ?_
    refine vl_on rfl rfl rfl rfl ?_
    refine vl_val rfl (.some rfl) (val_bnet Try.underlying4 rfl rfl (rfl)) ?_
    refine vl_val rfl (.some rfl) (val_pick rfl rfl) ?_
    refine vl_val rfl (.some rfl) (val_move rfl) ?_
    refine vl_on rfl rfl rfl rfl ?_
    refine vl_val rfl (.some rfl) (val_move rfl) ?_
    refine vl_on rfl rfl rfl rfl ?_
    refine vl_call (C := []) rfl rfl (.some rfl) Try.call18 rfl .nil (fun w hw => xBegin id hid w) (fun v H' h => ?_)
    obtain ⟨A47, c47, rfl, rfl⟩ := h
    show VL _ _ _ _ _ (_ :: _)
    refine vl_on rfl rfl rfl rfl ?_
    refine vl_val rfl (.some rfl) (val_move rfl) ?_
    refine vl_on rfl rfl rfl rfl ?_
    refine vl_call (C := []) rfl rfl (.some rfl) Try.call19 rfl .nil (fun w hw => rBegin id hid w) (fun v H' h => ?_)
    obtain ⟨A49, c49, rfl, rfl⟩ := h
    show VL _ _ _ _ _ (_ :: _)
    refine vl_on rfl rfl rfl rfl ?_
    refine vl_callV rfl rfl (.some rfl) Try.call17 rfl (fun w hw => rSame _ _ _ _ (beginL id) (beginL id) w (rdw (rd_sl (by repeat constructor)) hw) (rdw (rd_sl (by repeat constructor)) hw)) ?_
    rw [decide_eq_true rfl]
    refine vl_on rfl rfl rfl rfl ?_
    refine vl_val rfl (.some rfl) (val_not rfl) ?_
    refine vl_val rfl (.some rfl) (val_pick rfl rfl) ?_
    refine vl_nil ?_
    refine vc_cond rfl (fun h => by cases h) (fun _ => ?_)
    refine vc_skip ?_
    refine vc_seq ?_
    refine vc_seq ?_
    refine vc_region ?_
    refine vl_val rfl (.some rfl) (val_move rfl) ?_
    refine vl_val rfl (.some rfl) (val_lenSl Try.runUnderlying25 rfl) ?_
    refine vl_val rfl (.some rfl) (val_move rfl) ?_
    refine vl_nil ?_
    refine vc_block ?_
    refine vc_loopw (fun q E H => ∃ i : Nat, i ≤ ms.length ∧ q = ms.length - i ∧ E = [(5, .slice A5 ms.length c5), (8, .slice A8 ns.length c8), (53, .slice A5 ms.length c5), (54, .int .i64 (ms.length : Nat)), (55, .int .i64 i)] ∧ H = [big l5, big l8]) (ms.length) ⟨_, _, _, ⟨0, by omega, rfl, rfl, rfl⟩, (by repeat (first | exact trivial | refine ⟨rfl, ?_⟩ | refine ⟨le_item rfl (by first | rfl | (congr 1; omega) | (simp; done) | (simp; omega)), ?_⟩)), (by repeat constructor)⟩ ?_
    intro q E H hI
    obtain ⟨i, hi, rfl, rfl, rfl⟩ := hI
    refine vc_seq ?_
    refine vc_region ?_
    refine vl_val rfl (.some rfl) (val_lt rfl rfl) ?_
    refine vl_nil ?_
    refine vc_seq ?_
    refine vc_cond rfl (fun hc2 => ?_) (fun hc2 => ?_)
    · (try replace hc2 := of_decide_eq_true hc2)
      refine vc_skip ?_
      refine vc_seq ?_
      refine vc_block ?_
      refine vc_seq ?_
      refine vc_region ?_
      refine vl_val rfl (.some rfl) (val_move rfl) ?_
      refine vl_val rfl (.some rfl) (val_assign rfl) ?_
      refine vl_nil ?_
      refine vc_seq ?_
      refine vc_draws [0, 1, 2, 3, 4, 5, 6, 7, 9] [] [0, 1, 2, 3, 4, 5, 6, 7, 8, 9] rfl (by kernel_rfl) (fun _ _ _ h => h) ?_
      refine vd_val rfl rfl rfl (.some rfl) (val_move rfl) ?_
      refine vd_val rfl rfl rfl (.some rfl) (val_move rfl) ?_
      refine vd_val rfl rfl rfl (.some rfl) (val_indexAddr Try.runUnderlying25 Try.sizeOf43 rfl rfl (vs := ms.flatMap recC) (rd_recs hD5 (by repeat constructor)) (by omega) (by omega) (by rw [recs_len, Int.toNat_natCast]; omega)) ?_
      refine vd_val rfl rfl rfl (.some rfl) (val_loadAgg Try.isAgg43 Try.sizeOf43 rfl (cells_rd (us := recC (ms.getD i rec0M)) (rd_recs hD5 (by repeat constructor)) (recs_at (by omega))) rfl) ?_
      refine vd_val rfl rfl rfl (.some rfl) (val_move rfl) ?_
      refine vd_val rfl rfl rfl (.some rfl) (val_move rfl) ?_
      refine vd_val rfl rfl rfl (.some rfl) (val_indexAddr Try.runUnderlying28 Try.sizeOf44 rfl rfl (vs := ns.flatMap recC) (rd_recs hD8 (by repeat constructor)) (by omega) (by omega) (by rw [recs_len, Int.toNat_natCast]; omega)) ?_
      refine vd_val rfl rfl rfl (.some rfl) (val_loadAgg Try.isAgg44 Try.sizeOf44 rfl (cells_rd (us := recC (ns.getD i rec0M)) (rd_recs hD8 (by repeat constructor)) (recs_at (by omega))) rfl) ?_
      refine vd_op rfl rfl ?_
      have hii : i < ns.length := by omega
      have he : recOf (ms.getD i rec0M) = recOf (ns.getD i rec0M) := by rw [recs_map (by omega), recs_map hii, hm5, hm8]
      obtain ⟨hg1, hg2, N, hN, hpl⟩ := scL_all (id := id) (b := b) (x := recOf (ns.getD i rec0M)) (by rw [← hm8]; exact List.mem_map.2 ⟨_, recs_in hii, rfl⟩)
      refine vl_call (C := []) rfl rfl (.some rfl) Try.call20 rfl .nil (fun w hw => xSame (ms.getD i rec0M) (ns.getD i rec0M) he (.inl ⟨hg1, hg2⟩) (PL.recL (N := N) (by rw [he]; exact hpl) (by omega)) (PL.recL hpl (by omega)) (PL.recB (N := N) (by rw [he]; exact hpl) (by omega)) (PL.recB hpl (by omega)) w ((hD5 w (hw.chunk (big l5) (In.mem (by repeat constructor)))).2 _ (recs_in (by omega))) ((hD8 w (hw.chunk (big l8) (In.mem (by repeat constructor)))).2 _ (recs_in hii))) (fun v H' h => ?_)
      obtain ⟨rfl, rfl⟩ := h
      show VL _ _ _ _ _ _
      refine vl_nil ?_
      refine ⟨fun _ => ⟨_, (by repeat (first | exact .nil | exact sub_self _ | exact sub_skip (sub_self _) | exact sub_skip (sub_skip (sub_self _)) | exact sub_skip (sub_skip (sub_skip (sub_self _))) | (apply Sub.cons; · repeat (first | exact .head | apply Take.tail))))⟩, ?_⟩
      refine vd_val rfl rfl rfl (.some rfl) (val_not rfl) ?_
      refine vd_nil ?_
      refine vc_cond rfl (fun h => by cases h) (fun _ => ?_)
      refine vc_skip ?_
      refine vc_region ?_
      refine vl_val rfl (.some rfl) (val_add rfl rfl (by first | exact w_i64 (by omega) (by omega) | rfl)) ?_
      refine vl_val rfl (.some rfl) (val_move rfl) ?_
      refine vl_nil ?_
      exact ⟨(ms.length - (i + 1)), _, _, _, by omega, (by repeat (first | exact trivial | refine ⟨rfl, ?_⟩ | refine ⟨le_item rfl (by first | rfl | (congr 1; omega) | (simp; done) | (simp; omega)), ?_⟩)), (by repeat constructor), ⟨i + 1, by omega, rfl, rfl, rfl⟩⟩
    · (try replace hc2 := of_decide_eq_false hc2)
      refine vc_exit ?_
      refine vc_seq ?_
      refine vc_region ?_
      refine vl_call (C := []) rfl rfl (.some rfl) Try.call14 rfl .nil (fun w hw => xLives w) (fun v H' h => ?_)
      obtain ⟨rfl, rfl⟩ := h
      show VL _ _ _ _ _ _
      refine vl_val rfl (.some rfl) (val_assign rfl) ?_
      refine vl_nil ?_
      refine vc_ret ?_
      refine ⟨_, [], _, res1 Try.results3 rfl, .nil, ?_⟩
      rfl

theorem law_RecordScans (B : Option Addr) (d : Nat) (b : List UInt8) (id : Nat) (w : World) (g21 : Reads w B (bcells b)) (g22 : b.length ≤ d) (g23 : b.length * 1 ≤ 140737488351232) (g24 : id < 18446744073709551616) :
    FnV Try.prog 3 [.slice B b.length d, .int .u64 id] (.bool true) w := xRScans B d b id g24 g22 (by omega) w g21


end Go.Proofs.Ytclnhfdgiaamhaa.K
