/- Walks of the program's functions, printed by a program of this session; Lean checks them. -/
import Derived.Test.YtibfngjfjddaiaaOd
namespace Go.Proofs.Ytibfngjfjddaiaa.K
open Go Go.RowKit Go.Proofs
set_option linter.unusedVariables false
set_option linter.unusedSimpArgs false

theorem itD_len : ∀ (q : Nat) (s : DSt) (b : List UInt8) (s' : DSt), itF stepD q s b = some s' → s'.acc.length ≤ s.acc.length + b.length
  | q, s, [], s', h => by rw [itF_nil rfl] at h; cases h; simp
  | 0, s, x :: t, s', h => by cases h
  | q + 1, s, x :: t, s', h => by
    by_cases h0 : (getN (x :: t)).2 = 0
    · rw [itF_bad (by simp) h0] at h; cases h
    · rw [itF_go (by simp) h0 rfl] at h
      have := itD_len q _ _ _ h
      have hb := getN_bd (x :: t)
      simp only [List.length_append, List.length_cons, List.length_nil, List.length_drop] at this ⊢ hb
      omega
theorem undL_len (b : List UInt8) : (undL b).length ≤ b.length := by
  unfold undL undeltO
  cases h : itF stepD b.length ⟨[], 0⟩ b with
  | none => simp
  | some s => have := itD_len _ _ _ _ h; simpa using this
theorem stepR_len {s s' : RS} {u : Nat} (h : stepR s u = some s') (hs : s.acc.length ≤ 100000) : s'.acc.length ≤ 100000 := by
  unfold stepR at h
  split at h
  · split at h
    · cases h
    · cases h; exact hs
  · split at h
    · cases h
    · cases h; simp only [List.length_append, List.length_replicate]; omega
theorem itR_len : ∀ (q : Nat) (s : RS) (b : List UInt8) (s' : RS), s.acc.length ≤ 100000 → itF stepR q s b = some s' → s'.acc.length ≤ 100000
  | q, s, [], s', hs, h => by rw [itF_nil rfl] at h; cases h; exact hs
  | 0, s, x :: t, s', _, h => by cases h
  | q + 1, s, x :: t, s', hs, h => by
    by_cases h0 : (getN (x :: t)).2 = 0
    · rw [itF_bad (by simp) h0] at h; cases h
    · cases he : stepR s (getN (x :: t)).1 with
      | none => rw [itF_stop (by simp) he] at h; cases h
      | some s2 => rw [itF_go (by simp) h0 he] at h; exact itR_len q _ _ _ (stepR_len he hs) h

theorem unrL_le (b : List UInt8) : (unrL b).length ≤ 100000 := by
  unfold unrL unrunsO
  cases h : itF stepR b.length ⟨[], 0, false⟩ b with
  | none => simp
  | some s =>
    have := itR_len _ _ _ _ (by simp) h
    simp only
    split
    · simp
    · simp only [Option.getD_some]; omega
theorem unpL_le (w n : Int) (b : List UInt8) : (unpL w n b).length ≤ 100000 := by
  unfold unpL unpO
  split
  · rename_i h
    cases e : unpackS w.toNat n.toNat b with
    | none => simp
    | some l =>
      have := (unpackS_lt (by omega) e).2
      simp only [Option.getD_some]; omega
  · simp
theorem unp_tell (w n : Int) (b : List UInt8) : (unpE w n b = 0 → unpO w n b = some (unpL w n b)) ∧ (unpE w n b ≠ 0 → unpO w n b = none) := by
  unfold unpE unpL
  by_cases h : (0 ≤ w ∧ w ≤ 64) ∧ 0 ≤ n ∧ n ≤ 100000
  · unfold unpO
    rw [if_pos h, if_pos h]
    cases e : unpackS w.toNat n.toNat b with
    | none => exact ⟨fun h => (by cases h), fun _ => rfl⟩
    | some l => exact ⟨fun _ => rfl, fun h => absurd rfl h⟩
  · unfold unpO
    rw [if_neg h, if_neg h]
    exact ⟨fun h => (by cases h), fun _ => rfl⟩
theorem unr_tell (b : List UInt8) : (unrE b = 0 → unrunsO b = some (unrL b)) ∧ (unrE b ≠ 0 → unrunsO b = none) := by
  unfold unrE unrL
  cases unrunsO b with
  | none => exact ⟨fun h => (by cases h), fun _ => rfl⟩
  | some l => exact ⟨fun _ => rfl, fun h => absurd rfl h⟩
theorem und_tell (b : List UInt8) : (undE b = 0 → undeltO b = some (undL b)) ∧ (undE b ≠ 0 → undeltO b = none) := by
  unfold undE undL
  cases undeltO b with
  | none => exact ⟨fun h => (by cases h), fun _ => rfl⟩
  | some l => exact ⟨fun _ => rfl, fun h => absurd rfl h⟩
/-- What was told of numbers, told of ids. -/
theorem tell_map {e : Int} {o : Option (List Nat)} {l : List Nat} {q : Option (List Int)} (h : (e = 0 → o = some l) ∧ (e ≠ 0 → o = none)) (hq : q = o.map (·.map capI)) : (e = 0 → q = some (l.map capI)) ∧ (e ≠ 0 → q = none) := by
  subst hq
  exact ⟨fun h0 => by rw [h.1 h0]; rfl, fun h0 => by rw [h.2 h0]; rfl⟩
theorem unp1_tell {n : Nat} (hn : n ≤ 100000) (b : List UInt8) : (unpE 1 n b = 0 → unpackS 1 n b = some (unpL 1 n b)) ∧ (unpE 1 n b ≠ 0 → unpackS 1 n b = none) := by
  have h := unp_tell 1 n b
  have e : unpO 1 (n : Int) b = unpackS 1 n b := by
    unfold unpO
    rw [if_pos (by omega), Int.toNat_natCast]; rfl
  rw [e] at h
  exact h
theorem capI_512 {L : List Nat} {i : Nat} (h : i < L.length) (hu : 512 ≤ L.getD i 0) : ∃ u ∈ L.map capI, u = 512 :=
  ⟨capI (L.getD i 0), List.mem_map.2 ⟨_, getD_mem 0 h, rfl⟩, by unfold capI; omega⟩

set_option maxRecDepth 20000 in
theorem cRead (A : Option Addr) (c : Nat) (b : List UInt8) (n : Nat) (hb : b.length ≤ 1000000000) (hbc : b.length ≤ c) (w : World) (hr : Reads w A (bcells b)) : Fn Try.prog 69 [.slice A b.length c, .int .i64 n] [] (ret fun v H' => ∃ A' c' l e, v = .tuple #[.slice A' (l : List Int).length c', .int .i64 e] ∧ l.length ≤ 1000000000 ∧ (e = 0 → readO n b = some l) ∧ (e ≠ 0 → readO n b = none) ∧ H' = [IW A' l.length c' l]) w := by
  have hx0 := (b.getD 0 0).toNat_lt
  have hx1 := (b.getD 1 0).toNat_lt
  refine fn_enter Try.func69 rfl Try.ntmps69 rfl ?_
  refine vc_seq ?_
  refine vc_region ?_
  refine vl_val rfl (.some rfl) (val_assign rfl) ?_
  refine vl_val rfl (.some rfl) (val_assign rfl) ?_
  refine vl_nil ?_
  refine vc_seq ?_
  refine vc_region ?_
  refine vl_val rfl (.some rfl) (val_assign rfl) ?_
  refine vl_nilSl 96 1 ?_
  refine vl_nil ?_
  refine vc_seq ?_
  refine vc_region ?_
  refine vl_val rfl (.some rfl) (val_assign rfl) ?_
  refine vl_nil ?_
  refine vc_seq ?_
  refine vc_block ?_
  refine vc_seq ?_
  refine vc_region ?_
  refine vl_val rfl (.some rfl) (val_move rfl) ?_
  refine vl_val rfl (.some rfl) (val_lenSl Try.runUnderlying59 rfl) ?_
  refine vl_val rfl (.some rfl) (val_eq rfl rfl) ?_
  refine vl_val rfl (.some rfl) (val_assign rfl) ?_
  refine vl_nil ?_
  refine vc_cond rfl (fun hc0 => ?_) (fun hc0 => ?_)
  · (try replace hc0 := of_decide_eq_true hc0)
    let A6 : Option Addr := none
    let c6 : Nat := 0
    let L6 : List Nat := []
    let e6 : Int := 8
    have hL6 : L6.length ≤ 100000 := by decide
    have hfin : (e6 = 0 → readO n b = some (L6.map capI)) ∧ (e6 ≠ 0 → readO n b = none) := ⟨fun h => absurd h (show ¬ (8 : Int) = 0 by decide), fun _ => by first | exact readO_nil (by omega) | exact readO_0n (by omega) (by omega) | exact readO_x (by omega) (by omega) (by omega) (by omega) | (exfalso; omega)⟩
    refine vc_skip ?_
    refine vc_seq ?_
    refine vc_region ?_
    refine vl_val rfl (.some rfl) (val_assign rfl) ?_
    refine vl_nilSl 3 1 ?_
    refine vl_nil ?_
    refine vc_seq ?_
    refine vc_seq ?_
    refine vc_region ?_
    refine vl_val rfl (.some rfl) (val_move rfl) ?_
    refine vl_val rfl (.some rfl) (val_lenSl Try.runUnderlying95 rfl) ?_
    refine vl_val rfl (.some rfl) (val_move rfl) ?_
    refine vl_nil ?_
    refine vc_block ?_
    refine vc_loopw (fun k E H => ∃ (i : Nat) (A8 : Option Addr) (c8 : Nat), i ≤ L6.length ∧ k = L6.length - i ∧ E = [(7, .int .i64 e6), (8, .slice A8 ((L6.take i).map capI).length c8), (57, .slice A6 L6.length c6), (58, .int .i64 L6.length), (59, .int .i64 i)] ∧ H = [IW A8 ((L6.take i).map capI).length c8 ((L6.take i).map capI), UW A6 L6.length c6 L6]) (L6.length) ⟨_, _, _, ⟨0, none, 0, by omega, rfl, rfl, rfl⟩, (by repeat (first | exact trivial | refine ⟨rfl, ?_⟩ | refine ⟨le_item rfl (by first | rfl | (congr 1; omega) | (simp; done) | (simp; omega)), ?_⟩)), (by repeat (first | exact .nil | (apply Sub.cons; · repeat (first | exact .head | apply Take.tail))))⟩ ?_
    intro k E H hI
    obtain ⟨i, A8, c8, hil, rfl, rfl, rfl⟩ := hI
    refine vc_seq ?_
    refine vc_region ?_
    refine vl_val rfl (.some rfl) (val_lt rfl rfl) ?_
    refine vl_nil ?_
    refine vc_seq ?_
    refine vc_cond rfl (fun hc4 => ?_) (fun hc4 => ?_)
    · (try replace hc4 := of_decide_eq_true hc4)
      have hi6 : i < L6.length := by omega
      have hi7 : ((L6.take i).map capI).length = i := by simp; omega
      refine vc_skip ?_
      refine vc_seq ?_
      refine vc_block ?_
      refine vc_seq ?_
      refine vc_region ?_
      refine vl_val rfl (.some rfl) (val_indexAddr Try.runUnderlying95 Try.sizeOf96 rfl rfl (by first | exact rd_sl (by repeat (first | exact .head | apply In.tail | apply Take.tail | apply Upd.tail)) | exact rd_slr (by repeat (first | exact .head | apply In.tail | apply Take.tail | apply Upd.tail)) | exact rd_old (by assumption) rfl) (by omega) (by omega) (by first | omega | (simp only [bcells_length, icells_length, ucells_length, tcells_length]; omega) | (simp only [bcells_length, icells_length, ucells_length, tcells_length, fillG_length]; omega) | (simp; omega))) ?_
      refine vl_val rfl (.some rfl) (val_load Try.isAgg96 rfl (by first | exact cell_cells (by repeat (first | exact .head | apply In.tail | apply Take.tail | apply Upd.tail)) rfl | exact cell_rd (rd_sl (by repeat (first | exact .head | apply In.tail | apply Take.tail | apply Upd.tail))) (by first | exact bcells_at (by omega) | exact ucells_at (by omega) | exact icells_at (by omega) | exact tcells_at (by omega) | exact bcells_get (by omega) | exact icells_get (by omega) | exact tcells_get (by omega) | exact ucells_get (by omega)) | exact cell_rd (rd_old (by assumption) rfl) (by first | exact bcells_at (by omega) | exact ucells_at (by omega) | exact icells_at (by omega) | exact tcells_at (by omega) | exact bcells_get (by omega) | exact icells_get (by omega) | exact tcells_get (by omega) | exact ucells_get (by omega)) | exact cell_old (by assumption) (by simp [fps]))) ?_
      refine vl_val rfl (.some rfl) (val_assign rfl) ?_
      refine vl_nil ?_
      refine vc_region ?_
      refine vl_val rfl (.some rfl) (val_move rfl) ?_
      refine vl_val rfl (.some rfl) (val_move rfl) ?_
      refine vl_val rfl (.some rfl) (val_min rfl rfl) ?_
      refine vl_val rfl (.some rfl) (val_convInt Try.runUnderlying96 Try.runUnderlying3 rfl (show _ = capI (L6.getD i 0) by unfold capI; rw [w_i64 (by omega) (by omega)]; omega)) ?_
      refine vl_lit sT56 rfl rfl (.some rfl) rfl rfl rfl (by decide) (by decide) rfl (flat_one rfl) (fun r67 => ?_)
      refine vl_append sT56 rfl rfl (.some rfl) rfl rfl (rd_sl (by repeat (first | exact .head | apply In.tail | apply Take.tail | apply Upd.tail))) (by first | rfl | simp) (by first | rfl | exact one_i _) (by omega) (by omega) (by repeat (first | exact .head | apply In.tail | apply Take.tail | apply Upd.tail)) (fun A68 k68 => ?_)
      rw [pushc hi6 rfl, show ((L6.take i).map capI).length + 1 = ((L6.take (i + 1)).map capI).length by simp; omega]
      refine vl_val rfl (.some rfl) (val_assign rfl) ?_
      refine vl_nil ?_
      refine vc_region ?_
      refine vl_val rfl (.some rfl) (val_add rfl rfl (by first | exact w_i64 (by omega) (by omega) | rfl)) ?_
      refine vl_val rfl (.some rfl) (val_move rfl) ?_
      refine vl_nil ?_
      exact ⟨L6.length - (i + 1), _, _, _, by omega, (by repeat (first | exact trivial | refine ⟨rfl, ?_⟩ | refine ⟨le_item rfl (by first | rfl | (congr 1; omega) | (simp; done) | (simp; omega)), ?_⟩)), (by repeat (first | exact .nil | (apply Sub.cons; · repeat (first | exact .head | apply Take.tail)))), ⟨i + 1, A68, k68, by omega, rfl, rfl, rfl⟩⟩
    · (try replace hc4 := of_decide_eq_false hc4)
      obtain rfl : i = L6.length := by omega
      rw [List.take_length]
      refine vc_exit ?_
      refine vc_seq ?_
      refine vc_region ?_
      refine vl_val rfl (.some rfl) (val_move rfl) ?_
      refine vl_val rfl (.some rfl) (val_move rfl) ?_
      refine vl_val rfl (.some rfl) (val_assign rfl) ?_
      refine vl_val rfl (.some rfl) (val_assign rfl) ?_
      refine vl_nil ?_
      refine vc_ret ?_
      refine ⟨_, [IW A8 (L6.map capI).length c8 (L6.map capI)], _, res2 Try.results69 rfl rfl, (by repeat (first | exact .nil | (apply Sub.cons; · repeat (first | exact .head | apply Take.tail)))), ?_⟩
      exact ⟨A8, c8, L6.map capI, e6, rfl, by simp; omega, hfin.1, hfin.2, rfl⟩
  · (try replace hc0 := of_decide_eq_false hc0)
    refine vc_seq ?_
    refine vc_region ?_
    refine vl_val rfl (.some rfl) (val_move rfl) ?_
    refine vl_val rfl (.some rfl) (val_indexAddr Try.runUnderlying59 Try.sizeOf5 rfl rfl (by first | exact rd_sl (by repeat (first | exact .head | apply In.tail | apply Take.tail | apply Upd.tail)) | exact rd_slr (by repeat (first | exact .head | apply In.tail | apply Take.tail | apply Upd.tail)) | exact rd_old (by assumption) rfl) (by omega) (by omega) (by first | omega | (simp only [bcells_length, icells_length, ucells_length, tcells_length]; omega) | (simp only [bcells_length, icells_length, ucells_length, tcells_length, fillG_length]; omega) | (simp; omega))) ?_
    refine vl_val rfl (.some rfl) (val_load Try.isAgg5 rfl (cell_rd (rd_old hr rfl) (bcells_of (p := 0) (by omega) (by omega)))) ?_
    refine vl_val rfl (.some rfl) (val_eq rfl rfl) ?_
    refine vl_val rfl (.some rfl) (val_move rfl) ?_
    refine vl_split (t := 20) rfl (fun hg20 => ?_) (fun hg20 => ?_)
    · (try replace hg20 := of_decide_eq_true hg20)
      refine vl_on rfl rfl rfl rfl ?_
      refine vl_val rfl (.some rfl) (val_move rfl) ?_
      refine vl_on rfl rfl rfl rfl ?_
      refine vl_val rfl (.some rfl) (val_lenSl Try.runUnderlying59 rfl) ?_
      refine vl_on rfl rfl rfl rfl ?_
      refine vl_val rfl (.some rfl) (val_gt rfl rfl) ?_
      refine vl_val rfl (.some rfl) (val_pick rfl rfl) ?_
      refine vl_val rfl (.some rfl) (val_assign rfl) ?_
      refine vl_nil ?_
      refine vc_cond rfl (fun hc1 => ?_) (fun hc1 => ?_)
      · (try replace hc1 := of_decide_eq_true hc1)
        refine vc_draws [0, 1, 2, 3, 4, 5, 6, 8, 9, 10, 11, 12] [] [0, 1, 2, 3, 4, 5, 6, 7, 8, 9, 10, 11, 12] rfl (by kernel_rfl) (fun _ _ _ h => h) ?_
        refine vd_val rfl rfl rfl (.some rfl) (val_move rfl) ?_
        refine vd_val rfl rfl rfl (.some rfl) (val_indexAddr Try.runUnderlying59 Try.sizeOf5 rfl rfl (by first | exact rd_sl (by repeat (first | exact .head | apply In.tail | apply Take.tail | apply Upd.tail)) | exact rd_slr (by repeat (first | exact .head | apply In.tail | apply Take.tail | apply Upd.tail)) | exact rd_old (by assumption) rfl) (by omega) (by omega) (by first | omega | (simp only [bcells_length, icells_length, ucells_length, tcells_length]; omega) | (simp only [bcells_length, icells_length, ucells_length, tcells_length, fillG_length]; omega) | (simp; omega))) ?_
        refine vd_val rfl rfl rfl (.some rfl) (val_load Try.isAgg5 rfl (cell_rd (rd_old hr rfl) (bcells_of (p := 1) (by omega) (by omega)))) ?_
        refine vd_val rfl rfl rfl (.some rfl) (val_convInt Try.runUnderlying5 Try.runUnderlying3 rfl (by first | exact w_i64 (by omega) (by omega) | rfl)) ?_
        refine vd_val rfl rfl rfl (.some rfl) (val_move rfl) ?_
        refine vd_val rfl rfl rfl (.some rfl) (val_move rfl) ?_
        refine vd_val rfl rfl rfl (.some rfl) (val_cutFrom Try.runUnderlying59 Try.sizeOf5 rfl rfl (by omega) (by omega)) ?_
        refine vd_op rfl rfl ?_
        rw [show Int.toNat 2 = 2 from rfl, show b.length - 2 = (b.drop 2).length by rw [List.length_drop]]
        refine vl_call (C := []) rfl rfl (.some rfl) Try.call68 rfl .nil (fun w hw => cUnpack (b.getD 1 0).toNat n (cutA A c 2 1) (c - 2) (b.drop 2) (by rw [List.length_drop]; omega) w (rdw (rd_old (reads_cutB hr hbc) rfl) hw)) (fun v H' h => ?_)
        obtain ⟨A6, c6, rfl, rfl⟩ := h
        have hfin : (unpE (b.getD 1 0).toNat n (b.drop 2) = 0 → readO n b = some ((unpL (b.getD 1 0).toNat n (b.drop 2)).map capI)) ∧ (unpE (b.getD 1 0).toNat n (b.drop 2) ≠ 0 → readO n b = none) := by first | exact tell_map (unp_tell _ _ _) (readO_0 (by omega) (by omega)) | (exfalso; omega)
        have hL6 : (unpL (b.getD 1 0).toNat n (b.drop 2)).length ≤ 100000 := unpL_le _ _ _
        generalize unpL (b.getD 1 0).toNat n (b.drop 2) = L6 at hfin hL6 ⊢
        generalize unpE (b.getD 1 0).toNat n (b.drop 2) = e6 at hfin ⊢
        show VL _ _ _ _ _ (_ :: _)
        refine vl_nil ?_
        refine ⟨fun _ => ⟨_, (by repeat (first | exact .nil | (apply Sub.cons; · repeat (first | exact .head | apply Take.tail))))⟩, ?_⟩
        refine vd_val rfl rfl rfl (.some rfl) (val_move rfl) ?_
        refine vd_val rfl rfl rfl (.some rfl) (val_extract rfl rfl) ?_
        refine vd_val rfl rfl rfl (.some rfl) (val_extract rfl rfl) ?_
        refine vd_val rfl rfl rfl (.some rfl) (val_assign rfl) ?_
        refine vd_val rfl rfl rfl (.some rfl) (val_assign rfl) ?_
        refine vd_nil ?_
        refine vc_seq ?_
        refine vc_region ?_
        refine vl_val rfl (.some rfl) (val_assign rfl) ?_
        refine vl_nilSl 3 1 ?_
        refine vl_nil ?_
        refine vc_seq ?_
        refine vc_seq ?_
        refine vc_region ?_
        refine vl_val rfl (.some rfl) (val_move rfl) ?_
        refine vl_val rfl (.some rfl) (val_lenSl Try.runUnderlying95 rfl) ?_
        refine vl_val rfl (.some rfl) (val_move rfl) ?_
        refine vl_nil ?_
        refine vc_block ?_
        refine vc_loopw (fun k E H => ∃ (i : Nat) (A8 : Option Addr) (c8 : Nat), i ≤ L6.length ∧ k = L6.length - i ∧ E = [(7, .int .i64 e6), (8, .slice A8 ((L6.take i).map capI).length c8), (57, .slice A6 L6.length c6), (58, .int .i64 L6.length), (59, .int .i64 i)] ∧ H = [IW A8 ((L6.take i).map capI).length c8 ((L6.take i).map capI), UW A6 L6.length c6 L6]) (L6.length) ⟨_, _, _, ⟨0, none, 0, by omega, rfl, rfl, rfl⟩, (by repeat (first | exact trivial | refine ⟨rfl, ?_⟩ | refine ⟨le_item rfl (by first | rfl | (congr 1; omega) | (simp; done) | (simp; omega)), ?_⟩)), (by repeat (first | exact .nil | (apply Sub.cons; · repeat (first | exact .head | apply Take.tail))))⟩ ?_
        intro k E H hI
        obtain ⟨i, A8, c8, hil, rfl, rfl, rfl⟩ := hI
        refine vc_seq ?_
        refine vc_region ?_
        refine vl_val rfl (.some rfl) (val_lt rfl rfl) ?_
        refine vl_nil ?_
        refine vc_seq ?_
        refine vc_cond rfl (fun hc4 => ?_) (fun hc4 => ?_)
        · (try replace hc4 := of_decide_eq_true hc4)
          have hi6 : i < L6.length := by omega
          have hi7 : ((L6.take i).map capI).length = i := by simp; omega
          refine vc_skip ?_
          refine vc_seq ?_
          refine vc_block ?_
          refine vc_seq ?_
          refine vc_region ?_
          refine vl_val rfl (.some rfl) (val_indexAddr Try.runUnderlying95 Try.sizeOf96 rfl rfl (by first | exact rd_sl (by repeat (first | exact .head | apply In.tail | apply Take.tail | apply Upd.tail)) | exact rd_slr (by repeat (first | exact .head | apply In.tail | apply Take.tail | apply Upd.tail)) | exact rd_old (by assumption) rfl) (by omega) (by omega) (by first | omega | (simp only [bcells_length, icells_length, ucells_length, tcells_length]; omega) | (simp only [bcells_length, icells_length, ucells_length, tcells_length, fillG_length]; omega) | (simp; omega))) ?_
          refine vl_val rfl (.some rfl) (val_load Try.isAgg96 rfl (by first | exact cell_cells (by repeat (first | exact .head | apply In.tail | apply Take.tail | apply Upd.tail)) rfl | exact cell_rd (rd_sl (by repeat (first | exact .head | apply In.tail | apply Take.tail | apply Upd.tail))) (by first | exact bcells_at (by omega) | exact ucells_at (by omega) | exact icells_at (by omega) | exact tcells_at (by omega) | exact bcells_get (by omega) | exact icells_get (by omega) | exact tcells_get (by omega) | exact ucells_get (by omega)) | exact cell_rd (rd_old (by assumption) rfl) (by first | exact bcells_at (by omega) | exact ucells_at (by omega) | exact icells_at (by omega) | exact tcells_at (by omega) | exact bcells_get (by omega) | exact icells_get (by omega) | exact tcells_get (by omega) | exact ucells_get (by omega)) | exact cell_old (by assumption) (by simp [fps]))) ?_
          refine vl_val rfl (.some rfl) (val_assign rfl) ?_
          refine vl_nil ?_
          refine vc_region ?_
          refine vl_val rfl (.some rfl) (val_move rfl) ?_
          refine vl_val rfl (.some rfl) (val_move rfl) ?_
          refine vl_val rfl (.some rfl) (val_min rfl rfl) ?_
          refine vl_val rfl (.some rfl) (val_convInt Try.runUnderlying96 Try.runUnderlying3 rfl (show _ = capI (L6.getD i 0) by unfold capI; rw [w_i64 (by omega) (by omega)]; omega)) ?_
          refine vl_lit sT56 rfl rfl (.some rfl) rfl rfl rfl (by decide) (by decide) rfl (flat_one rfl) (fun r67 => ?_)
          refine vl_append sT56 rfl rfl (.some rfl) rfl rfl (rd_sl (by repeat (first | exact .head | apply In.tail | apply Take.tail | apply Upd.tail))) (by first | rfl | simp) (by first | rfl | exact one_i _) (by omega) (by omega) (by repeat (first | exact .head | apply In.tail | apply Take.tail | apply Upd.tail)) (fun A68 k68 => ?_)
          rw [pushc hi6 rfl, show ((L6.take i).map capI).length + 1 = ((L6.take (i + 1)).map capI).length by simp; omega]
          refine vl_val rfl (.some rfl) (val_assign rfl) ?_
          refine vl_nil ?_
          refine vc_region ?_
          refine vl_val rfl (.some rfl) (val_add rfl rfl (by first | exact w_i64 (by omega) (by omega) | rfl)) ?_
          refine vl_val rfl (.some rfl) (val_move rfl) ?_
          refine vl_nil ?_
          exact ⟨L6.length - (i + 1), _, _, _, by omega, (by repeat (first | exact trivial | refine ⟨rfl, ?_⟩ | refine ⟨le_item rfl (by first | rfl | (congr 1; omega) | (simp; done) | (simp; omega)), ?_⟩)), (by repeat (first | exact .nil | (apply Sub.cons; · repeat (first | exact .head | apply Take.tail)))), ⟨i + 1, A68, k68, by omega, rfl, rfl, rfl⟩⟩
        · (try replace hc4 := of_decide_eq_false hc4)
          obtain rfl : i = L6.length := by omega
          rw [List.take_length]
          refine vc_exit ?_
          refine vc_seq ?_
          refine vc_region ?_
          refine vl_val rfl (.some rfl) (val_move rfl) ?_
          refine vl_val rfl (.some rfl) (val_move rfl) ?_
          refine vl_val rfl (.some rfl) (val_assign rfl) ?_
          refine vl_val rfl (.some rfl) (val_assign rfl) ?_
          refine vl_nil ?_
          refine vc_ret ?_
          refine ⟨_, [IW A8 (L6.map capI).length c8 (L6.map capI)], _, res2 Try.results69 rfl rfl, (by repeat (first | exact .nil | (apply Sub.cons; · repeat (first | exact .head | apply Take.tail)))), ?_⟩
          exact ⟨A8, c8, L6.map capI, e6, rfl, by simp; omega, hfin.1, hfin.2, rfl⟩
      · (try replace hc1 := of_decide_eq_false hc1)
        refine vc_seq ?_
        refine vc_region ?_
        refine vl_val rfl (.some rfl) (val_move rfl) ?_
        refine vl_val rfl (.some rfl) (val_indexAddr Try.runUnderlying59 Try.sizeOf5 rfl rfl (by first | exact rd_sl (by repeat (first | exact .head | apply In.tail | apply Take.tail | apply Upd.tail)) | exact rd_slr (by repeat (first | exact .head | apply In.tail | apply Take.tail | apply Upd.tail)) | exact rd_old (by assumption) rfl) (by omega) (by omega) (by first | omega | (simp only [bcells_length, icells_length, ucells_length, tcells_length]; omega) | (simp only [bcells_length, icells_length, ucells_length, tcells_length, fillG_length]; omega) | (simp; omega))) ?_
        refine vl_val rfl (.some rfl) (val_load Try.isAgg5 rfl (cell_rd (rd_old hr rfl) (bcells_of (p := 0) (by omega) (by omega)))) ?_
        refine vl_val rfl (.some rfl) (val_eq rfl rfl) ?_
        refine vl_val rfl (.some rfl) (val_assign rfl) ?_
        refine vl_nil ?_
        refine vc_cond rfl (fun hc2 => ?_) (fun hc2 => ?_)
        · (try replace hc2 := of_decide_eq_true hc2)
          refine vc_region ?_
          refine vl_val rfl (.some rfl) (val_move rfl) ?_
          refine vl_val rfl (.some rfl) (val_cutFrom Try.runUnderlying59 Try.sizeOf5 rfl rfl (by omega) (by omega)) ?_
          rw [show Int.toNat 1 = 1 from rfl, show b.length - 1 = (b.drop 1).length by rw [List.length_drop]]
          refine vl_call (C := []) rfl rfl (.some rfl) Try.call89 rfl .nil (fun w hw => cUnruns (cutA A c 1 1) (c - 1) (b.drop 1) (by rw [List.length_drop]; omega) (by rw [List.length_drop]; omega) w (rdw (rd_old (reads_cutB hr hbc) rfl) hw)) (fun v H' h => ?_)
          obtain ⟨A6, c6, rfl, rfl⟩ := h
          have hfin : (unrE (b.drop 1) = 0 → readO n b = some ((unrL (b.drop 1)).map capI)) ∧ (unrE (b.drop 1) ≠ 0 → readO n b = none) := by first | exact tell_map (unr_tell _) (readO_1 (by omega) (by omega)) | (exfalso; omega)
          have hL6 : (unrL (b.drop 1)).length ≤ 100000 := unrL_le _
          generalize unrL (b.drop 1) = L6 at hfin hL6 ⊢
          generalize unrE (b.drop 1) = e6 at hfin ⊢
          show VL _ _ _ _ _ (_ :: _)
          refine vl_val rfl (.some rfl) (val_move rfl) ?_
          refine vl_val rfl (.some rfl) (val_extract rfl rfl) ?_
          refine vl_val rfl (.some rfl) (val_extract rfl rfl) ?_
          refine vl_val rfl (.some rfl) (val_assign rfl) ?_
          refine vl_val rfl (.some rfl) (val_assign rfl) ?_
          refine vl_nil ?_
          refine vc_seq ?_
          refine vc_region ?_
          refine vl_val rfl (.some rfl) (val_assign rfl) ?_
          refine vl_nilSl 3 1 ?_
          refine vl_nil ?_
          refine vc_seq ?_
          refine vc_seq ?_
          refine vc_region ?_
          refine vl_val rfl (.some rfl) (val_move rfl) ?_
          refine vl_val rfl (.some rfl) (val_lenSl Try.runUnderlying95 rfl) ?_
          refine vl_val rfl (.some rfl) (val_move rfl) ?_
          refine vl_nil ?_
          refine vc_block ?_
          refine vc_loopw (fun k E H => ∃ (i : Nat) (A8 : Option Addr) (c8 : Nat), i ≤ L6.length ∧ k = L6.length - i ∧ E = [(7, .int .i64 e6), (8, .slice A8 ((L6.take i).map capI).length c8), (57, .slice A6 L6.length c6), (58, .int .i64 L6.length), (59, .int .i64 i)] ∧ H = [IW A8 ((L6.take i).map capI).length c8 ((L6.take i).map capI), UW A6 L6.length c6 L6]) (L6.length) ⟨_, _, _, ⟨0, none, 0, by omega, rfl, rfl, rfl⟩, (by repeat (first | exact trivial | refine ⟨rfl, ?_⟩ | refine ⟨le_item rfl (by first | rfl | (congr 1; omega) | (simp; done) | (simp; omega)), ?_⟩)), (by repeat (first | exact .nil | (apply Sub.cons; · repeat (first | exact .head | apply Take.tail))))⟩ ?_
          intro k E H hI
          obtain ⟨i, A8, c8, hil, rfl, rfl, rfl⟩ := hI
          refine vc_seq ?_
          refine vc_region ?_
          refine vl_val rfl (.some rfl) (val_lt rfl rfl) ?_
          refine vl_nil ?_
          refine vc_seq ?_
          refine vc_cond rfl (fun hc4 => ?_) (fun hc4 => ?_)
          · (try replace hc4 := of_decide_eq_true hc4)
            have hi6 : i < L6.length := by omega
            have hi7 : ((L6.take i).map capI).length = i := by simp; omega
            refine vc_skip ?_
            refine vc_seq ?_
            refine vc_block ?_
            refine vc_seq ?_
            refine vc_region ?_
            refine vl_val rfl (.some rfl) (val_indexAddr Try.runUnderlying95 Try.sizeOf96 rfl rfl (by first | exact rd_sl (by repeat (first | exact .head | apply In.tail | apply Take.tail | apply Upd.tail)) | exact rd_slr (by repeat (first | exact .head | apply In.tail | apply Take.tail | apply Upd.tail)) | exact rd_old (by assumption) rfl) (by omega) (by omega) (by first | omega | (simp only [bcells_length, icells_length, ucells_length, tcells_length]; omega) | (simp only [bcells_length, icells_length, ucells_length, tcells_length, fillG_length]; omega) | (simp; omega))) ?_
            refine vl_val rfl (.some rfl) (val_load Try.isAgg96 rfl (by first | exact cell_cells (by repeat (first | exact .head | apply In.tail | apply Take.tail | apply Upd.tail)) rfl | exact cell_rd (rd_sl (by repeat (first | exact .head | apply In.tail | apply Take.tail | apply Upd.tail))) (by first | exact bcells_at (by omega) | exact ucells_at (by omega) | exact icells_at (by omega) | exact tcells_at (by omega) | exact bcells_get (by omega) | exact icells_get (by omega) | exact tcells_get (by omega) | exact ucells_get (by omega)) | exact cell_rd (rd_old (by assumption) rfl) (by first | exact bcells_at (by omega) | exact ucells_at (by omega) | exact icells_at (by omega) | exact tcells_at (by omega) | exact bcells_get (by omega) | exact icells_get (by omega) | exact tcells_get (by omega) | exact ucells_get (by omega)) | exact cell_old (by assumption) (by simp [fps]))) ?_
            refine vl_val rfl (.some rfl) (val_assign rfl) ?_
            refine vl_nil ?_
            refine vc_region ?_
            refine vl_val rfl (.some rfl) (val_move rfl) ?_
            refine vl_val rfl (.some rfl) (val_move rfl) ?_
            refine vl_val rfl (.some rfl) (val_min rfl rfl) ?_
            refine vl_val rfl (.some rfl) (val_convInt Try.runUnderlying96 Try.runUnderlying3 rfl (show _ = capI (L6.getD i 0) by unfold capI; rw [w_i64 (by omega) (by omega)]; omega)) ?_
            refine vl_lit sT56 rfl rfl (.some rfl) rfl rfl rfl (by decide) (by decide) rfl (flat_one rfl) (fun r67 => ?_)
            refine vl_append sT56 rfl rfl (.some rfl) rfl rfl (rd_sl (by repeat (first | exact .head | apply In.tail | apply Take.tail | apply Upd.tail))) (by first | rfl | simp) (by first | rfl | exact one_i _) (by omega) (by omega) (by repeat (first | exact .head | apply In.tail | apply Take.tail | apply Upd.tail)) (fun A68 k68 => ?_)
            rw [pushc hi6 rfl, show ((L6.take i).map capI).length + 1 = ((L6.take (i + 1)).map capI).length by simp; omega]
            refine vl_val rfl (.some rfl) (val_assign rfl) ?_
            refine vl_nil ?_
            refine vc_region ?_
            refine vl_val rfl (.some rfl) (val_add rfl rfl (by first | exact w_i64 (by omega) (by omega) | rfl)) ?_
            refine vl_val rfl (.some rfl) (val_move rfl) ?_
            refine vl_nil ?_
            exact ⟨L6.length - (i + 1), _, _, _, by omega, (by repeat (first | exact trivial | refine ⟨rfl, ?_⟩ | refine ⟨le_item rfl (by first | rfl | (congr 1; omega) | (simp; done) | (simp; omega)), ?_⟩)), (by repeat (first | exact .nil | (apply Sub.cons; · repeat (first | exact .head | apply Take.tail)))), ⟨i + 1, A68, k68, by omega, rfl, rfl, rfl⟩⟩
          · (try replace hc4 := of_decide_eq_false hc4)
            obtain rfl : i = L6.length := by omega
            rw [List.take_length]
            refine vc_exit ?_
            refine vc_seq ?_
            refine vc_region ?_
            refine vl_val rfl (.some rfl) (val_move rfl) ?_
            refine vl_val rfl (.some rfl) (val_move rfl) ?_
            refine vl_val rfl (.some rfl) (val_assign rfl) ?_
            refine vl_val rfl (.some rfl) (val_assign rfl) ?_
            refine vl_nil ?_
            refine vc_ret ?_
            refine ⟨_, [IW A8 (L6.map capI).length c8 (L6.map capI)], _, res2 Try.results69 rfl rfl, (by repeat (first | exact .nil | (apply Sub.cons; · repeat (first | exact .head | apply Take.tail)))), ?_⟩
            exact ⟨A8, c8, L6.map capI, e6, rfl, by simp; omega, hfin.1, hfin.2, rfl⟩
        · (try replace hc2 := of_decide_eq_false hc2)
          refine vc_seq ?_
          refine vc_region ?_
          refine vl_val rfl (.some rfl) (val_move rfl) ?_
          refine vl_val rfl (.some rfl) (val_indexAddr Try.runUnderlying59 Try.sizeOf5 rfl rfl (by first | exact rd_sl (by repeat (first | exact .head | apply In.tail | apply Take.tail | apply Upd.tail)) | exact rd_slr (by repeat (first | exact .head | apply In.tail | apply Take.tail | apply Upd.tail)) | exact rd_old (by assumption) rfl) (by omega) (by omega) (by first | omega | (simp only [bcells_length, icells_length, ucells_length, tcells_length]; omega) | (simp only [bcells_length, icells_length, ucells_length, tcells_length, fillG_length]; omega) | (simp; omega))) ?_
          refine vl_val rfl (.some rfl) (val_load Try.isAgg5 rfl (cell_rd (rd_old hr rfl) (bcells_of (p := 0) (by omega) (by omega)))) ?_
          refine vl_val rfl (.some rfl) (val_eq rfl rfl) ?_
          refine vl_val rfl (.some rfl) (val_assign rfl) ?_
          refine vl_nil ?_
          refine vc_cond rfl (fun hc3 => ?_) (fun hc3 => ?_)
          · (try replace hc3 := of_decide_eq_true hc3)
            refine vc_seq ?_
            refine vc_region ?_
            refine vl_val rfl (.some rfl) (val_move rfl) ?_
            refine vl_val rfl (.some rfl) (val_cutFrom Try.runUnderlying59 Try.sizeOf5 rfl rfl (by omega) (by omega)) ?_
            rw [show Int.toNat 1 = 1 from rfl, show b.length - 1 = (b.drop 1).length by rw [List.length_drop]]
            refine vl_call (C := []) rfl rfl (.some rfl) Try.call90 rfl .nil (fun w hw => cUndeltas (cutA A c 1 1) (c - 1) (b.drop 1) (by rw [List.length_drop]; omega) (by rw [List.length_drop]; omega) w (rdw (rd_old (reads_cutB hr hbc) rfl) hw)) (fun v H' h => ?_)
            obtain ⟨A6, c6, rfl, rfl⟩ := h
            have hfin : (undE (b.drop 1) = 0 → readO n b = some (undL (b.drop 1))) ∧ (undE (b.drop 1) ≠ 0 → readO n b = none) := by first | (rw [readO_2 (by omega) (by omega)]; exact und_tell _) | (exfalso; omega)
            have hL6 : (undL (b.drop 1)).length ≤ 1000000000 := Nat.le_trans (undL_len _) (by rw [List.length_drop]; omega)
            generalize undL (b.drop 1) = L6 at hfin hL6 ⊢
            generalize undE (b.drop 1) = e6 at hfin ⊢
            show VL _ _ _ _ _ (_ :: _)
            refine vl_val rfl (.some rfl) (val_extract rfl rfl) ?_
            refine vl_val rfl (.some rfl) (val_extract rfl rfl) ?_
            refine vl_val rfl (.some rfl) (val_assign rfl) ?_
            refine vl_val rfl (.some rfl) (val_assign rfl) ?_
            refine vl_nil ?_
            refine vc_ret ?_
            refine ⟨_, [IW A6 L6.length c6 L6], _, res2 Try.results69 rfl rfl, (by repeat (first | exact .nil | (apply Sub.cons; · repeat (first | exact .head | apply Take.tail)))), ?_⟩
            exact ⟨A6, c6, L6, e6, rfl, hL6, hfin.1, hfin.2, rfl⟩
          · (try replace hc3 := of_decide_eq_false hc3)
            let A6 : Option Addr := none
            let c6 : Nat := 0
            let L6 : List Nat := []
            let e6 : Int := 8
            have hL6 : L6.length ≤ 100000 := by decide
            have hfin : (e6 = 0 → readO n b = some (L6.map capI)) ∧ (e6 ≠ 0 → readO n b = none) := ⟨fun h => absurd h (show ¬ (8 : Int) = 0 by decide), fun _ => by first | exact readO_nil (by omega) | exact readO_0n (by omega) (by omega) | exact readO_x (by omega) (by omega) (by omega) (by omega) | (exfalso; omega)⟩
            refine vc_skip ?_
            refine vc_seq ?_
            refine vc_region ?_
            refine vl_val rfl (.some rfl) (val_assign rfl) ?_
            refine vl_nilSl 3 1 ?_
            refine vl_nil ?_
            refine vc_seq ?_
            refine vc_seq ?_
            refine vc_region ?_
            refine vl_val rfl (.some rfl) (val_move rfl) ?_
            refine vl_val rfl (.some rfl) (val_lenSl Try.runUnderlying95 rfl) ?_
            refine vl_val rfl (.some rfl) (val_move rfl) ?_
            refine vl_nil ?_
            refine vc_block ?_
            refine vc_loopw (fun k E H => ∃ (i : Nat) (A8 : Option Addr) (c8 : Nat), i ≤ L6.length ∧ k = L6.length - i ∧ E = [(7, .int .i64 e6), (8, .slice A8 ((L6.take i).map capI).length c8), (57, .slice A6 L6.length c6), (58, .int .i64 L6.length), (59, .int .i64 i)] ∧ H = [IW A8 ((L6.take i).map capI).length c8 ((L6.take i).map capI), UW A6 L6.length c6 L6]) (L6.length) ⟨_, _, _, ⟨0, none, 0, by omega, rfl, rfl, rfl⟩, (by repeat (first | exact trivial | refine ⟨rfl, ?_⟩ | refine ⟨le_item rfl (by first | rfl | (congr 1; omega) | (simp; done) | (simp; omega)), ?_⟩)), (by repeat (first | exact .nil | (apply Sub.cons; · repeat (first | exact .head | apply Take.tail))))⟩ ?_
            intro k E H hI
            obtain ⟨i, A8, c8, hil, rfl, rfl, rfl⟩ := hI
            refine vc_seq ?_
            refine vc_region ?_
            refine vl_val rfl (.some rfl) (val_lt rfl rfl) ?_
            refine vl_nil ?_
            refine vc_seq ?_
            refine vc_cond rfl (fun hc4 => ?_) (fun hc4 => ?_)
            · (try replace hc4 := of_decide_eq_true hc4)
              have hi6 : i < L6.length := by omega
              have hi7 : ((L6.take i).map capI).length = i := by simp; omega
              refine vc_skip ?_
              refine vc_seq ?_
              refine vc_block ?_
              refine vc_seq ?_
              refine vc_region ?_
              refine vl_val rfl (.some rfl) (val_indexAddr Try.runUnderlying95 Try.sizeOf96 rfl rfl (by first | exact rd_sl (by repeat (first | exact .head | apply In.tail | apply Take.tail | apply Upd.tail)) | exact rd_slr (by repeat (first | exact .head | apply In.tail | apply Take.tail | apply Upd.tail)) | exact rd_old (by assumption) rfl) (by omega) (by omega) (by first | omega | (simp only [bcells_length, icells_length, ucells_length, tcells_length]; omega) | (simp only [bcells_length, icells_length, ucells_length, tcells_length, fillG_length]; omega) | (simp; omega))) ?_
              refine vl_val rfl (.some rfl) (val_load Try.isAgg96 rfl (by first | exact cell_cells (by repeat (first | exact .head | apply In.tail | apply Take.tail | apply Upd.tail)) rfl | exact cell_rd (rd_sl (by repeat (first | exact .head | apply In.tail | apply Take.tail | apply Upd.tail))) (by first | exact bcells_at (by omega) | exact ucells_at (by omega) | exact icells_at (by omega) | exact tcells_at (by omega) | exact bcells_get (by omega) | exact icells_get (by omega) | exact tcells_get (by omega) | exact ucells_get (by omega)) | exact cell_rd (rd_old (by assumption) rfl) (by first | exact bcells_at (by omega) | exact ucells_at (by omega) | exact icells_at (by omega) | exact tcells_at (by omega) | exact bcells_get (by omega) | exact icells_get (by omega) | exact tcells_get (by omega) | exact ucells_get (by omega)) | exact cell_old (by assumption) (by simp [fps]))) ?_
              refine vl_val rfl (.some rfl) (val_assign rfl) ?_
              refine vl_nil ?_
              refine vc_region ?_
              refine vl_val rfl (.some rfl) (val_move rfl) ?_
              refine vl_val rfl (.some rfl) (val_move rfl) ?_
              refine vl_val rfl (.some rfl) (val_min rfl rfl) ?_
              refine vl_val rfl (.some rfl) (val_convInt Try.runUnderlying96 Try.runUnderlying3 rfl (show _ = capI (L6.getD i 0) by unfold capI; rw [w_i64 (by omega) (by omega)]; omega)) ?_
              refine vl_lit sT56 rfl rfl (.some rfl) rfl rfl rfl (by decide) (by decide) rfl (flat_one rfl) (fun r67 => ?_)
              refine vl_append sT56 rfl rfl (.some rfl) rfl rfl (rd_sl (by repeat (first | exact .head | apply In.tail | apply Take.tail | apply Upd.tail))) (by first | rfl | simp) (by first | rfl | exact one_i _) (by omega) (by omega) (by repeat (first | exact .head | apply In.tail | apply Take.tail | apply Upd.tail)) (fun A68 k68 => ?_)
              rw [pushc hi6 rfl, show ((L6.take i).map capI).length + 1 = ((L6.take (i + 1)).map capI).length by simp; omega]
              refine vl_val rfl (.some rfl) (val_assign rfl) ?_
              refine vl_nil ?_
              refine vc_region ?_
              refine vl_val rfl (.some rfl) (val_add rfl rfl (by first | exact w_i64 (by omega) (by omega) | rfl)) ?_
              refine vl_val rfl (.some rfl) (val_move rfl) ?_
              refine vl_nil ?_
              exact ⟨L6.length - (i + 1), _, _, _, by omega, (by repeat (first | exact trivial | refine ⟨rfl, ?_⟩ | refine ⟨le_item rfl (by first | rfl | (congr 1; omega) | (simp; done) | (simp; omega)), ?_⟩)), (by repeat (first | exact .nil | (apply Sub.cons; · repeat (first | exact .head | apply Take.tail)))), ⟨i + 1, A68, k68, by omega, rfl, rfl, rfl⟩⟩
            · (try replace hc4 := of_decide_eq_false hc4)
              obtain rfl : i = L6.length := by omega
              rw [List.take_length]
              refine vc_exit ?_
              refine vc_seq ?_
              refine vc_region ?_
              refine vl_val rfl (.some rfl) (val_move rfl) ?_
              refine vl_val rfl (.some rfl) (val_move rfl) ?_
              refine vl_val rfl (.some rfl) (val_assign rfl) ?_
              refine vl_val rfl (.some rfl) (val_assign rfl) ?_
              refine vl_nil ?_
              refine vc_ret ?_
              refine ⟨_, [IW A8 (L6.map capI).length c8 (L6.map capI)], _, res2 Try.results69 rfl rfl, (by repeat (first | exact .nil | (apply Sub.cons; · repeat (first | exact .head | apply Take.tail)))), ?_⟩
              exact ⟨A8, c8, L6.map capI, e6, rfl, by simp; omega, hfin.1, hfin.2, rfl⟩
    · (try replace hg20 := of_decide_eq_false hg20)
      refine vl_off rfl rfl rfl rfl (.some rfl) ?_
      refine vl_off rfl rfl rfl rfl (.some rfl) ?_
      refine vl_off rfl rfl rfl rfl (.some rfl) ?_
      refine vl_val rfl (.some rfl) (val_pick rfl rfl) ?_
      refine vl_val rfl (.some rfl) (val_assign rfl) ?_
      refine vl_nil ?_
      refine vc_cond rfl (fun h => by cases h) (fun _ => ?_)
      refine vc_seq ?_
      refine vc_region ?_
      refine vl_val rfl (.some rfl) (val_move rfl) ?_
      refine vl_val rfl (.some rfl) (val_indexAddr Try.runUnderlying59 Try.sizeOf5 rfl rfl (by first | exact rd_sl (by repeat (first | exact .head | apply In.tail | apply Take.tail | apply Upd.tail)) | exact rd_slr (by repeat (first | exact .head | apply In.tail | apply Take.tail | apply Upd.tail)) | exact rd_old (by assumption) rfl) (by omega) (by omega) (by first | omega | (simp only [bcells_length, icells_length, ucells_length, tcells_length]; omega) | (simp only [bcells_length, icells_length, ucells_length, tcells_length, fillG_length]; omega) | (simp; omega))) ?_
      refine vl_val rfl (.some rfl) (val_load Try.isAgg5 rfl (cell_rd (rd_old hr rfl) (bcells_of (p := 0) (by omega) (by omega)))) ?_
      refine vl_val rfl (.some rfl) (val_eq rfl rfl) ?_
      refine vl_val rfl (.some rfl) (val_assign rfl) ?_
      refine vl_nil ?_
      refine vc_cond rfl (fun hc2 => ?_) (fun hc2 => ?_)
      · (try replace hc2 := of_decide_eq_true hc2)
        refine vc_region ?_
        refine vl_val rfl (.some rfl) (val_move rfl) ?_
        refine vl_val rfl (.some rfl) (val_cutFrom Try.runUnderlying59 Try.sizeOf5 rfl rfl (by omega) (by omega)) ?_
        rw [show Int.toNat 1 = 1 from rfl, show b.length - 1 = (b.drop 1).length by rw [List.length_drop]]
        refine vl_call (C := []) rfl rfl (.some rfl) Try.call89 rfl .nil (fun w hw => cUnruns (cutA A c 1 1) (c - 1) (b.drop 1) (by rw [List.length_drop]; omega) (by rw [List.length_drop]; omega) w (rdw (rd_old (reads_cutB hr hbc) rfl) hw)) (fun v H' h => ?_)
        obtain ⟨A6, c6, rfl, rfl⟩ := h
        have hfin : (unrE (b.drop 1) = 0 → readO n b = some ((unrL (b.drop 1)).map capI)) ∧ (unrE (b.drop 1) ≠ 0 → readO n b = none) := by first | exact tell_map (unr_tell _) (readO_1 (by omega) (by omega)) | (exfalso; omega)
        have hL6 : (unrL (b.drop 1)).length ≤ 100000 := unrL_le _
        generalize unrL (b.drop 1) = L6 at hfin hL6 ⊢
        generalize unrE (b.drop 1) = e6 at hfin ⊢
        show VL _ _ _ _ _ (_ :: _)
        refine vl_val rfl (.some rfl) (val_move rfl) ?_
        refine vl_val rfl (.some rfl) (val_extract rfl rfl) ?_
        refine vl_val rfl (.some rfl) (val_extract rfl rfl) ?_
        refine vl_val rfl (.some rfl) (val_assign rfl) ?_
        refine vl_val rfl (.some rfl) (val_assign rfl) ?_
        refine vl_nil ?_
        refine vc_seq ?_
        refine vc_region ?_
        refine vl_val rfl (.some rfl) (val_assign rfl) ?_
        refine vl_nilSl 3 1 ?_
        refine vl_nil ?_
        refine vc_seq ?_
        refine vc_seq ?_
        refine vc_region ?_
        refine vl_val rfl (.some rfl) (val_move rfl) ?_
        refine vl_val rfl (.some rfl) (val_lenSl Try.runUnderlying95 rfl) ?_
        refine vl_val rfl (.some rfl) (val_move rfl) ?_
        refine vl_nil ?_
        refine vc_block ?_
        refine vc_loopw (fun k E H => ∃ (i : Nat) (A8 : Option Addr) (c8 : Nat), i ≤ L6.length ∧ k = L6.length - i ∧ E = [(7, .int .i64 e6), (8, .slice A8 ((L6.take i).map capI).length c8), (57, .slice A6 L6.length c6), (58, .int .i64 L6.length), (59, .int .i64 i)] ∧ H = [IW A8 ((L6.take i).map capI).length c8 ((L6.take i).map capI), UW A6 L6.length c6 L6]) (L6.length) ⟨_, _, _, ⟨0, none, 0, by omega, rfl, rfl, rfl⟩, (by repeat (first | exact trivial | refine ⟨rfl, ?_⟩ | refine ⟨le_item rfl (by first | rfl | (congr 1; omega) | (simp; done) | (simp; omega)), ?_⟩)), (by repeat (first | exact .nil | (apply Sub.cons; · repeat (first | exact .head | apply Take.tail))))⟩ ?_
        intro k E H hI
        obtain ⟨i, A8, c8, hil, rfl, rfl, rfl⟩ := hI
        refine vc_seq ?_
        refine vc_region ?_
        refine vl_val rfl (.some rfl) (val_lt rfl rfl) ?_
        refine vl_nil ?_
        refine vc_seq ?_
        refine vc_cond rfl (fun hc4 => ?_) (fun hc4 => ?_)
        · (try replace hc4 := of_decide_eq_true hc4)
          have hi6 : i < L6.length := by omega
          have hi7 : ((L6.take i).map capI).length = i := by simp; omega
          refine vc_skip ?_
          refine vc_seq ?_
          refine vc_block ?_
          refine vc_seq ?_
          refine vc_region ?_
          refine vl_val rfl (.some rfl) (val_indexAddr Try.runUnderlying95 Try.sizeOf96 rfl rfl (by first | exact rd_sl (by repeat (first | exact .head | apply In.tail | apply Take.tail | apply Upd.tail)) | exact rd_slr (by repeat (first | exact .head | apply In.tail | apply Take.tail | apply Upd.tail)) | exact rd_old (by assumption) rfl) (by omega) (by omega) (by first | omega | (simp only [bcells_length, icells_length, ucells_length, tcells_length]; omega) | (simp only [bcells_length, icells_length, ucells_length, tcells_length, fillG_length]; omega) | (simp; omega))) ?_
          refine vl_val rfl (.some rfl) (val_load Try.isAgg96 rfl (by first | exact cell_cells (by repeat (first | exact .head | apply In.tail | apply Take.tail | apply Upd.tail)) rfl | exact cell_rd (rd_sl (by repeat (first | exact .head | apply In.tail | apply Take.tail | apply Upd.tail))) (by first | exact bcells_at (by omega) | exact ucells_at (by omega) | exact icells_at (by omega) | exact tcells_at (by omega) | exact bcells_get (by omega) | exact icells_get (by omega) | exact tcells_get (by omega) | exact ucells_get (by omega)) | exact cell_rd (rd_old (by assumption) rfl) (by first | exact bcells_at (by omega) | exact ucells_at (by omega) | exact icells_at (by omega) | exact tcells_at (by omega) | exact bcells_get (by omega) | exact icells_get (by omega) | exact tcells_get (by omega) | exact ucells_get (by omega)) | exact cell_old (by assumption) (by simp [fps]))) ?_
          refine vl_val rfl (.some rfl) (val_assign rfl) ?_
          refine vl_nil ?_
          refine vc_region ?_
          refine vl_val rfl (.some rfl) (val_move rfl) ?_
          refine vl_val rfl (.some rfl) (val_move rfl) ?_
          refine vl_val rfl (.some rfl) (val_min rfl rfl) ?_
          refine vl_val rfl (.some rfl) (val_convInt Try.runUnderlying96 Try.runUnderlying3 rfl (show _ = capI (L6.getD i 0) by unfold capI; rw [w_i64 (by omega) (by omega)]; omega)) ?_
          refine vl_lit sT56 rfl rfl (.some rfl) rfl rfl rfl (by decide) (by decide) rfl (flat_one rfl) (fun r67 => ?_)
          refine vl_append sT56 rfl rfl (.some rfl) rfl rfl (rd_sl (by repeat (first | exact .head | apply In.tail | apply Take.tail | apply Upd.tail))) (by first | rfl | simp) (by first | rfl | exact one_i _) (by omega) (by omega) (by repeat (first | exact .head | apply In.tail | apply Take.tail | apply Upd.tail)) (fun A68 k68 => ?_)
          rw [pushc hi6 rfl, show ((L6.take i).map capI).length + 1 = ((L6.take (i + 1)).map capI).length by simp; omega]
          refine vl_val rfl (.some rfl) (val_assign rfl) ?_
          refine vl_nil ?_
          refine vc_region ?_
          refine vl_val rfl (.some rfl) (val_add rfl rfl (by first | exact w_i64 (by omega) (by omega) | rfl)) ?_
          refine vl_val rfl (.some rfl) (val_move rfl) ?_
          refine vl_nil ?_
          exact ⟨L6.length - (i + 1), _, _, _, by omega, (by repeat (first | exact trivial | refine ⟨rfl, ?_⟩ | refine ⟨le_item rfl (by first | rfl | (congr 1; omega) | (simp; done) | (simp; omega)), ?_⟩)), (by repeat (first | exact .nil | (apply Sub.cons; · repeat (first | exact .head | apply Take.tail)))), ⟨i + 1, A68, k68, by omega, rfl, rfl, rfl⟩⟩
        · (try replace hc4 := of_decide_eq_false hc4)
          obtain rfl : i = L6.length := by omega
          rw [List.take_length]
          refine vc_exit ?_
          refine vc_seq ?_
          refine vc_region ?_
          refine vl_val rfl (.some rfl) (val_move rfl) ?_
          refine vl_val rfl (.some rfl) (val_move rfl) ?_
          refine vl_val rfl (.some rfl) (val_assign rfl) ?_
          refine vl_val rfl (.some rfl) (val_assign rfl) ?_
          refine vl_nil ?_
          refine vc_ret ?_
          refine ⟨_, [IW A8 (L6.map capI).length c8 (L6.map capI)], _, res2 Try.results69 rfl rfl, (by repeat (first | exact .nil | (apply Sub.cons; · repeat (first | exact .head | apply Take.tail)))), ?_⟩
          exact ⟨A8, c8, L6.map capI, e6, rfl, by simp; omega, hfin.1, hfin.2, rfl⟩
      · (try replace hc2 := of_decide_eq_false hc2)
        refine vc_seq ?_
        refine vc_region ?_
        refine vl_val rfl (.some rfl) (val_move rfl) ?_
        refine vl_val rfl (.some rfl) (val_indexAddr Try.runUnderlying59 Try.sizeOf5 rfl rfl (by first | exact rd_sl (by repeat (first | exact .head | apply In.tail | apply Take.tail | apply Upd.tail)) | exact rd_slr (by repeat (first | exact .head | apply In.tail | apply Take.tail | apply Upd.tail)) | exact rd_old (by assumption) rfl) (by omega) (by omega) (by first | omega | (simp only [bcells_length, icells_length, ucells_length, tcells_length]; omega) | (simp only [bcells_length, icells_length, ucells_length, tcells_length, fillG_length]; omega) | (simp; omega))) ?_
        refine vl_val rfl (.some rfl) (val_load Try.isAgg5 rfl (cell_rd (rd_old hr rfl) (bcells_of (p := 0) (by omega) (by omega)))) ?_
        refine vl_val rfl (.some rfl) (val_eq rfl rfl) ?_
        refine vl_val rfl (.some rfl) (val_assign rfl) ?_
        refine vl_nil ?_
        refine vc_cond rfl (fun hc3 => ?_) (fun hc3 => ?_)
        · (try replace hc3 := of_decide_eq_true hc3)
          refine vc_seq ?_
          refine vc_region ?_
          refine vl_val rfl (.some rfl) (val_move rfl) ?_
          refine vl_val rfl (.some rfl) (val_cutFrom Try.runUnderlying59 Try.sizeOf5 rfl rfl (by omega) (by omega)) ?_
          rw [show Int.toNat 1 = 1 from rfl, show b.length - 1 = (b.drop 1).length by rw [List.length_drop]]
          refine vl_call (C := []) rfl rfl (.some rfl) Try.call90 rfl .nil (fun w hw => cUndeltas (cutA A c 1 1) (c - 1) (b.drop 1) (by rw [List.length_drop]; omega) (by rw [List.length_drop]; omega) w (rdw (rd_old (reads_cutB hr hbc) rfl) hw)) (fun v H' h => ?_)
          obtain ⟨A6, c6, rfl, rfl⟩ := h
          have hfin : (undE (b.drop 1) = 0 → readO n b = some (undL (b.drop 1))) ∧ (undE (b.drop 1) ≠ 0 → readO n b = none) := by first | (rw [readO_2 (by omega) (by omega)]; exact und_tell _) | (exfalso; omega)
          have hL6 : (undL (b.drop 1)).length ≤ 1000000000 := Nat.le_trans (undL_len _) (by rw [List.length_drop]; omega)
          generalize undL (b.drop 1) = L6 at hfin hL6 ⊢
          generalize undE (b.drop 1) = e6 at hfin ⊢
          show VL _ _ _ _ _ (_ :: _)
          refine vl_val rfl (.some rfl) (val_extract rfl rfl) ?_
          refine vl_val rfl (.some rfl) (val_extract rfl rfl) ?_
          refine vl_val rfl (.some rfl) (val_assign rfl) ?_
          refine vl_val rfl (.some rfl) (val_assign rfl) ?_
          refine vl_nil ?_
          refine vc_ret ?_
          refine ⟨_, [IW A6 L6.length c6 L6], _, res2 Try.results69 rfl rfl, (by repeat (first | exact .nil | (apply Sub.cons; · repeat (first | exact .head | apply Take.tail)))), ?_⟩
          exact ⟨A6, c6, L6, e6, rfl, hL6, hfin.1, hfin.2, rfl⟩
        · (try replace hc3 := of_decide_eq_false hc3)
          let A6 : Option Addr := none
          let c6 : Nat := 0
          let L6 : List Nat := []
          let e6 : Int := 8
          have hL6 : L6.length ≤ 100000 := by decide
          have hfin : (e6 = 0 → readO n b = some (L6.map capI)) ∧ (e6 ≠ 0 → readO n b = none) := ⟨fun h => absurd h (show ¬ (8 : Int) = 0 by decide), fun _ => by first | exact readO_nil (by omega) | exact readO_0n (by omega) (by omega) | exact readO_x (by omega) (by omega) (by omega) (by omega) | (exfalso; omega)⟩
          refine vc_skip ?_
          refine vc_seq ?_
          refine vc_region ?_
          refine vl_val rfl (.some rfl) (val_assign rfl) ?_
          refine vl_nilSl 3 1 ?_
          refine vl_nil ?_
          refine vc_seq ?_
          refine vc_seq ?_
          refine vc_region ?_
          refine vl_val rfl (.some rfl) (val_move rfl) ?_
          refine vl_val rfl (.some rfl) (val_lenSl Try.runUnderlying95 rfl) ?_
          refine vl_val rfl (.some rfl) (val_move rfl) ?_
          refine vl_nil ?_
          refine vc_block ?_
          refine vc_loopw (fun k E H => ∃ (i : Nat) (A8 : Option Addr) (c8 : Nat), i ≤ L6.length ∧ k = L6.length - i ∧ E = [(7, .int .i64 e6), (8, .slice A8 ((L6.take i).map capI).length c8), (57, .slice A6 L6.length c6), (58, .int .i64 L6.length), (59, .int .i64 i)] ∧ H = [IW A8 ((L6.take i).map capI).length c8 ((L6.take i).map capI), UW A6 L6.length c6 L6]) (L6.length) ⟨_, _, _, ⟨0, none, 0, by omega, rfl, rfl, rfl⟩, (by repeat (first | exact trivial | refine ⟨rfl, ?_⟩ | refine ⟨le_item rfl (by first | rfl | (congr 1; omega) | (simp; done) | (simp; omega)), ?_⟩)), (by repeat (first | exact .nil | (apply Sub.cons; · repeat (first | exact .head | apply Take.tail))))⟩ ?_
          intro k E H hI
          obtain ⟨i, A8, c8, hil, rfl, rfl, rfl⟩ := hI
          refine vc_seq ?_
          refine vc_region ?_
          refine vl_val rfl (.some rfl) (val_lt rfl rfl) ?_
          refine vl_nil ?_
          refine vc_seq ?_
          refine vc_cond rfl (fun hc4 => ?_) (fun hc4 => ?_)
          · (try replace hc4 := of_decide_eq_true hc4)
            have hi6 : i < L6.length := by omega
            have hi7 : ((L6.take i).map capI).length = i := by simp; omega
            refine vc_skip ?_
            refine vc_seq ?_
            refine vc_block ?_
            refine vc_seq ?_
            refine vc_region ?_
            refine vl_val rfl (.some rfl) (val_indexAddr Try.runUnderlying95 Try.sizeOf96 rfl rfl (by first | exact rd_sl (by repeat (first | exact .head | apply In.tail | apply Take.tail | apply Upd.tail)) | exact rd_slr (by repeat (first | exact .head | apply In.tail | apply Take.tail | apply Upd.tail)) | exact rd_old (by assumption) rfl) (by omega) (by omega) (by first | omega | (simp only [bcells_length, icells_length, ucells_length, tcells_length]; omega) | (simp only [bcells_length, icells_length, ucells_length, tcells_length, fillG_length]; omega) | (simp; omega))) ?_
            refine vl_val rfl (.some rfl) (val_load Try.isAgg96 rfl (by first | exact cell_cells (by repeat (first | exact .head | apply In.tail | apply Take.tail | apply Upd.tail)) rfl | exact cell_rd (rd_sl (by repeat (first | exact .head | apply In.tail | apply Take.tail | apply Upd.tail))) (by first | exact bcells_at (by omega) | exact ucells_at (by omega) | exact icells_at (by omega) | exact tcells_at (by omega) | exact bcells_get (by omega) | exact icells_get (by omega) | exact tcells_get (by omega) | exact ucells_get (by omega)) | exact cell_rd (rd_old (by assumption) rfl) (by first | exact bcells_at (by omega) | exact ucells_at (by omega) | exact icells_at (by omega) | exact tcells_at (by omega) | exact bcells_get (by omega) | exact icells_get (by omega) | exact tcells_get (by omega) | exact ucells_get (by omega)) | exact cell_old (by assumption) (by simp [fps]))) ?_
            refine vl_val rfl (.some rfl) (val_assign rfl) ?_
            refine vl_nil ?_
            refine vc_region ?_
            refine vl_val rfl (.some rfl) (val_move rfl) ?_
            refine vl_val rfl (.some rfl) (val_move rfl) ?_
            refine vl_val rfl (.some rfl) (val_min rfl rfl) ?_
            refine vl_val rfl (.some rfl) (val_convInt Try.runUnderlying96 Try.runUnderlying3 rfl (show _ = capI (L6.getD i 0) by unfold capI; rw [w_i64 (by omega) (by omega)]; omega)) ?_
            refine vl_lit sT56 rfl rfl (.some rfl) rfl rfl rfl (by decide) (by decide) rfl (flat_one rfl) (fun r67 => ?_)
            refine vl_append sT56 rfl rfl (.some rfl) rfl rfl (rd_sl (by repeat (first | exact .head | apply In.tail | apply Take.tail | apply Upd.tail))) (by first | rfl | simp) (by first | rfl | exact one_i _) (by omega) (by omega) (by repeat (first | exact .head | apply In.tail | apply Take.tail | apply Upd.tail)) (fun A68 k68 => ?_)
            rw [pushc hi6 rfl, show ((L6.take i).map capI).length + 1 = ((L6.take (i + 1)).map capI).length by simp; omega]
            refine vl_val rfl (.some rfl) (val_assign rfl) ?_
            refine vl_nil ?_
            refine vc_region ?_
            refine vl_val rfl (.some rfl) (val_add rfl rfl (by first | exact w_i64 (by omega) (by omega) | rfl)) ?_
            refine vl_val rfl (.some rfl) (val_move rfl) ?_
            refine vl_nil ?_
            exact ⟨L6.length - (i + 1), _, _, _, by omega, (by repeat (first | exact trivial | refine ⟨rfl, ?_⟩ | refine ⟨le_item rfl (by first | rfl | (congr 1; omega) | (simp; done) | (simp; omega)), ?_⟩)), (by repeat (first | exact .nil | (apply Sub.cons; · repeat (first | exact .head | apply Take.tail)))), ⟨i + 1, A68, k68, by omega, rfl, rfl, rfl⟩⟩
          · (try replace hc4 := of_decide_eq_false hc4)
            obtain rfl : i = L6.length := by omega
            rw [List.take_length]
            refine vc_exit ?_
            refine vc_seq ?_
            refine vc_region ?_
            refine vl_val rfl (.some rfl) (val_move rfl) ?_
            refine vl_val rfl (.some rfl) (val_move rfl) ?_
            refine vl_val rfl (.some rfl) (val_assign rfl) ?_
            refine vl_val rfl (.some rfl) (val_assign rfl) ?_
            refine vl_nil ?_
            refine vc_ret ?_
            refine ⟨_, [IW A8 (L6.map capI).length c8 (L6.map capI)], _, res2 Try.results69 rfl rfl, (by repeat (first | exact .nil | (apply Sub.cons; · repeat (first | exact .head | apply Take.tail)))), ?_⟩
            exact ⟨A8, c8, L6.map capI, e6, rfl, by simp; omega, hfin.1, hfin.2, rfl⟩

end Go.Proofs.Ytibfngjfjddaiaa.K
