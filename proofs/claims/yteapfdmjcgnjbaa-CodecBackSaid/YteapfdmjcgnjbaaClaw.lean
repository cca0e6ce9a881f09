/- Walks of the program's functions, printed by a program of this session; Lean checks them. -/
import Derived.Test.YteapfdmjcgnjbaaCd
import Derived.Test.YteapfdmjcgnjbaaCref
namespace Go.Proofs.Yteapfdmjcgnjbaa.K
open Go Go.RowKit Go.Proofs
set_option linter.unusedVariables false
set_option linter.unusedSimpArgs false


theorem itD_len : ∀ (q : Nat) (s : DSt) (b : List UInt8) (s' : DSt), itF stepD q s b = some s' → s'.acc.length ≤ s.acc.length + b.length
  | q, s, [], s', h => by rw [itF_nil rfl] at h; cases h; simp
  | 0, s, x :: t, s', h => by cases h
  | q + 1, s, x :: t, s', h => by
    by_cases h0 : (getN (x :: t)).2 = 0
    · rw [itF_bad (by simp) h0] at h; cases h
    · rw [itF_go (by simp) h0 rfl] at h
      have := itD_len q _ _ _ h
      have hb := getN_bd (x :: t)
      simp only [List.length_append, List.length_cons, List.length_nil, List.length_drop] at this ⊢ hb
      omega
theorem undL_len (b : List UInt8) : (undL b).length ≤ b.length := by
  unfold undL undeltO
  cases h : itF stepD b.length ⟨[], 0⟩ b with
  | none => simp
  | some s => have := itD_len _ _ _ _ h; simpa using this
theorem stepR_len {s s' : RS} {u : Nat} (h : stepR s u = some s') (hs : s.acc.length ≤ 100000) : s'.acc.length ≤ 100000 := by
  unfold stepR at h
  split at h
  · split at h
    · cases h
    · cases h; exact hs
  · split at h
    · cases h
    · cases h; simp only [List.length_append, List.length_replicate]; omega
theorem itR_len : ∀ (q : Nat) (s : RS) (b : List UInt8) (s' : RS), s.acc.length ≤ 100000 → itF stepR q s b = some s' → s'.acc.length ≤ 100000
  | q, s, [], s', hs, h => by rw [itF_nil rfl] at h; cases h; exact hs
  | 0, s, x :: t, s', _, h => by cases h
  | q + 1, s, x :: t, s', hs, h => by
    by_cases h0 : (getN (x :: t)).2 = 0
    · rw [itF_bad (by simp) h0] at h; cases h
    · cases he : stepR s (getN (x :: t)).1 with
      | none => rw [itF_stop (by simp) he] at h; cases h
      | some s2 => rw [itF_go (by simp) h0 he] at h; exact itR_len q _ _ _ (stepR_len he hs) h
theorem unrL_len (b : List UInt8) : (unrL b).length ≤ 1000000000000 := by
  unfold unrL unrunsO
  cases h : itF stepR b.length ⟨[], 0, false⟩ b with
  | none => simp
  | some s =>
    have := itR_len _ _ _ _ (by simp) h
    simp only
    split
    · simp
    · simp only [Option.getD_some]; omega

def smallF (n u : Nat) : Nat := if n < 64 then u % 2 ^ n else u
theorem small_is {n : Nat} {l sm : List Nat} (h : sm = l.map (smallF n)) (hu : ∀ u ∈ l, u < 18446744073709551616) (hn : n ≤ 64) : sm.length = l.length ∧ ∀ u ∈ sm, u < 2 ^ n := by
  subst h
  refine ⟨by simp, fun u hm => ?_⟩
  obtain ⟨v, hv, rfl⟩ := List.mem_map.1 hm
  unfold smallF
  split
  · exact Nat.mod_lt _ (Nat.pow_pos (by decide))
  · obtain rfl : n = 64 := by omega
    exact hu v hv
theorem shl_one {n : Nat} (h : n < 64) : IntKind.u64.wrap ((1 : Int) * 2 ^ (min (Int.toNat (n : Int)) IntKind.u64.bits)) = ((2 ^ n : Nat) : Int) := by
  have := shl_u64 (x := 1) (s := n) (q := (n : Int)) (by omega) rfl h
  rw [Nat.one_mul] at this
  exact this
theorem pow_lt64 {n : Nat} (h : n < 64) : 2 ^ n < 18446744073709551616 := by
  have := Nat.pow_lt_pow_right (a := 2) (by decide) h
  simpa using this

set_option maxRecDepth 20000 in
theorem law_CodecRuns (A : Option Addr) (c : Nat) (l : List Nat) (B : Option Addr) (d : Nat) (b : List UInt8) (A5 : Option Addr) (c5 : Nat) (m : List Int) (w : World) (hr : Reads w A (ucells l)) (g2 : l.length ≤ c) (g3 : c ≤ maxLen) (hu : ∀ u ∈ l, u < 18446744073709551616) (hr2 : Reads w B (bcells b)) (g5 : b.length ≤ d) (g6 : d ≤ maxLen) (hr3 : Reads w A5 (icells .i64 m)) (g8 : m.length ≤ c5) (g9 : c5 ≤ maxLen) (hm : ∀ n ∈ m, -9223372036854775808 ≤ n ∧ n < 9223372036854775808) : FnV Try.prog 8 [.agg #[.slice A l.length c, .slice B b.length d], .slice A5 m.length c5] (.bool true) w := by
  refine fn_enter Try.func8 rfl Try.ntmps8 rfl ?_
  refine vc_seq ?_
  refine vc_region ?_
  refine vl_box rfl rfl (.some rfl) rfl (fun r2 => ?_)
  refine vl_val rfl (.some rfl) (val_assign rfl) ?_
  refine vl_nil ?_
  refine vc_seq ?_
  refine vc_seq ?_
  refine vc_region ?_
  refine vl_val rfl (.some rfl) (by first | exact val_fieldAddr Try.runUnderlying43 rfl Try.sizeOf41 rfl | exact val_fieldAddrR Try.runUnderlying43 rfl Try.sizeOf41 rfl) ?_
  refine vl_val rfl (.some rfl) (val_load Try.isAgg41 rfl (by first | exact cell_cells (by repeat (first | exact .head | apply In.tail | apply Take.tail | apply Upd.tail)) rfl | exact cell_rd (rd_sl (by repeat (first | exact .head | apply In.tail | apply Take.tail | apply Upd.tail))) (by first | exact bcells_at (by omega) | exact ucells_at (by omega) | exact icells_at (by omega) | exact tcells_at (by omega) | exact bcells_get (by omega) | exact icells_get (by omega) | exact tcells_get (by omega) | exact ucells_get (by omega)) | exact cell_rd (rd_old (by assumption) rfl) (by first | exact bcells_at (by omega) | exact ucells_at (by omega) | exact icells_at (by omega) | exact tcells_at (by omega) | exact bcells_get (by omega) | exact icells_get (by omega) | exact tcells_get (by omega) | exact ucells_get (by omega)) | exact cell_old (by assumption) (by simp [fps]))) ?_
  refine vl_val rfl (.some rfl) (val_lenSl Try.runUnderlying41 rfl) ?_
  refine vl_val rfl (.some rfl) (val_gt rfl rfl) ?_
  refine vl_val rfl (.some rfl) (val_move rfl) ?_
  refine vl_split (t := 17) rfl (fun hg17 => ?_) (fun hg17 => ?_)
  · (try replace hg17 := of_decide_eq_true hg17)
    refine vl_off rfl rfl rfl rfl (.some rfl) ?_
    refine vl_off rfl rfl rfl rfl (.some rfl) ?_
    refine vl_off rfl rfl rfl rfl (.some rfl) ?_
    refine vl_off rfl rfl rfl rfl (.some rfl) ?_
    refine vl_val rfl (.some rfl) (val_pick rfl rfl) ?_
    refine vl_val rfl (.some rfl) (val_move rfl) ?_
    refine vl_off rfl rfl rfl rfl (.some rfl) ?_
    refine vl_off rfl rfl rfl rfl (.some rfl) ?_
    refine vl_off rfl rfl rfl rfl (.some rfl) ?_
    refine vl_val rfl (.some rfl) (val_pick rfl rfl) ?_
    refine vl_nil ?_
    refine vc_cond rfl (fun _ => ?_) (fun h => by cases h)
    refine vc_seq ?_
    refine vc_region ?_
    refine vl_callV rfl rfl (.some rfl) Try.call17 rfl (fun w hw => cLives w) ?_
    refine vl_val rfl (.some rfl) (val_assign rfl) ?_
    refine vl_nil ?_
    refine vc_ret ?_
    refine ⟨_, [], _, res1 Try.results8 rfl, .nil, ?_⟩
    rfl
  · (try replace hg17 := of_decide_eq_false hg17)
    refine vl_on rfl rfl rfl rfl ?_
    refine vl_val rfl (.some rfl) (by first | exact val_fieldAddr Try.runUnderlying43 rfl Try.sizeOf23 rfl | exact val_fieldAddrR Try.runUnderlying43 rfl Try.sizeOf23 rfl) ?_
    refine vl_on rfl rfl rfl rfl ?_
    refine vl_val rfl (.some rfl) (val_load Try.isAgg23 rfl (by first | exact cell_cells (by repeat (first | exact .head | apply In.tail | apply Take.tail | apply Upd.tail)) rfl | exact cell_rd (rd_sl (by repeat (first | exact .head | apply In.tail | apply Take.tail | apply Upd.tail))) (by first | exact bcells_at (by omega) | exact ucells_at (by omega) | exact icells_at (by omega) | exact tcells_at (by omega) | exact bcells_get (by omega) | exact icells_get (by omega) | exact tcells_get (by omega) | exact ucells_get (by omega)) | exact cell_rd (rd_old (by assumption) rfl) (by first | exact bcells_at (by omega) | exact ucells_at (by omega) | exact icells_at (by omega) | exact tcells_at (by omega) | exact bcells_get (by omega) | exact icells_get (by omega) | exact tcells_get (by omega) | exact ucells_get (by omega)) | exact cell_old (by assumption) (by simp [fps]))) ?_
    refine vl_on rfl rfl rfl rfl ?_
    refine vl_val rfl (.some rfl) (val_lenSl Try.runUnderlying23 rfl) ?_
    refine vl_on rfl rfl rfl rfl ?_
    refine vl_val rfl (.some rfl) (val_gt rfl rfl) ?_
    refine vl_val rfl (.some rfl) (val_pick rfl rfl) ?_
    refine vl_val rfl (.some rfl) (val_move rfl) ?_
    refine vl_split (t := 23) rfl (fun hg23 => ?_) (fun hg23 => ?_)
    · (try replace hg23 := of_decide_eq_true hg23)
      refine vl_off rfl rfl rfl rfl (.some rfl) ?_
      refine vl_off rfl rfl rfl rfl (.some rfl) ?_
      refine vl_off rfl rfl rfl rfl (.some rfl) ?_
      refine vl_val rfl (.some rfl) (val_pick rfl rfl) ?_
      refine vl_nil ?_
      refine vc_cond rfl (fun _ => ?_) (fun h => by cases h)
      refine vc_seq ?_
      refine vc_region ?_
      refine vl_callV rfl rfl (.some rfl) Try.call17 rfl (fun w hw => cLives w) ?_
      refine vl_val rfl (.some rfl) (val_assign rfl) ?_
      refine vl_nil ?_
      refine vc_ret ?_
      refine ⟨_, [], _, res1 Try.results8 rfl, .nil, ?_⟩
      rfl
    · (try replace hg23 := of_decide_eq_false hg23)
      refine vl_on rfl rfl rfl rfl ?_
      refine vl_val rfl (.some rfl) (val_move rfl) ?_
      refine vl_on rfl rfl rfl rfl ?_
      refine vl_val rfl (.some rfl) (val_lenSl Try.runUnderlying55 rfl) ?_
      refine vl_on rfl rfl rfl rfl ?_
      refine vl_val rfl (.some rfl) (val_gt rfl rfl) ?_
      refine vl_val rfl (.some rfl) (val_pick rfl rfl) ?_
      refine vl_nil ?_
      refine vc_cond rfl (fun hc0 => ?_) (fun hc0 => ?_)
      · (try replace hc0 := of_decide_eq_true hc0)
        refine vc_seq ?_
        refine vc_region ?_
        refine vl_callV rfl rfl (.some rfl) Try.call17 rfl (fun w hw => cLives w) ?_
        refine vl_val rfl (.some rfl) (val_assign rfl) ?_
        refine vl_nil ?_
        refine vc_ret ?_
        refine ⟨_, [], _, res1 Try.results8 rfl, .nil, ?_⟩
        rfl
      · (try replace hc0 := of_decide_eq_false hc0)
        refine vc_skip ?_
        refine vc_seq ?_
        refine vc_region ?_
        refine vl_val rfl (.some rfl) (by first | exact val_fieldAddr Try.runUnderlying43 rfl Try.sizeOf23 rfl | exact val_fieldAddrR Try.runUnderlying43 rfl Try.sizeOf23 rfl) ?_
        refine vl_val rfl (.some rfl) (val_load Try.isAgg23 rfl (by first | exact cell_cells (by repeat (first | exact .head | apply In.tail | apply Take.tail | apply Upd.tail)) rfl | exact cell_rd (rd_sl (by repeat (first | exact .head | apply In.tail | apply Take.tail | apply Upd.tail))) (by first | exact bcells_at (by omega) | exact ucells_at (by omega) | exact icells_at (by omega) | exact tcells_at (by omega) | exact bcells_get (by omega) | exact icells_get (by omega) | exact tcells_get (by omega) | exact ucells_get (by omega)) | exact cell_rd (rd_old (by assumption) rfl) (by first | exact bcells_at (by omega) | exact ucells_at (by omega) | exact icells_at (by omega) | exact tcells_at (by omega) | exact bcells_get (by omega) | exact icells_get (by omega) | exact tcells_get (by omega) | exact ucells_get (by omega)) | exact cell_old (by assumption) (by simp [fps]))) ?_
        refine vl_call (C := []) rfl rfl (.some rfl) Try.call34 rfl .nil (fun w' hw => cUnruns B d b (by omega) g5 w' (rdw (by first | exact rd_sl (by repeat (first | exact .head | apply In.tail | apply Take.tail | apply Upd.tail)) | exact rd_slr (by repeat (first | exact .head | apply In.tail | apply Take.tail | apply Upd.tail)) | exact rd_old (by assumption) rfl | exact rd_slq (by repeat (first | exact .head | apply In.tail | apply Take.tail | apply Upd.tail)) | exact rd_nil) hw)) (fun v H' h => ?_)
        obtain ⟨A1, c1, rfl, rfl⟩ := h
        show VL _ _ _ _ _ (_ :: _)
        refine vl_val rfl (.some rfl) (val_move rfl) ?_
        refine vl_val rfl (.some rfl) (val_extract rfl rfl) ?_
        refine vl_val rfl (.some rfl) (val_extract rfl rfl) ?_
        refine vl_val rfl (.some rfl) (val_assign rfl) ?_
        refine vl_val rfl (.some rfl) (val_assign rfl) ?_
        refine vl_nil ?_
        refine vc_seq ?_
        refine vc_region ?_
        refine vl_val rfl (.some rfl) (by first | exact val_fieldAddr Try.runUnderlying43 rfl Try.sizeOf23 rfl | exact val_fieldAddrR Try.runUnderlying43 rfl Try.sizeOf23 rfl) ?_
        refine vl_val rfl (.some rfl) (val_load Try.isAgg23 rfl (by first | exact cell_cells (by repeat (first | exact .head | apply In.tail | apply Take.tail | apply Upd.tail)) rfl | exact cell_rd (rd_sl (by repeat (first | exact .head | apply In.tail | apply Take.tail | apply Upd.tail))) (by first | exact bcells_at (by omega) | exact ucells_at (by omega) | exact icells_at (by omega) | exact tcells_at (by omega) | exact bcells_get (by omega) | exact icells_get (by omega) | exact tcells_get (by omega) | exact ucells_get (by omega)) | exact cell_rd (rd_old (by assumption) rfl) (by first | exact bcells_at (by omega) | exact ucells_at (by omega) | exact icells_at (by omega) | exact tcells_at (by omega) | exact bcells_get (by omega) | exact icells_get (by omega) | exact tcells_get (by omega) | exact ucells_get (by omega)) | exact cell_old (by assumption) (by simp [fps]))) ?_
        refine vl_call (C := []) rfl rfl (.some rfl) Try.call35 rfl .nil (fun w' hw => rUnruns B d b (by omega) g5 w' (rdw (by first | exact rd_sl (by repeat (first | exact .head | apply In.tail | apply Take.tail | apply Upd.tail)) | exact rd_slr (by repeat (first | exact .head | apply In.tail | apply Take.tail | apply Upd.tail)) | exact rd_old (by assumption) rfl | exact rd_slq (by repeat (first | exact .head | apply In.tail | apply Take.tail | apply Upd.tail)) | exact rd_nil) hw)) (fun v H' h => ?_)
        obtain ⟨A2, c2, rfl, rfl⟩ := h
        show VL _ _ _ _ _ (_ :: _)
        refine vl_val rfl (.some rfl) (val_move rfl) ?_
        refine vl_val rfl (.some rfl) (val_extract rfl rfl) ?_
        refine vl_val rfl (.some rfl) (val_extract rfl rfl) ?_
        refine vl_val rfl (.some rfl) (val_assign rfl) ?_
        refine vl_val rfl (.some rfl) (val_assign rfl) ?_
        refine vl_nil ?_
        refine vc_seq ?_
        refine vc_region ?_
        refine vl_val rfl (.some rfl) (by first | exact val_fieldAddr Try.runUnderlying43 rfl Try.sizeOf23 rfl | exact val_fieldAddrR Try.runUnderlying43 rfl Try.sizeOf23 rfl) ?_
        refine vl_val rfl (.some rfl) (val_load Try.isAgg23 rfl (by first | exact cell_cells (by repeat (first | exact .head | apply In.tail | apply Take.tail | apply Upd.tail)) rfl | exact cell_rd (rd_sl (by repeat (first | exact .head | apply In.tail | apply Take.tail | apply Upd.tail))) (by first | exact bcells_at (by omega) | exact ucells_at (by omega) | exact icells_at (by omega) | exact tcells_at (by omega) | exact bcells_get (by omega) | exact icells_get (by omega) | exact tcells_get (by omega) | exact ucells_get (by omega)) | exact cell_rd (rd_old (by assumption) rfl) (by first | exact bcells_at (by omega) | exact ucells_at (by omega) | exact icells_at (by omega) | exact tcells_at (by omega) | exact bcells_get (by omega) | exact icells_get (by omega) | exact tcells_get (by omega) | exact ucells_get (by omega)) | exact cell_old (by assumption) (by simp [fps]))) ?_
        refine vl_call (C := []) rfl rfl (.some rfl) Try.call36 rfl .nil (fun w' hw => cUndeltas B d b (by omega) g5 w' (rdw (by first | exact rd_sl (by repeat (first | exact .head | apply In.tail | apply Take.tail | apply Upd.tail)) | exact rd_slr (by repeat (first | exact .head | apply In.tail | apply Take.tail | apply Upd.tail)) | exact rd_old (by assumption) rfl | exact rd_slq (by repeat (first | exact .head | apply In.tail | apply Take.tail | apply Upd.tail)) | exact rd_nil) hw)) (fun v H' h => ?_)
        obtain ⟨A3, c3, rfl, rfl⟩ := h
        show VL _ _ _ _ _ (_ :: _)
        refine vl_val rfl (.some rfl) (val_move rfl) ?_
        refine vl_val rfl (.some rfl) (val_extract rfl rfl) ?_
        refine vl_val rfl (.some rfl) (val_extract rfl rfl) ?_
        refine vl_val rfl (.some rfl) (val_assign rfl) ?_
        refine vl_val rfl (.some rfl) (val_assign rfl) ?_
        refine vl_nil ?_
        refine vc_seq ?_
        refine vc_region ?_
        refine vl_val rfl (.some rfl) (by first | exact val_fieldAddr Try.runUnderlying43 rfl Try.sizeOf23 rfl | exact val_fieldAddrR Try.runUnderlying43 rfl Try.sizeOf23 rfl) ?_
        refine vl_val rfl (.some rfl) (val_load Try.isAgg23 rfl (by first | exact cell_cells (by repeat (first | exact .head | apply In.tail | apply Take.tail | apply Upd.tail)) rfl | exact cell_rd (rd_sl (by repeat (first | exact .head | apply In.tail | apply Take.tail | apply Upd.tail))) (by first | exact bcells_at (by omega) | exact ucells_at (by omega) | exact icells_at (by omega) | exact tcells_at (by omega) | exact bcells_get (by omega) | exact icells_get (by omega) | exact tcells_get (by omega) | exact ucells_get (by omega)) | exact cell_rd (rd_old (by assumption) rfl) (by first | exact bcells_at (by omega) | exact ucells_at (by omega) | exact icells_at (by omega) | exact tcells_at (by omega) | exact bcells_get (by omega) | exact icells_get (by omega) | exact tcells_get (by omega) | exact ucells_get (by omega)) | exact cell_old (by assumption) (by simp [fps]))) ?_
        refine vl_call (C := []) rfl rfl (.some rfl) Try.call37 rfl .nil (fun w' hw => rUndeltas B d b (by omega) g5 w' (rdw (by first | exact rd_sl (by repeat (first | exact .head | apply In.tail | apply Take.tail | apply Upd.tail)) | exact rd_slr (by repeat (first | exact .head | apply In.tail | apply Take.tail | apply Upd.tail)) | exact rd_old (by assumption) rfl | exact rd_slq (by repeat (first | exact .head | apply In.tail | apply Take.tail | apply Upd.tail)) | exact rd_nil) hw)) (fun v H' h => ?_)
        obtain ⟨A4, c4, rfl, rfl⟩ := h
        show VL _ _ _ _ _ (_ :: _)
        refine vl_val rfl (.some rfl) (val_move rfl) ?_
        refine vl_val rfl (.some rfl) (val_extract rfl rfl) ?_
        refine vl_val rfl (.some rfl) (val_extract rfl rfl) ?_
        refine vl_val rfl (.some rfl) (val_assign rfl) ?_
        refine vl_val rfl (.some rfl) (val_assign rfl) ?_
        refine vl_nil ?_
        refine vc_seq ?_
        refine vc_draws [0, 1, 3, 4, 7, 8, 10, 13, 14, 15, 16, 18, 19, 20, 21, 22, 23, 24, 25, 26, 28, 29, 30, 31, 32, 33, 34, 36, 37] [] [0, 1, 3, 4, 2, 5, 6, 7, 8, 10, 9, 11, 12, 13, 14, 15, 16, 17, 18, 19, 20, 21, 22, 23, 24, 25, 26, 27, 28, 29, 30, 31, 32, 33, 34, 35, 36, 37] rfl (by kernel_rfl) (fun _ _ _ h => h) ?_
        refine vd_val rfl rfl rfl (.some rfl) (by first | exact val_fieldAddr Try.runUnderlying43 rfl Try.sizeOf41 rfl | exact val_fieldAddrR Try.runUnderlying43 rfl Try.sizeOf41 rfl) ?_
        refine vd_val rfl rfl rfl (.some rfl) (val_load Try.isAgg41 rfl (by first | exact cell_cells (by repeat (first | exact .head | apply In.tail | apply Take.tail | apply Upd.tail)) rfl | exact cell_rd (rd_sl (by repeat (first | exact .head | apply In.tail | apply Take.tail | apply Upd.tail))) (by first | exact bcells_at (by omega) | exact ucells_at (by omega) | exact icells_at (by omega) | exact tcells_at (by omega) | exact bcells_get (by omega) | exact icells_get (by omega) | exact tcells_get (by omega) | exact ucells_get (by omega)) | exact cell_rd (rd_old (by assumption) rfl) (by first | exact bcells_at (by omega) | exact ucells_at (by omega) | exact icells_at (by omega) | exact tcells_at (by omega) | exact bcells_get (by omega) | exact icells_get (by omega) | exact tcells_get (by omega) | exact ucells_get (by omega)) | exact cell_old (by assumption) (by simp [fps]))) ?_
        refine vd_val rfl rfl rfl (.some rfl) (by first | exact val_fieldAddr Try.runUnderlying43 rfl Try.sizeOf41 rfl | exact val_fieldAddrR Try.runUnderlying43 rfl Try.sizeOf41 rfl) ?_
        refine vd_val rfl rfl rfl (.some rfl) (val_load Try.isAgg41 rfl (by first | exact cell_cells (by repeat (first | exact .head | apply In.tail | apply Take.tail | apply Upd.tail)) rfl | exact cell_rd (rd_sl (by repeat (first | exact .head | apply In.tail | apply Take.tail | apply Upd.tail))) (by first | exact bcells_at (by omega) | exact ucells_at (by omega) | exact icells_at (by omega) | exact tcells_at (by omega) | exact bcells_get (by omega) | exact icells_get (by omega) | exact tcells_get (by omega) | exact ucells_get (by omega)) | exact cell_rd (rd_old (by assumption) rfl) (by first | exact bcells_at (by omega) | exact ucells_at (by omega) | exact icells_at (by omega) | exact tcells_at (by omega) | exact bcells_get (by omega) | exact icells_get (by omega) | exact tcells_get (by omega) | exact ucells_get (by omega)) | exact cell_old (by assumption) (by simp [fps]))) ?_
        refine vd_op rfl rfl ?_
        refine vl_call (C := []) rfl rfl (.some rfl) Try.call38 rfl .nil (fun w' hw => cRuns A c l (by omega) hu w' (rdw (by first | exact rd_sl (by repeat (first | exact .head | apply In.tail | apply Take.tail | apply Upd.tail)) | exact rd_slr (by repeat (first | exact .head | apply In.tail | apply Take.tail | apply Upd.tail)) | exact rd_old (by assumption) rfl | exact rd_slq (by repeat (first | exact .head | apply In.tail | apply Take.tail | apply Upd.tail)) | exact rd_nil) hw)) (fun v H' h => ?_)
        obtain ⟨A6, c6, rfl, rfl⟩ := h
        show VL _ _ _ _ _ (_ :: _)
        refine vl_nil ?_
        refine ⟨fun _ => ⟨_, (by repeat (first | exact .nil | (apply Sub.cons; · repeat (first | exact .head | apply Take.tail))))⟩, ?_⟩
        refine vd_op rfl rfl ?_
        refine vl_call (C := []) rfl rfl (.some rfl) Try.call39 rfl .nil (fun w' hw => rRuns A c l (by omega) hu w' (rdw (by first | exact rd_sl (by repeat (first | exact .head | apply In.tail | apply Take.tail | apply Upd.tail)) | exact rd_slr (by repeat (first | exact .head | apply In.tail | apply Take.tail | apply Upd.tail)) | exact rd_old (by assumption) rfl | exact rd_slq (by repeat (first | exact .head | apply In.tail | apply Take.tail | apply Upd.tail)) | exact rd_nil) hw)) (fun v H' h => ?_)
        obtain ⟨A7, c7, rfl, rfl⟩ := h
        show VL _ _ _ _ _ (_ :: _)
        refine vl_nil ?_
        refine ⟨fun _ => ⟨_, (by repeat (first | exact .nil | (apply Sub.cons; · repeat (first | exact .head | apply Take.tail))))⟩, ?_⟩
        refine vd_op rfl rfl ?_
        refine vl_callV rfl rfl (.some rfl) Try.call20 rfl (fun w hw => rSame _ _ _ _ _ _ w (rdw (rd_sl (by repeat (first | exact .head | apply In.tail | apply Take.tail | apply Upd.tail))) hw) (rdw (rd_sl (by repeat (first | exact .head | apply In.tail | apply Take.tail | apply Upd.tail))) hw)) ?_
        rw [decide_eq_true rfl]
        refine vl_nil ?_
        refine ⟨fun _ => ⟨_, (by repeat (first | exact .nil | (apply Sub.cons; · repeat (first | exact .head | apply Take.tail))))⟩, ?_⟩
        refine vd_val rfl rfl rfl (.some rfl) (val_move rfl) ?_
        refine vd_on rfl rfl rfl rfl rfl rfl (.some rfl) (val_move rfl) ?_
        refine vd_on rfl rfl rfl rfl rfl rfl (.some rfl) (val_move rfl) ?_
        refine vd_op rfl rfl ?_
        refine vl_on rfl rfl rfl rfl ?_
        refine vl_call (C := []) rfl rfl (.some rfl) Try.call40 rfl .nil (fun w' hw => cDeltas A5 c5 m (by omega) w' (rdw (by first | exact rd_sl (by repeat (first | exact .head | apply In.tail | apply Take.tail | apply Upd.tail)) | exact rd_slr (by repeat (first | exact .head | apply In.tail | apply Take.tail | apply Upd.tail)) | exact rd_old (by assumption) rfl | exact rd_slq (by repeat (first | exact .head | apply In.tail | apply Take.tail | apply Upd.tail)) | exact rd_nil) hw)) (fun v H' h => ?_)
        obtain ⟨A8, c8, rfl, rfl⟩ := h
        show VL _ _ _ _ _ (_ :: _)
        refine vl_nil ?_
        refine ⟨fun _ => ⟨_, (by repeat (first | exact .nil | (apply Sub.cons; · repeat (first | exact .head | apply Take.tail))))⟩, ?_⟩
        refine vd_op rfl rfl ?_
        refine vl_on rfl rfl rfl rfl ?_
        refine vl_call (C := []) rfl rfl (.some rfl) Try.call41 rfl .nil (fun w' hw => rDeltas A5 c5 m (by omega) w' (rdw (by first | exact rd_sl (by repeat (first | exact .head | apply In.tail | apply Take.tail | apply Upd.tail)) | exact rd_slr (by repeat (first | exact .head | apply In.tail | apply Take.tail | apply Upd.tail)) | exact rd_old (by assumption) rfl | exact rd_slq (by repeat (first | exact .head | apply In.tail | apply Take.tail | apply Upd.tail)) | exact rd_nil) hw)) (fun v H' h => ?_)
        obtain ⟨A9, c9, rfl, rfl⟩ := h
        show VL _ _ _ _ _ (_ :: _)
        refine vl_nil ?_
        refine ⟨fun _ => ⟨_, (by repeat (first | exact .nil | (apply Sub.cons; · repeat (first | exact .head | apply Take.tail))))⟩, ?_⟩
        refine vd_op rfl rfl ?_
        refine vl_on rfl rfl rfl rfl ?_
        refine vl_callV rfl rfl (.some rfl) Try.call20 rfl (fun w hw => rSame _ _ _ _ _ _ w (rdw (rd_sl (by repeat (first | exact .head | apply In.tail | apply Take.tail | apply Upd.tail))) hw) (rdw (rd_sl (by repeat (first | exact .head | apply In.tail | apply Take.tail | apply Upd.tail))) hw)) ?_
        rw [decide_eq_true rfl]
        refine vl_nil ?_
        refine ⟨fun _ => ⟨_, (by repeat (first | exact .nil | (apply Sub.cons; · repeat (first | exact .head | apply Take.tail))))⟩, ?_⟩
        refine vd_val rfl rfl rfl (.some rfl) (val_pick rfl rfl) ?_
        refine vd_val rfl rfl rfl (.some rfl) (val_move rfl) ?_
        refine vd_on rfl rfl rfl rfl rfl rfl (.some rfl) (val_move rfl) ?_
        refine vd_on rfl rfl rfl rfl rfl rfl (.some rfl) (val_move rfl) ?_
        refine vd_op rfl rfl ?_
        refine vl_on rfl rfl rfl rfl ?_
        refine vl_callV rfl rfl (.some rfl) Try.call33 rfl (fun w hw => rWords _ _ _ _ _ _ (unrL_len _) w (rdw (rd_sl (by repeat (first | exact .head | apply In.tail | apply Take.tail | apply Upd.tail))) hw) (rdw (rd_sl (by repeat (first | exact .head | apply In.tail | apply Take.tail | apply Upd.tail))) hw)) ?_
        rw [decide_eq_true rfl]
        refine vl_nil ?_
        refine ⟨fun _ => ⟨_, (by repeat (first | exact .nil | (apply Sub.cons; · repeat (first | exact .head | apply Take.tail))))⟩, ?_⟩
        refine vd_val rfl rfl rfl (.some rfl) (val_pick rfl rfl) ?_
        refine vd_val rfl rfl rfl (.some rfl) (val_move rfl) ?_
        refine vd_on rfl rfl rfl rfl rfl rfl (.some rfl) (val_move rfl) ?_
        refine vd_on rfl rfl rfl rfl rfl rfl (.some rfl) (val_move rfl) ?_
        refine vd_on rfl rfl rfl rfl rfl rfl (.some rfl) (val_eqt rfl rfl (rfl)) ?_
        refine vd_val rfl rfl rfl (.some rfl) (val_pick rfl rfl) ?_
        refine vd_val rfl rfl rfl (.some rfl) (val_move rfl) ?_
        refine vd_on rfl rfl rfl rfl rfl rfl (.some rfl) (val_move rfl) ?_
        refine vd_on rfl rfl rfl rfl rfl rfl (.some rfl) (val_move rfl) ?_
        refine vd_op rfl rfl ?_
        refine vl_on rfl rfl rfl rfl ?_
        refine vl_callV rfl rfl (.some rfl) Try.call42 rfl (fun w hw => rInts _ _ _ _ _ _ (by have := undL_len b; omega) w (rdw (rd_sl (by repeat (first | exact .head | apply In.tail | apply Take.tail | apply Upd.tail))) hw) (rdw (rd_sl (by repeat (first | exact .head | apply In.tail | apply Take.tail | apply Upd.tail))) hw)) ?_
        rw [decide_eq_true rfl]
        refine vl_nil ?_
        refine ⟨fun _ => ⟨_, (by repeat (first | exact .nil | (apply Sub.cons; · repeat (first | exact .head | apply Take.tail))))⟩, ?_⟩
        refine vd_val rfl rfl rfl (.some rfl) (val_pick rfl rfl) ?_
        refine vd_val rfl rfl rfl (.some rfl) (val_move rfl) ?_
        refine vd_on rfl rfl rfl rfl rfl rfl (.some rfl) (val_move rfl) ?_
        refine vd_on rfl rfl rfl rfl rfl rfl (.some rfl) (val_move rfl) ?_
        refine vd_on rfl rfl rfl rfl rfl rfl (.some rfl) (val_eqt rfl rfl (rfl)) ?_
        refine vd_val rfl rfl rfl (.some rfl) (val_pick rfl rfl) ?_
        refine vd_val rfl rfl rfl (.some rfl) (val_move rfl) ?_
        refine vd_op rfl rfl ?_
        refine vl_on rfl rfl rfl rfl ?_
        refine vl_callV rfl rfl (.some rfl) Try.call17 rfl (fun w hw => cLives w) ?_
        refine vl_nil ?_
        refine ⟨fun _ => ⟨_, (by repeat (first | exact .nil | (apply Sub.cons; · repeat (first | exact .head | apply Take.tail))))⟩, ?_⟩
        refine vd_val rfl rfl rfl (.some rfl) (val_pick rfl rfl) ?_
        refine vd_val rfl rfl rfl (.some rfl) (val_assign rfl) ?_
        refine vd_nil ?_
        refine vc_ret ?_
        refine ⟨_, [], _, res1 Try.results8 rfl, .nil, ?_⟩
        rfl
set_option maxRecDepth 20000 in
set_option maxHeartbeats 400000 in
theorem law_CodecBack (A : Option Addr) (c : Nat) (l : List Nat) (A5 : Option Addr) (c5 : Nat) (m : List Int) (wd : Nat) (w : World) (hr : Reads w A (ucells l)) (g2 : l.length ≤ c) (g3 : c ≤ maxLen) (hu : ∀ u ∈ l, u < 18446744073709551616) (hr3 : Reads w A5 (icells .i64 m)) (g8 : m.length ≤ c5) (g9 : c5 ≤ maxLen) (hm : ∀ n ∈ m, -9223372036854775808 ≤ n ∧ n < 9223372036854775808) (hw : wd < 18446744073709551616) : FnV Try.prog 9 [.slice A l.length c, .slice A5 m.length c5, .int .u64 wd] (.bool true) w := by
  obtain ⟨n, hn⟩ : ∃ n, n = wd % 65 := ⟨_, rfl⟩
  have hn2 : n ≤ 64 := by omega
  refine fn_enter Try.func9 rfl Try.ntmps9 rfl ?_
  refine vc_seq ?_
  refine vc_region ?_
  refine vl_val rfl (.some rfl) (val_assign rfl) ?_
  refine vl_nil ?_
  refine vc_seq ?_
  refine vc_seq ?_
  refine vc_region ?_
  refine vl_val rfl (.some rfl) (val_move rfl) ?_
  refine vl_val rfl (.some rfl) (val_lenSl Try.runUnderlying41 rfl) ?_
  refine vl_val rfl (.some rfl) (val_gt rfl rfl) ?_
  refine vl_val rfl (.some rfl) (val_move rfl) ?_
  refine vl_split (t := 24) rfl (fun hg24 => ?_) (fun hg24 => ?_)
  · (try replace hg24 := of_decide_eq_true hg24)
    refine vl_off rfl rfl rfl rfl (.some rfl) ?_
    refine vl_off rfl rfl rfl rfl (.some rfl) ?_
    refine vl_off rfl rfl rfl rfl (.some rfl) ?_
    refine vl_val rfl (.some rfl) (val_pick rfl rfl) ?_
    refine vl_nil ?_
    refine vc_cond rfl (fun _ => ?_) (fun h => by cases h)
    refine vc_seq ?_
    refine vc_region ?_
    refine vl_callV rfl rfl (.some rfl) Try.call17 rfl (fun w hw => cLives w) ?_
    refine vl_val rfl (.some rfl) (val_assign rfl) ?_
    refine vl_nil ?_
    refine vc_ret ?_
    refine ⟨_, [], _, res1 Try.results9 rfl, .nil, ?_⟩
    rfl
  · (try replace hg24 := of_decide_eq_false hg24)
    refine vl_on rfl rfl rfl rfl ?_
    refine vl_val rfl (.some rfl) (val_move rfl) ?_
    refine vl_on rfl rfl rfl rfl ?_
    refine vl_val rfl (.some rfl) (val_lenSl Try.runUnderlying55 rfl) ?_
    refine vl_on rfl rfl rfl rfl ?_
    refine vl_val rfl (.some rfl) (val_gt rfl rfl) ?_
    refine vl_val rfl (.some rfl) (val_pick rfl rfl) ?_
    refine vl_nil ?_
    refine vc_cond rfl (fun hc0 => ?_) (fun hc0 => ?_)
    · (try replace hc0 := of_decide_eq_true hc0)
      refine vc_seq ?_
      refine vc_region ?_
      refine vl_callV rfl rfl (.some rfl) Try.call17 rfl (fun w hw => cLives w) ?_
      refine vl_val rfl (.some rfl) (val_assign rfl) ?_
      refine vl_nil ?_
      refine vc_ret ?_
      refine ⟨_, [], _, res1 Try.results9 rfl, .nil, ?_⟩
      rfl
    · (try replace hc0 := of_decide_eq_false hc0)
      refine vc_skip ?_
      refine vc_seq ?_
      refine vc_region ?_
      refine vl_val rfl (.some rfl) (val_move rfl) ?_
      refine vl_val rfl (.some rfl) (val_rem rfl rfl (by omega) (show _ = ((n : Nat) : Int) by rw [rem_nn (by omega)]; omega)) ?_
      refine vl_val rfl (.some rfl) (val_convInt Try.runUnderlying25 Try.runUnderlying3 rfl (by first | exact w_i64 (by omega) (by omega) | rfl)) ?_
      refine vl_val rfl (.some rfl) (val_assign rfl) ?_
      refine vl_nil ?_
      refine vc_seq ?_
      refine vc_region ?_
      refine vl_val rfl (.some rfl) (val_assign rfl) ?_
      refine vl_nilSl 22 1 ?_
      refine vl_nil ?_
      refine vc_seq ?_
      refine vc_seq ?_
      refine vc_region ?_
      refine vl_val rfl (.some rfl) (val_move rfl) ?_
      refine vl_val rfl (.some rfl) (val_lenSl Try.runUnderlying41 rfl) ?_
      refine vl_val rfl (.some rfl) (val_move rfl) ?_
      refine vl_nil ?_
      refine vc_block ?_
      refine vc_loopw (fun k E H => ∃ (i sn : Nat) (sm : List Nat) (A8 : Option Addr) (c8 : Nat), i ≤ l.length ∧ k = l.length - i ∧ sn = sm.length ∧ sm = (l.take i).map (smallF n) ∧ E = [(0, .slice A l.length c), (1, .slice A5 m.length c5), (7, .int .i64 n), (8, .slice A8 sn c8), (33, .slice A l.length c), (34, .int .i64 l.length), (35, .int .i64 i)] ∧ H = [UW A8 sn c8 sm]) (l.length) ⟨_, _, _, ⟨0, 0, [], none, 0, by omega, rfl, rfl, rfl, rfl, rfl⟩, (by repeat (first | exact trivial | refine ⟨rfl, ?_⟩ | refine ⟨le_item rfl (by first | rfl | (congr 1; omega) | (simp; done) | (simp; omega)), ?_⟩)), (by repeat (first | exact .nil | (apply Sub.cons; · repeat (first | exact .head | apply Take.tail))))⟩ ?_
      intro k E H hI
      obtain ⟨i, sn, sm, A8, c8, hi, rfl, hsn, hsm, rfl, rfl⟩ := hI
      have hsnl : sn = i := by rw [hsn, hsm]; simp; omega
      refine vc_seq ?_
      refine vc_region ?_
      refine vl_val rfl (.some rfl) (val_lt rfl rfl) ?_
      refine vl_nil ?_
      refine vc_seq ?_
      refine vc_cond rfl (fun hc1 => ?_) (fun hc1 => ?_)
      · (try replace hc1 := of_decide_eq_true hc1)
        refine vc_skip ?_
        refine vc_seq ?_
        refine vc_block ?_
        refine vc_seq ?_
        refine vc_region ?_
        refine vl_val rfl (.some rfl) (val_indexAddr Try.runUnderlying41 Try.sizeOf22 rfl rfl (by first | exact rd_sl (by repeat (first | exact .head | apply In.tail | apply Take.tail | apply Upd.tail)) | exact rd_slr (by repeat (first | exact .head | apply In.tail | apply Take.tail | apply Upd.tail)) | exact rd_old (by assumption) rfl) (by omega) (by omega) (by first | omega | (simp only [bcells_length, icells_length, ucells_length, tcells_length]; omega) | (simp; omega))) ?_
        refine vl_val rfl (.some rfl) (val_load Try.isAgg22 rfl (by first | exact cell_cells (by repeat (first | exact .head | apply In.tail | apply Take.tail | apply Upd.tail)) rfl | exact cell_rd (rd_sl (by repeat (first | exact .head | apply In.tail | apply Take.tail | apply Upd.tail))) (by first | exact bcells_at (by omega) | exact ucells_at (by omega) | exact icells_at (by omega) | exact tcells_at (by omega) | exact bcells_get (by omega) | exact icells_get (by omega) | exact tcells_get (by omega) | exact ucells_get (by omega)) | exact cell_rd (rd_old (by assumption) rfl) (by first | exact bcells_at (by omega) | exact ucells_at (by omega) | exact icells_at (by omega) | exact tcells_at (by omega) | exact bcells_get (by omega) | exact icells_get (by omega) | exact tcells_get (by omega) | exact ucells_get (by omega)) | exact cell_old (by assumption) (by simp [fps]))) ?_
        refine vl_val rfl (.some rfl) (val_assign rfl) ?_
        refine vl_nil ?_
        refine vc_seq ?_
        refine vc_seq ?_
        refine vc_region ?_
        refine vl_val rfl (.some rfl) (val_move rfl) ?_
        refine vl_val rfl (.some rfl) (val_lt rfl rfl) ?_
        refine vl_nil ?_
        refine vc_cond rfl (fun hc2 => ?_) (fun hc2 => ?_)
        · (try replace hc2 := of_decide_eq_true hc2)
          refine vc_region ?_
          refine vl_val rfl (.some rfl) (val_move rfl) ?_
          refine vl_val rfl (.some rfl) (val_move rfl) ?_
          refine vl_val rfl (.some rfl) (val_convInt Try.runUnderlying3 Try.runUnderlying25 rfl (by first | exact w_u64 (by omega) (by omega) | rfl)) ?_
          refine vl_val rfl (.some rfl) (val_shl rfl rfl (by omega) (shl_one (by omega))) ?_
          refine vl_val rfl (.some rfl) (val_rem rfl rfl (by have := Nat.pow_pos (n := n) (show 0 < 2 by decide); omega) (show _ = ((smallF n (l.getD i 0) : Nat) : Int) by rw [rem_nn (by omega), smallF, if_pos (by omega)]; simp)) ?_
          refine vl_val rfl (.some rfl) (val_assign rfl) ?_
          refine vl_nil ?_
          refine vc_region ?_
          refine vl_val rfl (.some rfl) (val_move rfl) ?_
          refine vl_val rfl (.some rfl) (val_move rfl) ?_
          refine vl_lit sT41 rfl rfl (.some rfl) rfl rfl rfl (by decide) (by decide) rfl (flat_one rfl) (fun r48 => ?_)
          refine vl_append sT41 rfl rfl (.some rfl) rfl rfl (by first | exact rd_sl (by repeat (first | exact .head | apply In.tail | apply Take.tail | apply Upd.tail)) | exact rd_slr (by repeat (first | exact .head | apply In.tail | apply Take.tail | apply Upd.tail)) | exact rd_old (by assumption) rfl) (by first | rfl | (simp; done) | (simp; omega) | (simp only [bcells_length, icells_length, ucells_length, tcells_length]; omega)) (by first | rfl | exact one_b _ | exact one_u _ | exact one_i _ | exact one_t _) (by omega) (by omega) (by repeat (first | exact .head | apply In.tail | apply Take.tail | apply Upd.tail)) (fun A49 k49 => ?_)
          refine vl_val rfl (.some rfl) (val_assign rfl) ?_
          refine vl_nil ?_
          refine vc_region ?_
          refine vl_val rfl (.some rfl) (val_add rfl rfl (by first | exact w_i64 (by omega) (by omega) | rfl)) ?_
          refine vl_val rfl (.some rfl) (val_move rfl) ?_
          refine vl_nil ?_
          rw [upush]
          exact ⟨l.length - (i + 1), _, _, _, by omega, (by repeat (first | exact trivial | refine ⟨rfl, ?_⟩ | refine ⟨le_item rfl (by first | rfl | (congr 1; omega) | (simp; done) | (simp; omega)), ?_⟩)), (by repeat (first | exact .nil | (apply Sub.cons; · repeat (first | exact .head | apply Take.tail)))), ⟨i + 1, sn + 1, _, _, _, by omega, rfl, by rw [List.length_append, hsn]; rfl, by rw [take_push 0 (by omega), List.map_append, ← hsm]; rfl, rfl, rfl⟩⟩
        · (try replace hc2 := of_decide_eq_false hc2)
          rw [show l.getD i 0 = smallF n (l.getD i 0) by rw [smallF, if_neg (by omega)]]
          refine vc_skip ?_
          refine vc_region ?_
          refine vl_val rfl (.some rfl) (val_move rfl) ?_
          refine vl_val rfl (.some rfl) (val_move rfl) ?_
          refine vl_lit sT41 rfl rfl (.some rfl) rfl rfl rfl (by decide) (by decide) rfl (flat_one rfl) (fun r48 => ?_)
          refine vl_append sT41 rfl rfl (.some rfl) rfl rfl (by first | exact rd_sl (by repeat (first | exact .head | apply In.tail | apply Take.tail | apply Upd.tail)) | exact rd_slr (by repeat (first | exact .head | apply In.tail | apply Take.tail | apply Upd.tail)) | exact rd_old (by assumption) rfl) (by first | rfl | (simp; done) | (simp; omega) | (simp only [bcells_length, icells_length, ucells_length, tcells_length]; omega)) (by first | rfl | exact one_b _ | exact one_u _ | exact one_i _ | exact one_t _) (by omega) (by omega) (by repeat (first | exact .head | apply In.tail | apply Take.tail | apply Upd.tail)) (fun A49 k49 => ?_)
          refine vl_val rfl (.some rfl) (val_assign rfl) ?_
          refine vl_nil ?_
          refine vc_region ?_
          refine vl_val rfl (.some rfl) (val_add rfl rfl (by first | exact w_i64 (by omega) (by omega) | rfl)) ?_
          refine vl_val rfl (.some rfl) (val_move rfl) ?_
          refine vl_nil ?_
          rw [upush]
          exact ⟨l.length - (i + 1), _, _, _, by omega, (by repeat (first | exact trivial | refine ⟨rfl, ?_⟩ | refine ⟨le_item rfl (by first | rfl | (congr 1; omega) | (simp; done) | (simp; omega)), ?_⟩)), (by repeat (first | exact .nil | (apply Sub.cons; · repeat (first | exact .head | apply Take.tail)))), ⟨i + 1, sn + 1, _, _, _, by omega, rfl, by rw [List.length_append, hsn]; rfl, by rw [take_push 0 (by omega), List.map_append, ← hsm]; rfl, rfl, rfl⟩⟩
      · (try replace hc1 := of_decide_eq_false hc1)
        obtain rfl : l.length = i := by omega
        rw [List.take_of_length_le (Nat.le_refl _)] at hsm
        obtain ⟨hsl, hsb⟩ := small_is hsm hu hn2
        have hfit : fitsW n sm := fun h64 u hu' => Nat.div_eq_of_lt (hsb u hu')
        have e1 : packB n sm = packS n sm := by unfold packB; rw [if_pos (by omega), Int.toNat_natCast, if_pos hfit]
        have e2 : packE n sm = 0 := by unfold packE; rw [if_pos (by omega), Int.toNat_natCast, if_pos hfit]
        obtain ⟨e3, e4⟩ := unp_some hn2 (n := sm.length) (by omega) (unpack_pack hsb)
        have hwl : n * sm.length ≤ 64 * 5000 := Nat.mul_le_mul hn2 (by omega)
        have e5 : unrL (runsS l) = l := by unfold unrL; rw [unruns_runs hu (by omega)]; rfl
        have e6 : unrE (runsS l) = 0 := by unfold unrE; rw [unruns_runs hu (by omega)]; rfl
        have e7 : undL (deltS m) = m := by unfold undL; rw [undelt_delt hm]; rfl
        have e8 : undE (deltS m) = 0 := by unfold undE; rw [undelt_delt hm]; rfl
        have hrl := runsS_len l
        have hdl := deltS_len m
        obtain rfl : sn = sm.length := hsn
        refine vc_exit ?_
        refine vc_seq ?_
        refine vc_region ?_
        refine vl_val rfl (.some rfl) (val_move rfl) ?_
        refine vl_val rfl (.some rfl) (val_move rfl) ?_
        refine vl_call (C := []) rfl rfl (.some rfl) Try.call29 rfl .nil (fun w' hw => cPack n A8 c8 sm (by omega) (fun u h => Nat.lt_of_lt_of_le (hsb u h) (by have := Nat.pow_le_pow_right (n := 2) (by decide) hn2; simpa using this)) w' (rdw (by first | exact rd_sl (by repeat (first | exact .head | apply In.tail | apply Take.tail | apply Upd.tail)) | exact rd_slr (by repeat (first | exact .head | apply In.tail | apply Take.tail | apply Upd.tail)) | exact rd_old (by assumption) rfl | exact rd_slq (by repeat (first | exact .head | apply In.tail | apply Take.tail | apply Upd.tail)) | exact rd_nil) hw)) (fun v H' h => ?_)
        obtain ⟨A1, c1, rfl, rfl⟩ := h
        show VL _ _ _ _ _ (_ :: _)
        rw [e1, e2]
        refine vl_val rfl (.some rfl) (val_move rfl) ?_
        refine vl_val rfl (.some rfl) (val_extract rfl rfl) ?_
        refine vl_val rfl (.some rfl) (val_extract rfl rfl) ?_
        refine vl_val rfl (.some rfl) (val_assign rfl) ?_
        refine vl_val rfl (.some rfl) (val_assign rfl) ?_
        refine vl_nil ?_
        refine vc_seq ?_
        refine vc_region ?_
        refine vl_val rfl (.some rfl) (val_move rfl) ?_
        refine vl_val rfl (.some rfl) (val_move rfl) ?_
        refine vl_val rfl (.some rfl) (val_lenSl Try.runUnderlying41 rfl) ?_
        refine vl_val rfl (.some rfl) (val_move rfl) ?_
        refine vl_call (C := []) rfl rfl (.some rfl) Try.call31 rfl .nil (fun w' hw => cUnpack n sm.length A1 c1 (packS n sm) (by rw [packS_len]; omega) w' (rdw (by first | exact rd_sl (by repeat (first | exact .head | apply In.tail | apply Take.tail | apply Upd.tail)) | exact rd_slr (by repeat (first | exact .head | apply In.tail | apply Take.tail | apply Upd.tail)) | exact rd_old (by assumption) rfl | exact rd_slq (by repeat (first | exact .head | apply In.tail | apply Take.tail | apply Upd.tail)) | exact rd_nil) hw)) (fun v H' h => ?_)
        obtain ⟨A2, c2, rfl, rfl⟩ := h
        show VL _ _ _ _ _ (_ :: _)
        rw [e3, e4]
        refine vl_val rfl (.some rfl) (val_move rfl) ?_
        refine vl_val rfl (.some rfl) (val_extract rfl rfl) ?_
        refine vl_val rfl (.some rfl) (val_extract rfl rfl) ?_
        refine vl_val rfl (.some rfl) (val_assign rfl) ?_
        refine vl_val rfl (.some rfl) (val_assign rfl) ?_
        refine vl_nil ?_
        refine vc_seq ?_
        refine vc_region ?_
        refine vl_val rfl (.some rfl) (val_move rfl) ?_
        refine vl_call (C := []) rfl rfl (.some rfl) Try.call38 rfl .nil (fun w' hw => cRuns A c l (by omega) hu w' (rdw (by first | exact rd_sl (by repeat (first | exact .head | apply In.tail | apply Take.tail | apply Upd.tail)) | exact rd_slr (by repeat (first | exact .head | apply In.tail | apply Take.tail | apply Upd.tail)) | exact rd_old (by assumption) rfl | exact rd_slq (by repeat (first | exact .head | apply In.tail | apply Take.tail | apply Upd.tail)) | exact rd_nil) hw)) (fun v H' h => ?_)
        obtain ⟨A3, c3, rfl, rfl⟩ := h
        show VL _ _ _ _ _ (_ :: _)
        refine vl_slCap (by repeat (first | exact .head | apply In.tail | apply Take.tail | apply Upd.tail)) (fun hcap => ?_)
        refine vl_call (C := []) rfl rfl (.some rfl) Try.call34 rfl .nil (fun w' hw => cUnruns A3 c3 (runsS l) (by omega) hcap w' (rdw (by first | exact rd_sl (by repeat (first | exact .head | apply In.tail | apply Take.tail | apply Upd.tail)) | exact rd_slr (by repeat (first | exact .head | apply In.tail | apply Take.tail | apply Upd.tail)) | exact rd_old (by assumption) rfl | exact rd_slq (by repeat (first | exact .head | apply In.tail | apply Take.tail | apply Upd.tail)) | exact rd_nil) hw)) (fun v H' h => ?_)
        obtain ⟨A4, c4, rfl, rfl⟩ := h
        show VL _ _ _ _ _ (_ :: _)
        rw [e5, e6]
        refine vl_val rfl (.some rfl) (val_move rfl) ?_
        refine vl_val rfl (.some rfl) (val_extract rfl rfl) ?_
        refine vl_val rfl (.some rfl) (val_extract rfl rfl) ?_
        refine vl_val rfl (.some rfl) (val_assign rfl) ?_
        refine vl_val rfl (.some rfl) (val_assign rfl) ?_
        refine vl_nil ?_
        refine vc_seq ?_
        refine vc_region ?_
        refine vl_val rfl (.some rfl) (val_move rfl) ?_
        refine vl_call (C := []) rfl rfl (.some rfl) Try.call40 rfl .nil (fun w' hw => cDeltas A5 c5 m (by omega) w' (rdw (by first | exact rd_sl (by repeat (first | exact .head | apply In.tail | apply Take.tail | apply Upd.tail)) | exact rd_slr (by repeat (first | exact .head | apply In.tail | apply Take.tail | apply Upd.tail)) | exact rd_old (by assumption) rfl | exact rd_slq (by repeat (first | exact .head | apply In.tail | apply Take.tail | apply Upd.tail)) | exact rd_nil) hw)) (fun v H' h => ?_)
        obtain ⟨A6, c6, rfl, rfl⟩ := h
        show VL _ _ _ _ _ (_ :: _)
        refine vl_slCap (by repeat (first | exact .head | apply In.tail | apply Take.tail | apply Upd.tail)) (fun hcap2 => ?_)
        refine vl_call (C := []) rfl rfl (.some rfl) Try.call36 rfl .nil (fun w' hw => cUndeltas A6 c6 (deltS m) (by omega) hcap2 w' (rdw (by first | exact rd_sl (by repeat (first | exact .head | apply In.tail | apply Take.tail | apply Upd.tail)) | exact rd_slr (by repeat (first | exact .head | apply In.tail | apply Take.tail | apply Upd.tail)) | exact rd_old (by assumption) rfl | exact rd_slq (by repeat (first | exact .head | apply In.tail | apply Take.tail | apply Upd.tail)) | exact rd_nil) hw)) (fun v H' h => ?_)
        obtain ⟨A7, c7, rfl, rfl⟩ := h
        show VL _ _ _ _ _ (_ :: _)
        rw [e7, e8]
        refine vl_val rfl (.some rfl) (val_move rfl) ?_
        refine vl_val rfl (.some rfl) (val_extract rfl rfl) ?_
        refine vl_val rfl (.some rfl) (val_extract rfl rfl) ?_
        refine vl_val rfl (.some rfl) (val_assign rfl) ?_
        refine vl_val rfl (.some rfl) (val_assign rfl) ?_
        refine vl_nil ?_
        refine vc_seq ?_
        refine vc_seq ?_
        refine vc_region ?_
        refine vl_val rfl (.some rfl) (val_move rfl) ?_
        refine vl_val rfl (.some rfl) (val_net rfl rfl (rfl)) ?_
        refine vl_val rfl (.some rfl) (val_move rfl) ?_
        refine vl_on rfl rfl rfl rfl ?_
        refine vl_val rfl (.some rfl) (val_move rfl) ?_
        refine vl_on rfl rfl rfl rfl ?_
        refine vl_val rfl (.some rfl) (val_net rfl rfl (rfl)) ?_
        refine vl_val rfl (.some rfl) (val_pick rfl rfl) ?_
        refine vl_val rfl (.some rfl) (val_move rfl) ?_
        refine vl_on rfl rfl rfl rfl ?_
        refine vl_val rfl (.some rfl) (val_move rfl) ?_
        refine vl_on rfl rfl rfl rfl ?_
        refine vl_val rfl (.some rfl) (val_net rfl rfl (rfl)) ?_
        refine vl_val rfl (.some rfl) (val_pick rfl rfl) ?_
        refine vl_val rfl (.some rfl) (val_move rfl) ?_
        refine vl_on rfl rfl rfl rfl ?_
        refine vl_val rfl (.some rfl) (val_move rfl) ?_
        refine vl_on rfl rfl rfl rfl ?_
        refine vl_val rfl (.some rfl) (val_net rfl rfl (rfl)) ?_
        refine vl_val rfl (.some rfl) (val_pick rfl rfl) ?_
        refine vl_val rfl (.some rfl) (val_move rfl) ?_
        refine vl_on rfl rfl rfl rfl ?_
        refine vl_val rfl (.some rfl) (val_move rfl) ?_
        refine vl_on rfl rfl rfl rfl ?_
        refine vl_val rfl (.some rfl) (val_move rfl) ?_
        refine vl_on rfl rfl rfl rfl ?_
        refine vl_callV rfl rfl (.some rfl) Try.call33 rfl (fun w hw => rWords _ _ _ _ _ _ (by omega) w (rdw (rd_sl (by repeat (first | exact .head | apply In.tail | apply Take.tail | apply Upd.tail))) hw) (rdw (rd_sl (by repeat (first | exact .head | apply In.tail | apply Take.tail | apply Upd.tail))) hw)) ?_
        rw [decide_eq_true rfl]
        refine vl_on rfl rfl rfl rfl ?_
        refine vl_val rfl (.some rfl) (val_not rfl) ?_
        refine vl_val rfl (.some rfl) (val_pick rfl rfl) ?_
        refine vl_val rfl (.some rfl) (val_move rfl) ?_
        refine vl_on rfl rfl rfl rfl ?_
        refine vl_val rfl (.some rfl) (val_move rfl) ?_
        refine vl_on rfl rfl rfl rfl ?_
        refine vl_val rfl (.some rfl) (val_move rfl) ?_
        refine vl_on rfl rfl rfl rfl ?_
        refine vl_callV rfl rfl (.some rfl) Try.call33 rfl (fun w hw => rWords _ _ _ _ _ _ (by omega) w (rdw (rd_sl (by repeat (first | exact .head | apply In.tail | apply Take.tail | apply Upd.tail))) hw) (rdw (rd_old hr rfl) hw)) ?_
        rw [decide_eq_true rfl]
        refine vl_on rfl rfl rfl rfl ?_
        refine vl_val rfl (.some rfl) (val_not rfl) ?_
        refine vl_val rfl (.some rfl) (val_pick rfl rfl) ?_
        refine vl_val rfl (.some rfl) (val_move rfl) ?_
        refine vl_on rfl rfl rfl rfl ?_
        refine vl_val rfl (.some rfl) (val_move rfl) ?_
        refine vl_on rfl rfl rfl rfl ?_
        refine vl_val rfl (.some rfl) (val_move rfl) ?_
        refine vl_on rfl rfl rfl rfl ?_
        refine vl_callV rfl rfl (.some rfl) Try.call42 rfl (fun w hw => rInts _ _ _ _ _ _ (by omega) w (rdw (rd_sl (by repeat (first | exact .head | apply In.tail | apply Take.tail | apply Upd.tail))) hw) (rdw (rd_old hr3 rfl) hw)) ?_
        rw [decide_eq_true rfl]
        refine vl_on rfl rfl rfl rfl ?_
        refine vl_val rfl (.some rfl) (val_not rfl) ?_
        refine vl_val rfl (.some rfl) (val_pick rfl rfl) ?_
        refine vl_nil ?_
        refine vc_cond rfl (fun h => by cases h) (fun _ => ?_)
        refine vc_skip ?_
        refine vc_seq ?_
        refine vc_seq ?_
        refine vc_region ?_
        refine vl_val rfl (.some rfl) (val_move rfl) ?_
        refine vl_val rfl (.some rfl) (val_lenSl Try.runUnderlying55 rfl) ?_
        refine vl_val rfl (.some rfl) (val_move rfl) ?_
        refine vl_nil ?_
        refine vc_block ?_
        refine vc_loopw (fun k E H => ∃ i : Nat, i ≤ m.length ∧ k = m.length - i ∧ E = [(109, .slice A5 m.length c5), (110, .int .i64 m.length), (111, .int .i64 i)] ∧ H = []) (m.length) ⟨_, _, _, ⟨0, by omega, rfl, rfl, rfl⟩, (by repeat (first | exact trivial | refine ⟨rfl, ?_⟩ | refine ⟨le_item rfl (by first | rfl | (congr 1; omega) | (simp; done) | (simp; omega)), ?_⟩)), (by repeat (first | exact .nil | (apply Sub.cons; · repeat (first | exact .head | apply Take.tail))))⟩ ?_
        intro k E H hI
        obtain ⟨i, hi, rfl, rfl, rfl⟩ := hI
        refine vc_seq ?_
        refine vc_region ?_
        refine vl_val rfl (.some rfl) (val_lt rfl rfl) ?_
        refine vl_nil ?_
        refine vc_seq ?_
        refine vc_cond rfl (fun hc4 => ?_) (fun hc4 => ?_)
        · (try replace hc4 := of_decide_eq_true hc4)
          have hmb := hm _ (getD_mem 0 (show i < m.length by omega))
          refine vc_skip ?_
          refine vc_seq ?_
          refine vc_block ?_
          refine vc_seq ?_
          refine vc_region ?_
          refine vl_val rfl (.some rfl) (val_indexAddr Try.runUnderlying55 Try.sizeOf3 rfl rfl (by first | exact rd_sl (by repeat (first | exact .head | apply In.tail | apply Take.tail | apply Upd.tail)) | exact rd_slr (by repeat (first | exact .head | apply In.tail | apply Take.tail | apply Upd.tail)) | exact rd_old (by assumption) rfl) (by omega) (by omega) (by first | omega | (simp only [bcells_length, icells_length, ucells_length, tcells_length]; omega) | (simp; omega))) ?_
          refine vl_val rfl (.some rfl) (val_load Try.isAgg3 rfl (by first | exact cell_cells (by repeat (first | exact .head | apply In.tail | apply Take.tail | apply Upd.tail)) rfl | exact cell_rd (rd_sl (by repeat (first | exact .head | apply In.tail | apply Take.tail | apply Upd.tail))) (by first | exact bcells_at (by omega) | exact ucells_at (by omega) | exact icells_at (by omega) | exact tcells_at (by omega) | exact bcells_get (by omega) | exact icells_get (by omega) | exact tcells_get (by omega) | exact ucells_get (by omega)) | exact cell_rd (rd_old (by assumption) rfl) (by first | exact bcells_at (by omega) | exact ucells_at (by omega) | exact icells_at (by omega) | exact tcells_at (by omega) | exact bcells_get (by omega) | exact icells_get (by omega) | exact tcells_get (by omega) | exact ucells_get (by omega)) | exact cell_old (by assumption) (by simp [fps]))) ?_
          refine vl_val rfl (.some rfl) (val_assign rfl) ?_
          refine vl_nil ?_
          refine vc_seq ?_
          refine vc_region ?_
          refine vl_val rfl (.some rfl) (val_move rfl) ?_
          refine vl_callV rfl rfl (.some rfl) Try.call22 rfl (fun w hw => cZig _ hmb.1 hmb.2 w) ?_
          refine vl_callV rfl rfl (.some rfl) Try.call24 rfl (fun w hw => cZag _ (zigS_lt hmb.1 hmb.2) w) ?_
          refine vl_val rfl (.some rfl) (val_move rfl) ?_
          refine vl_val rfl (.some rfl) (val_net rfl rfl (zag_zig _)) ?_
          refine vl_nil ?_
          refine vc_cond rfl (fun h => by cases h) (fun _ => ?_)
          refine vc_skip ?_
          refine vc_region ?_
          refine vl_val rfl (.some rfl) (val_add rfl rfl (by first | exact w_i64 (by omega) (by omega) | rfl)) ?_
          refine vl_val rfl (.some rfl) (val_move rfl) ?_
          refine vl_nil ?_
          exact ⟨m.length - (i + 1), _, _, _, by omega, (by repeat (first | exact trivial | refine ⟨rfl, ?_⟩ | refine ⟨le_item rfl (by first | rfl | (congr 1; omega) | (simp; done) | (simp; omega)), ?_⟩)), (by repeat (first | exact .nil | (apply Sub.cons; · repeat (first | exact .head | apply Take.tail)))), ⟨i + 1, by omega, rfl, rfl, rfl⟩⟩
        · (try replace hc4 := of_decide_eq_false hc4)
          refine vc_exit ?_
          refine vc_seq ?_
          refine vc_region ?_
          refine vl_callV rfl rfl (.some rfl) Try.call17 rfl (fun w hw => cLives w) ?_
          refine vl_val rfl (.some rfl) (val_assign rfl) ?_
          refine vl_nil ?_
          refine vc_ret ?_
          refine ⟨_, [], _, res1 Try.results9 rfl, .nil, ?_⟩
          rfl

end Go.Proofs.Yteapfdmjcgnjbaa.K
