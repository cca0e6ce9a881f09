/- Walks of the program's functions, printed by a program of this session; Lean checks them. -/
import Derived.Test.YteapfdmjcgnjbaaCruns
namespace Go.Proofs.Yteapfdmjcgnjbaa.K
open Go Go.RowKit Go.Proofs
set_option linter.unusedVariables false
set_option linter.unusedSimpArgs false
set_option maxRecDepth 20000 in
theorem sT55 : SlT Try.prog 55 3 1 8 (.int .i64 0) := ⟨Try.underlying55, ⟨Try.t3, Try.type3, rfl, rfl, rfl⟩, rfl, Nat.lt_of_sub_eq_succ rfl⟩

theorem unpL_len (w n : Int) (b : List UInt8) : (unpL w n b).length ≤ 1000000000000 := by
  unfold unpL unpO
  split
  · rename_i h
    cases e : unpackS w.toNat n.toNat b with
    | none => simp
    | some l =>
      have := (unpackS_lt (by omega) e).2
      simp only [Option.getD_some]; omega
  · simp
theorem fits_step {w : Nat} {l : List Nat} {i : Nat} {q : Bool} (hi : i < l.length) (hq : q = decide (∀ j, j < i → w < 64 → l.getD j 0 / 2 ^ w = 0)) (q2 : Bool) (h2 : q2 = (q && decide (w < 64 → l.getD i 0 / 2 ^ w = 0))) : q2 = decide (∀ j, j < i + 1 → w < 64 → l.getD j 0 / 2 ^ w = 0) := by
  rw [h2, hq, ← Bool.decide_and, decide_eq_decide]
  constructor
  · rintro ⟨h3, h4⟩ j hj h64
    rcases Nat.lt_or_ge j i with h | h
    · exact h3 j h h64
    · obtain rfl : j = i := by omega
      exact h4 h64
  · exact fun h => ⟨fun j hj => h j (by omega), h i (by omega)⟩
theorem fits_all {w : Nat} {l : List Nat} : fitsW w l ↔ ∀ j, j < l.length → w < 64 → l.getD j 0 / 2 ^ w = 0 := by
  constructor
  · intro h j hj h64
    exact h h64 _ (by rw [List.getD_eq_getElem?_getD, List.getElem?_eq_getElem hj]; exact List.getElem_mem _)
  · intro h h64 u hu
    obtain ⟨j, hj, rfl⟩ := List.getElem_of_mem hu
    have := h j hj h64
    simpa [List.getD, hj] using this

theorem widths_eq {n : Nat} {l : List Nat} {cnt : Int} (hn : n ≤ 64) (hl : l.length ≤ 5000) (hc : cnt = ((l.length + 1 : Nat) : Int)) (h : unpE n cnt (packS n l) ≠ 8) : (n * l.length + 7) / 8 = (n * l.length + n + 7) / 8 := by
  unfold unpE at h
  rw [if_pos (by omega), Int.toNat_natCast, hc, Int.toNat_natCast] at h
  by_cases hh : (packS n l).length ≠ (n * (l.length + 1) + 7) / 8
  · exfalso
    apply h
    have : unpackS n (l.length + 1) (packS n l) = none := by rw [unpS_is, if_pos hh]
    rw [this]; rfl
  · rw [packS_len] at hh
    rw [Nat.mul_add, Nat.mul_one] at hh
    omega

set_option maxRecDepth 20000 in
set_option maxHeartbeats 1000000 in
theorem cLives (w : World) : FnV Try.prog 17 [] (.bool true) w := by
  refine fn_enter Try.func17 rfl Try.ntmps17 rfl ?_
  refine vc_seq ?_
  refine vc_region ?_
  refine vl_val rfl (.some rfl) (val_assign rfl) ?_
  refine vl_nil ?_
  refine vc_seq ?_
  refine vc_region ?_
  refine vl_lit sT41 rfl rfl (.some rfl) rfl rfl rfl (by decide) (by decide) rfl (flat_one rfl) (fun r4 => ?_)
  refine vl_call (C := []) rfl rfl (.some rfl) Try.call29 rfl .nil (fun w hw => cPack 3 _ _ [5, 2] (by decide) (by decide) w (rdw (by first | exact rd_sl (by repeat (first | exact .head | apply In.tail | apply Take.tail | apply Upd.tail)) | exact rd_slr (by repeat (first | exact .head | apply In.tail | apply Take.tail | apply Upd.tail)) | exact rd_old (by assumption) rfl | exact rd_slq (by repeat (first | exact .head | apply In.tail | apply Take.tail | apply Upd.tail)) | exact rd_nil) hw)) (fun v H' h => ?_)
  obtain ⟨A1, c1, rfl, rfl⟩ := h
  rw [show packB 3 [5, 2] = [21] by decide +kernel, show packE 3 [5, 2] = 0 by decide +kernel]
  show VL _ _ _ _ _ (_ :: _)
  refine vl_val rfl (.some rfl) (val_move rfl) ?_
  refine vl_val rfl (.some rfl) (val_extract rfl rfl) ?_
  refine vl_val rfl (.some rfl) (val_extract rfl rfl) ?_
  refine vl_val rfl (.some rfl) (val_assign rfl) ?_
  refine vl_val rfl (.some rfl) (val_assign rfl) ?_
  refine vl_nil ?_
  refine vc_seq ?_
  refine vc_region ?_
  refine vl_callV rfl rfl (.some rfl) Try.call22 rfl (fun w hw => cZig (-1) (by decide) (by decide) w) ?_
  refine vl_val rfl (.some rfl) (val_eqt rfl rfl (by decide)) ?_
  refine vl_val rfl (.some rfl) (val_move rfl) ?_
  refine vl_on rfl rfl rfl rfl ?_
  refine vl_call (C := []) rfl rfl (.some rfl) Try.call15 rfl .nil (fun w hw => cPut none 0 [] 300 (by decide) (by decide) w (rdw (by first | exact rd_sl (by repeat (first | exact .head | apply In.tail | apply Take.tail | apply Upd.tail)) | exact rd_slr (by repeat (first | exact .head | apply In.tail | apply Take.tail | apply Upd.tail)) | exact rd_old (by assumption) rfl | exact rd_slq (by repeat (first | exact .head | apply In.tail | apply Take.tail | apply Upd.tail)) | exact rd_nil) hw)) (fun v H' h => ?_)
  obtain ⟨A2, c2, rfl, rfl⟩ := h
  rw [show ([] : List UInt8) ++ putN 300 = [172, 2] by decide +kernel]
  show VL _ _ _ _ _ (_ :: _)
  refine vl_on rfl rfl rfl rfl ?_
  refine vl_lit sT23 rfl rfl (.some rfl) rfl rfl rfl (by decide) (by decide) rfl (flat_one rfl) (fun r12 => ?_)
  refine vl_on rfl rfl rfl rfl ?_
  refine vl_callV rfl rfl (.some rfl) Try.call20 rfl (fun w hw => rSame _ _ _ _ ([172, 2]) ([172, 2]) w (rdw (by first | exact rd_sl (by repeat (first | exact .head | apply In.tail | apply Take.tail | apply Upd.tail)) | exact rd_slr (by repeat (first | exact .head | apply In.tail | apply Take.tail | apply Upd.tail)) | exact rd_old (by assumption) rfl | exact rd_slq (by repeat (first | exact .head | apply In.tail | apply Take.tail | apply Upd.tail)) | exact rd_nil) hw) (rdw (by first | exact rd_sl (by repeat (first | exact .head | apply In.tail | apply Take.tail | apply Upd.tail)) | exact rd_slr (by repeat (first | exact .head | apply In.tail | apply Take.tail | apply Upd.tail)) | exact rd_old (by assumption) rfl | exact rd_slq (by repeat (first | exact .head | apply In.tail | apply Take.tail | apply Upd.tail)) | exact rd_nil) hw)) ?_
  rw [decide_eq_true rfl]
  refine vl_val rfl (.some rfl) (val_pick rfl rfl) ?_
  refine vl_val rfl (.some rfl) (val_move rfl) ?_
  refine vl_on rfl rfl rfl rfl ?_
  refine vl_val rfl (.some rfl) (val_move rfl) ?_
  refine vl_on rfl rfl rfl rfl ?_
  refine vl_val rfl (.some rfl) (val_eqt rfl rfl (rfl)) ?_
  refine vl_val rfl (.some rfl) (val_pick rfl rfl) ?_
  refine vl_val rfl (.some rfl) (val_move rfl) ?_
  refine vl_on rfl rfl rfl rfl ?_
  refine vl_val rfl (.some rfl) (val_move rfl) ?_
  refine vl_on rfl rfl rfl rfl ?_
  refine vl_lit sT23 rfl rfl (.some rfl) rfl rfl rfl (by decide) (by decide) rfl (flat_one rfl) (fun r21 => ?_)
  refine vl_on rfl rfl rfl rfl ?_
  refine vl_callV rfl rfl (.some rfl) Try.call20 rfl (fun w hw => rSame _ _ _ _ ([21]) ([21]) w (rdw (by first | exact rd_sl (by repeat (first | exact .head | apply In.tail | apply Take.tail | apply Upd.tail)) | exact rd_slr (by repeat (first | exact .head | apply In.tail | apply Take.tail | apply Upd.tail)) | exact rd_old (by assumption) rfl | exact rd_slq (by repeat (first | exact .head | apply In.tail | apply Take.tail | apply Upd.tail)) | exact rd_nil) hw) (rdw (by first | exact rd_sl (by repeat (first | exact .head | apply In.tail | apply Take.tail | apply Upd.tail)) | exact rd_slr (by repeat (first | exact .head | apply In.tail | apply Take.tail | apply Upd.tail)) | exact rd_old (by assumption) rfl | exact rd_slq (by repeat (first | exact .head | apply In.tail | apply Take.tail | apply Upd.tail)) | exact rd_nil) hw)) ?_
  rw [decide_eq_true rfl]
  refine vl_val rfl (.some rfl) (val_pick rfl rfl) ?_
  refine vl_val rfl (.some rfl) (val_move rfl) ?_
  refine vl_on rfl rfl rfl rfl ?_
  refine vl_lit sT41 rfl rfl (.some rfl) rfl rfl rfl (by decide) (by decide) rfl (flat_one rfl) (fun r25 => ?_)
  refine vl_on rfl rfl rfl rfl ?_
  refine vl_call (C := []) rfl rfl (.some rfl) Try.call38 rfl .nil (fun w hw => cRuns _ _ [7, 7, 7, 1] (by decide) (by decide) w (rdw (by first | exact rd_sl (by repeat (first | exact .head | apply In.tail | apply Take.tail | apply Upd.tail)) | exact rd_slr (by repeat (first | exact .head | apply In.tail | apply Take.tail | apply Upd.tail)) | exact rd_old (by assumption) rfl | exact rd_slq (by repeat (first | exact .head | apply In.tail | apply Take.tail | apply Upd.tail)) | exact rd_nil) hw)) (fun v H' h => ?_)
  obtain ⟨A3, c3, rfl, rfl⟩ := h
  rw [show runsS [7, 7, 7, 1] = [7, 3, 1, 1] by decide +kernel]
  show VL _ _ _ _ _ (_ :: _)
  refine vl_on rfl rfl rfl rfl ?_
  refine vl_lit sT23 rfl rfl (.some rfl) rfl rfl rfl (by decide) (by decide) rfl (flat_one rfl) (fun r27 => ?_)
  refine vl_on rfl rfl rfl rfl ?_
  refine vl_callV rfl rfl (.some rfl) Try.call20 rfl (fun w hw => rSame _ _ _ _ ([7, 3, 1, 1]) ([7, 3, 1, 1]) w (rdw (by first | exact rd_sl (by repeat (first | exact .head | apply In.tail | apply Take.tail | apply Upd.tail)) | exact rd_slr (by repeat (first | exact .head | apply In.tail | apply Take.tail | apply Upd.tail)) | exact rd_old (by assumption) rfl | exact rd_slq (by repeat (first | exact .head | apply In.tail | apply Take.tail | apply Upd.tail)) | exact rd_nil) hw) (rdw (by first | exact rd_sl (by repeat (first | exact .head | apply In.tail | apply Take.tail | apply Upd.tail)) | exact rd_slr (by repeat (first | exact .head | apply In.tail | apply Take.tail | apply Upd.tail)) | exact rd_old (by assumption) rfl | exact rd_slq (by repeat (first | exact .head | apply In.tail | apply Take.tail | apply Upd.tail)) | exact rd_nil) hw)) ?_
  rw [decide_eq_true rfl]
  refine vl_val rfl (.some rfl) (val_pick rfl rfl) ?_
  refine vl_val rfl (.some rfl) (val_move rfl) ?_
  refine vl_on rfl rfl rfl rfl ?_
  refine vl_lit sT55 rfl rfl (.some rfl) rfl rfl rfl (by decide) (by decide) rfl (flat_one rfl) (fun r31 => ?_)
  refine vl_on rfl rfl rfl rfl ?_
  refine vl_call (C := []) rfl rfl (.some rfl) Try.call40 rfl .nil (fun w hw => cDeltas _ _ [5, 3] (by decide) w (rdw (by first | exact rd_sl (by repeat (first | exact .head | apply In.tail | apply Take.tail | apply Upd.tail)) | exact rd_slr (by repeat (first | exact .head | apply In.tail | apply Take.tail | apply Upd.tail)) | exact rd_old (by assumption) rfl | exact rd_slq (by repeat (first | exact .head | apply In.tail | apply Take.tail | apply Upd.tail)) | exact rd_nil) hw)) (fun v H' h => ?_)
  obtain ⟨A4, c4, rfl, rfl⟩ := h
  rw [show deltS [5, 3] = [10, 3] by decide +kernel]
  show VL _ _ _ _ _ (_ :: _)
  refine vl_on rfl rfl rfl rfl ?_
  refine vl_lit sT23 rfl rfl (.some rfl) rfl rfl rfl (by decide) (by decide) rfl (flat_one rfl) (fun r33 => ?_)
  refine vl_on rfl rfl rfl rfl ?_
  refine vl_callV rfl rfl (.some rfl) Try.call20 rfl (fun w hw => rSame _ _ _ _ ([10, 3]) ([10, 3]) w (rdw (by first | exact rd_sl (by repeat (first | exact .head | apply In.tail | apply Take.tail | apply Upd.tail)) | exact rd_slr (by repeat (first | exact .head | apply In.tail | apply Take.tail | apply Upd.tail)) | exact rd_old (by assumption) rfl | exact rd_slq (by repeat (first | exact .head | apply In.tail | apply Take.tail | apply Upd.tail)) | exact rd_nil) hw) (rdw (by first | exact rd_sl (by repeat (first | exact .head | apply In.tail | apply Take.tail | apply Upd.tail)) | exact rd_slr (by repeat (first | exact .head | apply In.tail | apply Take.tail | apply Upd.tail)) | exact rd_old (by assumption) rfl | exact rd_slq (by repeat (first | exact .head | apply In.tail | apply Take.tail | apply Upd.tail)) | exact rd_nil) hw)) ?_
  rw [decide_eq_true rfl]
  refine vl_val rfl (.some rfl) (val_pick rfl rfl) ?_
  refine vl_val rfl (.some rfl) (val_move rfl) ?_
  refine vl_on rfl rfl rfl rfl ?_
  refine vl_lit sT23 rfl rfl (.some rfl) rfl rfl rfl (by decide) (by decide) rfl (flat_one rfl) (fun r37 => ?_)
  refine vl_on rfl rfl rfl rfl ?_
  refine vl_mark rfl rfl (.some rfl) Try.runUnderlying23 Try.runUnderlying5 rfl (by repeat (first | exact .head | apply In.tail | apply Take.tail | apply Upd.tail)) ?_
  refine vl_on rfl rfl rfl rfl ?_
  refine vl_callV rfl rfl (.some rfl) Try.call60 rfl (fun w hw => cSum _ _ [49, 50, 51, 52, 53, 54, 55, 56, 57] (by decide) w (rdw (rd_slq (by repeat (first | exact .head | apply In.tail | apply Take.tail | apply Upd.tail))) hw)) ?_
  refine vl_on rfl rfl rfl rfl ?_
  refine vl_val rfl (.some rfl) (val_eqt rfl rfl (by rw [show sumS [49, 50, 51, 52, 53, 54, 55, 56, 57] = 3421780262 by decide +kernel]; rfl)) ?_
  refine vl_val rfl (.some rfl) (val_pick rfl rfl) ?_
  refine vl_val rfl (.some rfl) (val_assign rfl) ?_
  refine vl_nil ?_
  refine vc_ret ?_
  refine ⟨_, [], _, res1 Try.results17 rfl, .nil, ?_⟩
  rfl
set_option maxRecDepth 20000 in
theorem law_CodecPacks (width cnt : Int) (A : Option Addr) (c : Nat) (l : List Nat) (B : Option Addr) (d : Nat) (b : List UInt8) (w : World) (hw : -9223372036854775808 ≤ width ∧ width < 9223372036854775808) (hc : -9223372036854775808 ≤ cnt ∧ cnt < 9223372036854775808) (hr : Reads w A (ucells l)) (g2 : l.length ≤ c) (g3 : c ≤ maxLen) (hu : ∀ u ∈ l, u < 18446744073709551616) (hr2 : Reads w B (bcells b)) (g5 : b.length ≤ d) (g6 : d ≤ maxLen) : FnV Try.prog 6 [.int .i64 width, .int .i64 cnt, .agg #[.slice A l.length c, .slice B b.length d]] (.bool true) w := by
  refine fn_enter Try.func6 rfl Try.ntmps6 rfl ?_
  refine vc_seq ?_
  refine vc_region ?_
  refine vl_box rfl rfl (.some rfl) rfl (fun r5 => ?_)
  refine vl_val rfl (.some rfl) (val_assign rfl) ?_
  refine vl_nil ?_
  refine vc_seq ?_
  refine vc_seq ?_
  refine vc_region ?_
  refine vl_val rfl (.some rfl) (by first | exact val_fieldAddr Try.runUnderlying43 rfl Try.sizeOf41 rfl | exact val_fieldAddrR Try.runUnderlying43 rfl Try.sizeOf41 rfl) ?_
  refine vl_val rfl (.some rfl) (val_load Try.isAgg41 rfl (by first | exact cell_cells (by repeat (first | exact .head | apply In.tail | apply Take.tail | apply Upd.tail)) rfl | exact cell_rd (rd_sl (by repeat (first | exact .head | apply In.tail | apply Take.tail | apply Upd.tail))) (by first | exact bcells_at (by omega) | exact ucells_at (by omega) | exact icells_at (by omega) | exact tcells_at (by omega) | exact bcells_get (by omega) | exact icells_get (by omega) | exact tcells_get (by omega) | exact ucells_get (by omega)) | exact cell_rd (rd_old (by assumption) rfl) (by first | exact bcells_at (by omega) | exact ucells_at (by omega) | exact icells_at (by omega) | exact tcells_at (by omega) | exact bcells_get (by omega) | exact icells_get (by omega) | exact tcells_get (by omega) | exact ucells_get (by omega)) | exact cell_old (by assumption) (by simp [fps]))) ?_
  refine vl_val rfl (.some rfl) (val_lenSl Try.runUnderlying41 rfl) ?_
  refine vl_val rfl (.some rfl) (val_gt rfl rfl) ?_
  refine vl_val rfl (.some rfl) (val_move rfl) ?_
  refine vl_split (t := 19) rfl (fun hg19 => ?_) (fun hg19 => ?_)
  · (try replace hg19 := of_decide_eq_true hg19)
    refine vl_off rfl rfl rfl rfl (.some rfl) ?_
    refine vl_off rfl rfl rfl rfl (.some rfl) ?_
    refine vl_off rfl rfl rfl rfl (.some rfl) ?_
    refine vl_off rfl rfl rfl rfl (.some rfl) ?_
    refine vl_val rfl (.some rfl) (val_pick rfl rfl) ?_
    refine vl_nil ?_
    refine vc_cond rfl (fun _ => ?_) (fun h => by cases h)
    refine vc_seq ?_
    refine vc_region ?_
    refine vl_callV rfl rfl (.some rfl) Try.call17 rfl (fun w hw => cLives w) ?_
    refine vl_val rfl (.some rfl) (val_assign rfl) ?_
    refine vl_nil ?_
    refine vc_ret ?_
    refine ⟨_, [], _, res1 Try.results6 rfl, .nil, ?_⟩
    rfl
  · (try replace hg19 := of_decide_eq_false hg19)
    refine vl_on rfl rfl rfl rfl ?_
    refine vl_val rfl (.some rfl) (by first | exact val_fieldAddr Try.runUnderlying43 rfl Try.sizeOf23 rfl | exact val_fieldAddrR Try.runUnderlying43 rfl Try.sizeOf23 rfl) ?_
    refine vl_on rfl rfl rfl rfl ?_
    refine vl_val rfl (.some rfl) (val_load Try.isAgg23 rfl (by first | exact cell_cells (by repeat (first | exact .head | apply In.tail | apply Take.tail | apply Upd.tail)) rfl | exact cell_rd (rd_sl (by repeat (first | exact .head | apply In.tail | apply Take.tail | apply Upd.tail))) (by first | exact bcells_at (by omega) | exact ucells_at (by omega) | exact icells_at (by omega) | exact tcells_at (by omega) | exact bcells_get (by omega) | exact icells_get (by omega) | exact tcells_get (by omega) | exact ucells_get (by omega)) | exact cell_rd (rd_old (by assumption) rfl) (by first | exact bcells_at (by omega) | exact ucells_at (by omega) | exact icells_at (by omega) | exact tcells_at (by omega) | exact bcells_get (by omega) | exact icells_get (by omega) | exact tcells_get (by omega) | exact ucells_get (by omega)) | exact cell_old (by assumption) (by simp [fps]))) ?_
    refine vl_on rfl rfl rfl rfl ?_
    refine vl_val rfl (.some rfl) (val_lenSl Try.runUnderlying23 rfl) ?_
    refine vl_on rfl rfl rfl rfl ?_
    refine vl_val rfl (.some rfl) (val_gt rfl rfl) ?_
    refine vl_val rfl (.some rfl) (val_pick rfl rfl) ?_
    refine vl_nil ?_
    refine vc_cond rfl (fun hc0 => ?_) (fun hc0 => ?_)
    · (try replace hc0 := of_decide_eq_true hc0)
      refine vc_seq ?_
      refine vc_region ?_
      refine vl_callV rfl rfl (.some rfl) Try.call17 rfl (fun w hw => cLives w) ?_
      refine vl_val rfl (.some rfl) (val_assign rfl) ?_
      refine vl_nil ?_
      refine vc_ret ?_
      refine ⟨_, [], _, res1 Try.results6 rfl, .nil, ?_⟩
      rfl
    · (try replace hc0 := of_decide_eq_false hc0)
      refine vc_skip ?_
      refine vc_seq ?_
      refine vc_region ?_
      refine vl_val rfl (.some rfl) (val_move rfl) ?_
      refine vl_val rfl (.some rfl) (by first | exact val_fieldAddr Try.runUnderlying43 rfl Try.sizeOf41 rfl | exact val_fieldAddrR Try.runUnderlying43 rfl Try.sizeOf41 rfl) ?_
      refine vl_val rfl (.some rfl) (val_load Try.isAgg41 rfl (by first | exact cell_cells (by repeat (first | exact .head | apply In.tail | apply Take.tail | apply Upd.tail)) rfl | exact cell_rd (rd_sl (by repeat (first | exact .head | apply In.tail | apply Take.tail | apply Upd.tail))) (by first | exact bcells_at (by omega) | exact ucells_at (by omega) | exact icells_at (by omega) | exact tcells_at (by omega) | exact bcells_get (by omega) | exact icells_get (by omega) | exact tcells_get (by omega) | exact ucells_get (by omega)) | exact cell_rd (rd_old (by assumption) rfl) (by first | exact bcells_at (by omega) | exact ucells_at (by omega) | exact icells_at (by omega) | exact tcells_at (by omega) | exact bcells_get (by omega) | exact icells_get (by omega) | exact tcells_get (by omega) | exact ucells_get (by omega)) | exact cell_old (by assumption) (by simp [fps]))) ?_
      refine vl_call (C := []) rfl rfl (.some rfl) Try.call29 rfl .nil (fun w' hw => cPack width A c l (by omega) hu w' (rdw (by first | exact rd_sl (by repeat (first | exact .head | apply In.tail | apply Take.tail | apply Upd.tail)) | exact rd_slr (by repeat (first | exact .head | apply In.tail | apply Take.tail | apply Upd.tail)) | exact rd_old (by assumption) rfl | exact rd_slq (by repeat (first | exact .head | apply In.tail | apply Take.tail | apply Upd.tail)) | exact rd_nil) hw)) (fun v H' h => ?_)
      obtain ⟨A1, c1, rfl, rfl⟩ := h
      show VL _ _ _ _ _ (_ :: _)
      refine vl_val rfl (.some rfl) (val_move rfl) ?_
      refine vl_val rfl (.some rfl) (val_extract rfl rfl) ?_
      refine vl_val rfl (.some rfl) (val_extract rfl rfl) ?_
      refine vl_val rfl (.some rfl) (val_assign rfl) ?_
      refine vl_val rfl (.some rfl) (val_assign rfl) ?_
      refine vl_nil ?_
      refine vc_seq ?_
      refine vc_region ?_
      refine vl_val rfl (.some rfl) (val_move rfl) ?_
      refine vl_val rfl (.some rfl) (by first | exact val_fieldAddr Try.runUnderlying43 rfl Try.sizeOf41 rfl | exact val_fieldAddrR Try.runUnderlying43 rfl Try.sizeOf41 rfl) ?_
      refine vl_val rfl (.some rfl) (val_load Try.isAgg41 rfl (by first | exact cell_cells (by repeat (first | exact .head | apply In.tail | apply Take.tail | apply Upd.tail)) rfl | exact cell_rd (rd_sl (by repeat (first | exact .head | apply In.tail | apply Take.tail | apply Upd.tail))) (by first | exact bcells_at (by omega) | exact ucells_at (by omega) | exact icells_at (by omega) | exact tcells_at (by omega) | exact bcells_get (by omega) | exact icells_get (by omega) | exact tcells_get (by omega) | exact ucells_get (by omega)) | exact cell_rd (rd_old (by assumption) rfl) (by first | exact bcells_at (by omega) | exact ucells_at (by omega) | exact icells_at (by omega) | exact tcells_at (by omega) | exact bcells_get (by omega) | exact icells_get (by omega) | exact tcells_get (by omega) | exact ucells_get (by omega)) | exact cell_old (by assumption) (by simp [fps]))) ?_
      refine vl_call (C := []) rfl rfl (.some rfl) Try.call30 rfl .nil (fun w' hw => rPack width A c l (by omega) hu w' (rdw (by first | exact rd_sl (by repeat (first | exact .head | apply In.tail | apply Take.tail | apply Upd.tail)) | exact rd_slr (by repeat (first | exact .head | apply In.tail | apply Take.tail | apply Upd.tail)) | exact rd_old (by assumption) rfl | exact rd_slq (by repeat (first | exact .head | apply In.tail | apply Take.tail | apply Upd.tail)) | exact rd_nil) hw)) (fun v H' h => ?_)
      obtain ⟨A2, c2, rfl, rfl⟩ := h
      show VL _ _ _ _ _ (_ :: _)
      refine vl_val rfl (.some rfl) (val_move rfl) ?_
      refine vl_val rfl (.some rfl) (val_extract rfl rfl) ?_
      refine vl_val rfl (.some rfl) (val_extract rfl rfl) ?_
      refine vl_val rfl (.some rfl) (val_assign rfl) ?_
      refine vl_val rfl (.some rfl) (val_assign rfl) ?_
      refine vl_nil ?_
      refine vc_seq ?_
      refine vc_region ?_
      refine vl_val rfl (.some rfl) (val_move rfl) ?_
      refine vl_val rfl (.some rfl) (val_move rfl) ?_
      refine vl_val rfl (.some rfl) (by first | exact val_fieldAddr Try.runUnderlying43 rfl Try.sizeOf23 rfl | exact val_fieldAddrR Try.runUnderlying43 rfl Try.sizeOf23 rfl) ?_
      refine vl_val rfl (.some rfl) (val_load Try.isAgg23 rfl (by first | exact cell_cells (by repeat (first | exact .head | apply In.tail | apply Take.tail | apply Upd.tail)) rfl | exact cell_rd (rd_sl (by repeat (first | exact .head | apply In.tail | apply Take.tail | apply Upd.tail))) (by first | exact bcells_at (by omega) | exact ucells_at (by omega) | exact icells_at (by omega) | exact tcells_at (by omega) | exact bcells_get (by omega) | exact icells_get (by omega) | exact tcells_get (by omega) | exact ucells_get (by omega)) | exact cell_rd (rd_old (by assumption) rfl) (by first | exact bcells_at (by omega) | exact ucells_at (by omega) | exact icells_at (by omega) | exact tcells_at (by omega) | exact bcells_get (by omega) | exact icells_get (by omega) | exact tcells_get (by omega) | exact ucells_get (by omega)) | exact cell_old (by assumption) (by simp [fps]))) ?_
      refine vl_call (C := []) rfl rfl (.some rfl) Try.call31 rfl .nil (fun w' hw => cUnpack width cnt B d b (by omega) w' (rdw (by first | exact rd_sl (by repeat (first | exact .head | apply In.tail | apply Take.tail | apply Upd.tail)) | exact rd_slr (by repeat (first | exact .head | apply In.tail | apply Take.tail | apply Upd.tail)) | exact rd_old (by assumption) rfl | exact rd_slq (by repeat (first | exact .head | apply In.tail | apply Take.tail | apply Upd.tail)) | exact rd_nil) hw)) (fun v H' h => ?_)
      obtain ⟨A3, c3, rfl, rfl⟩ := h
      show VL _ _ _ _ _ (_ :: _)
      refine vl_val rfl (.some rfl) (val_move rfl) ?_
      refine vl_val rfl (.some rfl) (val_extract rfl rfl) ?_
      refine vl_val rfl (.some rfl) (val_extract rfl rfl) ?_
      refine vl_val rfl (.some rfl) (val_assign rfl) ?_
      refine vl_val rfl (.some rfl) (val_assign rfl) ?_
      refine vl_nil ?_
      refine vc_seq ?_
      refine vc_region ?_
      refine vl_val rfl (.some rfl) (val_move rfl) ?_
      refine vl_val rfl (.some rfl) (val_move rfl) ?_
      refine vl_val rfl (.some rfl) (by first | exact val_fieldAddr Try.runUnderlying43 rfl Try.sizeOf23 rfl | exact val_fieldAddrR Try.runUnderlying43 rfl Try.sizeOf23 rfl) ?_
      refine vl_val rfl (.some rfl) (val_load Try.isAgg23 rfl (by first | exact cell_cells (by repeat (first | exact .head | apply In.tail | apply Take.tail | apply Upd.tail)) rfl | exact cell_rd (rd_sl (by repeat (first | exact .head | apply In.tail | apply Take.tail | apply Upd.tail))) (by first | exact bcells_at (by omega) | exact ucells_at (by omega) | exact icells_at (by omega) | exact tcells_at (by omega) | exact bcells_get (by omega) | exact icells_get (by omega) | exact tcells_get (by omega) | exact ucells_get (by omega)) | exact cell_rd (rd_old (by assumption) rfl) (by first | exact bcells_at (by omega) | exact ucells_at (by omega) | exact icells_at (by omega) | exact tcells_at (by omega) | exact bcells_get (by omega) | exact icells_get (by omega) | exact tcells_get (by omega) | exact ucells_get (by omega)) | exact cell_old (by assumption) (by simp [fps]))) ?_
      refine vl_call (C := []) rfl rfl (.some rfl) Try.call32 rfl .nil (fun w' hw => rUnpack width cnt B d b (by omega) w' (rdw (by first | exact rd_sl (by repeat (first | exact .head | apply In.tail | apply Take.tail | apply Upd.tail)) | exact rd_slr (by repeat (first | exact .head | apply In.tail | apply Take.tail | apply Upd.tail)) | exact rd_old (by assumption) rfl | exact rd_slq (by repeat (first | exact .head | apply In.tail | apply Take.tail | apply Upd.tail)) | exact rd_nil) hw)) (fun v H' h => ?_)
      obtain ⟨A4, c4, rfl, rfl⟩ := h
      show VL _ _ _ _ _ (_ :: _)
      refine vl_val rfl (.some rfl) (val_move rfl) ?_
      refine vl_val rfl (.some rfl) (val_extract rfl rfl) ?_
      refine vl_val rfl (.some rfl) (val_extract rfl rfl) ?_
      refine vl_val rfl (.some rfl) (val_assign rfl) ?_
      refine vl_val rfl (.some rfl) (val_assign rfl) ?_
      refine vl_nil ?_
      refine vc_seq ?_
      refine vc_region ?_
      refine vl_val rfl (.some rfl) (val_move rfl) ?_
      refine vl_val rfl (.some rfl) (val_move rfl) ?_
      refine vl_callV rfl rfl (.some rfl) Try.call20 rfl (fun w hw => rSame _ _ _ _ _ _ w (rdw (rd_sl (by repeat (first | exact .head | apply In.tail | apply Take.tail | apply Upd.tail))) hw) (rdw (rd_sl (by repeat (first | exact .head | apply In.tail | apply Take.tail | apply Upd.tail))) hw)) ?_
      rw [decide_eq_true rfl]
      refine vl_val rfl (.some rfl) (val_move rfl) ?_
      refine vl_on rfl rfl rfl rfl ?_
      refine vl_val rfl (.some rfl) (val_move rfl) ?_
      refine vl_on rfl rfl rfl rfl ?_
      refine vl_val rfl (.some rfl) (val_move rfl) ?_
      refine vl_on rfl rfl rfl rfl ?_
      refine vl_val rfl (.some rfl) (val_eqt rfl rfl (rfl)) ?_
      refine vl_val rfl (.some rfl) (val_pick rfl rfl) ?_
      refine vl_val rfl (.some rfl) (val_move rfl) ?_
      refine vl_on rfl rfl rfl rfl ?_
      refine vl_val rfl (.some rfl) (val_move rfl) ?_
      refine vl_on rfl rfl rfl rfl ?_
      refine vl_val rfl (.some rfl) (val_move rfl) ?_
      refine vl_on rfl rfl rfl rfl ?_
      refine vl_callV rfl rfl (.some rfl) Try.call33 rfl (fun w hw => rWords _ _ _ _ _ _ (unpL_len _ _ _) w (rdw (rd_sl (by repeat (first | exact .head | apply In.tail | apply Take.tail | apply Upd.tail))) hw) (rdw (rd_sl (by repeat (first | exact .head | apply In.tail | apply Take.tail | apply Upd.tail))) hw)) ?_
      rw [decide_eq_true rfl]
      refine vl_val rfl (.some rfl) (val_pick rfl rfl) ?_
      refine vl_val rfl (.some rfl) (val_move rfl) ?_
      refine vl_on rfl rfl rfl rfl ?_
      refine vl_val rfl (.some rfl) (val_move rfl) ?_
      refine vl_on rfl rfl rfl rfl ?_
      refine vl_val rfl (.some rfl) (val_move rfl) ?_
      refine vl_on rfl rfl rfl rfl ?_
      refine vl_val rfl (.some rfl) (val_eqt rfl rfl (rfl)) ?_
      refine vl_val rfl (.some rfl) (val_pick rfl rfl) ?_
      refine vl_val rfl (.some rfl) (val_move rfl) ?_
      refine vl_on rfl rfl rfl rfl ?_
      refine vl_callV rfl rfl (.some rfl) Try.call17 rfl (fun w hw => cLives w) ?_
      refine vl_val rfl (.some rfl) (val_pick rfl rfl) ?_
      refine vl_val rfl (.some rfl) (val_assign rfl) ?_
      refine vl_nil ?_
      refine vc_ret ?_
      refine ⟨_, [], _, res1 Try.results6 rfl, .nil, ?_⟩
      rfl
set_option maxRecDepth 20000 in
theorem law_CodecWidths (A : Option Addr) (c : Nat) (l : List Nat) (wd : Nat) (w : World) (hr : Reads w A (ucells l)) (g2 : l.length ≤ c) (g3 : c ≤ maxLen) (hu : ∀ u ∈ l, u < 18446744073709551616) (hw : wd < 18446744073709551616) : FnV Try.prog 7 [.slice A l.length c, .int .u64 wd] (.bool true) w := by
  obtain ⟨n, hn⟩ : ∃ n, n = wd % 65 := ⟨_, rfl⟩
  have hn2 : n ≤ 64 := by omega
  refine fn_enter Try.func7 rfl Try.ntmps7 rfl ?_
  refine vc_seq ?_
  refine vc_region ?_
  refine vl_val rfl (.some rfl) (val_assign rfl) ?_
  refine vl_nil ?_
  refine vc_seq ?_
  refine vc_region ?_
  refine vl_val rfl (.some rfl) (val_move rfl) ?_
  refine vl_val rfl (.some rfl) (val_rem rfl rfl (by omega) (show _ = ((n : Nat) : Int) by rw [rem_nn (by omega)]; omega)) ?_
  refine vl_val rfl (.some rfl) (val_convInt Try.runUnderlying25 Try.runUnderlying3 rfl (by first | exact w_i64 (by omega) (by omega) | rfl)) ?_
  refine vl_val rfl (.some rfl) (val_assign rfl) ?_
  refine vl_nil ?_
  refine vc_seq ?_
  refine vc_seq ?_
  refine vc_region ?_
  refine vl_val rfl (.some rfl) (val_move rfl) ?_
  refine vl_val rfl (.some rfl) (val_lenSl Try.runUnderlying41 rfl) ?_
  refine vl_val rfl (.some rfl) (val_gt rfl rfl) ?_
  refine vl_nil ?_
  refine vc_cond rfl (fun hc0 => ?_) (fun hc0 => ?_)
  · (try replace hc0 := of_decide_eq_true hc0)
    refine vc_seq ?_
    refine vc_region ?_
    refine vl_callV rfl rfl (.some rfl) Try.call17 rfl (fun w hw => cLives w) ?_
    refine vl_val rfl (.some rfl) (val_assign rfl) ?_
    refine vl_nil ?_
    refine vc_ret ?_
    refine ⟨_, [], _, res1 Try.results7 rfl, .nil, ?_⟩
    rfl
  · (try replace hc0 := of_decide_eq_false hc0)
    refine vc_skip ?_
    refine vc_seq ?_
    refine vc_region ?_
    refine vl_val rfl (.some rfl) (val_move rfl) ?_
    refine vl_val rfl (.some rfl) (val_move rfl) ?_
    refine vl_call (C := []) rfl rfl (.some rfl) Try.call29 rfl .nil (fun w' hw => cPack n A c l (by omega) hu w' (rdw (by first | exact rd_sl (by repeat (first | exact .head | apply In.tail | apply Take.tail | apply Upd.tail)) | exact rd_slr (by repeat (first | exact .head | apply In.tail | apply Take.tail | apply Upd.tail)) | exact rd_old (by assumption) rfl | exact rd_slq (by repeat (first | exact .head | apply In.tail | apply Take.tail | apply Upd.tail)) | exact rd_nil) hw)) (fun v H' h => ?_)
    obtain ⟨A1, c1, rfl, rfl⟩ := h
    show VL _ _ _ _ _ (_ :: _)
    refine vl_val rfl (.some rfl) (val_move rfl) ?_
    refine vl_val rfl (.some rfl) (val_extract rfl rfl) ?_
    refine vl_val rfl (.some rfl) (val_extract rfl rfl) ?_
    refine vl_val rfl (.some rfl) (val_assign rfl) ?_
    refine vl_val rfl (.some rfl) (val_assign rfl) ?_
    refine vl_nil ?_
    refine vc_seq ?_
    refine vc_region ?_
    refine vl_val rfl (.some rfl) (val_assign rfl) ?_
    refine vl_nil ?_
    refine vc_seq ?_
    refine vc_seq ?_
    refine vc_region ?_
    refine vl_val rfl (.some rfl) (val_move rfl) ?_
    refine vl_val rfl (.some rfl) (val_lenSl Try.runUnderlying41 rfl) ?_
    refine vl_val rfl (.some rfl) (val_move rfl) ?_
    refine vl_nil ?_
    refine vc_block ?_
    refine vc_loopw (fun k E H => ∃ (i : Nat) (q : Bool), i ≤ l.length ∧ k = l.length - i ∧ q = decide (∀ j, j < i → n < 64 → l.getD j 0 / 2 ^ n = 0) ∧ E = [(0, .slice A l.length c), (5, .int .i64 n), (6, .slice A1 (packB n l).length c1), (7, .int .i64 (packE n l)), (8, .bool q), (26, .slice A l.length c), (27, .int .i64 l.length), (28, .int .i64 i)] ∧ H = [BY A1 (packB n l).length c1 (packB n l)]) (l.length) ⟨_, _, _, ⟨0, true, by omega, rfl, by rw [decide_eq_true (fun j hj => absurd hj (Nat.not_lt_zero _))], rfl, rfl⟩, (by repeat (first | exact trivial | refine ⟨rfl, ?_⟩ | refine ⟨le_item rfl (by first | rfl | (congr 1; omega) | (simp; done) | (simp; omega)), ?_⟩)), (by repeat (first | exact .nil | (apply Sub.cons; · repeat (first | exact .head | apply Take.tail))))⟩ ?_
    intro k E H hI
    obtain ⟨i, q, hi, rfl, hq, rfl, rfl⟩ := hI
    refine vc_seq ?_
    refine vc_region ?_
    refine vl_val rfl (.some rfl) (val_lt rfl rfl) ?_
    refine vl_nil ?_
    refine vc_seq ?_
    refine vc_cond rfl (fun hc1 => ?_) (fun hc1 => ?_)
    · (try replace hc1 := of_decide_eq_true hc1)
      refine vc_skip ?_
      refine vc_seq ?_
      refine vc_block ?_
      refine vc_seq ?_
      refine vc_region ?_
      refine vl_val rfl (.some rfl) (val_indexAddr Try.runUnderlying41 Try.sizeOf22 rfl rfl (by first | exact rd_sl (by repeat (first | exact .head | apply In.tail | apply Take.tail | apply Upd.tail)) | exact rd_slr (by repeat (first | exact .head | apply In.tail | apply Take.tail | apply Upd.tail)) | exact rd_old (by assumption) rfl) (by omega) (by omega) (by first | omega | (simp only [bcells_length, icells_length, ucells_length, tcells_length]; omega) | (simp; omega))) ?_
      refine vl_val rfl (.some rfl) (val_load Try.isAgg22 rfl (by first | exact cell_cells (by repeat (first | exact .head | apply In.tail | apply Take.tail | apply Upd.tail)) rfl | exact cell_rd (rd_sl (by repeat (first | exact .head | apply In.tail | apply Take.tail | apply Upd.tail))) (by first | exact bcells_at (by omega) | exact ucells_at (by omega) | exact icells_at (by omega) | exact tcells_at (by omega) | exact bcells_get (by omega) | exact icells_get (by omega) | exact tcells_get (by omega) | exact ucells_get (by omega)) | exact cell_rd (rd_old (by assumption) rfl) (by first | exact bcells_at (by omega) | exact ucells_at (by omega) | exact icells_at (by omega) | exact tcells_at (by omega) | exact bcells_get (by omega) | exact icells_get (by omega) | exact tcells_get (by omega) | exact ucells_get (by omega)) | exact cell_old (by assumption) (by simp [fps]))) ?_
      refine vl_val rfl (.some rfl) (val_assign rfl) ?_
      refine vl_nil ?_
      refine vc_region ?_
      refine vl_val rfl (.some rfl) (val_move rfl) ?_
      refine vl_val rfl (.some rfl) (val_move rfl) ?_
      refine vl_split (t := 33) rfl (fun hg33 => ?_) (fun hg33 => ?_)
      · (try replace hg33 := of_decide_eq_true hg33)
        refine vl_on rfl rfl rfl rfl ?_
        refine vl_val rfl (.some rfl) (val_move rfl) ?_
        refine vl_on rfl rfl rfl rfl ?_
        refine vl_val rfl (.some rfl) (val_eq rfl rfl) ?_
        refine vl_on rfl rfl rfl rfl ?_
        refine vl_val rfl (.some rfl) (val_move rfl) ?_
        refine vl_split (t := 36) rfl (fun hg36 => ?_) (fun hg36 => ?_)
        · (try replace hg36 := of_decide_eq_true hg36)
          refine vl_off rfl rfl rfl rfl (.some rfl) ?_
          refine vl_off rfl rfl rfl rfl (.some rfl) ?_
          refine vl_off rfl rfl rfl rfl (.some rfl) ?_
          refine vl_off rfl rfl rfl rfl (.some rfl) ?_
          refine vl_off rfl rfl rfl rfl (.some rfl) ?_
          refine vl_on rfl rfl rfl rfl ?_
          refine vl_val rfl (.some rfl) (val_pick rfl rfl) ?_
          refine vl_val rfl (.some rfl) (val_pick rfl rfl) ?_
          refine vl_val rfl (.some rfl) (val_assign rfl) ?_
          refine vl_nil ?_
          refine vc_region ?_
          refine vl_val rfl (.some rfl) (val_add rfl rfl (by first | exact w_i64 (by omega) (by omega) | rfl)) ?_
          refine vl_val rfl (.some rfl) (val_move rfl) ?_
          refine vl_nil ?_
          exact ⟨l.length - (i + 1), _, _, _, by omega, (by repeat (first | exact trivial | refine ⟨rfl, ?_⟩ | refine ⟨le_item rfl (by first | rfl | (congr 1; omega) | (simp; done) | (simp; omega)), ?_⟩)), (by repeat (first | exact .nil | (apply Sub.cons; · repeat (first | exact .head | apply Take.tail)))), ⟨i + 1, _, by omega, rfl, fits_step (by omega) hq _ (by first | (rw [hg33]; exact (Bool.false_and _).symm) | (rw [hg33, Bool.true_and]; refine (decide_eq_true (fun h => ?_)).symm; omega) | (rw [hg33, Bool.true_and, decide_eq_decide]; generalize l.getD i 0 / 2 ^ n = z; exact ⟨fun h _ => by omega, fun h => by have := h (by omega); omega⟩)), rfl, rfl⟩⟩
        · (try replace hg36 := of_decide_eq_false hg36)
          refine vl_on rfl rfl rfl rfl ?_
          refine vl_val rfl (.some rfl) (val_move rfl) ?_
          refine vl_on rfl rfl rfl rfl ?_
          refine vl_val rfl (.some rfl) (val_move rfl) ?_
          refine vl_on rfl rfl rfl rfl ?_
          refine vl_val rfl (.some rfl) (val_convInt Try.runUnderlying3 Try.runUnderlying25 rfl (by first | exact w_u64 (by omega) (by omega) | rfl)) ?_
          refine vl_on rfl rfl rfl rfl ?_
          refine vl_val rfl (.some rfl) (val_shr rfl rfl (by omega) (shr_nat (k := .u64) (by simp [IntKind.bits]; omega))) ?_
          refine vl_on rfl rfl rfl rfl ?_
          refine vl_val rfl (.some rfl) (val_eq rfl rfl) ?_
          refine vl_on rfl rfl rfl rfl ?_
          refine vl_val rfl (.some rfl) (val_pick rfl rfl) ?_
          refine vl_val rfl (.some rfl) (val_pick rfl rfl) ?_
          refine vl_val rfl (.some rfl) (val_assign rfl) ?_
          refine vl_nil ?_
          refine vc_region ?_
          refine vl_val rfl (.some rfl) (val_add rfl rfl (by first | exact w_i64 (by omega) (by omega) | rfl)) ?_
          refine vl_val rfl (.some rfl) (val_move rfl) ?_
          refine vl_nil ?_
          exact ⟨l.length - (i + 1), _, _, _, by omega, (by repeat (first | exact trivial | refine ⟨rfl, ?_⟩ | refine ⟨le_item rfl (by first | rfl | (congr 1; omega) | (simp; done) | (simp; omega)), ?_⟩)), (by repeat (first | exact .nil | (apply Sub.cons; · repeat (first | exact .head | apply Take.tail)))), ⟨i + 1, _, by omega, rfl, fits_step (by omega) hq _ (by first | (rw [hg33]; exact (Bool.false_and _).symm) | (rw [hg33, Bool.true_and]; refine (decide_eq_true (fun h => ?_)).symm; omega) | (rw [hg33, Bool.true_and, decide_eq_decide]; generalize l.getD i 0 / 2 ^ n = z; exact ⟨fun h _ => by omega, fun h => by have := h (by omega); omega⟩)), rfl, rfl⟩⟩
      · (try replace hg33 := of_decide_eq_false hg33)
        refine vl_off rfl rfl rfl rfl (.some rfl) ?_
        refine vl_off rfl rfl rfl rfl (.some rfl) ?_
        refine vl_off rfl rfl rfl rfl (.some rfl) ?_
        refine vl_offU rfl rfl rfl rfl (.some rfl) ?_
        refine vl_offU rfl rfl rfl rfl (.some rfl) ?_
        refine vl_offU rfl rfl rfl rfl (.some rfl) ?_
        refine vl_offU rfl rfl rfl rfl (.some rfl) ?_
        refine vl_offU rfl rfl rfl rfl (.some rfl) ?_
        refine vl_off rfl rfl rfl rfl (.some rfl) ?_
        refine vl_val rfl (.some rfl) (val_pick rfl rfl) ?_
        refine vl_val rfl (.some rfl) (val_assign rfl) ?_
        refine vl_nil ?_
        refine vc_region ?_
        refine vl_val rfl (.some rfl) (val_add rfl rfl (by first | exact w_i64 (by omega) (by omega) | rfl)) ?_
        refine vl_val rfl (.some rfl) (val_move rfl) ?_
        refine vl_nil ?_
        exact ⟨l.length - (i + 1), _, _, _, by omega, (by repeat (first | exact trivial | refine ⟨rfl, ?_⟩ | refine ⟨le_item rfl (by first | rfl | (congr 1; omega) | (simp; done) | (simp; omega)), ?_⟩)), (by repeat (first | exact .nil | (apply Sub.cons; · repeat (first | exact .head | apply Take.tail)))), ⟨i + 1, _, by omega, rfl, fits_step (by omega) hq _ (by first | (rw [hg33]; exact (Bool.false_and _).symm) | (rw [hg33, Bool.true_and]; refine (decide_eq_true (fun h => ?_)).symm; omega) | (rw [hg33, Bool.true_and, decide_eq_decide]; generalize l.getD i 0 / 2 ^ n = z; exact ⟨fun h _ => by omega, fun h => by have := h (by omega); omega⟩)), rfl, rfl⟩⟩
    · (try replace hc1 := of_decide_eq_false hc1)
      refine vc_exit ?_
      refine vc_seq ?_
      refine vc_seq ?_
      refine vc_region ?_
      refine vl_val rfl (.some rfl) (val_move rfl) ?_
      refine vl_val rfl (.some rfl) (val_not rfl) ?_
      refine vl_nil ?_
      refine vc_cond rfl (fun hc2 => ?_) (fun hc2 => ?_)
      · (try replace hc2 := of_decide_eq_true hc2)
        have hnf : ¬ fitsW n l := fun h => by
          rw [hq, decide_eq_true (fun j hj => fits_all.1 h j (by omega))] at hc2
          cases hc2
        have e1 : packB n l = [] := by unfold packB; rw [if_pos (by omega), Int.toNat_natCast, if_neg hnf]
        have e2 : packE n l = 6 := by unfold packE; rw [if_pos (by omega), Int.toNat_natCast, if_neg hnf]
        refine vc_seq ?_
        refine vc_region ?_
        refine vl_val rfl (.some rfl) (val_move rfl) ?_
        refine vl_val rfl (.some rfl) (val_eqt rfl rfl (e2)) ?_
        refine vl_val rfl (.some rfl) (val_move rfl) ?_
        refine vl_on rfl rfl rfl rfl ?_
        refine vl_val rfl (.some rfl) (val_move rfl) ?_
        refine vl_on rfl rfl rfl rfl ?_
        refine vl_val rfl (.some rfl) (val_lenSl Try.runUnderlying23 rfl) ?_
        refine vl_on rfl rfl rfl rfl ?_
        refine vl_val rfl (.some rfl) (val_eqt rfl rfl (by rw [e1]; rfl)) ?_
        refine vl_val rfl (.some rfl) (val_pick rfl rfl) ?_
        refine vl_val rfl (.some rfl) (val_move rfl) ?_
        refine vl_on rfl rfl rfl rfl ?_
        refine vl_callV rfl rfl (.some rfl) Try.call17 rfl (fun w hw => cLives w) ?_
        refine vl_val rfl (.some rfl) (val_pick rfl rfl) ?_
        refine vl_val rfl (.some rfl) (val_assign rfl) ?_
        refine vl_nil ?_
        refine vc_ret ?_
        refine ⟨_, [], _, res1 Try.results7 rfl, .nil, ?_⟩
        rfl
      · (try replace hc2 := of_decide_eq_false hc2)
        have hfit : fitsW n l := fits_all.2 (fun j hj => by
          have hqt : q = true := by cases q with
            | true => rfl
            | false => cases hc2
          rw [hqt] at hq
          exact of_decide_eq_true hq.symm j (by omega))
        have e1 : packB n l = packS n l := by unfold packB; rw [if_pos (by omega), Int.toNat_natCast, if_pos hfit]
        have e2 : packE n l = 0 := by unfold packE; rw [if_pos (by omega), Int.toNat_natCast, if_pos hfit]
        have hwl : n * l.length ≤ 64 * 5000 := Nat.mul_le_mul hn2 (by omega)
        refine vc_skip ?_
        refine vc_seq ?_
        refine vc_region ?_
        refine vl_val rfl (.some rfl) (val_move rfl) ?_
        refine vl_val rfl (.some rfl) (val_move rfl) ?_
        refine vl_val rfl (.some rfl) (val_lenSl Try.runUnderlying41 rfl) ?_
        refine vl_val rfl (.some rfl) (val_add rfl rfl (by first | exact w_i64 (by omega) (by omega) | rfl)) ?_
        refine vl_val rfl (.some rfl) (val_move rfl) ?_
        refine vl_call (C := []) rfl rfl (.some rfl) Try.call31 rfl .nil (fun w' hw => cUnpack n (l.length + 1) A1 c1 (packB n l) (by rw [e1, packS_len]; omega) w' (rdw (by first | exact rd_sl (by repeat (first | exact .head | apply In.tail | apply Take.tail | apply Upd.tail)) | exact rd_slr (by repeat (first | exact .head | apply In.tail | apply Take.tail | apply Upd.tail)) | exact rd_old (by assumption) rfl | exact rd_slq (by repeat (first | exact .head | apply In.tail | apply Take.tail | apply Upd.tail)) | exact rd_nil) hw)) (fun v H' h => ?_)
        obtain ⟨A3, c3, rfl, rfl⟩ := h
        show VL _ _ _ _ _ (_ :: _)
        refine vl_val rfl (.some rfl) (val_move rfl) ?_
        refine vl_val rfl (.some rfl) (val_extract rfl rfl) ?_
        refine vl_val rfl (.some rfl) (val_extract rfl rfl) ?_
        refine vl_val rfl (.some rfl) (val_assign rfl) ?_
        refine vl_val rfl (.some rfl) (val_assign rfl) ?_
        refine vl_nil ?_
        refine vc_seq ?_
        refine vc_region ?_
        refine vl_val rfl (.some rfl) (val_move rfl) ?_
        refine vl_val rfl (.some rfl) (val_eqt rfl rfl (e2)) ?_
        refine vl_val rfl (.some rfl) (val_move rfl) ?_
        refine vl_on rfl rfl rfl rfl ?_
        refine vl_val rfl (.some rfl) (val_move rfl) ?_
        refine vl_on rfl rfl rfl rfl ?_
        refine vl_val rfl (.some rfl) (val_lenSl Try.runUnderlying23 rfl) ?_
        refine vl_on rfl rfl rfl rfl ?_
        refine vl_val rfl (.some rfl) (val_move rfl) ?_
        refine vl_on rfl rfl rfl rfl ?_
        refine vl_val rfl (.some rfl) (val_move rfl) ?_
        refine vl_on rfl rfl rfl rfl ?_
        refine vl_val rfl (.some rfl) (val_lenSl Try.runUnderlying41 rfl) ?_
        refine vl_on rfl rfl rfl rfl ?_
        refine vl_val rfl (.some rfl) (val_mul rfl rfl (by first | exact w_i64 (by omega) (by omega) | rfl)) ?_
        refine vl_on rfl rfl rfl rfl ?_
        refine vl_val rfl (.some rfl) (val_add rfl rfl (by first | exact w_i64 (by omega) (by omega) | rfl)) ?_
        refine vl_on rfl rfl rfl rfl ?_
        refine vl_val rfl (.some rfl) (val_quo rfl rfl (by omega) (by first | exact quo_nn (by omega) (w_i64 (by omega) (by omega)) | rfl)) ?_
        refine vl_on rfl rfl rfl rfl ?_
        refine vl_val rfl (.some rfl) (val_eqt rfl rfl (by rw [e1, packS_len]; omega)) ?_
        refine vl_val rfl (.some rfl) (val_pick rfl rfl) ?_
        refine vl_val rfl (.some rfl) (val_move rfl) ?_
        refine vl_on rfl rfl rfl rfl ?_
        refine vl_val rfl (.some rfl) (val_move rfl) ?_
        refine vl_on rfl rfl rfl rfl ?_
        refine vl_val rfl (.some rfl) (val_eq rfl rfl) ?_
        refine vl_on rfl rfl rfl rfl ?_
        refine vl_val rfl (.some rfl) (val_move rfl) ?_
        refine vl_split (t := 82) rfl (fun hg82 => ?_) (fun hg82 => ?_)
        · (try replace hg82 := of_decide_eq_true hg82)
          refine vl_off rfl rfl rfl rfl (.some rfl) ?_
          refine vl_off rfl rfl rfl rfl (.some rfl) ?_
          refine vl_off rfl rfl rfl rfl (.some rfl) ?_
          refine vl_off rfl rfl rfl rfl (.some rfl) ?_
          refine vl_off rfl rfl rfl rfl (.some rfl) ?_
          refine vl_off rfl rfl rfl rfl (.some rfl) ?_
          refine vl_off rfl rfl rfl rfl (.some rfl) ?_
          refine vl_off rfl rfl rfl rfl (.some rfl) ?_
          refine vl_off rfl rfl rfl rfl (.some rfl) ?_
          refine vl_off rfl rfl rfl rfl (.some rfl) ?_
          refine vl_off rfl rfl rfl rfl (.some rfl) ?_
          refine vl_off rfl rfl rfl rfl (.some rfl) ?_
          refine vl_off rfl rfl rfl rfl (.some rfl) ?_
          refine vl_off rfl rfl rfl rfl (.some rfl) ?_
          refine vl_off rfl rfl rfl rfl (.some rfl) ?_
          refine vl_on rfl rfl rfl rfl ?_
          refine vl_val rfl (.some rfl) (val_pick rfl rfl) ?_
          refine vl_val rfl (.some rfl) (val_pick rfl rfl) ?_
          refine vl_val rfl (.some rfl) (val_move rfl) ?_
          refine vl_on rfl rfl rfl rfl ?_
          refine vl_callV rfl rfl (.some rfl) Try.call17 rfl (fun w hw => cLives w) ?_
          refine vl_val rfl (.some rfl) (val_pick rfl rfl) ?_
          refine vl_val rfl (.some rfl) (val_assign rfl) ?_
          refine vl_nil ?_
          refine vc_ret ?_
          refine ⟨_, [], _, res1 Try.results7 rfl, .nil, ?_⟩
          rfl
        · (try replace hg82 := of_decide_eq_false hg82)
          refine vl_on rfl rfl rfl rfl ?_
          refine vl_val rfl (.some rfl) (val_move rfl) ?_
          refine vl_on rfl rfl rfl rfl ?_
          refine vl_val rfl (.some rfl) (val_move rfl) ?_
          refine vl_on rfl rfl rfl rfl ?_
          refine vl_val rfl (.some rfl) (val_lenSl Try.runUnderlying41 rfl) ?_
          refine vl_on rfl rfl rfl rfl ?_
          refine vl_val rfl (.some rfl) (val_mul rfl rfl (by first | exact w_i64 (by omega) (by omega) | rfl)) ?_
          refine vl_on rfl rfl rfl rfl ?_
          refine vl_val rfl (.some rfl) (val_add rfl rfl (by first | exact w_i64 (by omega) (by omega) | rfl)) ?_
          refine vl_on rfl rfl rfl rfl ?_
          refine vl_val rfl (.some rfl) (val_quo rfl rfl (by omega) (by first | exact quo_nn (by omega) (w_i64 (by omega) (by omega)) | rfl)) ?_
          refine vl_on rfl rfl rfl rfl ?_
          refine vl_val rfl (.some rfl) (val_move rfl) ?_
          refine vl_on rfl rfl rfl rfl ?_
          refine vl_val rfl (.some rfl) (val_move rfl) ?_
          refine vl_on rfl rfl rfl rfl ?_
          refine vl_val rfl (.some rfl) (val_lenSl Try.runUnderlying41 rfl) ?_
          refine vl_on rfl rfl rfl rfl ?_
          refine vl_val rfl (.some rfl) (val_mul rfl rfl (by first | exact w_i64 (by omega) (by omega) | rfl)) ?_
          refine vl_on rfl rfl rfl rfl ?_
          refine vl_val rfl (.some rfl) (val_move rfl) ?_
          refine vl_on rfl rfl rfl rfl ?_
          refine vl_val rfl (.some rfl) (val_add rfl rfl (by first | exact w_i64 (by omega) (by omega) | rfl)) ?_
          refine vl_on rfl rfl rfl rfl ?_
          refine vl_val rfl (.some rfl) (val_add rfl rfl (by first | exact w_i64 (by omega) (by omega) | rfl)) ?_
          refine vl_on rfl rfl rfl rfl ?_
          refine vl_val rfl (.some rfl) (val_quo rfl rfl (by omega) (by first | exact quo_nn (by omega) (w_i64 (by omega) (by omega)) | rfl)) ?_
          refine vl_on rfl rfl rfl rfl ?_
          refine vl_val rfl (.some rfl) (val_eqt rfl rfl (by have := widths_eq (n := n) (l := l) (cnt := (l.length : Int) + 1) hn2 (by omega) (by omega) (by rw [← e1]; exact hg82); omega)) ?_
          refine vl_on rfl rfl rfl rfl ?_
          refine vl_val rfl (.some rfl) (val_pick rfl rfl) ?_
          refine vl_val rfl (.some rfl) (val_pick rfl rfl) ?_
          refine vl_val rfl (.some rfl) (val_move rfl) ?_
          refine vl_on rfl rfl rfl rfl ?_
          refine vl_callV rfl rfl (.some rfl) Try.call17 rfl (fun w hw => cLives w) ?_
          refine vl_val rfl (.some rfl) (val_pick rfl rfl) ?_
          refine vl_val rfl (.some rfl) (val_assign rfl) ?_
          refine vl_nil ?_
          refine vc_ret ?_
          refine ⟨_, [], _, res1 Try.results7 rfl, .nil, ?_⟩
          rfl

end Go.Proofs.Yteapfdmjcgnjbaa.K
