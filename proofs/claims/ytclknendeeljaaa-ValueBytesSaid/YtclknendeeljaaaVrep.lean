/- Walks of the program's functions, printed by a program of this session; Lean checks them. -/
import Derived.Test.YtclknendeeljaaaVbld
namespace Go.Proofs.Ytclknendeeljaaa.K
open Go Go.RowKit Go.Proofs
set_option linter.unusedVariables false
set_option linter.unusedSimpArgs false

abbrev sIt : ByteArray := ⟨#[105, 116, 39, 115]⟩
abbrev sQ : ByteArray := ⟨#[39]⟩
abbrev sQQ : ByteArray := ⟨#[39, 39]⟩
theorem cnt_run (w : World) : (callFunc 168 #[.string sIt, .int .u8 39]).run Try.prog w = .ok (.value (.int .i64 1)) w := by
  rw [run_callFunc_extern (e := Extern.BytealgCount.count) Try.func168 (by kernel_rfl) (by kernel_rfl) (by kernel_rfl) (by kernel_rfl)]
  kernel_rfl
theorem idx1_run (w : World) : (callFunc 179 #[.string sIt, .int .u8 39]).run Try.prog w = .ok (.value (.int .i64 2)) w := by
  rw [run_callFunc_extern (e := Extern.BytealgIndexByte.indexByte) Try.func179 (by kernel_rfl) (by kernel_rfl) (by kernel_rfl) (by kernel_rfl)]
  kernel_rfl

theorem valE {X : Cx} {E : Env} {H : List Chunk} {op : Op} {ty : TypeId} {v v' : Value} (h : v = v') (hv : Val X E H op ty v) : Val X E H op ty v' := h ▸ hv
def stI (i : Nat) : Int := if i = 0 then 0 else 3
def bf (i : Nat) : List UInt8 := if i = 0 then [] else [105, 116, 39, 39]

set_option maxRecDepth 20000 in
theorem kIndexByte (w : World) : FnV Try.prog 175 [.string sIt, .int .u8 39] (.int .i64 2) w := by
  refine fn_enter Try.func175 rfl Try.ntmps175 rfl ?_
  refine vc_seq ?_
  refine vc_region ?_
  refine vl_val rfl (.some rfl) (val_assign rfl) ?_
  refine vl_nil ?_
  refine vc_seq ?_
  refine vc_region ?_
  refine vl_val rfl (.some rfl) (val_move rfl) ?_
  refine vl_val rfl (.some rfl) (val_move rfl) ?_
  refine vl_ext rfl rfl (.some rfl) rfl idx1_run ?_
  refine vl_val rfl (.some rfl) (val_assign rfl) ?_
  refine vl_nil ?_
  refine vc_ret ?_
  refine ⟨_, [], _, res1 Try.results175 rfl, .nil, ?_⟩
  rfl
set_option maxRecDepth 20000 in
theorem kCount (w : World) : FnV Try.prog 161 [.string sIt, .string sQ] (.int .i64 1) w := by
  refine fn_enter Try.func161 rfl Try.ntmps161 rfl ?_
  refine vc_seq ?_
  refine vc_region ?_
  refine vl_val rfl (.some rfl) (val_assign rfl) ?_
  refine vl_nil ?_
  refine vc_seq ?_
  refine vc_seq ?_
  refine vc_region ?_
  refine vl_val rfl (.some rfl) (val_move rfl) ?_
  refine vl_val rfl (.some rfl) (val_lenStr Try.runUnderlying9 rfl) ?_
  refine vl_val rfl (.some rfl) (val_eq rfl rfl) ?_
  refine vl_nil ?_
  refine vc_cond rfl (fun hc0 => False.elim (by (try replace hc0 := of_decide_eq_true hc0); revert hc0; decide)) (fun hc0 => ?_)
  (try replace hc0 := of_decide_eq_false hc0)
  refine vc_skip ?_
  refine vc_seq ?_
  refine vc_seq ?_
  refine vc_region ?_
  refine vl_val rfl (.some rfl) (val_move rfl) ?_
  refine vl_val rfl (.some rfl) (val_lenStr Try.runUnderlying9 rfl) ?_
  refine vl_val rfl (.some rfl) (val_eq rfl rfl) ?_
  refine vl_nil ?_
  refine vc_cond rfl (fun hc1 => ?_) (fun hc1 => False.elim (by (try replace hc1 := of_decide_eq_false hc1); revert hc1; decide))
  (try replace hc1 := of_decide_eq_true hc1)
  refine vc_seq ?_
  refine vc_region ?_
  refine vl_val rfl (.some rfl) (val_move rfl) ?_
  refine vl_val rfl (.some rfl) (val_move rfl) ?_
  refine vl_val rfl (.some rfl) (val_indexStr Try.runUnderlying9 rfl rfl (by decide) (by decide)) ?_
  refine vl_ext rfl rfl (.some rfl) rfl cnt_run ?_
  refine vl_val rfl (.some rfl) (val_assign rfl) ?_
  refine vl_nil ?_
  refine vc_ret ?_
  refine ⟨_, [], _, res1 Try.results161 rfl, .nil, ?_⟩
  rfl
set_option maxRecDepth 20000 in
theorem kIndexL (w : World) : FnV Try.prog 171 [.string sIt, .string sQ] (.int .i64 2) w := by
  refine fn_enter Try.func171 rfl Try.ntmps171 rfl ?_
  refine vc_seq ?_
  refine vc_region ?_
  refine vl_val rfl (.some rfl) (val_assign rfl) ?_
  refine vl_nil ?_
  refine vc_seq ?_
  refine vc_region ?_
  refine vl_val rfl (.some rfl) (val_move rfl) ?_
  refine vl_val rfl (.some rfl) (val_lenStr Try.runUnderlying9 rfl) ?_
  refine vl_val rfl (.some rfl) (val_assign rfl) ?_
  refine vl_nil ?_
  refine vc_seq ?_
  refine vc_block ?_
  refine vc_seq ?_
  refine vc_region ?_
  refine vl_val rfl (.some rfl) (val_move rfl) ?_
  refine vl_val rfl (.some rfl) (val_eq rfl rfl) ?_
  refine vl_val rfl (.some rfl) (val_move rfl) ?_
  refine vl_split (t := 19) rfl (fun hg19 => ?_) (fun hg19 => ?_)
  · (try replace hg19 := of_decide_eq_true hg19)
    exfalso
    revert hg19; decide
  · (try replace hg19 := of_decide_eq_false hg19)
    refine vl_on rfl rfl rfl rfl ?_
    refine vl_val rfl (.some rfl) (val_move rfl) ?_
    refine vl_on rfl rfl rfl rfl ?_
    refine vl_val rfl (.some rfl) (val_move rfl) ?_
    refine vl_on rfl rfl rfl rfl ?_
    refine vl_val rfl (.some rfl) (val_seq rfl rfl) ?_
    refine vl_val rfl (.some rfl) (val_pick rfl rfl) ?_
    refine vl_val rfl (.some rfl) (val_assign rfl) ?_
    refine vl_nil ?_
    refine vc_cond rfl (fun hc0 => False.elim (by (try replace hc0 := of_decide_eq_true hc0); revert hc0; decide)) (fun hc0 => ?_)
    (try replace hc0 := of_decide_eq_false hc0)
    refine vc_seq ?_
    refine vc_region ?_
    refine vl_val rfl (.some rfl) (val_move rfl) ?_
    refine vl_val rfl (.some rfl) (val_eq rfl rfl) ?_
    refine vl_val rfl (.some rfl) (val_assign rfl) ?_
    refine vl_nil ?_
    refine vc_cond rfl (fun hc1 => ?_) (fun hc1 => False.elim (by (try replace hc1 := of_decide_eq_false hc1); revert hc1; decide))
    (try replace hc1 := of_decide_eq_true hc1)
    refine vc_seq ?_
    refine vc_region ?_
    refine vl_val rfl (.some rfl) (val_move rfl) ?_
    refine vl_val rfl (.some rfl) (val_move rfl) ?_
    refine vl_val rfl (.some rfl) (val_indexStr Try.runUnderlying9 rfl rfl (by decide) (by decide)) ?_
    refine vl_callV rfl rfl (.some rfl) Try.call175 rfl (fun w hw => kIndexByte w) ?_
    refine vl_val rfl (.some rfl) (val_assign rfl) ?_
    refine vl_nil ?_
    refine vc_ret ?_
    refine ⟨_, [], _, res1 Try.results171 rfl, .nil, ?_⟩
    rfl
set_option maxRecDepth 20000 in
theorem kIndex (w : World) : FnV Try.prog 163 [.string sIt, .string sQ] (.int .i64 2) w := by
  refine fn_enter Try.func163 rfl Try.ntmps163 rfl ?_
  refine vc_seq ?_
  refine vc_region ?_
  refine vl_val rfl (.some rfl) (val_assign rfl) ?_
  refine vl_nil ?_
  refine vc_seq ?_
  refine vc_region ?_
  refine vl_val rfl (.some rfl) (val_move rfl) ?_
  refine vl_val rfl (.some rfl) (val_move rfl) ?_
  refine vl_callV rfl rfl (.some rfl) Try.call171 rfl (fun w hw => kIndexL w) ?_
  refine vl_val rfl (.some rfl) (val_assign rfl) ?_
  refine vl_nil ?_
  refine vc_ret ?_
  refine ⟨_, [], _, res1 Try.results163 rfl, .nil, ?_⟩
  rfl
set_option maxRecDepth 20000 in
set_option maxHeartbeats 400000 in
theorem kReplace (w : World) : FnV Try.prog 160 [.string sIt, .string sQ, .string sQQ, .int .i64 (-1)] (.string ⟨#[105, 116, 39, 39, 115]⟩) w := by
  refine fn_enter Try.func160 rfl Try.ntmps160 rfl ?_
  refine vc_seq ?_
  refine vc_region ?_
  refine vl_val rfl (.some rfl) (val_assign rfl) ?_
  refine vl_nil ?_
  refine vc_seq ?_
  refine vc_seq ?_
  refine vc_region ?_
  refine vl_val rfl (.some rfl) (val_move rfl) ?_
  refine vl_val rfl (.some rfl) (val_move rfl) ?_
  refine vl_val rfl (.some rfl) (val_seq rfl rfl) ?_
  refine vl_val rfl (.some rfl) (val_move rfl) ?_
  refine vl_split (t := 19) rfl (fun hg19 => ?_) (fun hg19 => ?_)
  · (try replace hg19 := of_decide_eq_true hg19)
    exfalso
    revert hg19; decide
  · (try replace hg19 := of_decide_eq_false hg19)
    refine vl_on rfl rfl rfl rfl ?_
    refine vl_val rfl (.some rfl) (val_move rfl) ?_
    refine vl_on rfl rfl rfl rfl ?_
    refine vl_val rfl (.some rfl) (val_eq rfl rfl) ?_
    refine vl_val rfl (.some rfl) (val_pick rfl rfl) ?_
    refine vl_nil ?_
    refine vc_cond rfl (fun hc0 => False.elim (by (try replace hc0 := of_decide_eq_true hc0); revert hc0; decide)) (fun hc0 => ?_)
    (try replace hc0 := of_decide_eq_false hc0)
    refine vc_skip ?_
    refine vc_seq ?_
    refine vc_seq ?_
    refine vc_region ?_
    refine vl_val rfl (.some rfl) (val_move rfl) ?_
    refine vl_val rfl (.some rfl) (val_move rfl) ?_
    refine vl_callV rfl rfl (.some rfl) Try.call161 rfl (fun w hw => kCount w) ?_
    refine vl_val rfl (.some rfl) (val_assign rfl) ?_
    refine vl_nil ?_
    refine vc_seq ?_
    refine vc_region ?_
    refine vl_val rfl (.some rfl) (val_move rfl) ?_
    refine vl_val rfl (.some rfl) (val_eq rfl rfl) ?_
    refine vl_nil ?_
    refine vc_cond rfl (fun hc1 => False.elim (by (try replace hc1 := of_decide_eq_true hc1); revert hc1; decide)) (fun hc1 => ?_)
    (try replace hc1 := of_decide_eq_false hc1)
    refine vc_seq ?_
    refine vc_region ?_
    refine vl_val rfl (.some rfl) (val_move rfl) ?_
    refine vl_val rfl (.some rfl) (val_lt rfl rfl) ?_
    refine vl_val rfl (.some rfl) (val_move rfl) ?_
    refine vl_split (t := 32) rfl (fun hg32 => ?_) (fun hg32 => ?_)
    · (try replace hg32 := of_decide_eq_true hg32)
      refine vl_off rfl rfl rfl rfl (.some rfl) ?_
      refine vl_off rfl rfl rfl rfl (.some rfl) ?_
      refine vl_off rfl rfl rfl rfl (.some rfl) ?_
      refine vl_val rfl (.some rfl) (val_pick rfl rfl) ?_
      refine vl_nil ?_
      refine vc_cond rfl (fun _ => ?_) (fun h => by cases h)
      refine vc_region ?_
      refine vl_val rfl (.some rfl) (val_move rfl) ?_
      refine vl_val rfl (.some rfl) (val_assign rfl) ?_
      refine vl_nil ?_
      refine vc_seq ?_
      refine vc_region ?_
      refine vl_alloc rfl rfl (.some rfl) Try.zeroValue176 (fun r10 => ?_)
      refine vl_nil ?_
      refine vc_seq ?_
      refine vc_region ?_
      refine vl_val rfl (.some rfl) (val_move rfl) ?_
      refine vl_val rfl (.some rfl) (val_lenStr Try.runUnderlying9 rfl) ?_
      refine vl_val rfl (.some rfl) (val_move rfl) ?_
      refine vl_val rfl (.some rfl) (val_move rfl) ?_
      refine vl_val rfl (.some rfl) (val_lenStr Try.runUnderlying9 rfl) ?_
      refine vl_val rfl (.some rfl) (val_move rfl) ?_
      refine vl_val rfl (.some rfl) (val_lenStr Try.runUnderlying9 rfl) ?_
      refine vl_val rfl (.some rfl) (val_sub rfl rfl (by first | exact w_i64 (by omega) (by omega) | rfl)) ?_
      refine vl_val rfl (.some rfl) (val_mul rfl rfl (by first | exact w_i64 (by omega) (by omega) | rfl)) ?_
      refine vl_val rfl (.some rfl) (val_add rfl rfl (by first | exact w_i64 (by omega) (by omega) | rfl)) ?_
      refine vl_call (C := [BC r10 none none 0 0]) rfl rfl (.some rfl) Try.call162 rfl (by repeat (first | exact .nil | (apply Sub.cons; · repeat (first | exact .head | apply Take.tail)))) (fun w hw => bGrow r10 w) (fun v H' h => ?_)
      obtain ⟨g, c, hgc, rfl⟩ := h
      show VL _ _ _ _ _ (_ :: _ :: _)
      refine vl_nil ?_
      refine vc_seq ?_
      refine vc_region ?_
      refine vl_val rfl (.some rfl) (val_assign rfl) ?_
      refine vl_nil ?_
      refine vc_seq ?_
      refine vc_seq ?_
      refine vc_region ?_
      refine vl_val rfl (.some rfl) (val_move rfl) ?_
      refine vl_val rfl (.some rfl) (val_lenStr Try.runUnderlying9 rfl) ?_
      refine vl_val rfl (.some rfl) (val_gt rfl rfl) ?_
      refine vl_nil ?_
      refine vc_cond rfl (fun hc3 => ?_) (fun hc3 => False.elim (by (try replace hc3 := of_decide_eq_false hc3); revert hc3; decide))
      (try replace hc3 := of_decide_eq_true hc3)
      refine vc_seq ?_
      refine vc_region ?_
      refine vl_val rfl (.some rfl) (val_move rfl) ?_
      refine vl_val rfl (.some rfl) (val_move rfl) ?_
      refine vl_nil ?_
      refine vc_block ?_
      refine vc_loopw (fun k E H => ∃ (i : Nat) (A : Option Addr) (c : Nat), i ≤ 1 ∧ k = 1 - i ∧ E = [(0, .string sIt), (1, .string sQ), (2, .string sQQ), (10, .pointer (some ⟨r10, 0, none⟩)), (11, .int .i64 (stI i)), (52, .int .i64 1), (53, .int .i64 i)] ∧ H = [BC r10 (some ⟨r10, 0, none⟩) A (bf i).length c, sl A (bf i).length c 5 1 (bcells (bf i))]) (1) ⟨_, _, _, ⟨0, _, c, by omega, rfl, rfl, rfl⟩, (by repeat (first | exact trivial | refine ⟨rfl, ?_⟩ | refine ⟨le_item rfl (by first | rfl | (congr 1; omega) | (simp; done) | (simp; omega)), ?_⟩)), (by repeat (first | exact .nil | (apply Sub.cons; · repeat (first | exact .head | apply Take.tail))))⟩ ?_
      intro k E H hI
      obtain ⟨i, A, c, hi, rfl, rfl, rfl⟩ := hI
      refine vc_seq ?_
      refine vc_region ?_
      refine vl_val rfl (.some rfl) (val_lt rfl rfl) ?_
      refine vl_nil ?_
      refine vc_seq ?_
      refine vc_cond rfl (fun hc4 => ?_) (fun hc4 => ?_)
      · (try replace hc4 := of_decide_eq_true hc4)
        obtain rfl : i = 0 := by omega
        refine vc_skip ?_
        refine vc_seq ?_
        refine vc_block ?_
        refine vc_seq ?_
        refine vc_region ?_
        refine vl_val rfl (.some rfl) (val_move rfl) ?_
        refine vl_val rfl (.some rfl) (val_move rfl) ?_
        refine vl_val rfl (.some rfl) (val_move rfl) ?_
        refine vl_val rfl (.some rfl) (valE (congrArg Value.string (show sIt.extract 0 4 = sIt by decide)) (val_cutStrFrom (s := sIt) (p := 0) Try.runUnderlying9 rfl rfl (by decide) (by decide))) ?_
        refine vl_val rfl (.some rfl) (val_move rfl) ?_
        refine vl_callV rfl rfl (.some rfl) Try.call163 rfl (fun w hw => kIndex w) ?_
        refine vl_val rfl (.some rfl) (val_add rfl rfl (by first | exact w_i64 (by omega) (by omega) | rfl)) ?_
        refine vl_val rfl (.some rfl) (val_assign rfl) ?_
        refine vl_nil ?_
        refine vc_seq ?_
        refine vc_region ?_
        refine vl_val rfl (.some rfl) (val_move rfl) ?_
        refine vl_val rfl (.some rfl) (val_move rfl) ?_
        refine vl_val rfl (.some rfl) (val_move rfl) ?_
        refine vl_val rfl (.some rfl) (valE (congrArg Value.string (show sIt.extract 0 2 = ⟨#[105, 116]⟩ by decide)) (val_cutStr (s := sIt) (p := 0) (q := 2) Try.runUnderlying9 rfl rfl rfl (by decide) (by decide) (by decide))) ?_
        refine vl_call (C := [BC r10 (some ⟨r10, 0, none⟩) A ([]).length c, sl A ([]).length c 5 1 (bcells ([]))]) rfl rfl (.some rfl) Try.call164 rfl (by repeat (first | exact .nil | (apply Sub.cons; · repeat (first | exact .head | apply Take.tail)))) (fun w hw => bWrite r10 A c ([]) (by decide) ⟨#[105, 116]⟩ (by decide) w) (fun v H' h => ?_)
        obtain ⟨A2, c2, rfl⟩ := h
        show VL _ _ _ _ _ (_ :: _ :: _)
        refine vl_nil ?_
        refine vc_seq ?_
        refine vc_region ?_
        refine vl_val rfl (.some rfl) (val_move rfl) ?_
        refine vl_call (C := [BC r10 (some ⟨r10, 0, none⟩) A2 ([105, 116]).length c2, sl A2 ([105, 116]).length c2 5 1 (bcells ([105, 116]))]) rfl rfl (.some rfl) Try.call164 rfl (by repeat (first | exact .nil | (apply Sub.cons; · repeat (first | exact .head | apply Take.tail)))) (fun w hw => bWrite r10 A2 c2 ([105, 116]) (by decide) sQQ (by decide) w) (fun v H' h => ?_)
        obtain ⟨A3, c3, rfl⟩ := h
        show VL _ _ _ _ _ (_ :: _ :: _)
        refine vl_nil ?_
        refine vc_region ?_
        refine vl_val rfl (.some rfl) (val_move rfl) ?_
        refine vl_val rfl (.some rfl) (val_move rfl) ?_
        refine vl_val rfl (.some rfl) (val_lenStr Try.runUnderlying9 rfl) ?_
        refine vl_val rfl (.some rfl) (val_add rfl rfl (by first | exact w_i64 (by omega) (by omega) | rfl)) ?_
        refine vl_val rfl (.some rfl) (val_assign rfl) ?_
        refine vl_nil ?_
        refine vc_region ?_
        refine vl_val rfl (.some rfl) (val_add rfl rfl (by first | exact w_i64 (by omega) (by omega) | rfl)) ?_
        refine vl_val rfl (.some rfl) (val_move rfl) ?_
        refine vl_nil ?_
        exact ⟨1 - (0 + 1), _, _, _, by omega, (by repeat (first | exact trivial | refine ⟨rfl, ?_⟩ | refine ⟨le_item rfl (by first | rfl | (congr 1; omega) | (simp; done) | (simp; omega)), ?_⟩)), (by repeat (first | exact .nil | (apply Sub.cons; · repeat (first | exact .head | apply Take.tail)))), ⟨0 + 1, A3, c3, by omega, rfl, rfl, rfl⟩⟩
      · (try replace hc4 := of_decide_eq_false hc4)
        obtain rfl : i = 1 := by omega
        refine vc_exit ?_
        refine vc_seq ?_
        refine vc_region ?_
        refine vl_val rfl (.some rfl) (val_move rfl) ?_
        refine vl_val rfl (.some rfl) (val_move rfl) ?_
        refine vl_val rfl (.some rfl) (valE (congrArg Value.string (show sIt.extract 3 4 = ⟨#[115]⟩ by decide)) (val_cutStrFrom (s := sIt) (p := 3) Try.runUnderlying9 rfl rfl (by decide) (by decide))) ?_
        refine vl_call (C := [BC r10 (some ⟨r10, 0, none⟩) A (bf 1).length c, sl A (bf 1).length c 5 1 (bcells (bf 1))]) rfl rfl (.some rfl) Try.call164 rfl (by repeat (first | exact .nil | (apply Sub.cons; · repeat (first | exact .head | apply Take.tail)))) (fun w hw => bWrite r10 A c (bf 1) (by decide) ⟨#[115]⟩ (by decide) w) (fun v H' h => ?_)
        obtain ⟨A4, c4, rfl⟩ := h
        show VL _ _ _ _ _ (_ :: _ :: _)
        refine vl_nil ?_
        refine vc_seq ?_
        refine vc_region ?_
        refine vl_call (C := [BC r10 (some ⟨r10, 0, none⟩) A4 (bf 1 ++ [115]).length c4, sl A4 (bf 1 ++ [115]).length c4 5 1 (bcells (bf 1 ++ [115]))]) rfl rfl (.some rfl) Try.call166 rfl (by repeat (first | exact .nil | (apply Sub.cons; · repeat (first | exact .head | apply Take.tail)))) (fun w hw => bString r10 A4 c4 (bf 1 ++ [115]) (by decide) (by decide) w) (fun v H' h => ?_)
        obtain rfl := h
        refine vl_val rfl (.some rfl) (val_assign rfl) ?_
        refine vl_nil ?_
        refine vc_ret ?_
        refine ⟨_, [], _, res1 Try.results160 rfl, .nil, ?_⟩
        rfl
    · (try replace hg32 := of_decide_eq_false hg32)
      exfalso
      revert hg32; decide
set_option maxRecDepth 20000 in
theorem kReplaceAll (w : World) : FnV Try.prog 159 [.string sIt, .string sQ, .string sQQ] (.string ⟨#[105, 116, 39, 39, 115]⟩) w := by
  refine fn_enter Try.func159 rfl Try.ntmps159 rfl ?_
  refine vc_seq ?_
  refine vc_region ?_
  refine vl_val rfl (.some rfl) (val_assign rfl) ?_
  refine vl_nil ?_
  refine vc_seq ?_
  refine vc_region ?_
  refine vl_val rfl (.some rfl) (val_move rfl) ?_
  refine vl_val rfl (.some rfl) (val_move rfl) ?_
  refine vl_val rfl (.some rfl) (val_move rfl) ?_
  refine vl_callV rfl rfl (.some rfl) Try.call160 rfl (fun w hw => kReplace w) ?_
  refine vl_val rfl (.some rfl) (val_assign rfl) ?_
  refine vl_nil ?_
  refine vc_ret ?_
  refine ⟨_, [], _, res1 Try.results159 rfl, .nil, ?_⟩
  rfl

end Go.Proofs.Ytclknendeeljaaa.K
