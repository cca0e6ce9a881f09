/- Walks of the program's functions, printed by a program of this session; Lean checks them. -/
import Derived.Test.YtdehjgpdcdjhjaaDoorMh
import Derived.Test.YtdehjgpdcdjhjaaDoorKi
import Derived.Test.YtdehjgpdcdjhjaaDoorCg
import Derived.Test.YtdehjgpdcdjhjaaDoorProg
namespace Go.Proofs.YtdehjgpdcdjhjaaDoor.K
open Go Go.RowKit Go.Proofs
set_option linter.unusedVariables false
set_option linter.unusedSimpArgs false
set_option maxRecDepth 20000 in
theorem sT27 : SlT Tryd.prog 27 9 1 16 (.string .empty) := ⟨Tryd.underlying27, ⟨Tryd.t9, Tryd.type9, rfl, rfl, rfl⟩, rfl, Nat.lt_of_sub_eq_succ rfl⟩

/-- The words of queries. -/
def wordsL : List (List UInt8) := [[115, 101, 108, 101, 99, 116], [102, 114, 111, 109], [119, 104, 101, 114, 101], [103, 114, 111, 117, 112], [98, 121], [104, 97, 118, 105, 110, 103], [111, 114, 100, 101, 114], [108, 105, 109, 105, 116], [97, 115], [97, 110, 100], [111, 114], [110, 111, 116], [105, 115], [110, 117, 108, 108], [116, 114, 117, 101], [102, 97, 108, 115, 101], [97, 115, 99], [100, 101, 115, 99], [110, 97, 110], [105, 110, 102]]
abbrev sWords : ByteArray := ⟨#[115, 101, 108, 101, 99, 116, 32, 102, 114, 111, 109, 32, 119, 104, 101, 114, 101, 32, 103, 114, 111, 117, 112, 32, 98, 121, 32, 104, 97, 118, 105, 110, 103, 32, 111, 114, 100, 101, 114, 32, 108, 105, 109, 105, 116, 32, 97, 115, 32, 97, 110, 100, 32, 111, 114, 32, 110, 111, 116, 32, 105, 115, 32, 110, 117, 108, 108, 32, 116, 114, 117, 101, 32, 102, 97, 108, 115, 101, 32, 97, 115, 99, 32, 100, 101, 115, 99, 32, 110, 97, 110, 32, 105, 110, 102]⟩
abbrev sBl : ByteArray := ⟨#[32]⟩
def jnB : List (List UInt8) → List UInt8
  | [] => []
  | [x] => x
  | x :: y :: t => x ++ 32 :: jnB (y :: t)
def remT (i : Nat) : List UInt8 := jnB (wordsL.drop i)
def tcS (ws : List (List UInt8)) : List Value := ws.map fun x => Value.string (sL x)
theorem words_all : ((List.range 19).all fun i => decide (remT i = wordsL.getD i [] ++ 32 :: remT (i + 1)) && decide (idxB (sL (remT i)) 32 = ((wordsL.getD i []).length : Int)) && decide (remT i ≠ [32]) && decide ((wordsL.getD i []).length ≤ 8)) = true := by decide +kernel
theorem words_is {i : Nat} (h : i < 19) : idxB (sL (remT i)) 32 = ((wordsL.getD i []).length : Int) ∧ remT i ≠ [32] ∧ (wordsL.getD i []).length ≤ 8 ∧ (remT i).take (wordsL.getD i []).length = wordsL.getD i [] ∧ (remT i).drop ((wordsL.getD i []).length + 1) = remT (i + 1) ∧ (wordsL.getD i []).length + 1 ≤ (remT i).length := by
  have := List.all_eq_true.1 words_all i (List.mem_range.2 h)
  simp only [Bool.and_eq_true, decide_eq_true_eq] at this
  obtain ⟨⟨⟨h1, h2⟩, h3⟩, h4⟩ := this
  refine ⟨h2, h3, h4, ?_, ?_, ?_⟩
  · rw [h1]; simp
  · rw [h1, List.drop_append]; simp
  · rw [h1]; simp
theorem words_len {i : Nat} (h : i ≤ 20) : (wordsL.take i ++ List.replicate (20 - i) []).length = 20 := by
  have hn : wordsL.length = 20 := by decide
  rw [List.length_append, List.length_take, List.length_replicate]; omega
theorem words_0 : sWords = sL (remT 0) := by decide +kernel
theorem words_19 : remT 19 = wordsL.getD 19 [] := by decide +kernel
theorem words_n : wordsL.length = 20 := by decide
theorem idxb_run (s : ByteArray) (c : Int) (w : World) : (callFunc 74 #[.string s, .int .u8 c]).run Tryd.prog w = .ok (.value (.int .i64 (idxB s c))) w := by
  rw [run_callFunc_extern (e := Extern.BytealgIndexByte.indexByte) Tryd.func74 (by kernel_rfl) (by kernel_rfl) (by kernel_rfl) (by kernel_rfl)]
  have e : Extern.BytealgIndexByte.indexByte #[.string s, .int .u8 c] = (match (List.range s.size).find? fun i => s[i]! == UInt8.ofNat c.toNat with | some i => pure (goInt i) | none => pure (goInt (-1)) : Sem Value) := rfl
  rw [e]
  unfold idxB
  cases List.find? (fun i => s[i]! == UInt8.ofNat c.toNat) (List.range s.size) <;> rfl
theorem cnt_run (w : World) : (callFunc 67 #[.string sWords, .int .u8 32]).run Tryd.prog w = .ok (.value (.int .i64 19)) w := by
  rw [run_callFunc_extern (e := Extern.BytealgCount.count) Tryd.func67 (by kernel_rfl) (by kernel_rfl) (by kernel_rfl) (by kernel_rfl)]
  kernel_rfl
theorem tcS_length (ws : List (List UInt8)) : (tcS ws).length = ws.length := by simp [tcS]
theorem tcS_at {ws : List (List UInt8)} {i : Nat} (h : i < ws.length) : (tcS ws)[Int.toNat (i : Int) * 1]? = some (.string (sL (ws.getD i []))) := by
  rw [Int.toNat_natCast, Nat.mul_one]; simp [tcS, List.getD, h]
theorem tcS_made (n : Nat) : (madeCells (Value.string ⟨#[]⟩).cells (n * 1)).toList = tcS (List.replicate n []) := by
  refine (made_one rfl n).trans ?_
  simp [tcS]
theorem tcS_set {ws : List (List UInt8)} {i : Nat} {x : List UInt8} (h : i < ws.length) : laid (tcS ws) (Int.toNat (i : Int) * 1) (Value.cells (.string (sL x))).toList = tcS (ws.set i x) :=
  laid_map (g := fun x : List UInt8 => Value.string (sL x)) (j := i) (by omega) h rfl
theorem words_step {i : Nat} (h : i < 20) : (wordsL.take i ++ List.replicate (20 - i) []).set i (wordsL.getD i []) = wordsL.take (i + 1) ++ List.replicate (20 - (i + 1)) [] := by
  have hn := words_n
  have hl : (wordsL.take i).length = i := by rw [List.length_take]; omega
  have e : wordsL.take (i + 1) = wordsL.take i ++ [wordsL.getD i []] := by
    rw [List.take_add_one, List.getElem?_eq_getElem (show i < wordsL.length by omega)]
    simp [List.getD, show i < wordsL.length by omega]
  rw [List.set_append, if_neg (by omega), hl, Nat.sub_self, show 20 - i = (20 - (i + 1)) + 1 by omega, List.replicate_succ, List.set_cons_zero, e, List.append_assoc]
  rfl

set_option maxRecDepth 20000 in
theorem xIdxB (s : ByteArray) (w : World) : FnV Tryd.prog 70 [.string s, .int .u8 32] (.int .i64 (idxB s 32)) w := by
  refine fn_enter Tryd.func70 rfl Tryd.ntmps70 rfl ?_
  refine vc_seq ?_
  refine vc_region ?_
  refine vl_val rfl (.some rfl) (val_assign rfl) ?_
  refine vl_nil ?_
  refine vc_seq ?_
  refine vc_region ?_
  refine vl_val rfl (.some rfl) (val_move rfl) ?_
  refine vl_val rfl (.some rfl) (val_move rfl) ?_
  refine vl_ext rfl rfl (.some rfl) rfl (idxb_run _ _) ?_
  refine vl_val rfl (.some rfl) (val_assign rfl) ?_
  refine vl_nil ?_
  refine vc_ret ?_
  refine ⟨_, [], _, res1 Tryd.results70 rfl, .nil, ?_⟩
  rfl
set_option maxRecDepth 20000 in
theorem xIdxL (s : ByteArray) (hs : s ≠ sBl) (w : World) : FnV Tryd.prog 68 [.string s, .string sBl] (.int .i64 (idxB s 32)) w := by
  refine fn_enter Tryd.func68 rfl Tryd.ntmps68 rfl ?_
  refine vc_seq ?_
  refine vc_region ?_
  refine vl_val rfl (.some rfl) (val_assign rfl) ?_
  refine vl_nil ?_
  refine vc_seq ?_
  refine vc_region ?_
  refine vl_val rfl (.some rfl) (val_move rfl) ?_
  refine vl_val rfl (.some rfl) (val_lenStr Tryd.runUnderlying9 rfl) ?_
  refine vl_val rfl (.some rfl) (val_assign rfl) ?_
  refine vl_nil ?_
  refine vc_seq ?_
  refine vc_block ?_
  refine vc_seq ?_
  refine vc_region ?_
  refine vl_val rfl (.some rfl) (val_move rfl) ?_
  refine vl_val rfl (.some rfl) (val_eq rfl rfl) ?_
  refine vl_val rfl (.some rfl) (val_move rfl) ?_
  refine vl_split (t := 19) rfl (fun hg19 => ?_) (fun hg19 => ?_)
  · (try replace hg19 := of_decide_eq_true hg19)
    exfalso
    revert hg19; decide
  · (try replace hg19 := of_decide_eq_false hg19)
    refine vl_on rfl rfl rfl rfl ?_
    refine vl_val rfl (.some rfl) (val_move rfl) ?_
    refine vl_on rfl rfl rfl rfl ?_
    refine vl_val rfl (.some rfl) (val_move rfl) ?_
    refine vl_on rfl rfl rfl rfl ?_
    refine vl_val rfl (.some rfl) (val_seq rfl rfl) ?_
    refine vl_val rfl (.some rfl) (val_pick rfl rfl) ?_
    refine vl_val rfl (.some rfl) (val_assign rfl) ?_
    refine vl_nil ?_
    refine vc_cond rfl (fun hc0 => False.elim (by (try replace hc0 := of_decide_eq_true hc0); exact hs hc0.symm)) (fun hc0 => ?_)
    (try replace hc0 := of_decide_eq_false hc0)
    refine vc_seq ?_
    refine vc_region ?_
    refine vl_val rfl (.some rfl) (val_move rfl) ?_
    refine vl_val rfl (.some rfl) (val_eq rfl rfl) ?_
    refine vl_val rfl (.some rfl) (val_assign rfl) ?_
    refine vl_nil ?_
    refine vc_cond rfl (fun hc1 => ?_) (fun hc1 => False.elim (by (try replace hc1 := of_decide_eq_false hc1); revert hc1; decide))
    (try replace hc1 := of_decide_eq_true hc1)
    refine vc_seq ?_
    refine vc_region ?_
    refine vl_val rfl (.some rfl) (val_move rfl) ?_
    refine vl_val rfl (.some rfl) (val_move rfl) ?_
    refine vl_val rfl (.some rfl) (val_indexStr Tryd.runUnderlying9 rfl rfl (by decide) (by decide)) ?_
    refine vl_callV rfl rfl (.some rfl) Tryd.call70 rfl (fun w hw => xIdxB _ w) ?_
    refine vl_val rfl (.some rfl) (val_assign rfl) ?_
    refine vl_nil ?_
    refine vc_ret ?_
    refine ⟨_, [], _, res1 Tryd.results68 rfl, .nil, ?_⟩
    rfl
set_option maxRecDepth 20000 in
theorem xIdx (s : ByteArray) (hs : s ≠ sBl) (w : World) : FnV Tryd.prog 62 [.string s, .string sBl] (.int .i64 (idxB s 32)) w := by
  refine fn_enter Tryd.func62 rfl Tryd.ntmps62 rfl ?_
  refine vc_seq ?_
  refine vc_region ?_
  refine vl_val rfl (.some rfl) (val_assign rfl) ?_
  refine vl_nil ?_
  refine vc_seq ?_
  refine vc_region ?_
  refine vl_val rfl (.some rfl) (val_move rfl) ?_
  refine vl_val rfl (.some rfl) (val_move rfl) ?_
  refine vl_callV rfl rfl (.some rfl) Tryd.call68 rfl (fun w hw => xIdxL s hs w) ?_
  refine vl_val rfl (.some rfl) (val_assign rfl) ?_
  refine vl_nil ?_
  refine vc_ret ?_
  refine ⟨_, [], _, res1 Tryd.results62 rfl, .nil, ?_⟩
  rfl
set_option maxRecDepth 20000 in
theorem xCnt (w : World) : FnV Tryd.prog 61 [.string sWords, .string sBl] (.int .i64 19) w := by
  refine fn_enter Tryd.func61 rfl Tryd.ntmps61 rfl ?_
  refine vc_seq ?_
  refine vc_region ?_
  refine vl_val rfl (.some rfl) (val_assign rfl) ?_
  refine vl_nil ?_
  refine vc_seq ?_
  refine vc_seq ?_
  refine vc_region ?_
  refine vl_val rfl (.some rfl) (val_move rfl) ?_
  refine vl_val rfl (.some rfl) (val_lenStr Tryd.runUnderlying9 rfl) ?_
  refine vl_val rfl (.some rfl) (val_eq rfl rfl) ?_
  refine vl_nil ?_
  refine vc_cond rfl (fun hc0 => False.elim (by (try replace hc0 := of_decide_eq_true hc0); revert hc0; decide)) (fun hc0 => ?_)
  (try replace hc0 := of_decide_eq_false hc0)
  refine vc_skip ?_
  refine vc_seq ?_
  refine vc_seq ?_
  refine vc_region ?_
  refine vl_val rfl (.some rfl) (val_move rfl) ?_
  refine vl_val rfl (.some rfl) (val_lenStr Tryd.runUnderlying9 rfl) ?_
  refine vl_val rfl (.some rfl) (val_eq rfl rfl) ?_
  refine vl_nil ?_
  refine vc_cond rfl (fun hc1 => ?_) (fun hc1 => False.elim (by (try replace hc1 := of_decide_eq_false hc1); revert hc1; decide))
  (try replace hc1 := of_decide_eq_true hc1)
  refine vc_seq ?_
  refine vc_region ?_
  refine vl_val rfl (.some rfl) (val_move rfl) ?_
  refine vl_val rfl (.some rfl) (val_move rfl) ?_
  refine vl_val rfl (.some rfl) (val_indexStr Tryd.runUnderlying9 rfl rfl (by decide) (by decide)) ?_
  refine vl_ext rfl rfl (.some rfl) rfl cnt_run ?_
  refine vl_val rfl (.some rfl) (val_assign rfl) ?_
  refine vl_nil ?_
  refine vc_ret ?_
  refine ⟨_, [], _, res1 Tryd.results61 rfl, .nil, ?_⟩
  rfl
set_option maxRecDepth 20000 in
set_option maxHeartbeats 1000000 in
theorem xGen (w : World) : Fn Tryd.prog 46 [.string sWords, .string sBl, .int .i64 0, .int .i64 (-1)] [] (ret fun v H' => ∃ r, v = .slice (some ⟨r, 0, none⟩) 20 20 ∧ H' = [sl (some ⟨r, 0, none⟩) 20 20 9 1 (tcS wordsL)]) w := by
  refine fn_enter Tryd.func46 rfl Tryd.ntmps46 rfl ?_
  refine vc_seq ?_
  refine vc_region ?_
  refine vl_val rfl (.some rfl) (val_assign rfl) ?_
  refine vl_nil ?_
  refine vc_seq ?_
  refine vc_seq ?_
  refine vc_region ?_
  refine vl_val rfl (.some rfl) (val_move rfl) ?_
  refine vl_val rfl (.some rfl) (val_eq rfl rfl) ?_
  refine vl_nil ?_
  refine vc_cond rfl (fun hc0 => False.elim (by (try replace hc0 := of_decide_eq_true hc0); omega)) (fun hc0 => ?_)
  (try replace hc0 := of_decide_eq_false hc0)
  refine vc_skip ?_
  refine vc_seq ?_
  refine vc_seq ?_
  refine vc_region ?_
  refine vl_val rfl (.some rfl) (val_move rfl) ?_
  refine vl_val rfl (.some rfl) (val_seq rfl rfl) ?_
  refine vl_nil ?_
  refine vc_cond rfl (fun hc1 => False.elim (by (try replace hc1 := of_decide_eq_true hc1); revert hc1; decide)) (fun hc1 => ?_)
  (try replace hc1 := of_decide_eq_false hc1)
  refine vc_skip ?_
  refine vc_seq ?_
  refine vc_seq ?_
  refine vc_region ?_
  refine vl_val rfl (.some rfl) (val_move rfl) ?_
  refine vl_val rfl (.some rfl) (val_lt rfl rfl) ?_
  refine vl_nil ?_
  refine vc_cond rfl (fun hc2 => ?_) (fun hc2 => False.elim (by (try replace hc2 := of_decide_eq_false hc2); omega))
  (try replace hc2 := of_decide_eq_true hc2)
  refine vc_region ?_
  refine vl_val rfl (.some rfl) (val_move rfl) ?_
  refine vl_val rfl (.some rfl) (val_move rfl) ?_
  refine vl_callV rfl rfl (.some rfl) Tryd.call61 rfl (fun w hw => xCnt w) ?_
  refine vl_val rfl (.some rfl) (val_add rfl rfl (show _ = 20 from rfl)) ?_
  refine vl_val rfl (.some rfl) (val_assign rfl) ?_
  refine vl_nil ?_
  refine vc_seq ?_
  refine vc_region ?_
  refine vl_val rfl (.some rfl) (val_move rfl) ?_
  refine vl_val rfl (.some rfl) (val_move rfl) ?_
  refine vl_val rfl (.some rfl) (val_lenStr Tryd.runUnderlying9 rfl) ?_
  refine vl_val rfl (.some rfl) (val_add rfl rfl (show _ = 96 by decide)) ?_
  refine vl_val rfl (.some rfl) (val_min rfl rfl) ?_
  rw [show min (20 : Int) 96 = 20 by decide]
  refine vl_val rfl (.some rfl) (val_assign rfl) ?_
  refine vl_nil ?_
  refine vc_seq ?_
  refine vc_region ?_
  refine vl_val rfl (.some rfl) (val_move rfl) ?_
  refine vl_makeSlice sT27 rfl rfl (.some rfl) rfl rfl (by decide) (by decide) (by decide) (tcS_made _) (fun r31 => ?_)
  refine vl_val rfl (.some rfl) (val_assign rfl) ?_
  refine vl_nil ?_
  refine vc_seq ?_
  refine vc_region ?_
  refine vl_val rfl (.some rfl) (val_move rfl) ?_
  refine vl_val rfl (.some rfl) (val_sub rfl rfl (show _ = 19 from rfl)) ?_
  refine vl_val rfl (.some rfl) (val_assign rfl) ?_
  refine vl_nil ?_
  refine vc_seq ?_
  refine vc_region ?_
  refine vl_val rfl (.some rfl) (val_assign rfl) ?_
  refine vl_nil ?_
  refine vc_seq ?_
  refine vc_block ?_
  rw [words_0]
  refine vc_loopw (fun m E H => ∃ i : Nat, i ≤ 19 ∧ m = 19 - i ∧ E = [(0, .string (sL (remT i))), (1, .string sBl), (2, .int .i64 0), (3, .int .i64 19), (9, .slice (some ⟨r31, 0, none⟩) 20 20), (10, .int .i64 i)] ∧ H = [sl (some ⟨r31, 0, none⟩) 20 20 9 1 (tcS (wordsL.take i ++ List.replicate (20 - i) []))]) (19) ⟨_, _, _, ⟨0, by omega, rfl, rfl, rfl⟩, (by repeat (first | exact trivial | refine ⟨rfl, ?_⟩ | refine ⟨le_item rfl (by first | rfl | (congr 1; omega) | (simp; done) | (simp; omega)), ?_⟩)), (by repeat (first | exact .nil | (apply Sub.cons; · repeat (first | exact .head | apply Take.tail))))⟩ ?_
  intro m E H hI
  obtain ⟨i, hi, rfl, rfl, rfl⟩ := hI
  refine vc_seq ?_
  refine vc_seq ?_
  refine vc_region ?_
  refine vl_val rfl (.some rfl) (val_move rfl) ?_
  refine vl_val rfl (.some rfl) (val_move rfl) ?_
  refine vl_val rfl (.some rfl) (val_lt rfl rfl) ?_
  refine vl_nil ?_
  refine vc_cond rfl (fun hc3 => ?_) (fun hc3 => ?_)
  · (try replace hc3 := of_decide_eq_true hc3)
    obtain ⟨hw2, hw3, hw4, hw5, hw6, hw7⟩ := words_is (i := i) (by omega)
    have hsz := sL_size (remT i)
    refine vc_skip ?_
    refine vc_block ?_
    refine vc_seq ?_
    refine vc_region ?_
    refine vl_val rfl (.some rfl) (val_move rfl) ?_
    refine vl_val rfl (.some rfl) (val_move rfl) ?_
    refine vl_callV rfl rfl (.some rfl) Tryd.call62 rfl (fun w hw => xIdx (sL (remT i)) (fun e => hw3 (sL_inj.1 e)) w) ?_
    rw [hw2]
    refine vl_val rfl (.some rfl) (val_assign rfl) ?_
    refine vl_nil ?_
    refine vc_seq ?_
    refine vc_seq ?_
    refine vc_region ?_
    refine vl_val rfl (.some rfl) (val_move rfl) ?_
    refine vl_val rfl (.some rfl) (val_lt rfl rfl) ?_
    refine vl_nil ?_
    refine vc_cond rfl (fun hc4 => False.elim (by (try replace hc4 := of_decide_eq_true hc4); omega)) (fun hc4 => ?_)
    (try replace hc4 := of_decide_eq_false hc4)
    refine vc_skip ?_
    refine vc_seq ?_
    refine vc_region ?_
    refine vl_val rfl (.some rfl) (val_move rfl) ?_
    refine vl_val rfl (.some rfl) (val_move rfl) ?_
    refine vl_val rfl (.some rfl) (val_move rfl) ?_
    refine vl_val rfl (.some rfl) (val_move rfl) ?_
    refine vl_val rfl (.some rfl) (val_move rfl) ?_
    refine vl_val rfl (.some rfl) (val_add rfl rfl (show _ = ((wordsL.getD i []).length : Int) by rw [w_i64 (by omega) (by omega)]; omega)) ?_
    refine vl_val rfl (.some rfl) (val_cutStrTo Tryd.runUnderlying9 rfl rfl (by omega) (by omega)) ?_
    rw [sL_cut, Int.toNat_natCast, List.drop_zero, hw5]
    refine vl_val rfl (.some rfl) (val_indexAddr Tryd.runUnderlying27 Tryd.sizeOf9 rfl rfl (rd_sl (vs := tcS (wordsL.take i ++ List.replicate (20 - i) [])) (by repeat (first | exact .head | apply In.tail | apply Take.tail | apply Upd.tail))) (by omega) (by omega) (by rw [tcS_length, words_len (by omega)]; omega)) ?_
    refine vl_storeSl (vs := tcS (wordsL.take i ++ List.replicate (20 - i) [])) rfl rfl .none rfl rfl Tryd.sizeOf9 rfl (by simp [Value.cells]) (by repeat (first | exact .head | apply In.tail | apply Take.tail | apply Upd.tail)) (by rw [tcS_length, words_len (by omega)]; show Int.toNat (i : Int) * 1 + 1 ≤ _; omega) ?_
    rw [tcS_set (x := wordsL.getD i []) (by rw [words_len (by omega)]; omega), words_step (by omega)]
    refine vl_nil ?_
    refine vc_seq ?_
    refine vc_region ?_
    refine vl_val rfl (.some rfl) (val_move rfl) ?_
    refine vl_val rfl (.some rfl) (val_move rfl) ?_
    refine vl_val rfl (.some rfl) (val_move rfl) ?_
    refine vl_val rfl (.some rfl) (val_lenStr Tryd.runUnderlying9 rfl) ?_
    refine vl_val rfl (.some rfl) (val_add rfl rfl (show _ = (((wordsL.getD i []).length + 1 : Nat) : Int) by rw [show sBl.size = 1 from rfl, w_i64 (by omega) (by omega)]; omega)) ?_
    refine vl_val rfl (.some rfl) (val_cutStrFrom Tryd.runUnderlying9 rfl rfl (by omega) (by omega)) ?_
    rw [sL_cut, sL_size, List.take_length, Int.toNat_natCast, hw6]
    refine vl_val rfl (.some rfl) (val_assign rfl) ?_
    refine vl_nil ?_
    refine vc_region ?_
    refine vl_val rfl (.some rfl) (val_move rfl) ?_
    refine vl_val rfl (.some rfl) (val_add rfl rfl (by first | exact w_i64 (by omega) (by omega) | rfl)) ?_
    refine vl_val rfl (.some rfl) (val_assign rfl) ?_
    refine vl_nil ?_
    exact ⟨(19 - (i + 1)), _, _, _, by omega, (by repeat (first | exact trivial | refine ⟨rfl, ?_⟩ | refine ⟨le_item rfl (by first | rfl | (congr 1; omega) | (simp; done) | (simp; omega)), ?_⟩)), (by repeat (first | exact .nil | (apply Sub.cons; · repeat (first | exact .head | apply Take.tail)))), ⟨i + 1, by omega, rfl, rfl, rfl⟩⟩
  · (try replace hc3 := of_decide_eq_false hc3)
    refine vc_exit ?_
    refine vc_seq ?_
    refine vc_region ?_
    obtain rfl : i = 19 := by omega
    rw [words_19]
    refine vl_val rfl (.some rfl) (val_move rfl) ?_
    refine vl_val rfl (.some rfl) (val_move rfl) ?_
    refine vl_val rfl (.some rfl) (val_move rfl) ?_
    refine vl_val rfl (.some rfl) (val_indexAddr Tryd.runUnderlying27 Tryd.sizeOf9 rfl rfl (rd_sl (vs := tcS (wordsL.take 19 ++ List.replicate (20 - 19) [])) (by repeat (first | exact .head | apply In.tail | apply Take.tail | apply Upd.tail))) (by omega) (by omega) (by rw [tcS_length, words_len (by omega)]; omega)) ?_
    refine vl_storeSl (vs := tcS (wordsL.take 19 ++ List.replicate (20 - 19) [])) rfl rfl .none rfl rfl Tryd.sizeOf9 rfl (by simp [Value.cells]) (by repeat (first | exact .head | apply In.tail | apply Take.tail | apply Upd.tail)) (by rw [tcS_length, words_len (by omega)]; show Int.toNat ((19 : Nat) : Int) * 1 + 1 ≤ _; omega) ?_
    rw [tcS_set (x := wordsL.getD 19 []) (by rw [words_len (by omega)]; omega), words_step (i := 19) (by omega), show wordsL.take (19 + 1) ++ List.replicate (20 - (19 + 1)) [] = wordsL by decide]
    refine vl_nil ?_
    refine vc_seq ?_
    refine vc_region ?_
    refine vl_val rfl (.some rfl) (val_move rfl) ?_
    refine vl_val rfl (.some rfl) (val_move rfl) ?_
    refine vl_val rfl (.some rfl) (val_add rfl rfl (show _ = 20 from rfl)) ?_
    refine vl_val rfl (.some rfl) (val_cutTo Tryd.runUnderlying27 Tryd.sizeOf9 rfl rfl (by omega) (by omega)) ?_
    refine vl_val rfl (.some rfl) (val_assign rfl) ?_
    refine vl_nil ?_
    refine vc_ret ?_
    refine ⟨_, [sl (some ⟨r31, 0, none⟩) 20 20 9 1 (tcS wordsL)], _, res1 Tryd.results46 rfl, (by repeat (first | exact .nil | (apply Sub.cons; · repeat (first | exact .head | apply Take.tail)))), ?_⟩
    exact ⟨r31, rfl, rfl⟩




theorem idx_first {ws : List (List UInt8)} {v : List UInt8} {i : Nat} (hi : i < ws.length) (hb : ∀ j, j < i → ws.getD j [] ≠ v) (h : ws.getD i [] = v) : v ∈ ws := by
  rw [← h]; simp [List.getD, hi]
theorem idx_none {ws : List (List UInt8)} {v : List UInt8} (hb : ∀ j, j < ws.length → ws.getD j [] ≠ v) : v ∉ ws := fun h => by
  obtain ⟨j, hj, e⟩ := List.mem_iff_getElem.1 h
  exact hb j hj (by simp [List.getD, hj, e])
def okCh (c : UInt8) : Prop := (97 ≤ c.toNat ∧ c.toNat ≤ 122) ∨ (48 ≤ c.toNat ∧ c.toNat ≤ 57) ∨ c.toNat = 95
instance (c : UInt8) : Decidable (okCh c) := by unfold okCh; infer_instance
/-- May it be a name? -/
def nameP (l : List UInt8) : Prop := (1 ≤ l.length ∧ l.length ≤ 16) ∧ (97 ≤ (l.getD 0 0).toNat ∧ (l.getD 0 0).toNat ≤ 122) ∧ (∀ j, j < l.length → okCh (l.getD j 0)) ∧ l ∉ wordsL
instance (l : List UInt8) : Decidable (nameP l) := by unfold nameP; infer_instance
theorem dec_is {l : List UInt8} {i : Nat} (h : i < l.length) : ∃ rn wd : Nat, (Utf8.decode (sL l) i).1 = rn ∧ (Utf8.decode (sL l) i).2 = wd ∧ rn ≤ 2147483647 ∧ 1 ≤ wd ∧ (((l.getD i 0).toNat < 128 ∧ rn = (l.getD i 0).toNat ∧ wd = 1) ∨ (128 ≤ (l.getD i 0).toNat ∧ 128 ≤ rn)) := by
  refine ⟨_, _, rfl, rfl, ?_, ?_, ?_⟩
  · exact decode_le _ _
  · rcases decode_sL h with ⟨_, e⟩ | ⟨_, _, e, _⟩
    · rw [e]; exact Nat.le_refl _
    · exact e
  · rcases decode_sL h with ⟨c, e⟩ | ⟨c, e, _, _⟩
    · exact .inl ⟨c, by rw [e], by rw [e]⟩
    · exact .inr ⟨c, e⟩

set_option maxRecDepth 20000 in
theorem xSplit (w : World) : Fn Tryd.prog 23 [.string sWords, .string sBl] [] (ret fun v H' => ∃ r, v = .slice (some ⟨r, 0, none⟩) 20 20 ∧ H' = [sl (some ⟨r, 0, none⟩) 20 20 9 1 (tcS wordsL)]) w := by
  refine fn_enter Tryd.func23 rfl Tryd.ntmps23 rfl ?_
  refine vc_seq ?_
  refine vc_region ?_
  refine vl_val rfl (.some rfl) (val_assign rfl) ?_
  refine vl_nil ?_
  refine vc_seq ?_
  refine vc_region ?_
  refine vl_val rfl (.some rfl) (val_move rfl) ?_
  refine vl_val rfl (.some rfl) (val_move rfl) ?_
  refine vl_call (C := []) rfl rfl (.some rfl) Tryd.call46 rfl .nil (fun w hw => xGen w) (fun v H' h => ?_)
  obtain ⟨r7, rfl, rfl⟩ := h
  show VL _ _ _ _ _ (_ :: _)
  refine vl_val rfl (.some rfl) (val_assign rfl) ?_
  refine vl_nil ?_
  refine vc_ret ?_
  refine ⟨_, [sl (some ⟨r7, 0, none⟩) 20 20 9 1 (tcS wordsL)], _, res1 Tryd.results23 rfl, (by repeat (first | exact .nil | (apply Sub.cons; · repeat (first | exact .head | apply Take.tail)))), ?_⟩
  exact ⟨r7, rfl, rfl⟩
set_option maxRecDepth 20000 in
theorem xFind (A : Option Addr) (c : Nat) (ws : List (List UInt8)) (v : List UInt8) (hl : ws.length < 9223372036854775808) (w : World) (hr : Reads w A (tcS ws)) : Fn Tryd.prog 45 [.slice A ws.length c, .string (sL v)] [] (ret fun u H' => ∃ p : Int, u = .int .i64 p ∧ (0 ≤ p ↔ v ∈ ws) ∧ H' = []) w := by
  refine fn_enter Tryd.func45 rfl Tryd.ntmps45 rfl ?_
  refine vc_seq ?_
  refine vc_region ?_
  refine vl_val rfl (.some rfl) (val_assign rfl) ?_
  refine vl_nil ?_
  refine vc_seq ?_
  refine vc_seq ?_
  refine vc_region ?_
  refine vl_val rfl (.some rfl) (val_move rfl) ?_
  refine vl_val rfl (.some rfl) (val_lenSl Tryd.runUnderlying27 rfl) ?_
  refine vl_val rfl (.some rfl) (val_move rfl) ?_
  refine vl_nil ?_
  refine vc_block ?_
  refine vc_loopw (fun m E H => ∃ i : Nat, i ≤ ws.length ∧ m = ws.length - i ∧ (∀ j, j < i → ws.getD j [] ≠ v) ∧ E = [(0, .slice A ws.length c), (1, .string (sL v)), (7, .int .i64 ws.length), (8, .int .i64 i)] ∧ H = []) (ws.length) ⟨_, _, _, ⟨0, by omega, rfl, fun j hj => absurd hj (by omega), rfl, rfl⟩, (by repeat (first | exact trivial | refine ⟨rfl, ?_⟩ | refine ⟨le_item rfl (by first | rfl | (congr 1; omega) | (simp; done) | (simp; omega)), ?_⟩)), (by repeat (first | exact .nil | (apply Sub.cons; · repeat (first | exact .head | apply Take.tail))))⟩ ?_
  intro m E H hI
  obtain ⟨i, hi, rfl, hb, rfl, rfl⟩ := hI
  refine vc_seq ?_
  refine vc_region ?_
  refine vl_val rfl (.some rfl) (val_lt rfl rfl) ?_
  refine vl_nil ?_
  refine vc_seq ?_
  refine vc_cond rfl (fun hc0 => ?_) (fun hc0 => ?_)
  · (try replace hc0 := of_decide_eq_true hc0)
    refine vc_skip ?_
    refine vc_seq ?_
    refine vc_block ?_
    refine vc_seq ?_
    refine vc_region ?_
    refine vl_val rfl (.some rfl) (val_move rfl) ?_
    refine vl_val rfl (.some rfl) (val_assign rfl) ?_
    refine vl_nil ?_
    refine vc_seq ?_
    refine vc_region ?_
    refine vl_val rfl (.some rfl) (val_move rfl) ?_
    refine vl_val rfl (.some rfl) (val_move rfl) ?_
    refine vl_val rfl (.some rfl) (val_move rfl) ?_
    refine vl_val rfl (.some rfl) (val_indexAddr Tryd.runUnderlying27 Tryd.sizeOf9 rfl rfl (rd_old hr rfl) (by omega) (by omega) (by rw [tcS_length]; omega)) ?_
    refine vl_val rfl (.some rfl) (val_load Tryd.isAgg9 rfl (cell_rd (rd_old hr rfl) (tcS_at (i := i) (by omega)))) ?_
    refine vl_val rfl (.some rfl) (val_seq rfl rfl) ?_
    refine vl_nil ?_
    refine vc_cond rfl (fun hc1 => ?_) (fun hc1 => ?_)
    · (try replace hc1 := of_decide_eq_true hc1)
      refine vc_seq ?_
      refine vc_region ?_
      refine vl_val rfl (.some rfl) (val_move rfl) ?_
      refine vl_val rfl (.some rfl) (val_assign rfl) ?_
      refine vl_nil ?_
      refine vc_ret ?_
      refine ⟨_, [], _, res1 Tryd.results45 rfl, (by repeat (first | exact .nil | (apply Sub.cons; · repeat (first | exact .head | apply Take.tail)))), ?_⟩
      exact ⟨_, rfl, ⟨fun _ => idx_first (by omega) hb (sL_inj.1 hc1).symm, fun _ => by omega⟩, rfl⟩
    · (try replace hc1 := of_decide_eq_false hc1)
      refine vc_skip ?_
      refine vc_region ?_
      refine vl_val rfl (.some rfl) (val_add rfl rfl (by first | exact w_i64 (by omega) (by omega) | rfl)) ?_
      refine vl_val rfl (.some rfl) (val_move rfl) ?_
      refine vl_nil ?_
      exact ⟨(ws.length - (i + 1)), _, _, _, by omega, (by repeat (first | exact trivial | refine ⟨rfl, ?_⟩ | refine ⟨le_item rfl (by first | rfl | (congr 1; omega) | (simp; done) | (simp; omega)), ?_⟩)), (by repeat (first | exact .nil | (apply Sub.cons; · repeat (first | exact .head | apply Take.tail)))), ⟨i + 1, by omega, rfl, fun j hj => by
        rcases Nat.lt_or_ge j i with h | h
        · exact hb j h
        · obtain rfl : j = i := by omega
          exact fun e => hc1 (by rw [e]), rfl, rfl⟩⟩
  · (try replace hc0 := of_decide_eq_false hc0)
    refine vc_exit ?_
    refine vc_seq ?_
    refine vc_region ?_
    refine vl_val rfl (.some rfl) (val_assign rfl) ?_
    refine vl_nil ?_
    refine vc_ret ?_
    refine ⟨_, [], _, res1 Tryd.results45 rfl, (by repeat (first | exact .nil | (apply Sub.cons; · repeat (first | exact .head | apply Take.tail)))), ?_⟩
    obtain rfl : i = ws.length := by omega
    exact ⟨_, rfl, ⟨fun h => by omega, fun h => absurd h (idx_none hb)⟩, rfl⟩
set_option maxRecDepth 20000 in
theorem xHas (A : Option Addr) (c : Nat) (ws : List (List UInt8)) (v : List UInt8) (hl : ws.length < 9223372036854775808) (w : World) (hr : Reads w A (tcS ws)) : FnV Tryd.prog 22 [.slice A ws.length c, .string (sL v)] (.bool (decide (v ∈ ws))) w := by
  refine fn_enter Tryd.func22 rfl Tryd.ntmps22 rfl ?_
  refine vc_seq ?_
  refine vc_region ?_
  refine vl_val rfl (.some rfl) (val_assign rfl) ?_
  refine vl_nil ?_
  refine vc_seq ?_
  refine vc_region ?_
  refine vl_val rfl (.some rfl) (val_move rfl) ?_
  refine vl_val rfl (.some rfl) (val_move rfl) ?_
  refine vl_call (C := []) rfl rfl (.some rfl) Tryd.call45 rfl .nil (fun w hw => xFind A c ws v hl w (rdw (rd_old hr rfl) hw)) (fun u H' h => ?_)
  obtain ⟨p, rfl, hp, rfl⟩ := h
  show VL _ _ _ _ _ _
  refine vl_val rfl (.some rfl) (val_ge rfl rfl) ?_
  refine vl_val rfl (.some rfl) (val_assign rfl) ?_
  refine vl_nil ?_
  refine vc_ret ?_
  refine ⟨_, [], _, res1 Tryd.results22 rfl, .nil, ?_⟩
  show Value.bool _ = Value.bool _
  refine congrArg Value.bool ?_
  rw [decide_eq_decide]; exact hp
set_option maxRecDepth 20000 in
set_option maxHeartbeats 1000000 in
theorem sName (l : List UInt8) (hlb : l.length < 9223372036854775808) (w : World) : FnV Tryd.prog 9 [.string (sL l)] (.bool (decide (nameP l))) w := by
  have hsz := sL_size l
  have hb0 : bt (sL l) (Int.toNat 0) = (l.getD 0 0).toNat := by rw [show Int.toNat 0 = 0 from rfl, bt_sL]
  refine fn_enter Tryd.func9 rfl Tryd.ntmps9 rfl ?_
  refine vc_seq ?_
  refine vc_region ?_
  refine vl_val rfl (.some rfl) (val_assign rfl) ?_
  refine vl_nil ?_
  refine vc_seq ?_
  refine vc_seq ?_
  refine vc_region ?_
  refine vl_val rfl (.some rfl) (val_move rfl) ?_
  refine vl_val rfl (.some rfl) (val_seq rfl rfl) ?_
  refine vl_val rfl (.some rfl) (val_move rfl) ?_
  refine vl_split (t := 7) rfl (fun hg7 => ?_) (fun hg7 => ?_)
  · (try replace hg7 := of_decide_eq_true hg7)
    have hl0 : l.length = 0 := by have := (sL_inj (b := [])).1 hg7; rw [this]; rfl
    refine vl_off rfl rfl rfl rfl (.some rfl) ?_
    refine vl_off rfl rfl rfl rfl (.some rfl) ?_
    refine vl_off rfl rfl rfl rfl (.some rfl) ?_
    refine vl_val rfl (.some rfl) (val_pick rfl rfl) ?_
    refine vl_val rfl (.some rfl) (val_move rfl) ?_
    refine vl_off rfl rfl rfl rfl (.some rfl) ?_
    refine vl_off rfl rfl rfl rfl (.some rfl) ?_
    refine vl_off rfl rfl rfl rfl (.some rfl) ?_
    refine vl_val rfl (.some rfl) (val_pick rfl rfl) ?_
    refine vl_nil ?_
    refine vc_cond rfl (fun _ => ?_) (fun h => by cases h)
    refine vc_seq ?_
    refine vc_region ?_
    refine vl_val rfl (.some rfl) (val_assign rfl) ?_
    refine vl_nil ?_
    refine vc_ret ?_
    refine ⟨_, [], _, res1 Tryd.results9 rfl, .nil, ?_⟩
    show Value.bool false = _
    rw [decide_eq_false (p := nameP l) (fun h => by obtain ⟨⟨h1, h2⟩, ⟨h3, h4⟩, h5, h6⟩ := h; omega)]
  · (try replace hg7 := of_decide_eq_false hg7)
    have hl1 : 1 ≤ l.length := by cases l with | nil => exact absurd rfl hg7 | cons a b => simp
    refine vl_on rfl rfl rfl rfl ?_
    refine vl_val rfl (.some rfl) (val_move rfl) ?_
    refine vl_on rfl rfl rfl rfl ?_
    refine vl_val rfl (.some rfl) (val_lenStr Tryd.runUnderlying9 rfl) ?_
    refine vl_on rfl rfl rfl rfl ?_
    refine vl_val rfl (.some rfl) (val_gt rfl rfl) ?_
    refine vl_val rfl (.some rfl) (val_pick rfl rfl) ?_
    refine vl_val rfl (.some rfl) (val_move rfl) ?_
    refine vl_split (t := 12) rfl (fun hg12 => ?_) (fun hg12 => ?_)
    · (try replace hg12 := of_decide_eq_true hg12)
      refine vl_off rfl rfl rfl rfl (.some rfl) ?_
      refine vl_off rfl rfl rfl rfl (.some rfl) ?_
      refine vl_off rfl rfl rfl rfl (.some rfl) ?_
      refine vl_val rfl (.some rfl) (val_pick rfl rfl) ?_
      refine vl_nil ?_
      refine vc_cond rfl (fun _ => ?_) (fun h => by cases h)
      refine vc_seq ?_
      refine vc_region ?_
      refine vl_val rfl (.some rfl) (val_assign rfl) ?_
      refine vl_nil ?_
      refine vc_ret ?_
      refine ⟨_, [], _, res1 Tryd.results9 rfl, .nil, ?_⟩
      show Value.bool false = _
      rw [decide_eq_false (p := nameP l) (fun h => by obtain ⟨⟨h1, h2⟩, ⟨h3, h4⟩, h5, h6⟩ := h; omega)]
    · (try replace hg12 := of_decide_eq_false hg12)
      refine vl_on rfl rfl rfl rfl ?_
      refine vl_val rfl (.some rfl) (val_move rfl) ?_
      refine vl_on rfl rfl rfl rfl ?_
      refine vl_val rfl (.some rfl) (val_indexStr Tryd.runUnderlying9 rfl rfl (by omega) (by first | omega | (simp; omega))) ?_
      refine vl_on rfl rfl rfl rfl ?_
      refine vl_val rfl (.some rfl) (val_lt rfl rfl) ?_
      refine vl_val rfl (.some rfl) (val_pick rfl rfl) ?_
      refine vl_nil ?_
      refine vc_cond rfl (fun hc0 => ?_) (fun hc0 => ?_)
      · (try replace hc0 := of_decide_eq_true hc0)
        refine vc_seq ?_
        refine vc_region ?_
        refine vl_val rfl (.some rfl) (val_assign rfl) ?_
        refine vl_nil ?_
        refine vc_ret ?_
        refine ⟨_, [], _, res1 Tryd.results9 rfl, .nil, ?_⟩
        show Value.bool false = _
        rw [decide_eq_false (p := nameP l) (fun h => by obtain ⟨⟨h1, h2⟩, ⟨h3, h4⟩, h5, h6⟩ := h; omega)]
      · (try replace hc0 := of_decide_eq_false hc0)
        refine vc_skip ?_
        refine vc_seq ?_
        refine vc_seq ?_
        refine vc_region ?_
        refine vl_val rfl (.some rfl) (val_move rfl) ?_
        refine vl_rangeStr rfl rfl (.some rfl) Tryd.underlying9 rfl (fun r18 => ?_)
        refine vl_nil ?_
        refine vc_block ?_
        refine vc_loopw (fun m E H => ∃ pos : Nat, pos ≤ l.length ∧ m = l.length - pos ∧ (∀ j, j < pos → okCh (l.getD j 0)) ∧ E = [(0, .string (sL l)), (18, .pointer (some ⟨r18, 0, none⟩))] ∧ H = [itS r18 (sL l) pos]) (l.length) ⟨_, _, _, ⟨0, by omega, rfl, fun j hj => absurd hj (by omega), rfl, rfl⟩, (by repeat (first | exact trivial | refine ⟨rfl, ?_⟩ | refine ⟨le_item rfl (by first | rfl | (congr 1; omega) | (simp; done) | (simp; omega)), ?_⟩)), (by repeat (first | exact .nil | (apply Sub.cons; · repeat (first | exact .head | apply Take.tail))))⟩ ?_
        intro m E H hI
        obtain ⟨pos, hpos, rfl, hall, rfl, rfl⟩ := hI
        refine vc_seq ?_
        refine vc_region ?_
        refine vl_nextStr rfl rfl (.some rfl) rfl (by repeat (first | exact .head | apply In.tail | apply Take.tail | apply Upd.tail)) (fun hn19 => ?_) (fun hn19 => ?_)
        ·
          refine vl_val rfl (.some rfl) (val_extract rfl rfl) ?_
          refine vl_nil ?_
          refine vc_seq ?_
          refine vc_cond rfl (fun _ => ?_) (fun h => by cases h)
          refine vc_skip ?_
          refine vc_block ?_
          refine vc_seq ?_
          refine vc_region ?_
          have hpl : pos < l.length := by omega
          obtain ⟨rn, wd, hrn, hwd, hrm, hw1, hdec⟩ := dec_is hpl
          rw [hrn, hwd]
          refine vl_val rfl (.some rfl) (val_extract rfl rfl) ?_
          refine vl_val rfl (.some rfl) (val_assign rfl) ?_
          refine vl_nil ?_
          refine vc_seq ?_
          refine vc_region ?_
          refine vl_val rfl (.some rfl) (val_move rfl) ?_
          refine vl_val rfl (.some rfl) (val_lt rfl rfl) ?_
          refine vl_val rfl (.some rfl) (val_move rfl) ?_
          refine vl_split (t := 24) rfl (fun hg24 => ?_) (fun hg24 => ?_)
          · (try replace hg24 := of_decide_eq_true hg24)
            refine vl_off rfl rfl rfl rfl (.some rfl) ?_
            refine vl_off rfl rfl rfl rfl (.some rfl) ?_
            refine vl_val rfl (.some rfl) (val_pick rfl rfl) ?_
            refine vl_val rfl (.some rfl) (val_move rfl) ?_
            refine vl_on rfl rfl rfl rfl ?_
            refine vl_val rfl (.some rfl) (val_move rfl) ?_
            refine vl_on rfl rfl rfl rfl ?_
            refine vl_val rfl (.some rfl) (val_lt rfl rfl) ?_
            refine vl_on rfl rfl rfl rfl ?_
            refine vl_val rfl (.some rfl) (val_move rfl) ?_
            refine vl_split (t := 31) rfl (fun hg31 => ?_) (fun hg31 => ?_)
            · (try replace hg31 := of_decide_eq_true hg31)
              refine vl_off rfl rfl rfl rfl (.some rfl) ?_
              refine vl_off rfl rfl rfl rfl (.some rfl) ?_
              refine vl_on rfl rfl rfl rfl ?_
              refine vl_val rfl (.some rfl) (val_pick rfl rfl) ?_
              refine vl_val rfl (.some rfl) (val_pick rfl rfl) ?_
              refine vl_val rfl (.some rfl) (val_move rfl) ?_
              refine vl_on rfl rfl rfl rfl ?_
              refine vl_val rfl (.some rfl) (val_move rfl) ?_
              refine vl_on rfl rfl rfl rfl ?_
              refine vl_val rfl (.some rfl) (val_ne rfl rfl) ?_
              refine vl_val rfl (.some rfl) (val_pick rfl rfl) ?_
              refine vl_nil ?_
              refine vc_cond rfl (fun hc2 => ?_) (fun hc2 => ?_)
              · (try replace hc2 := of_decide_eq_true hc2)
                refine vc_seq ?_
                refine vc_region ?_
                refine vl_val rfl (.some rfl) (val_assign rfl) ?_
                refine vl_nil ?_
                refine vc_ret ?_
                refine ⟨_, [], _, res1 Tryd.results9 rfl, .nil, ?_⟩
                show Value.bool false = _
                rw [decide_eq_false (p := nameP l) (fun h => by obtain ⟨⟨h1, h2⟩, ⟨h3, h4⟩, h5, h6⟩ := h; have h7 := h5 pos hpl; unfold okCh at h7; omega)]
              · (try replace hc2 := of_decide_eq_false hc2)
                refine vc_skip ?_
                have hok : okCh (l.getD pos 0) ∧ wd = 1 := by unfold okCh; omega
                obtain ⟨hok, rfl⟩ := hok
                exact ⟨(l.length - (pos + 1)), _, _, _, by omega, (by repeat (first | exact trivial | refine ⟨rfl, ?_⟩ | refine ⟨le_item rfl (by first | rfl | (congr 1; omega) | (simp; done) | (simp; omega)), ?_⟩)), (by repeat (first | exact .nil | (apply Sub.cons; · repeat (first | exact .head | apply Take.tail)))), ⟨pos + 1, by omega, rfl, fun j hj => by
                  rcases Nat.lt_or_ge j pos with h | h
                  · exact hall j h
                  · obtain rfl : j = pos := by omega
                    exact hok, rfl, rfl⟩⟩
            · (try replace hg31 := of_decide_eq_false hg31)
              refine vl_on rfl rfl rfl rfl ?_
              refine vl_val rfl (.some rfl) (val_move rfl) ?_
              refine vl_on rfl rfl rfl rfl ?_
              refine vl_val rfl (.some rfl) (val_gt rfl rfl) ?_
              refine vl_on rfl rfl rfl rfl ?_
              refine vl_val rfl (.some rfl) (val_pick rfl rfl) ?_
              refine vl_val rfl (.some rfl) (val_pick rfl rfl) ?_
              refine vl_val rfl (.some rfl) (val_move rfl) ?_
              refine vl_split (t := 36) rfl (fun hg36 => ?_) (fun hg36 => ?_)
              · (try replace hg36 := of_decide_eq_true hg36)
                refine vl_on rfl rfl rfl rfl ?_
                refine vl_val rfl (.some rfl) (val_move rfl) ?_
                refine vl_on rfl rfl rfl rfl ?_
                refine vl_val rfl (.some rfl) (val_ne rfl rfl) ?_
                refine vl_val rfl (.some rfl) (val_pick rfl rfl) ?_
                refine vl_nil ?_
                refine vc_cond rfl (fun hc2 => ?_) (fun hc2 => ?_)
                · (try replace hc2 := of_decide_eq_true hc2)
                  refine vc_seq ?_
                  refine vc_region ?_
                  refine vl_val rfl (.some rfl) (val_assign rfl) ?_
                  refine vl_nil ?_
                  refine vc_ret ?_
                  refine ⟨_, [], _, res1 Tryd.results9 rfl, .nil, ?_⟩
                  show Value.bool false = _
                  rw [decide_eq_false (p := nameP l) (fun h => by obtain ⟨⟨h1, h2⟩, ⟨h3, h4⟩, h5, h6⟩ := h; have h7 := h5 pos hpl; unfold okCh at h7; omega)]
                · (try replace hc2 := of_decide_eq_false hc2)
                  refine vc_skip ?_
                  have hok : okCh (l.getD pos 0) ∧ wd = 1 := by unfold okCh; omega
                  obtain ⟨hok, rfl⟩ := hok
                  exact ⟨(l.length - (pos + 1)), _, _, _, by omega, (by repeat (first | exact trivial | refine ⟨rfl, ?_⟩ | refine ⟨le_item rfl (by first | rfl | (congr 1; omega) | (simp; done) | (simp; omega)), ?_⟩)), (by repeat (first | exact .nil | (apply Sub.cons; · repeat (first | exact .head | apply Take.tail)))), ⟨pos + 1, by omega, rfl, fun j hj => by
                    rcases Nat.lt_or_ge j pos with h | h
                    · exact hall j h
                    · obtain rfl : j = pos := by omega
                      exact hok, rfl, rfl⟩⟩
              · (try replace hg36 := of_decide_eq_false hg36)
                refine vl_off rfl rfl rfl rfl (.some rfl) ?_
                refine vl_off rfl rfl rfl rfl (.some rfl) ?_
                refine vl_val rfl (.some rfl) (val_pick rfl rfl) ?_
                refine vl_nil ?_
                refine vc_cond rfl (fun h => by cases h) (fun _ => ?_)
                refine vc_skip ?_
                have hok : okCh (l.getD pos 0) ∧ wd = 1 := by unfold okCh; omega
                obtain ⟨hok, rfl⟩ := hok
                exact ⟨(l.length - (pos + 1)), _, _, _, by omega, (by repeat (first | exact trivial | refine ⟨rfl, ?_⟩ | refine ⟨le_item rfl (by first | rfl | (congr 1; omega) | (simp; done) | (simp; omega)), ?_⟩)), (by repeat (first | exact .nil | (apply Sub.cons; · repeat (first | exact .head | apply Take.tail)))), ⟨pos + 1, by omega, rfl, fun j hj => by
                  rcases Nat.lt_or_ge j pos with h | h
                  · exact hall j h
                  · obtain rfl : j = pos := by omega
                    exact hok, rfl, rfl⟩⟩
          · (try replace hg24 := of_decide_eq_false hg24)
            refine vl_on rfl rfl rfl rfl ?_
            refine vl_val rfl (.some rfl) (val_move rfl) ?_
            refine vl_on rfl rfl rfl rfl ?_
            refine vl_val rfl (.some rfl) (val_gt rfl rfl) ?_
            refine vl_val rfl (.some rfl) (val_pick rfl rfl) ?_
            refine vl_val rfl (.some rfl) (val_move rfl) ?_
            refine vl_split (t := 28) rfl (fun hg28 => ?_) (fun hg28 => ?_)
            · (try replace hg28 := of_decide_eq_true hg28)
              refine vl_on rfl rfl rfl rfl ?_
              refine vl_val rfl (.some rfl) (val_move rfl) ?_
              refine vl_on rfl rfl rfl rfl ?_
              refine vl_val rfl (.some rfl) (val_lt rfl rfl) ?_
              refine vl_on rfl rfl rfl rfl ?_
              refine vl_val rfl (.some rfl) (val_move rfl) ?_
              refine vl_split (t := 31) rfl (fun hg31 => ?_) (fun hg31 => ?_)
              · (try replace hg31 := of_decide_eq_true hg31)
                refine vl_off rfl rfl rfl rfl (.some rfl) ?_
                refine vl_off rfl rfl rfl rfl (.some rfl) ?_
                refine vl_on rfl rfl rfl rfl ?_
                refine vl_val rfl (.some rfl) (val_pick rfl rfl) ?_
                refine vl_val rfl (.some rfl) (val_pick rfl rfl) ?_
                refine vl_val rfl (.some rfl) (val_move rfl) ?_
                refine vl_on rfl rfl rfl rfl ?_
                refine vl_val rfl (.some rfl) (val_move rfl) ?_
                refine vl_on rfl rfl rfl rfl ?_
                refine vl_val rfl (.some rfl) (val_ne rfl rfl) ?_
                refine vl_val rfl (.some rfl) (val_pick rfl rfl) ?_
                refine vl_nil ?_
                refine vc_cond rfl (fun hc2 => ?_) (fun hc2 => ?_)
                · (try replace hc2 := of_decide_eq_true hc2)
                  refine vc_seq ?_
                  refine vc_region ?_
                  refine vl_val rfl (.some rfl) (val_assign rfl) ?_
                  refine vl_nil ?_
                  refine vc_ret ?_
                  refine ⟨_, [], _, res1 Tryd.results9 rfl, .nil, ?_⟩
                  show Value.bool false = _
                  rw [decide_eq_false (p := nameP l) (fun h => by obtain ⟨⟨h1, h2⟩, ⟨h3, h4⟩, h5, h6⟩ := h; have h7 := h5 pos hpl; unfold okCh at h7; omega)]
                · (try replace hc2 := of_decide_eq_false hc2)
                  refine vc_skip ?_
                  have hok : okCh (l.getD pos 0) ∧ wd = 1 := by unfold okCh; omega
                  obtain ⟨hok, rfl⟩ := hok
                  exact ⟨(l.length - (pos + 1)), _, _, _, by omega, (by repeat (first | exact trivial | refine ⟨rfl, ?_⟩ | refine ⟨le_item rfl (by first | rfl | (congr 1; omega) | (simp; done) | (simp; omega)), ?_⟩)), (by repeat (first | exact .nil | (apply Sub.cons; · repeat (first | exact .head | apply Take.tail)))), ⟨pos + 1, by omega, rfl, fun j hj => by
                    rcases Nat.lt_or_ge j pos with h | h
                    · exact hall j h
                    · obtain rfl : j = pos := by omega
                      exact hok, rfl, rfl⟩⟩
              · (try replace hg31 := of_decide_eq_false hg31)
                refine vl_on rfl rfl rfl rfl ?_
                refine vl_val rfl (.some rfl) (val_move rfl) ?_
                refine vl_on rfl rfl rfl rfl ?_
                refine vl_val rfl (.some rfl) (val_gt rfl rfl) ?_
                refine vl_on rfl rfl rfl rfl ?_
                refine vl_val rfl (.some rfl) (val_pick rfl rfl) ?_
                refine vl_val rfl (.some rfl) (val_pick rfl rfl) ?_
                refine vl_val rfl (.some rfl) (val_move rfl) ?_
                refine vl_split (t := 36) rfl (fun hg36 => ?_) (fun hg36 => ?_)
                · (try replace hg36 := of_decide_eq_true hg36)
                  refine vl_on rfl rfl rfl rfl ?_
                  refine vl_val rfl (.some rfl) (val_move rfl) ?_
                  refine vl_on rfl rfl rfl rfl ?_
                  refine vl_val rfl (.some rfl) (val_ne rfl rfl) ?_
                  refine vl_val rfl (.some rfl) (val_pick rfl rfl) ?_
                  refine vl_nil ?_
                  refine vc_cond rfl (fun hc2 => ?_) (fun hc2 => ?_)
                  · (try replace hc2 := of_decide_eq_true hc2)
                    refine vc_seq ?_
                    refine vc_region ?_
                    refine vl_val rfl (.some rfl) (val_assign rfl) ?_
                    refine vl_nil ?_
                    refine vc_ret ?_
                    refine ⟨_, [], _, res1 Tryd.results9 rfl, .nil, ?_⟩
                    show Value.bool false = _
                    rw [decide_eq_false (p := nameP l) (fun h => by obtain ⟨⟨h1, h2⟩, ⟨h3, h4⟩, h5, h6⟩ := h; have h7 := h5 pos hpl; unfold okCh at h7; omega)]
                  · (try replace hc2 := of_decide_eq_false hc2)
                    refine vc_skip ?_
                    have hok : okCh (l.getD pos 0) ∧ wd = 1 := by unfold okCh; omega
                    obtain ⟨hok, rfl⟩ := hok
                    exact ⟨(l.length - (pos + 1)), _, _, _, by omega, (by repeat (first | exact trivial | refine ⟨rfl, ?_⟩ | refine ⟨le_item rfl (by first | rfl | (congr 1; omega) | (simp; done) | (simp; omega)), ?_⟩)), (by repeat (first | exact .nil | (apply Sub.cons; · repeat (first | exact .head | apply Take.tail)))), ⟨pos + 1, by omega, rfl, fun j hj => by
                      rcases Nat.lt_or_ge j pos with h | h
                      · exact hall j h
                      · obtain rfl : j = pos := by omega
                        exact hok, rfl, rfl⟩⟩
                · (try replace hg36 := of_decide_eq_false hg36)
                  refine vl_off rfl rfl rfl rfl (.some rfl) ?_
                  refine vl_off rfl rfl rfl rfl (.some rfl) ?_
                  refine vl_val rfl (.some rfl) (val_pick rfl rfl) ?_
                  refine vl_nil ?_
                  refine vc_cond rfl (fun h => by cases h) (fun _ => ?_)
                  refine vc_skip ?_
                  have hok : okCh (l.getD pos 0) ∧ wd = 1 := by unfold okCh; omega
                  obtain ⟨hok, rfl⟩ := hok
                  exact ⟨(l.length - (pos + 1)), _, _, _, by omega, (by repeat (first | exact trivial | refine ⟨rfl, ?_⟩ | refine ⟨le_item rfl (by first | rfl | (congr 1; omega) | (simp; done) | (simp; omega)), ?_⟩)), (by repeat (first | exact .nil | (apply Sub.cons; · repeat (first | exact .head | apply Take.tail)))), ⟨pos + 1, by omega, rfl, fun j hj => by
                    rcases Nat.lt_or_ge j pos with h | h
                    · exact hall j h
                    · obtain rfl : j = pos := by omega
                      exact hok, rfl, rfl⟩⟩
            · (try replace hg28 := of_decide_eq_false hg28)
              refine vl_off rfl rfl rfl rfl (.some rfl) ?_
              refine vl_off rfl rfl rfl rfl (.some rfl) ?_
              refine vl_off rfl rfl rfl rfl (.some rfl) ?_
              refine vl_offU rfl rfl rfl rfl (.some rfl) ?_
              refine vl_offU rfl rfl rfl rfl (.some rfl) ?_
              refine vl_off rfl rfl rfl rfl (.some rfl) ?_
              refine vl_val rfl (.some rfl) (val_pick rfl rfl) ?_
              refine vl_val rfl (.some rfl) (val_move rfl) ?_
              refine vl_off rfl rfl rfl rfl (.some rfl) ?_
              refine vl_off rfl rfl rfl rfl (.some rfl) ?_
              refine vl_val rfl (.some rfl) (val_pick rfl rfl) ?_
              refine vl_nil ?_
              refine vc_cond rfl (fun h => by cases h) (fun _ => ?_)
              refine vc_skip ?_
              have hok : okCh (l.getD pos 0) ∧ wd = 1 := by unfold okCh; omega
              obtain ⟨hok, rfl⟩ := hok
              exact ⟨(l.length - (pos + 1)), _, _, _, by omega, (by repeat (first | exact trivial | refine ⟨rfl, ?_⟩ | refine ⟨le_item rfl (by first | rfl | (congr 1; omega) | (simp; done) | (simp; omega)), ?_⟩)), (by repeat (first | exact .nil | (apply Sub.cons; · repeat (first | exact .head | apply Take.tail)))), ⟨pos + 1, by omega, rfl, fun j hj => by
                rcases Nat.lt_or_ge j pos with h | h
                · exact hall j h
                · obtain rfl : j = pos := by omega
                  exact hok, rfl, rfl⟩⟩
        ·
          refine vl_val rfl (.some rfl) (val_extract rfl rfl) ?_
          refine vl_nil ?_
          refine vc_seq ?_
          refine vc_cond rfl (fun h => by cases h) (fun _ => ?_)
          refine vc_exit ?_
          refine vc_seq ?_
          refine vc_region ?_
          have hall2 : ∀ j, j < l.length → okCh (l.getD j 0) := fun j hj => hall j (by omega)
          clear hall
          have hall := hall2
          refine vl_val rfl (.some rfl) (val_move rfl) ?_
          refine vl_val rfl (.some rfl) (val_indexStr Tryd.runUnderlying9 rfl rfl (by omega) (by first | omega | (simp; omega))) ?_
          refine vl_val rfl (.some rfl) (val_le rfl rfl) ?_
          refine vl_val rfl (.some rfl) (val_move rfl) ?_
          refine vl_split (t := 43) rfl (fun hg43 => ?_) (fun hg43 => ?_)
          · (try replace hg43 := of_decide_eq_true hg43)
            refine vl_on rfl rfl rfl rfl ?_
            refine vl_call (C := []) rfl rfl (.some rfl) Tryd.call23 rfl .nil (fun w hw => xSplit w) (fun v H' h => ?_)
            obtain ⟨r44, rfl, rfl⟩ := h
            show VL _ _ _ _ _ (_ :: _)
            refine vl_on rfl rfl rfl rfl ?_
            refine vl_val rfl (.some rfl) (val_move rfl) ?_
            refine vl_on rfl rfl rfl rfl ?_
            refine vl_callV rfl rfl (.some rfl) Tryd.call22 rfl (fun w hw => xHas (some ⟨r44, 0, none⟩) 20 wordsL l (by rw [words_n]; decide) w (rdw (rd_sl (vs := tcS wordsL) (by repeat (first | exact .head | apply In.tail | apply Take.tail | apply Upd.tail))) hw)) ?_
            refine vl_on rfl rfl rfl rfl ?_
            refine vl_val rfl (.some rfl) (val_not rfl) ?_
            refine vl_val rfl (.some rfl) (val_pick rfl rfl) ?_
            refine vl_val rfl (.some rfl) (val_assign rfl) ?_
            refine vl_nil ?_
            refine vc_ret ?_
            refine ⟨_, [], _, res1 Tryd.results9 rfl, .nil, ?_⟩
            show Value.bool _ = Value.bool _
            refine congrArg Value.bool ?_
            first | (rw [← decide_not, decide_eq_decide]; exact ⟨fun h => ⟨⟨by omega, by omega⟩, ⟨by omega, by omega⟩, hall, h⟩, fun h => h.2.2.2⟩) | exact (decide_eq_false (fun h => by have := h.2.1; omega)).symm
          · (try replace hg43 := of_decide_eq_false hg43)
            refine vl_off rfl rfl rfl rfl (.some rfl) ?_
            refine vl_off rfl rfl rfl rfl (.some rfl) ?_
            refine vl_off rfl rfl rfl rfl (.some rfl) ?_
            refine vl_off rfl rfl rfl rfl (.some rfl) ?_
            refine vl_val rfl (.some rfl) (val_pick rfl rfl) ?_
            refine vl_val rfl (.some rfl) (val_assign rfl) ?_
            refine vl_nil ?_
            refine vc_ret ?_
            refine ⟨_, [], _, res1 Tryd.results9 rfl, .nil, ?_⟩
            show Value.bool _ = Value.bool _
            refine congrArg Value.bool ?_
            first | (rw [← decide_not, decide_eq_decide]; exact ⟨fun h => ⟨⟨by omega, by omega⟩, ⟨by omega, by omega⟩, hall, h⟩, fun h => h.2.2.2⟩) | exact (decide_eq_false (fun h => by have := h.2.1; omega)).symm




abbrev sWB : ByteArray := ⟨#[32, 115, 101, 108, 101, 99, 116, 32, 102, 114, 111, 109, 32, 119, 104, 101, 114, 101, 32, 103, 114, 111, 117, 112, 32, 98, 121, 32, 104, 97, 118, 105, 110, 103, 32, 111, 114, 100, 101, 114, 32, 108, 105, 109, 105, 116, 32, 97, 115, 32, 97, 110, 100, 32, 111, 114, 32, 110, 111, 116, 32, 105, 115, 32, 110, 117, 108, 108, 32, 116, 114, 117, 101, 32, 102, 97, 108, 115, 101, 32, 97, 115, 99, 32, 100, 101, 115, 99, 32, 110, 97, 110, 32, 105, 110, 102, 32]⟩
def wordsB : List UInt8 := 32 :: remT 0 ++ [32]
theorem sWB_is : sWB = sL wordsB := by decide +kernel
theorem wB_space : ((List.range 96).all fun j => !(wordsB.getD j 0 == 32) || wordsL.contains ((wordsB.drop (j + 1)).takeWhile (· != 32))) = true := by decide +kernel
theorem wL_clean : (wordsL.all fun x => !x.contains 32 && decide (1 ≤ x.length)) = true := by decide +kernel
theorem wL_has : (wordsL.all fun x => (List.range 97).any fun j => decide (j + x.length + 1 < 97) && (bt sWB j == 32) && decide (sWB.extract (j + 1) (j + 1 + x.length) = sL x) && (bt sWB (j + 1 + x.length) == 32)) = true := by decide +kernel
def mtB (l : List UInt8) (j : Nat) : Prop := bt sWB j = 32 ∧ sWB.extract (j + 1) (j + 1 + l.length) = sL l ∧ bt sWB (j + 1 + l.length) = 32
theorem take_while_is : ∀ (l r : List UInt8), 32 ∉ l → (l ++ 32 :: r).takeWhile (· != 32) = l
  | [], r, _ => by simp
  | a :: l, r, h => by
    have h1 : a ≠ 32 := fun e => h (by simp [e])
    have h2 := take_while_is l r (fun e => h (by simp [e]))
    rw [List.cons_append, List.takeWhile_cons, if_pos (by simpa using h1), h2]
theorem word_match {l : List UInt8} {j : Nat} (hno : 32 ∉ l) (hj : j + l.length + 1 < 97) (h : mtB l j) : l ∈ wordsL := by
  obtain ⟨h1, h2, h3⟩ := h
  rw [sWB_is, bt_sL] at h1 h3
  rw [sWB_is, sL_cut, sL_inj, List.drop_take, show j + 1 + l.length - (j + 1) = l.length by omega] at h2
  have hB : wordsB.length = 97 := by decide +kernel
  have hs := List.all_eq_true.1 wB_space j (List.mem_range.2 (by omega))
  have hj32 : wordsB.getD j 0 = 32 := UInt8.toNat_inj.1 h1
  have hk32 : wordsB.getD (j + 1 + l.length) 0 = 32 := UInt8.toNat_inj.1 h3
  rw [hj32] at hs
  have hD : wordsB.drop (j + 1) = l ++ 32 :: wordsB.drop (j + 1 + l.length + 1) := by
    have e1 := List.take_append_drop l.length (wordsB.drop (j + 1))
    rw [h2, List.drop_drop] at e1
    rw [← e1]
    congr 1
    rw [List.drop_eq_getElem_cons (show j + 1 + l.length < wordsB.length by omega)]
    congr 1
    simpa [List.getD, show j + 1 + l.length < wordsB.length by omega] using hk32
  rw [hD, take_while_is l _ hno] at hs
  simpa using hs
theorem word_has {l : List UInt8} (h : l ∈ wordsL) : ∃ j, j + l.length + 1 < 97 ∧ mtB l j := by
  have hs := List.all_eq_true.1 wL_has l h
  obtain ⟨j, _, hj⟩ := List.any_eq_true.1 hs
  simp only [Bool.and_eq_true, decide_eq_true_eq, beq_iff_eq] at hj
  exact ⟨j, hj.1.1.1, hj.1.1.2, hj.1.2, hj.2⟩
theorem word_clean {l : List UInt8} (h : l ∈ wordsL) : 32 ∉ l ∧ 1 ≤ l.length := by
  have hs := List.all_eq_true.1 wL_clean l h
  simp only [Bool.and_eq_true, decide_eq_true_eq] at hs
  exact ⟨fun e => by have := hs.1; simp [e] at this, hs.2⟩

set_option maxRecDepth 20000 in
set_option maxHeartbeats 1000000 in
theorem rWord (l : List UInt8) (hlb : l.length ≤ 10000) (w : World) : FnV Tryd.prog 17 [.string (sL l)] (.bool (decide (l ∈ wordsL))) w := by
  have hsz := sL_size l
  refine fn_enter Tryd.func17 rfl Tryd.ntmps17 rfl ?_
  refine vc_seq ?_
  refine vc_region ?_
  refine vl_val rfl (.some rfl) (val_assign rfl) ?_
  refine vl_nil ?_
  refine vc_seq ?_
  refine vc_seq ?_
  refine vc_region ?_
  refine vl_val rfl (.some rfl) (val_assign rfl) ?_
  refine vl_nil ?_
  refine vc_block ?_
  refine vc_loopw (fun m E H => ∃ i : Nat, i ≤ l.length ∧ m = l.length - i ∧ (∀ j, j < i → l.getD j 0 ≠ 32) ∧ E = [(0, .string (sL l)), (3, .int .i64 i)] ∧ H = []) (l.length) ⟨_, _, _, ⟨0, by omega, rfl, fun j hj => absurd hj (by omega), rfl, rfl⟩, (by repeat (first | exact trivial | refine ⟨rfl, ?_⟩ | refine ⟨le_item rfl (by first | rfl | (congr 1; omega) | (simp; done) | (simp; omega)), ?_⟩)), (by repeat (first | exact .nil | (apply Sub.cons; · repeat (first | exact .head | apply Take.tail))))⟩ ?_
  intro m E H hI
  obtain ⟨i, hi, rfl, hcl, rfl, rfl⟩ := hI
  refine vc_seq ?_
  refine vc_seq ?_
  refine vc_region ?_
  refine vl_val rfl (.some rfl) (val_move rfl) ?_
  refine vl_val rfl (.some rfl) (val_move rfl) ?_
  refine vl_val rfl (.some rfl) (val_lenStr Tryd.runUnderlying9 rfl) ?_
  refine vl_val rfl (.some rfl) (val_lt rfl rfl) ?_
  refine vl_nil ?_
  refine vc_cond rfl (fun hc0 => ?_) (fun hc0 => ?_)
  · (try replace hc0 := of_decide_eq_true hc0)
    have hbt : bt (sL l) (Int.toNat (i : Int)) = (l.getD i 0).toNat := by rw [Int.toNat_natCast, bt_sL]
    refine vc_skip ?_
    refine vc_seq ?_
    refine vc_block ?_
    refine vc_seq ?_
    refine vc_region ?_
    refine vl_val rfl (.some rfl) (val_move rfl) ?_
    refine vl_val rfl (.some rfl) (val_move rfl) ?_
    refine vl_val rfl (.some rfl) (val_indexStr Tryd.runUnderlying9 rfl rfl (by omega) (by omega)) ?_
    refine vl_val rfl (.some rfl) (val_eq rfl rfl) ?_
    refine vl_nil ?_
    refine vc_cond rfl (fun hc1 => ?_) (fun hc1 => ?_)
    · (try replace hc1 := of_decide_eq_true hc1)
      refine vc_seq ?_
      refine vc_region ?_
      refine vl_val rfl (.some rfl) (val_assign rfl) ?_
      refine vl_nil ?_
      refine vc_ret ?_
      refine ⟨_, [], _, res1 Tryd.results17 rfl, .nil, ?_⟩
      show Value.bool false = _
      rw [decide_eq_false (p := l ∈ wordsL) (fun h => (word_clean h).1 (by
        have : l.getD i 0 = 32 := UInt8.toNat_inj.1 (show (l.getD i 0).toNat = 32 by omega)
        rw [← this]; simp [List.getD, show i < l.length by omega]))]
    · (try replace hc1 := of_decide_eq_false hc1)
      refine vc_skip ?_
      refine vc_region ?_
      refine vl_val rfl (.some rfl) (val_move rfl) ?_
      refine vl_val rfl (.some rfl) (val_add rfl rfl (by first | exact w_i64 (by omega) (by omega) | rfl)) ?_
      refine vl_val rfl (.some rfl) (val_assign rfl) ?_
      refine vl_nil ?_
      exact ⟨(l.length - (i + 1)), _, _, _, by omega, (by repeat (first | exact trivial | refine ⟨rfl, ?_⟩ | refine ⟨le_item rfl (by first | rfl | (congr 1; omega) | (simp; done) | (simp; omega)), ?_⟩)), (by repeat (first | exact .nil | (apply Sub.cons; · repeat (first | exact .head | apply Take.tail)))), ⟨i + 1, by omega, rfl, fun j hj => by
        rcases Nat.lt_or_ge j i with h | h
        · exact hcl j h
        · obtain rfl : j = i := by omega
          intro e; rw [e] at hbt; exact hc1 (by rw [hbt]; rfl), rfl, rfl⟩⟩
  · (try replace hc0 := of_decide_eq_false hc0)
    have hno : 32 ∉ l := fun e => by
      obtain ⟨j, hj, ej⟩ := List.mem_iff_getElem.1 e
      exact hcl j (by omega) (by simp [List.getD, hj, ej])
    refine vc_exit ?_
    refine vc_seq ?_
    refine vc_seq ?_
    refine vc_region ?_
    refine vl_val rfl (.some rfl) (val_assign rfl) ?_
    refine vl_nil ?_
    refine vc_block ?_
    refine vc_loopw (fun m E H => ∃ i : Nat, i ≤ 97 ∧ m = 97 - i ∧ (∀ j, j < i → ¬ mtB l j) ∧ E = [(0, .string (sL l)), (4, .int .i64 i)] ∧ H = []) (97) ⟨_, _, _, ⟨0, by omega, rfl, fun j hj => absurd hj (by omega), rfl, rfl⟩, (by repeat (first | exact trivial | refine ⟨rfl, ?_⟩ | refine ⟨le_item rfl (by first | rfl | (congr 1; omega) | (simp; done) | (simp; omega)), ?_⟩)), (by repeat (first | exact .nil | (apply Sub.cons; · repeat (first | exact .head | apply Take.tail))))⟩ ?_
    intro m E H hI
    obtain ⟨i, hi, rfl, hmt, rfl, rfl⟩ := hI
    refine vc_seq ?_
    refine vc_seq ?_
    refine vc_region ?_
    refine vl_val rfl (.some rfl) (val_move rfl) ?_
    refine vl_val rfl (.some rfl) (val_move rfl) ?_
    refine vl_val rfl (.some rfl) (val_lenStr Tryd.runUnderlying9 rfl) ?_
    refine vl_val rfl (.some rfl) (val_add rfl rfl (show _ = ((i + l.length : Nat) : Int) by rw [w_i64 (by omega) (by omega)]; omega)) ?_
    refine vl_val rfl (.some rfl) (val_add rfl rfl (show _ = ((i + l.length + 1 : Nat) : Int) by rw [w_i64 (by omega) (by omega)]; omega)) ?_
    refine vl_val rfl (.some rfl) (val_lt rfl rfl) ?_
    refine vl_nil ?_
    refine vc_cond rfl (fun hc2 => ?_) (fun hc2 => ?_)
    · (try replace hc2 := of_decide_eq_true hc2)
      refine vc_skip ?_
      refine vc_seq ?_
      refine vc_block ?_
      refine vc_seq ?_
      refine vc_region ?_
      refine vl_val rfl (.some rfl) (val_move rfl) ?_
      refine vl_val rfl (.some rfl) (val_indexStr (s := sWB) Tryd.runUnderlying9 rfl rfl (by omega) (by show _ < ((97 : Nat) : Int); omega)) ?_
      refine vl_val rfl (.some rfl) (val_eq rfl rfl) ?_
      refine vl_val rfl (.some rfl) (val_move rfl) ?_
      refine vl_split (t := 26) rfl (fun hg26 => ?_) (fun hg26 => ?_)
      · (try replace hg26 := of_decide_eq_true hg26)
        refine vl_on rfl rfl rfl rfl ?_
        refine vl_val rfl (.some rfl) (val_move rfl) ?_
        refine vl_on rfl rfl rfl rfl ?_
        refine vl_val rfl (.some rfl) (val_add rfl rfl (show _ = ((i + 1 : Nat) : Int) by rw [w_i64 (by omega) (by omega)]; omega)) ?_
        refine vl_on rfl rfl rfl rfl ?_
        refine vl_val rfl (.some rfl) (val_move rfl) ?_
        refine vl_on rfl rfl rfl rfl ?_
        refine vl_val rfl (.some rfl) (val_add rfl rfl (show _ = ((i + 1 : Nat) : Int) by rw [w_i64 (by omega) (by omega)]; omega)) ?_
        refine vl_on rfl rfl rfl rfl ?_
        refine vl_val rfl (.some rfl) (val_move rfl) ?_
        refine vl_on rfl rfl rfl rfl ?_
        refine vl_val rfl (.some rfl) (val_lenStr Tryd.runUnderlying9 rfl) ?_
        refine vl_on rfl rfl rfl rfl ?_
        refine vl_val rfl (.some rfl) (val_add rfl rfl (show _ = ((i + 1 + l.length : Nat) : Int) by rw [w_i64 (by omega) (by omega)]; omega)) ?_
        refine vl_on rfl rfl rfl rfl ?_
        refine vl_val rfl (.some rfl) (val_cutStr (s := sWB) Tryd.runUnderlying9 rfl rfl rfl (by omega) (by omega) (by show _ ≤ ((97 : Nat) : Int); omega)) ?_
        refine vl_on rfl rfl rfl rfl ?_
        refine vl_val rfl (.some rfl) (val_move rfl) ?_
        refine vl_on rfl rfl rfl rfl ?_
        refine vl_val rfl (.some rfl) (val_seq rfl rfl) ?_
        refine vl_val rfl (.some rfl) (val_pick rfl rfl) ?_
        refine vl_val rfl (.some rfl) (val_move rfl) ?_
        refine vl_split (t := 38) rfl (fun hg38 => ?_) (fun hg38 => ?_)
        · (try replace hg38 := of_decide_eq_true hg38)
          refine vl_on rfl rfl rfl rfl ?_
          refine vl_val rfl (.some rfl) (val_move rfl) ?_
          refine vl_on rfl rfl rfl rfl ?_
          refine vl_val rfl (.some rfl) (val_add rfl rfl (show _ = ((i + 1 : Nat) : Int) by rw [w_i64 (by omega) (by omega)]; omega)) ?_
          refine vl_on rfl rfl rfl rfl ?_
          refine vl_val rfl (.some rfl) (val_move rfl) ?_
          refine vl_on rfl rfl rfl rfl ?_
          refine vl_val rfl (.some rfl) (val_lenStr Tryd.runUnderlying9 rfl) ?_
          refine vl_on rfl rfl rfl rfl ?_
          refine vl_val rfl (.some rfl) (val_add rfl rfl (show _ = ((i + 1 + l.length : Nat) : Int) by rw [w_i64 (by omega) (by omega)]; omega)) ?_
          refine vl_on rfl rfl rfl rfl ?_
          refine vl_val rfl (.some rfl) (val_indexStr (s := sWB) Tryd.runUnderlying9 rfl rfl (by omega) (by show _ < ((97 : Nat) : Int); omega)) ?_
          refine vl_on rfl rfl rfl rfl ?_
          refine vl_val rfl (.some rfl) (val_eq rfl rfl) ?_
          refine vl_val rfl (.some rfl) (val_pick rfl rfl) ?_
          refine vl_nil ?_
          refine vc_cond rfl (fun hc3 => ?_) (fun hc3 => ?_)
          · (try replace hc3 := of_decide_eq_true hc3)
            have hm : mtB l i := ⟨by first | omega | (have := hg26; rw [Int.toNat_natCast] at this; omega), by rw [Int.toNat_natCast, Int.toNat_natCast] at hg38; exact hg38, by have := hc3; rw [Int.toNat_natCast] at this; omega⟩
            have hin := word_match hno (by omega) hm
            have hln := (word_clean hin).2
            refine vc_seq ?_
            refine vc_region ?_
            refine vl_val rfl (.some rfl) (val_move rfl) ?_
            refine vl_val rfl (.some rfl) (val_lenStr Tryd.runUnderlying9 rfl) ?_
            refine vl_val rfl (.some rfl) (val_gt rfl rfl) ?_
            refine vl_val rfl (.some rfl) (val_assign rfl) ?_
            refine vl_nil ?_
            refine vc_ret ?_
            refine ⟨_, [], _, res1 Tryd.results17 rfl, .nil, ?_⟩
            show Value.bool _ = Value.bool _
            rw [decide_eq_true hin, decide_eq_true (by omega)]
          · (try replace hc3 := of_decide_eq_false hc3)
            refine vc_skip ?_
            refine vc_region ?_
            refine vl_val rfl (.some rfl) (val_move rfl) ?_
            refine vl_val rfl (.some rfl) (val_add rfl rfl (by first | exact w_i64 (by omega) (by omega) | rfl)) ?_
            refine vl_val rfl (.some rfl) (val_assign rfl) ?_
            refine vl_nil ?_
            exact ⟨(97 - (i + 1)), _, _, _, by omega, (by repeat (first | exact trivial | refine ⟨rfl, ?_⟩ | refine ⟨le_item rfl (by first | rfl | (congr 1; omega) | (simp; done) | (simp; omega)), ?_⟩)), (by repeat (first | exact .nil | (apply Sub.cons; · repeat (first | exact .head | apply Take.tail)))), ⟨i + 1, by omega, rfl, fun j hj => by
              rcases Nat.lt_or_ge j i with h | h
              · exact hmt j h
              · obtain rfl : j = i := by omega
                intro hm
                obtain ⟨m1, m2, m3⟩ := hm
                first | (exact hg26 (by rw [Int.toNat_natCast, m1]; rfl)) | (exact hg38 (by rw [Int.toNat_natCast, Int.toNat_natCast]; exact m2)) | (exact hc3 (by rw [Int.toNat_natCast, m3]; rfl)), rfl, rfl⟩⟩
        · (try replace hg38 := of_decide_eq_false hg38)
          refine vl_off rfl rfl rfl rfl (.some rfl) ?_
          refine vl_off rfl rfl rfl rfl (.some rfl) ?_
          refine vl_off rfl rfl rfl rfl (.some rfl) ?_
          refine vl_off rfl rfl rfl rfl (.some rfl) ?_
          refine vl_off rfl rfl rfl rfl (.some rfl) ?_
          refine vl_off rfl rfl rfl rfl (.some rfl) ?_
          refine vl_off rfl rfl rfl rfl (.some rfl) ?_
          refine vl_val rfl (.some rfl) (val_pick rfl rfl) ?_
          refine vl_nil ?_
          refine vc_cond rfl (fun h => by cases h) (fun _ => ?_)
          refine vc_skip ?_
          refine vc_region ?_
          refine vl_val rfl (.some rfl) (val_move rfl) ?_
          refine vl_val rfl (.some rfl) (val_add rfl rfl (by first | exact w_i64 (by omega) (by omega) | rfl)) ?_
          refine vl_val rfl (.some rfl) (val_assign rfl) ?_
          refine vl_nil ?_
          exact ⟨(97 - (i + 1)), _, _, _, by omega, (by repeat (first | exact trivial | refine ⟨rfl, ?_⟩ | refine ⟨le_item rfl (by first | rfl | (congr 1; omega) | (simp; done) | (simp; omega)), ?_⟩)), (by repeat (first | exact .nil | (apply Sub.cons; · repeat (first | exact .head | apply Take.tail)))), ⟨i + 1, by omega, rfl, fun j hj => by
            rcases Nat.lt_or_ge j i with h | h
            · exact hmt j h
            · obtain rfl : j = i := by omega
              intro hm
              obtain ⟨m1, m2, m3⟩ := hm
              first | (exact hg26 (by rw [Int.toNat_natCast, m1]; rfl)) | (exact hg38 (by rw [Int.toNat_natCast, Int.toNat_natCast]; exact m2)) | (exact hc3 (by rw [Int.toNat_natCast, m3]; rfl)), rfl, rfl⟩⟩
      · (try replace hg26 := of_decide_eq_false hg26)
        refine vl_off rfl rfl rfl rfl (.some rfl) ?_
        refine vl_off rfl rfl rfl rfl (.some rfl) ?_
        refine vl_off rfl rfl rfl rfl (.some rfl) ?_
        refine vl_off rfl rfl rfl rfl (.some rfl) ?_
        refine vl_off rfl rfl rfl rfl (.some rfl) ?_
        refine vl_off rfl rfl rfl rfl (.some rfl) ?_
        refine vl_off rfl rfl rfl rfl (.some rfl) ?_
        refine vl_off rfl rfl rfl rfl (.some rfl) ?_
        refine vl_off rfl rfl rfl rfl (.some rfl) ?_
        refine vl_off rfl rfl rfl rfl (.some rfl) ?_
        refine vl_val rfl (.some rfl) (val_pick rfl rfl) ?_
        refine vl_val rfl (.some rfl) (val_move rfl) ?_
        refine vl_off rfl rfl rfl rfl (.some rfl) ?_
        refine vl_off rfl rfl rfl rfl (.some rfl) ?_
        refine vl_off rfl rfl rfl rfl (.some rfl) ?_
        refine vl_off rfl rfl rfl rfl (.some rfl) ?_
        refine vl_off rfl rfl rfl rfl (.some rfl) ?_
        refine vl_off rfl rfl rfl rfl (.some rfl) ?_
        refine vl_off rfl rfl rfl rfl (.some rfl) ?_
        refine vl_val rfl (.some rfl) (val_pick rfl rfl) ?_
        refine vl_nil ?_
        refine vc_cond rfl (fun h => by cases h) (fun _ => ?_)
        refine vc_skip ?_
        refine vc_region ?_
        refine vl_val rfl (.some rfl) (val_move rfl) ?_
        refine vl_val rfl (.some rfl) (val_add rfl rfl (by first | exact w_i64 (by omega) (by omega) | rfl)) ?_
        refine vl_val rfl (.some rfl) (val_assign rfl) ?_
        refine vl_nil ?_
        exact ⟨(97 - (i + 1)), _, _, _, by omega, (by repeat (first | exact trivial | refine ⟨rfl, ?_⟩ | refine ⟨le_item rfl (by first | rfl | (congr 1; omega) | (simp; done) | (simp; omega)), ?_⟩)), (by repeat (first | exact .nil | (apply Sub.cons; · repeat (first | exact .head | apply Take.tail)))), ⟨i + 1, by omega, rfl, fun j hj => by
          rcases Nat.lt_or_ge j i with h | h
          · exact hmt j h
          · obtain rfl : j = i := by omega
            intro hm
            obtain ⟨m1, m2, m3⟩ := hm
            first | (exact hg26 (by rw [Int.toNat_natCast, m1]; rfl)) | (exact hg38 (by rw [Int.toNat_natCast, Int.toNat_natCast]; exact m2)) | (exact hc3 (by rw [Int.toNat_natCast, m3]; rfl)), rfl, rfl⟩⟩
    · (try replace hc2 := of_decide_eq_false hc2)
      refine vc_exit ?_
      refine vc_seq ?_
      refine vc_region ?_
      refine vl_val rfl (.some rfl) (val_assign rfl) ?_
      refine vl_nil ?_
      refine vc_ret ?_
      refine ⟨_, [], _, res1 Tryd.results17 rfl, .nil, ?_⟩
      show Value.bool false = _
      rw [decide_eq_false (p := l ∈ wordsL) (fun h => by obtain ⟨j, h1, h2⟩ := word_has h; exact hmt j (by omega) h2)]
set_option maxRecDepth 20000 in
set_option maxHeartbeats 1000000 in
theorem rName (l : List UInt8) (hlb : l.length < 9223372036854775808) (w : World) : FnV Tryd.prog 10 [.string (sL l)] (.bool (decide (nameP l))) w := by
  have hsz := sL_size l
  have hb0 : bt (sL l) (Int.toNat 0) = (l.getD 0 0).toNat := by rw [show Int.toNat 0 = 0 from rfl, bt_sL]
  refine fn_enter Tryd.func10 rfl Tryd.ntmps10 rfl ?_
  refine vc_seq ?_
  refine vc_region ?_
  refine vl_val rfl (.some rfl) (val_assign rfl) ?_
  refine vl_nil ?_
  refine vc_seq ?_
  refine vc_seq ?_
  refine vc_region ?_
  refine vl_val rfl (.some rfl) (val_move rfl) ?_
  refine vl_val rfl (.some rfl) (val_lenStr Tryd.runUnderlying9 rfl) ?_
  refine vl_val rfl (.some rfl) (val_lt rfl rfl) ?_
  refine vl_val rfl (.some rfl) (val_move rfl) ?_
  refine vl_split (t := 7) rfl (fun hg7 => ?_) (fun hg7 => ?_)
  · (try replace hg7 := of_decide_eq_true hg7)
    refine vl_off rfl rfl rfl rfl (.some rfl) ?_
    refine vl_off rfl rfl rfl rfl (.some rfl) ?_
    refine vl_off rfl rfl rfl rfl (.some rfl) ?_
    refine vl_val rfl (.some rfl) (val_pick rfl rfl) ?_
    refine vl_val rfl (.some rfl) (val_move rfl) ?_
    refine vl_off rfl rfl rfl rfl (.some rfl) ?_
    refine vl_off rfl rfl rfl rfl (.some rfl) ?_
    refine vl_off rfl rfl rfl rfl (.some rfl) ?_
    refine vl_val rfl (.some rfl) (val_pick rfl rfl) ?_
    refine vl_val rfl (.some rfl) (val_move rfl) ?_
    refine vl_off rfl rfl rfl rfl (.some rfl) ?_
    refine vl_off rfl rfl rfl rfl (.some rfl) ?_
    refine vl_off rfl rfl rfl rfl (.some rfl) ?_
    refine vl_val rfl (.some rfl) (val_pick rfl rfl) ?_
    refine vl_val rfl (.some rfl) (val_move rfl) ?_
    refine vl_off rfl rfl rfl rfl (.some rfl) ?_
    refine vl_off rfl rfl rfl rfl (.some rfl) ?_
    refine vl_val rfl (.some rfl) (val_pick rfl rfl) ?_
    refine vl_nil ?_
    refine vc_cond rfl (fun _ => ?_) (fun h => by cases h)
    refine vc_seq ?_
    refine vc_region ?_
    refine vl_val rfl (.some rfl) (val_assign rfl) ?_
    refine vl_nil ?_
    refine vc_ret ?_
    refine ⟨_, [], _, res1 Tryd.results10 rfl, .nil, ?_⟩
    show Value.bool false = _
    rw [decide_eq_false (p := nameP l) (fun h => by obtain ⟨⟨h1, h2⟩, ⟨h3, h4⟩, h5, h6⟩ := h; first | omega | exact h6 (by simpa using hc0))]
  · (try replace hg7 := of_decide_eq_false hg7)
    refine vl_on rfl rfl rfl rfl ?_
    refine vl_val rfl (.some rfl) (val_move rfl) ?_
    refine vl_on rfl rfl rfl rfl ?_
    refine vl_val rfl (.some rfl) (val_lenStr Tryd.runUnderlying9 rfl) ?_
    refine vl_on rfl rfl rfl rfl ?_
    refine vl_val rfl (.some rfl) (val_gt rfl rfl) ?_
    refine vl_val rfl (.some rfl) (val_pick rfl rfl) ?_
    refine vl_val rfl (.some rfl) (val_move rfl) ?_
    refine vl_split (t := 12) rfl (fun hg12 => ?_) (fun hg12 => ?_)
    · (try replace hg12 := of_decide_eq_true hg12)
      refine vl_off rfl rfl rfl rfl (.some rfl) ?_
      refine vl_off rfl rfl rfl rfl (.some rfl) ?_
      refine vl_off rfl rfl rfl rfl (.some rfl) ?_
      refine vl_val rfl (.some rfl) (val_pick rfl rfl) ?_
      refine vl_val rfl (.some rfl) (val_move rfl) ?_
      refine vl_off rfl rfl rfl rfl (.some rfl) ?_
      refine vl_off rfl rfl rfl rfl (.some rfl) ?_
      refine vl_off rfl rfl rfl rfl (.some rfl) ?_
      refine vl_val rfl (.some rfl) (val_pick rfl rfl) ?_
      refine vl_val rfl (.some rfl) (val_move rfl) ?_
      refine vl_off rfl rfl rfl rfl (.some rfl) ?_
      refine vl_off rfl rfl rfl rfl (.some rfl) ?_
      refine vl_val rfl (.some rfl) (val_pick rfl rfl) ?_
      refine vl_nil ?_
      refine vc_cond rfl (fun _ => ?_) (fun h => by cases h)
      refine vc_seq ?_
      refine vc_region ?_
      refine vl_val rfl (.some rfl) (val_assign rfl) ?_
      refine vl_nil ?_
      refine vc_ret ?_
      refine ⟨_, [], _, res1 Tryd.results10 rfl, .nil, ?_⟩
      show Value.bool false = _
      rw [decide_eq_false (p := nameP l) (fun h => by obtain ⟨⟨h1, h2⟩, ⟨h3, h4⟩, h5, h6⟩ := h; first | omega | exact h6 (by simpa using hc0))]
    · (try replace hg12 := of_decide_eq_false hg12)
      refine vl_on rfl rfl rfl rfl ?_
      refine vl_val rfl (.some rfl) (val_move rfl) ?_
      refine vl_on rfl rfl rfl rfl ?_
      refine vl_val rfl (.some rfl) (val_indexStr Tryd.runUnderlying9 rfl rfl (by omega) (by first | omega | (simp; omega))) ?_
      refine vl_on rfl rfl rfl rfl ?_
      refine vl_val rfl (.some rfl) (val_lt rfl rfl) ?_
      refine vl_val rfl (.some rfl) (val_pick rfl rfl) ?_
      refine vl_val rfl (.some rfl) (val_move rfl) ?_
      refine vl_split (t := 17) rfl (fun hg17 => ?_) (fun hg17 => ?_)
      · (try replace hg17 := of_decide_eq_true hg17)
        refine vl_off rfl rfl rfl rfl (.some rfl) ?_
        refine vl_off rfl rfl rfl rfl (.some rfl) ?_
        refine vl_off rfl rfl rfl rfl (.some rfl) ?_
        refine vl_val rfl (.some rfl) (val_pick rfl rfl) ?_
        refine vl_val rfl (.some rfl) (val_move rfl) ?_
        refine vl_off rfl rfl rfl rfl (.some rfl) ?_
        refine vl_off rfl rfl rfl rfl (.some rfl) ?_
        refine vl_val rfl (.some rfl) (val_pick rfl rfl) ?_
        refine vl_nil ?_
        refine vc_cond rfl (fun _ => ?_) (fun h => by cases h)
        refine vc_seq ?_
        refine vc_region ?_
        refine vl_val rfl (.some rfl) (val_assign rfl) ?_
        refine vl_nil ?_
        refine vc_ret ?_
        refine ⟨_, [], _, res1 Tryd.results10 rfl, .nil, ?_⟩
        show Value.bool false = _
        rw [decide_eq_false (p := nameP l) (fun h => by obtain ⟨⟨h1, h2⟩, ⟨h3, h4⟩, h5, h6⟩ := h; first | omega | exact h6 (by simpa using hc0))]
      · (try replace hg17 := of_decide_eq_false hg17)
        refine vl_on rfl rfl rfl rfl ?_
        refine vl_val rfl (.some rfl) (val_move rfl) ?_
        refine vl_on rfl rfl rfl rfl ?_
        refine vl_val rfl (.some rfl) (val_indexStr Tryd.runUnderlying9 rfl rfl (by omega) (by first | omega | (simp; omega))) ?_
        refine vl_on rfl rfl rfl rfl ?_
        refine vl_val rfl (.some rfl) (val_gt rfl rfl) ?_
        refine vl_val rfl (.some rfl) (val_pick rfl rfl) ?_
        refine vl_val rfl (.some rfl) (val_move rfl) ?_
        refine vl_split (t := 22) rfl (fun hg22 => ?_) (fun hg22 => ?_)
        · (try replace hg22 := of_decide_eq_true hg22)
          refine vl_off rfl rfl rfl rfl (.some rfl) ?_
          refine vl_off rfl rfl rfl rfl (.some rfl) ?_
          refine vl_val rfl (.some rfl) (val_pick rfl rfl) ?_
          refine vl_nil ?_
          refine vc_cond rfl (fun _ => ?_) (fun h => by cases h)
          refine vc_seq ?_
          refine vc_region ?_
          refine vl_val rfl (.some rfl) (val_assign rfl) ?_
          refine vl_nil ?_
          refine vc_ret ?_
          refine ⟨_, [], _, res1 Tryd.results10 rfl, .nil, ?_⟩
          show Value.bool false = _
          rw [decide_eq_false (p := nameP l) (fun h => by obtain ⟨⟨h1, h2⟩, ⟨h3, h4⟩, h5, h6⟩ := h; first | omega | exact h6 (by simpa using hc0))]
        · (try replace hg22 := of_decide_eq_false hg22)
          refine vl_on rfl rfl rfl rfl ?_
          refine vl_val rfl (.some rfl) (val_move rfl) ?_
          refine vl_on rfl rfl rfl rfl ?_
          refine vl_callV rfl rfl (.some rfl) Tryd.call17 rfl (fun w hw => rWord l (by omega) w) ?_
          refine vl_val rfl (.some rfl) (val_pick rfl rfl) ?_
          refine vl_nil ?_
          refine vc_cond rfl (fun hc0 => ?_) (fun hc0 => ?_)
          · (try replace hc0 := of_decide_eq_true hc0)
            have hnn : ¬ nameP l := fun h => by
              obtain ⟨⟨h1, h2⟩, ⟨h3, h4⟩, h5, h6⟩ := h
              first | omega | exact h6 (by simpa using hc0)
            refine vc_seq ?_
            refine vc_region ?_
            refine vl_val rfl (.some rfl) (val_assign rfl) ?_
            refine vl_nil ?_
            refine vc_ret ?_
            refine ⟨_, [], _, res1 Tryd.results10 rfl, .nil, ?_⟩
            show Value.bool false = _
            rw [decide_eq_false (p := nameP l) (fun h => by obtain ⟨⟨h1, h2⟩, ⟨h3, h4⟩, h5, h6⟩ := h; first | omega | exact h6 (by simpa using hc0))]
          · (try replace hc0 := of_decide_eq_false hc0)
            have hnw : l ∉ wordsL := by simpa using hc0
            refine vc_skip ?_
            refine vc_seq ?_
            refine vc_seq ?_
            refine vc_region ?_
            refine vl_val rfl (.some rfl) (val_assign rfl) ?_
            refine vl_nil ?_
            refine vc_block ?_
            refine vc_loopw (fun m E H => ∃ i : Nat, i ≤ l.length ∧ m = l.length - i ∧ (∀ j, j < i → okCh (l.getD j 0)) ∧ E = [(0, .string (sL l)), (3, .int .i64 i)] ∧ H = []) (l.length) ⟨_, _, _, ⟨0, by omega, rfl, fun j hj => absurd hj (by omega), rfl, rfl⟩, (by repeat (first | exact trivial | refine ⟨rfl, ?_⟩ | refine ⟨le_item rfl (by first | rfl | (congr 1; omega) | (simp; done) | (simp; omega)), ?_⟩)), (by repeat (first | exact .nil | (apply Sub.cons; · repeat (first | exact .head | apply Take.tail))))⟩ ?_
            intro m E H hI
            obtain ⟨i, hi, rfl, hall, rfl, rfl⟩ := hI
            refine vc_seq ?_
            refine vc_seq ?_
            refine vc_region ?_
            refine vl_val rfl (.some rfl) (val_move rfl) ?_
            refine vl_val rfl (.some rfl) (val_move rfl) ?_
            refine vl_val rfl (.some rfl) (val_lenStr Tryd.runUnderlying9 rfl) ?_
            refine vl_val rfl (.some rfl) (val_lt rfl rfl) ?_
            refine vl_nil ?_
            refine vc_cond rfl (fun hc1 => ?_) (fun hc1 => ?_)
            · (try replace hc1 := of_decide_eq_true hc1)
              have hbt : bt (sL l) (Int.toNat (i : Int)) = (l.getD i 0).toNat := by rw [Int.toNat_natCast, bt_sL]
              refine vc_skip ?_
              refine vc_seq ?_
              refine vc_block ?_
              refine vc_seq ?_
              refine vc_region ?_
              refine vl_val rfl (.some rfl) (val_move rfl) ?_
              refine vl_val rfl (.some rfl) (val_move rfl) ?_
              refine vl_val rfl (.some rfl) (val_indexStr Tryd.runUnderlying9 rfl rfl (by omega) (by first | omega | (simp; omega))) ?_
              refine vl_val rfl (.some rfl) (val_ge rfl rfl) ?_
              refine vl_val rfl (.some rfl) (val_move rfl) ?_
              refine vl_split (t := 36) rfl (fun hg36 => ?_) (fun hg36 => ?_)
              · (try replace hg36 := of_decide_eq_true hg36)
                refine vl_on rfl rfl rfl rfl ?_
                refine vl_val rfl (.some rfl) (val_move rfl) ?_
                refine vl_on rfl rfl rfl rfl ?_
                refine vl_val rfl (.some rfl) (val_move rfl) ?_
                refine vl_on rfl rfl rfl rfl ?_
                refine vl_val rfl (.some rfl) (val_indexStr Tryd.runUnderlying9 rfl rfl (by omega) (by first | omega | (simp; omega))) ?_
                refine vl_on rfl rfl rfl rfl ?_
                refine vl_val rfl (.some rfl) (val_le rfl rfl) ?_
                refine vl_val rfl (.some rfl) (val_pick rfl rfl) ?_
                refine vl_val rfl (.some rfl) (val_move rfl) ?_
                refine vl_split (t := 42) rfl (fun hg42 => ?_) (fun hg42 => ?_)
                · (try replace hg42 := of_decide_eq_true hg42)
                  refine vl_off rfl rfl rfl rfl (.some rfl) ?_
                  refine vl_off rfl rfl rfl rfl (.some rfl) ?_
                  refine vl_off rfl rfl rfl rfl (.some rfl) ?_
                  refine vl_off rfl rfl rfl rfl (.some rfl) ?_
                  refine vl_off rfl rfl rfl rfl (.some rfl) ?_
                  refine vl_offU rfl rfl rfl rfl (.some rfl) ?_
                  refine vl_offU rfl rfl rfl rfl (.some rfl) ?_
                  refine vl_offU rfl rfl rfl rfl (.some rfl) ?_
                  refine vl_offU rfl rfl rfl rfl (.some rfl) ?_
                  refine vl_off rfl rfl rfl rfl (.some rfl) ?_
                  refine vl_val rfl (.some rfl) (val_pick rfl rfl) ?_
                  refine vl_val rfl (.some rfl) (val_move rfl) ?_
                  refine vl_off rfl rfl rfl rfl (.some rfl) ?_
                  refine vl_off rfl rfl rfl rfl (.some rfl) ?_
                  refine vl_off rfl rfl rfl rfl (.some rfl) ?_
                  refine vl_off rfl rfl rfl rfl (.some rfl) ?_
                  refine vl_val rfl (.some rfl) (val_pick rfl rfl) ?_
                  refine vl_val rfl (.some rfl) (val_not rfl) ?_
                  refine vl_nil ?_
                  refine vc_cond rfl (fun h => by cases h) (fun _ => ?_)
                  refine vc_skip ?_
                  refine vc_region ?_
                  refine vl_val rfl (.some rfl) (val_move rfl) ?_
                  refine vl_val rfl (.some rfl) (val_add rfl rfl (by first | exact w_i64 (by omega) (by omega) | rfl)) ?_
                  refine vl_val rfl (.some rfl) (val_assign rfl) ?_
                  refine vl_nil ?_
                  have hok : okCh (l.getD i 0) := by unfold okCh; (try simp only [Bool.not_eq_true', Bool.not_eq_true, Bool.not_eq_false', Bool.not_eq_false, decide_eq_true_eq, decide_eq_false_iff_not, Decidable.not_not] at hc2); omega
                  exact ⟨(l.length - (i + 1)), _, _, _, by omega, (by repeat (first | exact trivial | refine ⟨rfl, ?_⟩ | refine ⟨le_item rfl (by first | rfl | (congr 1; omega) | (simp; done) | (simp; omega)), ?_⟩)), (by repeat (first | exact .nil | (apply Sub.cons; · repeat (first | exact .head | apply Take.tail)))), ⟨i + 1, by omega, rfl, fun j hj => by
                    rcases Nat.lt_or_ge j i with h | h
                    · exact hall j h
                    · obtain rfl : j = i := by omega
                      exact hok, rfl, rfl⟩⟩
                · (try replace hg42 := of_decide_eq_false hg42)
                  refine vl_on rfl rfl rfl rfl ?_
                  refine vl_val rfl (.some rfl) (val_move rfl) ?_
                  refine vl_on rfl rfl rfl rfl ?_
                  refine vl_val rfl (.some rfl) (val_move rfl) ?_
                  refine vl_on rfl rfl rfl rfl ?_
                  refine vl_val rfl (.some rfl) (val_indexStr Tryd.runUnderlying9 rfl rfl (by omega) (by first | omega | (simp; omega))) ?_
                  refine vl_on rfl rfl rfl rfl ?_
                  refine vl_val rfl (.some rfl) (val_ge rfl rfl) ?_
                  refine vl_on rfl rfl rfl rfl ?_
                  refine vl_val rfl (.some rfl) (val_move rfl) ?_
                  refine vl_split (t := 47) rfl (fun hg47 => ?_) (fun hg47 => ?_)
                  · (try replace hg47 := of_decide_eq_true hg47)
                    refine vl_on rfl rfl rfl rfl ?_
                    refine vl_val rfl (.some rfl) (val_move rfl) ?_
                    refine vl_on rfl rfl rfl rfl ?_
                    refine vl_val rfl (.some rfl) (val_move rfl) ?_
                    refine vl_on rfl rfl rfl rfl ?_
                    refine vl_val rfl (.some rfl) (val_indexStr Tryd.runUnderlying9 rfl rfl (by omega) (by first | omega | (simp; omega))) ?_
                    refine vl_on rfl rfl rfl rfl ?_
                    refine vl_val rfl (.some rfl) (val_le rfl rfl) ?_
                    refine vl_on rfl rfl rfl rfl ?_
                    refine vl_val rfl (.some rfl) (val_pick rfl rfl) ?_
                    refine vl_val rfl (.some rfl) (val_pick rfl rfl) ?_
                    refine vl_val rfl (.some rfl) (val_move rfl) ?_
                    refine vl_split (t := 54) rfl (fun hg54 => ?_) (fun hg54 => ?_)
                    · (try replace hg54 := of_decide_eq_true hg54)
                      refine vl_off rfl rfl rfl rfl (.some rfl) ?_
                      refine vl_off rfl rfl rfl rfl (.some rfl) ?_
                      refine vl_off rfl rfl rfl rfl (.some rfl) ?_
                      refine vl_off rfl rfl rfl rfl (.some rfl) ?_
                      refine vl_val rfl (.some rfl) (val_pick rfl rfl) ?_
                      refine vl_val rfl (.some rfl) (val_not rfl) ?_
                      refine vl_nil ?_
                      refine vc_cond rfl (fun h => by cases h) (fun _ => ?_)
                      refine vc_skip ?_
                      refine vc_region ?_
                      refine vl_val rfl (.some rfl) (val_move rfl) ?_
                      refine vl_val rfl (.some rfl) (val_add rfl rfl (by first | exact w_i64 (by omega) (by omega) | rfl)) ?_
                      refine vl_val rfl (.some rfl) (val_assign rfl) ?_
                      refine vl_nil ?_
                      have hok : okCh (l.getD i 0) := by unfold okCh; (try simp only [Bool.not_eq_true', Bool.not_eq_true, Bool.not_eq_false', Bool.not_eq_false, decide_eq_true_eq, decide_eq_false_iff_not, Decidable.not_not] at hc2); omega
                      exact ⟨(l.length - (i + 1)), _, _, _, by omega, (by repeat (first | exact trivial | refine ⟨rfl, ?_⟩ | refine ⟨le_item rfl (by first | rfl | (congr 1; omega) | (simp; done) | (simp; omega)), ?_⟩)), (by repeat (first | exact .nil | (apply Sub.cons; · repeat (first | exact .head | apply Take.tail)))), ⟨i + 1, by omega, rfl, fun j hj => by
                        rcases Nat.lt_or_ge j i with h | h
                        · exact hall j h
                        · obtain rfl : j = i := by omega
                          exact hok, rfl, rfl⟩⟩
                    · (try replace hg54 := of_decide_eq_false hg54)
                      refine vl_on rfl rfl rfl rfl ?_
                      refine vl_val rfl (.some rfl) (val_move rfl) ?_
                      refine vl_on rfl rfl rfl rfl ?_
                      refine vl_val rfl (.some rfl) (val_move rfl) ?_
                      refine vl_on rfl rfl rfl rfl ?_
                      refine vl_val rfl (.some rfl) (val_indexStr Tryd.runUnderlying9 rfl rfl (by omega) (by first | omega | (simp; omega))) ?_
                      refine vl_on rfl rfl rfl rfl ?_
                      refine vl_val rfl (.some rfl) (val_eq rfl rfl) ?_
                      refine vl_val rfl (.some rfl) (val_pick rfl rfl) ?_
                      refine vl_val rfl (.some rfl) (val_not rfl) ?_
                      refine vl_nil ?_
                      refine vc_cond rfl (fun hc2 => ?_) (fun hc2 => ?_)
                      · (try replace hc2 := of_decide_eq_true hc2)
                        refine vc_seq ?_
                        refine vc_region ?_
                        refine vl_val rfl (.some rfl) (val_assign rfl) ?_
                        refine vl_nil ?_
                        refine vc_ret ?_
                        refine ⟨_, [], _, res1 Tryd.results10 rfl, .nil, ?_⟩
                        show Value.bool false = _
                        rw [decide_eq_false (p := nameP l) (fun h => by obtain ⟨⟨h1, h2⟩, ⟨h3, h4⟩, h5, h6⟩ := h; have h7 := h5 i (by omega); unfold okCh at h7; (try simp only [Bool.not_eq_true', Bool.not_eq_true, Bool.not_eq_false', Bool.not_eq_false, decide_eq_true_eq, decide_eq_false_iff_not, Decidable.not_not] at hc2); omega)]
                      · (try replace hc2 := of_decide_eq_false hc2)
                        refine vc_skip ?_
                        refine vc_region ?_
                        refine vl_val rfl (.some rfl) (val_move rfl) ?_
                        refine vl_val rfl (.some rfl) (val_add rfl rfl (by first | exact w_i64 (by omega) (by omega) | rfl)) ?_
                        refine vl_val rfl (.some rfl) (val_assign rfl) ?_
                        refine vl_nil ?_
                        have hok : okCh (l.getD i 0) := by unfold okCh; (try simp only [Bool.not_eq_true', Bool.not_eq_true, Bool.not_eq_false', Bool.not_eq_false, decide_eq_true_eq, decide_eq_false_iff_not, Decidable.not_not] at hc2); omega
                        exact ⟨(l.length - (i + 1)), _, _, _, by omega, (by repeat (first | exact trivial | refine ⟨rfl, ?_⟩ | refine ⟨le_item rfl (by first | rfl | (congr 1; omega) | (simp; done) | (simp; omega)), ?_⟩)), (by repeat (first | exact .nil | (apply Sub.cons; · repeat (first | exact .head | apply Take.tail)))), ⟨i + 1, by omega, rfl, fun j hj => by
                          rcases Nat.lt_or_ge j i with h | h
                          · exact hall j h
                          · obtain rfl : j = i := by omega
                            exact hok, rfl, rfl⟩⟩
                  · (try replace hg47 := of_decide_eq_false hg47)
                    refine vl_off rfl rfl rfl rfl (.some rfl) ?_
                    refine vl_off rfl rfl rfl rfl (.some rfl) ?_
                    refine vl_off rfl rfl rfl rfl (.some rfl) ?_
                    refine vl_off rfl rfl rfl rfl (.some rfl) ?_
                    refine vl_on rfl rfl rfl rfl ?_
                    refine vl_val rfl (.some rfl) (val_pick rfl rfl) ?_
                    refine vl_val rfl (.some rfl) (val_pick rfl rfl) ?_
                    refine vl_val rfl (.some rfl) (val_move rfl) ?_
                    refine vl_on rfl rfl rfl rfl ?_
                    refine vl_val rfl (.some rfl) (val_move rfl) ?_
                    refine vl_on rfl rfl rfl rfl ?_
                    refine vl_val rfl (.some rfl) (val_move rfl) ?_
                    refine vl_on rfl rfl rfl rfl ?_
                    refine vl_val rfl (.some rfl) (val_indexStr Tryd.runUnderlying9 rfl rfl (by omega) (by first | omega | (simp; omega))) ?_
                    refine vl_on rfl rfl rfl rfl ?_
                    refine vl_val rfl (.some rfl) (val_eq rfl rfl) ?_
                    refine vl_val rfl (.some rfl) (val_pick rfl rfl) ?_
                    refine vl_val rfl (.some rfl) (val_not rfl) ?_
                    refine vl_nil ?_
                    refine vc_cond rfl (fun hc2 => ?_) (fun hc2 => ?_)
                    · (try replace hc2 := of_decide_eq_true hc2)
                      refine vc_seq ?_
                      refine vc_region ?_
                      refine vl_val rfl (.some rfl) (val_assign rfl) ?_
                      refine vl_nil ?_
                      refine vc_ret ?_
                      refine ⟨_, [], _, res1 Tryd.results10 rfl, .nil, ?_⟩
                      show Value.bool false = _
                      rw [decide_eq_false (p := nameP l) (fun h => by obtain ⟨⟨h1, h2⟩, ⟨h3, h4⟩, h5, h6⟩ := h; have h7 := h5 i (by omega); unfold okCh at h7; (try simp only [Bool.not_eq_true', Bool.not_eq_true, Bool.not_eq_false', Bool.not_eq_false, decide_eq_true_eq, decide_eq_false_iff_not, Decidable.not_not] at hc2); omega)]
                    · (try replace hc2 := of_decide_eq_false hc2)
                      refine vc_skip ?_
                      refine vc_region ?_
                      refine vl_val rfl (.some rfl) (val_move rfl) ?_
                      refine vl_val rfl (.some rfl) (val_add rfl rfl (by first | exact w_i64 (by omega) (by omega) | rfl)) ?_
                      refine vl_val rfl (.some rfl) (val_assign rfl) ?_
                      refine vl_nil ?_
                      have hok : okCh (l.getD i 0) := by unfold okCh; (try simp only [Bool.not_eq_true', Bool.not_eq_true, Bool.not_eq_false', Bool.not_eq_false, decide_eq_true_eq, decide_eq_false_iff_not, Decidable.not_not] at hc2); omega
                      exact ⟨(l.length - (i + 1)), _, _, _, by omega, (by repeat (first | exact trivial | refine ⟨rfl, ?_⟩ | refine ⟨le_item rfl (by first | rfl | (congr 1; omega) | (simp; done) | (simp; omega)), ?_⟩)), (by repeat (first | exact .nil | (apply Sub.cons; · repeat (first | exact .head | apply Take.tail)))), ⟨i + 1, by omega, rfl, fun j hj => by
                        rcases Nat.lt_or_ge j i with h | h
                        · exact hall j h
                        · obtain rfl : j = i := by omega
                          exact hok, rfl, rfl⟩⟩
              · (try replace hg36 := of_decide_eq_false hg36)
                refine vl_off rfl rfl rfl rfl (.some rfl) ?_
                refine vl_off rfl rfl rfl rfl (.some rfl) ?_
                refine vl_off rfl rfl rfl rfl (.some rfl) ?_
                refine vl_off rfl rfl rfl rfl (.some rfl) ?_
                refine vl_val rfl (.some rfl) (val_pick rfl rfl) ?_
                refine vl_val rfl (.some rfl) (val_move rfl) ?_
                refine vl_on rfl rfl rfl rfl ?_
                refine vl_val rfl (.some rfl) (val_move rfl) ?_
                refine vl_on rfl rfl rfl rfl ?_
                refine vl_val rfl (.some rfl) (val_move rfl) ?_
                refine vl_on rfl rfl rfl rfl ?_
                refine vl_val rfl (.some rfl) (val_indexStr Tryd.runUnderlying9 rfl rfl (by omega) (by first | omega | (simp; omega))) ?_
                refine vl_on rfl rfl rfl rfl ?_
                refine vl_val rfl (.some rfl) (val_ge rfl rfl) ?_
                refine vl_on rfl rfl rfl rfl ?_
                refine vl_val rfl (.some rfl) (val_move rfl) ?_
                refine vl_split (t := 47) rfl (fun hg47 => ?_) (fun hg47 => ?_)
                · (try replace hg47 := of_decide_eq_true hg47)
                  refine vl_on rfl rfl rfl rfl ?_
                  refine vl_val rfl (.some rfl) (val_move rfl) ?_
                  refine vl_on rfl rfl rfl rfl ?_
                  refine vl_val rfl (.some rfl) (val_move rfl) ?_
                  refine vl_on rfl rfl rfl rfl ?_
                  refine vl_val rfl (.some rfl) (val_indexStr Tryd.runUnderlying9 rfl rfl (by omega) (by first | omega | (simp; omega))) ?_
                  refine vl_on rfl rfl rfl rfl ?_
                  refine vl_val rfl (.some rfl) (val_le rfl rfl) ?_
                  refine vl_on rfl rfl rfl rfl ?_
                  refine vl_val rfl (.some rfl) (val_pick rfl rfl) ?_
                  refine vl_val rfl (.some rfl) (val_pick rfl rfl) ?_
                  refine vl_val rfl (.some rfl) (val_move rfl) ?_
                  refine vl_split (t := 54) rfl (fun hg54 => ?_) (fun hg54 => ?_)
                  · (try replace hg54 := of_decide_eq_true hg54)
                    refine vl_off rfl rfl rfl rfl (.some rfl) ?_
                    refine vl_off rfl rfl rfl rfl (.some rfl) ?_
                    refine vl_off rfl rfl rfl rfl (.some rfl) ?_
                    refine vl_off rfl rfl rfl rfl (.some rfl) ?_
                    refine vl_val rfl (.some rfl) (val_pick rfl rfl) ?_
                    refine vl_val rfl (.some rfl) (val_not rfl) ?_
                    refine vl_nil ?_
                    refine vc_cond rfl (fun h => by cases h) (fun _ => ?_)
                    refine vc_skip ?_
                    refine vc_region ?_
                    refine vl_val rfl (.some rfl) (val_move rfl) ?_
                    refine vl_val rfl (.some rfl) (val_add rfl rfl (by first | exact w_i64 (by omega) (by omega) | rfl)) ?_
                    refine vl_val rfl (.some rfl) (val_assign rfl) ?_
                    refine vl_nil ?_
                    have hok : okCh (l.getD i 0) := by unfold okCh; (try simp only [Bool.not_eq_true', Bool.not_eq_true, Bool.not_eq_false', Bool.not_eq_false, decide_eq_true_eq, decide_eq_false_iff_not, Decidable.not_not] at hc2); omega
                    exact ⟨(l.length - (i + 1)), _, _, _, by omega, (by repeat (first | exact trivial | refine ⟨rfl, ?_⟩ | refine ⟨le_item rfl (by first | rfl | (congr 1; omega) | (simp; done) | (simp; omega)), ?_⟩)), (by repeat (first | exact .nil | (apply Sub.cons; · repeat (first | exact .head | apply Take.tail)))), ⟨i + 1, by omega, rfl, fun j hj => by
                      rcases Nat.lt_or_ge j i with h | h
                      · exact hall j h
                      · obtain rfl : j = i := by omega
                        exact hok, rfl, rfl⟩⟩
                  · (try replace hg54 := of_decide_eq_false hg54)
                    refine vl_on rfl rfl rfl rfl ?_
                    refine vl_val rfl (.some rfl) (val_move rfl) ?_
                    refine vl_on rfl rfl rfl rfl ?_
                    refine vl_val rfl (.some rfl) (val_move rfl) ?_
                    refine vl_on rfl rfl rfl rfl ?_
                    refine vl_val rfl (.some rfl) (val_indexStr Tryd.runUnderlying9 rfl rfl (by omega) (by first | omega | (simp; omega))) ?_
                    refine vl_on rfl rfl rfl rfl ?_
                    refine vl_val rfl (.some rfl) (val_eq rfl rfl) ?_
                    refine vl_val rfl (.some rfl) (val_pick rfl rfl) ?_
                    refine vl_val rfl (.some rfl) (val_not rfl) ?_
                    refine vl_nil ?_
                    refine vc_cond rfl (fun hc2 => ?_) (fun hc2 => ?_)
                    · (try replace hc2 := of_decide_eq_true hc2)
                      refine vc_seq ?_
                      refine vc_region ?_
                      refine vl_val rfl (.some rfl) (val_assign rfl) ?_
                      refine vl_nil ?_
                      refine vc_ret ?_
                      refine ⟨_, [], _, res1 Tryd.results10 rfl, .nil, ?_⟩
                      show Value.bool false = _
                      rw [decide_eq_false (p := nameP l) (fun h => by obtain ⟨⟨h1, h2⟩, ⟨h3, h4⟩, h5, h6⟩ := h; have h7 := h5 i (by omega); unfold okCh at h7; (try simp only [Bool.not_eq_true', Bool.not_eq_true, Bool.not_eq_false', Bool.not_eq_false, decide_eq_true_eq, decide_eq_false_iff_not, Decidable.not_not] at hc2); omega)]
                    · (try replace hc2 := of_decide_eq_false hc2)
                      refine vc_skip ?_
                      refine vc_region ?_
                      refine vl_val rfl (.some rfl) (val_move rfl) ?_
                      refine vl_val rfl (.some rfl) (val_add rfl rfl (by first | exact w_i64 (by omega) (by omega) | rfl)) ?_
                      refine vl_val rfl (.some rfl) (val_assign rfl) ?_
                      refine vl_nil ?_
                      have hok : okCh (l.getD i 0) := by unfold okCh; (try simp only [Bool.not_eq_true', Bool.not_eq_true, Bool.not_eq_false', Bool.not_eq_false, decide_eq_true_eq, decide_eq_false_iff_not, Decidable.not_not] at hc2); omega
                      exact ⟨(l.length - (i + 1)), _, _, _, by omega, (by repeat (first | exact trivial | refine ⟨rfl, ?_⟩ | refine ⟨le_item rfl (by first | rfl | (congr 1; omega) | (simp; done) | (simp; omega)), ?_⟩)), (by repeat (first | exact .nil | (apply Sub.cons; · repeat (first | exact .head | apply Take.tail)))), ⟨i + 1, by omega, rfl, fun j hj => by
                        rcases Nat.lt_or_ge j i with h | h
                        · exact hall j h
                        · obtain rfl : j = i := by omega
                          exact hok, rfl, rfl⟩⟩
                · (try replace hg47 := of_decide_eq_false hg47)
                  refine vl_off rfl rfl rfl rfl (.some rfl) ?_
                  refine vl_off rfl rfl rfl rfl (.some rfl) ?_
                  refine vl_off rfl rfl rfl rfl (.some rfl) ?_
                  refine vl_off rfl rfl rfl rfl (.some rfl) ?_
                  refine vl_on rfl rfl rfl rfl ?_
                  refine vl_val rfl (.some rfl) (val_pick rfl rfl) ?_
                  refine vl_val rfl (.some rfl) (val_pick rfl rfl) ?_
                  refine vl_val rfl (.some rfl) (val_move rfl) ?_
                  refine vl_on rfl rfl rfl rfl ?_
                  refine vl_val rfl (.some rfl) (val_move rfl) ?_
                  refine vl_on rfl rfl rfl rfl ?_
                  refine vl_val rfl (.some rfl) (val_move rfl) ?_
                  refine vl_on rfl rfl rfl rfl ?_
                  refine vl_val rfl (.some rfl) (val_indexStr Tryd.runUnderlying9 rfl rfl (by omega) (by first | omega | (simp; omega))) ?_
                  refine vl_on rfl rfl rfl rfl ?_
                  refine vl_val rfl (.some rfl) (val_eq rfl rfl) ?_
                  refine vl_val rfl (.some rfl) (val_pick rfl rfl) ?_
                  refine vl_val rfl (.some rfl) (val_not rfl) ?_
                  refine vl_nil ?_
                  refine vc_cond rfl (fun hc2 => ?_) (fun hc2 => ?_)
                  · (try replace hc2 := of_decide_eq_true hc2)
                    refine vc_seq ?_
                    refine vc_region ?_
                    refine vl_val rfl (.some rfl) (val_assign rfl) ?_
                    refine vl_nil ?_
                    refine vc_ret ?_
                    refine ⟨_, [], _, res1 Tryd.results10 rfl, .nil, ?_⟩
                    show Value.bool false = _
                    rw [decide_eq_false (p := nameP l) (fun h => by obtain ⟨⟨h1, h2⟩, ⟨h3, h4⟩, h5, h6⟩ := h; have h7 := h5 i (by omega); unfold okCh at h7; (try simp only [Bool.not_eq_true', Bool.not_eq_true, Bool.not_eq_false', Bool.not_eq_false, decide_eq_true_eq, decide_eq_false_iff_not, Decidable.not_not] at hc2); omega)]
                  · (try replace hc2 := of_decide_eq_false hc2)
                    refine vc_skip ?_
                    refine vc_region ?_
                    refine vl_val rfl (.some rfl) (val_move rfl) ?_
                    refine vl_val rfl (.some rfl) (val_add rfl rfl (by first | exact w_i64 (by omega) (by omega) | rfl)) ?_
                    refine vl_val rfl (.some rfl) (val_assign rfl) ?_
                    refine vl_nil ?_
                    have hok : okCh (l.getD i 0) := by unfold okCh; (try simp only [Bool.not_eq_true', Bool.not_eq_true, Bool.not_eq_false', Bool.not_eq_false, decide_eq_true_eq, decide_eq_false_iff_not, Decidable.not_not] at hc2); omega
                    exact ⟨(l.length - (i + 1)), _, _, _, by omega, (by repeat (first | exact trivial | refine ⟨rfl, ?_⟩ | refine ⟨le_item rfl (by first | rfl | (congr 1; omega) | (simp; done) | (simp; omega)), ?_⟩)), (by repeat (first | exact .nil | (apply Sub.cons; · repeat (first | exact .head | apply Take.tail)))), ⟨i + 1, by omega, rfl, fun j hj => by
                      rcases Nat.lt_or_ge j i with h | h
                      · exact hall j h
                      · obtain rfl : j = i := by omega
                        exact hok, rfl, rfl⟩⟩
            · (try replace hc1 := of_decide_eq_false hc1)
              refine vc_exit ?_
              refine vc_seq ?_
              refine vc_region ?_
              refine vl_val rfl (.some rfl) (val_assign rfl) ?_
              refine vl_nil ?_
              refine vc_ret ?_
              refine ⟨_, [], _, res1 Tryd.results10 rfl, .nil, ?_⟩
              show Value.bool true = _
              rw [decide_eq_true (p := nameP l) ⟨⟨by omega, by omega⟩, ⟨by omega, by omega⟩, fun j hj => hall j (by omega), hnw⟩]


end Go.Proofs.YtdehjgpdcdjhjaaDoor.K
