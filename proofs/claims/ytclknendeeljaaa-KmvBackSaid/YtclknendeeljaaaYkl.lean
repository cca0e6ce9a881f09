/- Walks of the program's functions, printed by a program of this session; Lean checks them. -/
import Derived.Test.YtclknendeeljaaaYkj
namespace Go.Proofs.Ytclknendeeljaaa.K
open Go Go.RowKit Go.Proofs
set_option linter.unusedVariables false
set_option linter.unusedSimpArgs false


theorem delta_drop {l : List Nat} {a j : Nat} (hj : j < l.length) : deltaB a (l.drop j) = putN (l.getD j 0 - a) ++ deltaB (l.getD j 0) (l.drop (j + 1)) := by
  rw [List.drop_eq_getElem_cons hj]
  simp [deltaB, List.getD, hj]
theorem bytes_drop {V : List (List Nat)} {i : Nat} (hi : i < V.length) : bytesK (V.drop i) = putN (V.getD i []).length ++ (deltaB 0 (V.getD i []) ++ bytesK (V.drop (i + 1))) := by
  have e : V.getD i [] = V[i] := by simp [List.getD, hi]
  unfold bytesK
  rw [List.drop_eq_getElem_cons hi, List.flatMap_cons, e]
  unfold rowB
  rw [List.append_assoc]
theorem reads_put {w : World} {A : Option Addr} {c u : Nat} {rest : List UInt8} (h : Reads w A (bcells (putN u ++ rest))) (hc : (putN u ++ rest).length ≤ c) : Reads w (cutA A c (putN u).length 1) (bcells rest) := by
  have h2 := h.cut (c := c) (l := (putN u).length) (sz := 1) (by rw [bcells_length]; omega)
  rwa [Nat.mul_one, show (bcells (putN u ++ rest)).drop (putN u).length = bcells rest by simp [bcells]] at h2
theorem head_row {V : List (List Nat)} {i : Nat} {n : Nat} {x : List Nat} (hi : i < n) : ((mixG (fun j => V.getD j []) (fun _ => []) n i).set i x).getD i [] = x := by
  rw [getD_set (by rw [mixG_len]; exact hi), if_pos rfl]

theorem putN_pos6 (u : Nat) : 0 < (putN u).length := by
  rcases Nat.lt_or_ge u 128 with h | h
  · rw [putN_small h]; simp
  · unfold putN putF
    rw [if_neg (by omega)]
    simp

set_option maxRecDepth 20000 in
theorem kNext (x y : Nat) (A : Option Addr) (c u below : Nat) (rest : List UInt8) (hu : u < 18446744073709551616) (hlt : u < below) (hc : (putN u ++ rest).length ≤ c) (hl : (putN u ++ rest).length ≤ 1000000) (w : World) (hr : ReadsM w (fps [cells x [.slice A (putN u ++ rest).length c] 43, cells y [.bool true] 4]) A (bcells (putN u ++ rest))) : Fn Try.prog 68 [.int .u64 below, .pointer (some ⟨x, 0, none⟩), .pointer (some ⟨y, 0, none⟩)] [cells x [.slice A (putN u ++ rest).length c] 43, cells y [.bool true] 4] (ret fun v H' => v = .int .u64 u ∧ H' = [cells x [.slice (cutA A c (putN u).length 1) rest.length (c - (putN u).length)] 43, cells y [.bool true] 4]) w := by
  have hg := get_put hu rest
  have hp : 0 < (putN u).length := putN_pos6 u
  have hpl := putN_len u
  have hsum : (putN u ++ rest).length = (putN u).length + rest.length := List.length_append
  refine fn_enter Try.func68 rfl Try.ntmps68 rfl ?_
  refine vc_seq ?_
  refine vc_region ?_
  refine vl_val rfl (.some rfl) (val_assign rfl) ?_
  refine vl_nil ?_
  refine vc_seq ?_
  refine vc_region ?_
  refine vl_val rfl (.some rfl) (val_load Try.isAgg43 rfl (by first | exact cell_cells (by repeat (first | exact .head | apply In.tail | apply Take.tail | apply Upd.tail)) rfl | exact cell_rd (rd_sl (by repeat (first | exact .head | apply In.tail | apply Take.tail | apply Upd.tail))) (by first | exact bcells_at (by omega) | exact ucells_at (by omega) | exact icells_at (by omega) | exact tcells_at (by omega) | exact bcells_get (by omega) | exact icells_get (by omega) | exact tcells_get (by omega) | exact ucells_get (by omega)) | exact cell_rd (rd_old (by assumption) rfl) (by first | exact bcells_at (by omega) | exact ucells_at (by omega) | exact icells_at (by omega) | exact tcells_at (by omega) | exact bcells_get (by omega) | exact icells_get (by omega) | exact tcells_get (by omega) | exact ucells_get (by omega)) | exact cell_old (by assumption) (by simp [fps]))) ?_
  refine vl_callV rfl rfl (.some rfl) Try.call69 rfl (fun w hw => cGet A c (putN u ++ rest) (by omega) w (rdw (rd_oldM hr) hw)) ?_
  rw [hg]
  refine vl_val rfl (.some rfl) (val_move rfl) ?_
  refine vl_val rfl (.some rfl) (val_extract rfl rfl) ?_
  refine vl_val rfl (.some rfl) (val_extract rfl rfl) ?_
  refine vl_val rfl (.some rfl) (val_assign rfl) ?_
  refine vl_val rfl (.some rfl) (val_assign rfl) ?_
  refine vl_nil ?_
  refine vc_seq ?_
  refine vc_seq ?_
  refine vc_region ?_
  refine vl_val rfl (.some rfl) (val_move rfl) ?_
  refine vl_val rfl (.some rfl) (val_eq rfl rfl) ?_
  refine vl_val rfl (.some rfl) (val_move rfl) ?_
  refine vl_split (t := 14) rfl (fun hg14 => ?_) (fun hg14 => ?_)
  · (try replace hg14 := of_decide_eq_true hg14)
    exfalso
    omega
  · (try replace hg14 := of_decide_eq_false hg14)
    refine vl_on rfl rfl rfl rfl ?_
    refine vl_val rfl (.some rfl) (val_move rfl) ?_
    refine vl_on rfl rfl rfl rfl ?_
    refine vl_val rfl (.some rfl) (val_move rfl) ?_
    refine vl_on rfl rfl rfl rfl ?_
    refine vl_val rfl (.some rfl) (val_ge rfl rfl) ?_
    refine vl_val rfl (.some rfl) (val_pick rfl rfl) ?_
    refine vl_nil ?_
    refine vc_cond rfl (fun hc0 => False.elim (by (try replace hc0 := of_decide_eq_true hc0); omega)) (fun hc0 => ?_)
    (try replace hc0 := of_decide_eq_false hc0)
    refine vc_skip ?_
    refine vc_seq ?_
    refine vc_region ?_
    refine vl_val rfl (.some rfl) (val_load Try.isAgg43 rfl (by first | exact cell_cells (by repeat (first | exact .head | apply In.tail | apply Take.tail | apply Upd.tail)) rfl | exact cell_rd (rd_sl (by repeat (first | exact .head | apply In.tail | apply Take.tail | apply Upd.tail))) (by first | exact bcells_at (by omega) | exact ucells_at (by omega) | exact icells_at (by omega) | exact tcells_at (by omega) | exact bcells_get (by omega) | exact icells_get (by omega) | exact tcells_get (by omega) | exact ucells_get (by omega)) | exact cell_rd (rd_old (by assumption) rfl) (by first | exact bcells_at (by omega) | exact ucells_at (by omega) | exact icells_at (by omega) | exact tcells_at (by omega) | exact bcells_get (by omega) | exact icells_get (by omega) | exact tcells_get (by omega) | exact ucells_get (by omega)) | exact cell_old (by assumption) (by simp [fps]))) ?_
    refine vl_val rfl (.some rfl) (val_move rfl) ?_
    refine vl_val rfl (.some rfl) (val_cutFrom Try.runUnderlying43 Try.sizeOf5 rfl rfl (by omega) (by omega)) ?_
    first | refine vl_store rfl rfl .none rfl rfl Try.sizeOf43 rfl (by repeat (first | exact .head | apply In.tail | apply Take.tail | apply Upd.tail)) (by first | decide | exact Nat.le_refl _ | exact Nat.le_of_ble_eq_true rfl | (simp; omega)) ?_ | refine vl_storeSl rfl rfl .none rfl rfl Try.sizeOf43 rfl (by simp [Value.cells]) (by repeat (first | exact .head | apply In.tail | apply Take.tail | apply Upd.tail)) (by first | decide | (simp [Value.cells]; omega)) ?_
    refine vl_nil ?_
    refine vc_seq ?_
    refine vc_region ?_
    refine vl_val rfl (.some rfl) (val_move rfl) ?_
    refine vl_val rfl (.some rfl) (val_assign rfl) ?_
    refine vl_nil ?_
    refine vc_ret ?_
    refine ⟨_, [cells x [.slice (cutA A c (putN u).length 1) ((putN u ++ rest).length - (putN u).length) (c - (putN u).length)] 43, cells y [.bool true] 4], _, res1 Try.results68 rfl, (by repeat (first | exact .nil | (apply Sub.cons; · repeat (first | exact .head | apply Take.tail)))), ?_⟩
    exact ⟨rfl, by rw [show (putN u ++ rest).length - (putN u).length = rest.length by omega]⟩
set_option maxRecDepth 20000 in
set_option maxHeartbeats 2000000 in
theorem kLoad (t : Nat) (Kk Mm : Int) (A : Option Addr) (c : Nat) (S : List (Nat × Nat)) (hS : S.length < 9223372036854775808) (hb : ∀ s ∈ S, s.1 < 18446744073709551616 ∧ s.2 < 18446744073709551616) (w : World) (hr : Reads w A (seedC S)) (hg : goodK t S Kk Mm) (V : List (List Nat)) (hK : OkK t S V) (tail : List UInt8) (htl : tail.length ≤ 10) (A2 : Option Addr) (c2 : Nat) (hc2 : (bytesK V ++ tail).length ≤ c2) (hr2 : Reads w A2 (bcells (bytesK V ++ tail))) : Fn Try.prog 30 [.agg #[.int .i64 (t : Nat), .slice A S.length c, .int .i64 Kk, .int .i64 Mm], .slice A2 (bytesK V ++ tail).length c2] [] (ret fun v H' => (tail ≠ [] ∧ v = .tuple #[.pointer none, .int .i64 8] ∧ H' = []) ∨ (tail = [] ∧ ∃ b1 As1 cs1 Ac1 cc1 L1, v = .tuple #[.pointer (some ⟨b1, 0, none⟩), .int .i64 0] ∧ vals L1 = V ∧ H' = SDc As1 S.length cs1 S :: KQ b1 t As1 cs1 S Ac1 cc1 L1)) w := by
  have hn := hK.n
  have hn7 := hK.n7
  have ht64 := hK.t64
  have hbl := bytesK_len (t := 64) V (fun l hl => by obtain ⟨j, hj, e⟩ := mem_getD (d := []) hl; have := (hK.good j hj).2; rw [e] at this; omega)
  have hbL : ∀ i, (bytesK (V.drop i)).length ≤ 10000 := fun i => by
    have h1 := bytesK_len (t := 64) (V.drop i) (fun l hl => by obtain ⟨j, hj, e⟩ := mem_getD (d := []) (List.mem_of_mem_drop hl); have := (hK.good j hj).2; rw [e] at this; omega)
    rw [List.length_drop] at h1
    omega
  refine fn_enter Try.func30 rfl Try.ntmps30 rfl ?_
  refine vc_seq ?_
  refine vc_region ?_
  refine vl_box rfl rfl (.some rfl) rfl (fun r2 => ?_)
  refine vl_box rfl rfl (.some rfl) rfl (fun r3 => ?_)
  refine vl_val rfl (.some rfl) (val_assign rfl) ?_
  refine vl_val rfl (.some rfl) (val_assign rfl) ?_
  refine vl_nil ?_
  refine vc_seq ?_
  refine vc_region ?_
  refine vl_val rfl (.some rfl) (val_loadAgg Try.isAgg24 Try.sizeOf24 rfl (by first | exact cells_whole (by repeat (first | exact .head | apply In.tail | apply Take.tail | apply Upd.tail)) | exact cells_part (by repeat (first | exact .head | apply In.tail | apply Take.tail | apply Upd.tail)) rfl) rfl) ?_
  refine vl_call (C := []) rfl rfl (.some rfl) Try.call12 rfl .nil (fun w hw => qNew t Kk Mm A c S hb w (rdw (rd_old hr rfl) hw) hg) (fun v H' h => ?_)
  obtain ⟨b1, As1, cs1, Ac1, cc1, L1, rfl, hL1, rfl⟩ := h
  have hL1l : L1.length = S.length := by rw [← vals_len, hL1, List.length_replicate]
  show VL _ _ _ _ _ (_ :: _ :: _ :: _ :: _)
  refine vl_val rfl (.some rfl) (val_assign rfl) ?_
  refine vl_nil ?_
  refine vc_seq ?_
  refine vc_seq ?_
  refine vc_region ?_
  refine vl_val rfl (.some rfl) (val_move rfl) ?_
  refine vl_val rfl (.some rfl) (val_opO rfl rfl guard_ptr (bin_ptr_eq Try.runUnderlying26)) ?_
  refine vl_nil ?_
  refine vc_cond rfl (fun h => by cases h) (fun _ => ?_)
  refine vc_skip ?_
  refine vc_seq ?_
  refine vc_region ?_
  refine vl_alloc rfl rfl (.some rfl) Try.zeroValue4 (fun r7 => ?_)
  first | refine vl_store rfl rfl .none rfl rfl Try.sizeOf4 rfl (by repeat (first | exact .head | apply In.tail | apply Take.tail | apply Upd.tail)) (by first | decide | exact Nat.le_refl _ | exact Nat.le_of_ble_eq_true rfl | (simp; omega)) ?_ | refine vl_storeSl rfl rfl .none rfl rfl Try.sizeOf4 rfl (by simp [Value.cells]) (by repeat (first | exact .head | apply In.tail | apply Take.tail | apply Upd.tail)) (by first | decide | (simp [Value.cells]; omega)) ?_
  refine vl_nil ?_
  refine vc_seq ?_
  refine vc_region ?_
  refine vl_val rfl (.some rfl) (val_mkFunc rfl rfl) ?_
  refine vl_val rfl (.some rfl) (val_assign rfl) ?_
  refine vl_nil ?_
  refine vc_seq ?_
  refine vc_seq ?_
  refine vc_region ?_
  refine vl_val rfl (.some rfl) (val_move rfl) ?_
  refine vl_val rfl (.some rfl) (val_nil rfl rfl) ?_
  refine vl_val rfl (.some rfl) (by first | exact val_fieldAddr Try.runUnderlying57 rfl Try.sizeOf33 rfl | exact val_fieldAddrR Try.runUnderlying57 rfl Try.sizeOf33 rfl) ?_
  refine vl_val rfl (.some rfl) (val_load Try.isAgg33 rfl (by first | exact cell_cells (by repeat (first | exact .head | apply In.tail | apply Take.tail | apply Upd.tail)) rfl | exact cell_rd (rd_sl (by repeat (first | exact .head | apply In.tail | apply Take.tail | apply Upd.tail))) (by first | exact bcells_at (by omega) | exact ucells_at (by omega) | exact icells_at (by omega) | exact tcells_at (by omega) | exact bcells_get (by omega) | exact icells_get (by omega) | exact tcells_get (by omega) | exact ucells_get (by omega)) | exact cell_rd (rd_old (by assumption) rfl) (by first | exact bcells_at (by omega) | exact ucells_at (by omega) | exact icells_at (by omega) | exact tcells_at (by omega) | exact bcells_get (by omega) | exact icells_get (by omega) | exact tcells_get (by omega) | exact ucells_get (by omega)) | exact cell_old (by assumption) (by simp [fps]))) ?_
  refine vl_val rfl (.some rfl) (val_lenSl Try.runUnderlying33 rfl) ?_
  refine vl_val rfl (.some rfl) (val_move rfl) ?_
  refine vl_nil ?_
  refine vc_block ?_
  rw [hL1l]
  refine vc_loopw (fun q E H => ∃ (i : Nat) (L2 : List (Sl Nat)) (A3 : Option Addr) (c3 : Nat), i ≤ S.length ∧ q = S.length - i ∧ L2.length = S.length ∧ vals L2 = (mixG (fun j => V.getD j []) (fun _ => []) S.length i) ∧ (bytesK (V.drop i) ++ tail).length ≤ c3 ∧ Reads w A3 (bcells (bytesK (V.drop i) ++ tail)) ∧ E = [(3, .pointer (some ⟨r3, 0, none⟩)), (6, .pointer (some ⟨b1, 0, none⟩)), (7, .pointer (some ⟨r7, 0, none⟩)), (8, .func (.func 68) #[] #[.pointer (some ⟨r3, 0, none⟩), .pointer (some ⟨r7, 0, none⟩)]), (23, .int .i64 S.length), (24, .int .i64 i)] ∧ H = [cells r3 [.slice A3 ((bytesK (V.drop i) ++ tail)).length c3] 43, cells r7 [.bool true] 4, SDc As1 S.length cs1 S] ++ KQ b1 t As1 cs1 S Ac1 cc1 L2) (S.length) ⟨_, _, _, ⟨0, L1, A2, c2, by omega, rfl, hL1l, by rw [hL1, mixG_zero]; apply List.ext_getElem <;> simp, hc2, hr2, rfl, rfl⟩, (by repeat (first | exact trivial | refine ⟨rfl, ?_⟩ | refine ⟨le_item rfl (by first | rfl | (congr 1; omega) | (simp; done) | (simp; omega)), ?_⟩)), (by repeat (first | exact .nil | (apply Sub.cons; · repeat (first | exact .head | apply Take.tail))))⟩ ?_
  intro q E H hI
  obtain ⟨i, L2, A3, c3, hi, rfl, hL2l, hL2, hq3, hr3, rfl, rfl⟩ := hI
  refine vc_seq ?_
  refine vc_region ?_
  refine vl_val rfl (.some rfl) (val_lt rfl rfl) ?_
  refine vl_nil ?_
  refine vc_seq ?_
  refine vc_cond rfl (fun hc1 => ?_) (fun hc1 => ?_)
  · (try replace hc1 := of_decide_eq_true hc1)
    obtain ⟨l, hl⟩ : ∃ l, V.getD i [] = l := ⟨_, rfl⟩
    have hlg := hK.good i (by omega)
    have hls := hK.small i (by omega)
    rw [hl] at hlg hls
    have hbd := bytes_drop (V := V) (i := i) (by omega)
    rw [hl] at hbd
    have hbi := hbL (i + 1)
    have hdl := deltaB_len l 0
    have hpl := putN_len l.length
    rw [hbd, List.append_assoc, List.append_assoc] at hr3 hq3
    rw [hbd, List.append_assoc, List.append_assoc]
    refine vc_skip ?_
    refine vc_seq ?_
    refine vc_block ?_
    refine vc_seq ?_
    refine vc_region ?_
    refine vl_val rfl (.some rfl) (val_move rfl) ?_
    refine vl_val rfl (.some rfl) (val_assign rfl) ?_
    refine vl_nil ?_
    refine vc_seq ?_
    refine vc_region ?_
    refine vl_val rfl (.some rfl) (val_move rfl) ?_
    refine vl_val rfl (.some rfl) (val_move rfl) ?_
    refine vl_val rfl (.some rfl) (val_nil rfl rfl) ?_
    refine vl_val rfl (.some rfl) (by first | exact val_fieldAddr Try.runUnderlying57 rfl Try.sizeOf3 rfl | exact val_fieldAddrR Try.runUnderlying57 rfl Try.sizeOf3 rfl) ?_
    refine vl_val rfl (.some rfl) (val_load Try.isAgg3 rfl (by first | exact cell_cells (by repeat (first | exact .head | apply In.tail | apply Take.tail | apply Upd.tail)) rfl | exact cell_rd (rd_sl (by repeat (first | exact .head | apply In.tail | apply Take.tail | apply Upd.tail))) (by first | exact bcells_at (by omega) | exact ucells_at (by omega) | exact icells_at (by omega) | exact tcells_at (by omega) | exact bcells_get (by omega) | exact icells_get (by omega) | exact tcells_get (by omega) | exact ucells_get (by omega)) | exact cell_rd (rd_old (by assumption) rfl) (by first | exact bcells_at (by omega) | exact ucells_at (by omega) | exact icells_at (by omega) | exact tcells_at (by omega) | exact bcells_get (by omega) | exact icells_get (by omega) | exact tcells_get (by omega) | exact ucells_get (by omega)) | exact cell_old (by assumption) (by simp [fps]))) ?_
    refine vl_val rfl (.some rfl) (val_convInt Try.runUnderlying3 Try.runUnderlying30 rfl (wN (n := t) (by omega))) ?_
    refine vl_val rfl (.some rfl) (val_add rfl rfl (addN (a := t) (b := 1) (by omega))) ?_
    have hq4 : (deltaB 0 l ++ (bytesK (V.drop (i + 1)) ++ tail)).length ≤ c3 - (putN l.length).length := by have := @List.length_append _ (putN l.length) (deltaB 0 l ++ (bytesK (V.drop (i + 1)) ++ tail)); omega
    have hr4 := reads_put hr3 hq3
    refine vl_callv (fs := []) (cs := [.pointer (some ⟨r3, 0, none⟩), .pointer (some ⟨r7, 0, none⟩)]) (C := [cells r3 [.slice A3 (putN l.length ++ (deltaB 0 l ++ (bytesK (V.drop (i + 1)) ++ tail))).length c3] 43, cells r7 [.bool true] 4]) rfl rfl (.some rfl) rfl Try.call68 rfl (by repeat (first | exact .nil | (apply Sub.cons; · repeat (first | exact .head | apply Take.tail)))) (fun w hw => kNext r3 r7 A3 c3 l.length (t + 1) (deltaB 0 l ++ (bytesK (V.drop (i + 1)) ++ tail)) (by omega) (by omega) hq3 (by simp only [List.length_append]; omega) w (reads_callee (C := [cells r3 [.slice A3 (putN l.length ++ (deltaB 0 l ++ (bytesK (V.drop (i + 1)) ++ tail))).length c3] 43, cells r7 [.bool true] 4]) hr3 rfl (by repeat (first | exact .nil | (apply Sub.cons; · repeat (first | exact .head | apply Take.tail)))) hw)) (fun v H' h => ?_)
    obtain ⟨rfl, rfl⟩ := h
    show VL _ _ _ _ _ (_ :: _ :: _)
    refine vl_val rfl (.some rfl) (val_assign rfl) ?_
    refine vl_nil ?_
    refine vc_seq ?_
    refine vc_region ?_
    refine vl_val rfl (.some rfl) (val_assign rfl) ?_
    refine vl_nil ?_
    refine vc_seq ?_
    refine vc_region ?_
    refine vl_val rfl (.some rfl) (val_assign rfl) ?_
    refine vl_nil ?_
    refine vc_block ?_
    refine vc_loopw (fun q E H => ∃ (j : Nat) (L2 : List (Sl Nat)) (A5 : Option Addr) (c5 : Nat), j ≤ l.length ∧ q = l.length - j ∧ L2.length = S.length ∧ vals L2 = (mixG (fun j => V.getD j []) (fun _ => []) S.length i).set i (l.take j) ∧ (deltaB ((l.take j).getLastD 0) (l.drop j) ++ (bytesK (V.drop (i + 1)) ++ tail)).length ≤ c5 ∧ Reads w A5 (bcells (deltaB ((l.take j).getLastD 0) (l.drop j) ++ (bytesK (V.drop (i + 1)) ++ tail))) ∧ E = [(3, .pointer (some ⟨r3, 0, none⟩)), (6, .pointer (some ⟨b1, 0, none⟩)), (7, .pointer (some ⟨r7, 0, none⟩)), (8, .func (.func 68) #[] #[.pointer (some ⟨r3, 0, none⟩), .pointer (some ⟨r7, 0, none⟩)]), (9, .int .i64 i), (10, .int .u64 l.length), (11, .int .u64 ((l.take j).getLastD 0 : Nat)), (12, .int .u64 j), (23, .int .i64 S.length), (24, .int .i64 i)] ∧ H = [cells r3 [.slice A5 ((deltaB ((l.take j).getLastD 0) (l.drop j) ++ (bytesK (V.drop (i + 1)) ++ tail))).length c5] 43, cells r7 [.bool true] 4, SDc As1 S.length cs1 S] ++ KQ b1 t As1 cs1 S Ac1 cc1 L2) (l.length) ⟨_, _, _, ⟨0, L2, _, _, by omega, rfl, hL2l, by rw [hL2]; exact (mrg_zero _ rfl).symm, hq4, hr4, rfl, rfl⟩, (by repeat (first | exact trivial | refine ⟨rfl, ?_⟩ | refine ⟨le_item rfl (by first | rfl | (congr 1; omega) | (simp; done) | (simp; omega)), ?_⟩)), (by repeat (first | exact .nil | (apply Sub.cons; · repeat (first | exact .head | apply Take.tail))))⟩ ?_
    clear hq3 hr3 hq4 hr4 hL2 hL2l
    intro q E H hI
    obtain ⟨j, L2, A5, c5, hj, rfl, hL2l, hL2, hq5, hr5, rfl, rfl⟩ := hI
    refine vc_seq ?_
    refine vc_seq ?_
    refine vc_region ?_
    refine vl_val rfl (.some rfl) (val_load Try.isAgg4 rfl (cell_cells (by repeat (first | exact .head | apply In.tail | apply Take.tail | apply Upd.tail)) rfl)) ?_
    refine vl_val rfl (.some rfl) (val_move rfl) ?_
    refine vl_on rfl rfl rfl rfl ?_
    refine vl_val rfl (.some rfl) (val_move rfl) ?_
    refine vl_on rfl rfl rfl rfl ?_
    refine vl_val rfl (.some rfl) (val_move rfl) ?_
    refine vl_on rfl rfl rfl rfl ?_
    refine vl_val rfl (.some rfl) (val_lt rfl rfl) ?_
    refine vl_val rfl (.some rfl) (val_pick rfl rfl) ?_
    refine vl_nil ?_
    refine vc_cond rfl (fun hc2 => ?_) (fun hc2 => ?_)
    · (try replace hc2 := of_decide_eq_true hc2)
      have hlast := rise_last hlg.1 (i := j) (by omega)
      have hx := hls (l.getD j 0) (getD_mem 0 (by omega))
      have hdd := delta_drop (l := l) (a := (l.take j).getLastD 0) (j := j) (by omega)
      have hdl2 := deltaB_len (l.drop (j + 1)) (l.getD j 0)
      rw [List.length_drop] at hdl2
      have hpl2 := putN_len (l.getD j 0 - (l.take j).getLastD 0)
      rw [hdd, List.append_assoc] at hr5 hq5
      rw [hdd, List.append_assoc]
      have hpos : 0 < j → 0 < l.getD j 0 - (l.take j).getLastD 0 := fun h0 => by have := rise_ge hlg.1 h0 (by omega); have h9 := last_take (l := l) (i := j - 1) (by omega); rw [show j - 1 + 1 = j by omega] at h9; rw [h9]; omega
      refine vc_skip ?_
      refine vc_seq ?_
      refine vc_block ?_
      refine vc_seq ?_
      refine vc_region ?_
      refine vl_val rfl (.some rfl) (val_move rfl) ?_
      refine vl_val rfl (.some rfl) (val_move rfl) ?_
      refine vl_val rfl (.some rfl) (val_sub rfl rfl ((subN (a := 2305843009213693951) (b := (l.take j).getLastD 0) (by omega) (by decide)))) ?_
      have hq4 : (deltaB (l.getD j 0) (l.drop (j + 1)) ++ (bytesK (V.drop (i + 1)) ++ tail)).length ≤ c5 - (putN (l.getD j 0 - (l.take j).getLastD 0)).length := by have := @List.length_append _ (putN (l.getD j 0 - (l.take j).getLastD 0)) (deltaB (l.getD j 0) (l.drop (j + 1)) ++ (bytesK (V.drop (i + 1)) ++ tail)); omega
      have hr4 := reads_put hr5 hq5
      refine vl_callv (fs := []) (cs := [.pointer (some ⟨r3, 0, none⟩), .pointer (some ⟨r7, 0, none⟩)]) (C := [cells r3 [.slice A5 (putN (l.getD j 0 - (l.take j).getLastD 0) ++ (deltaB (l.getD j 0) (l.drop (j + 1)) ++ (bytesK (V.drop (i + 1)) ++ tail))).length c5] 43, cells r7 [.bool true] 4]) rfl rfl (.some rfl) rfl Try.call68 rfl (by repeat (first | exact .nil | (apply Sub.cons; · repeat (first | exact .head | apply Take.tail)))) (fun w hw => kNext r3 r7 A5 c5 (l.getD j 0 - (l.take j).getLastD 0) (2305843009213693951 - (l.take j).getLastD 0) (deltaB (l.getD j 0) (l.drop (j + 1)) ++ (bytesK (V.drop (i + 1)) ++ tail)) (by omega) (by omega) hq5 (by simp only [List.length_append]; omega) w (reads_callee (C := [cells r3 [.slice A5 (putN (l.getD j 0 - (l.take j).getLastD 0) ++ (deltaB (l.getD j 0) (l.drop (j + 1)) ++ (bytesK (V.drop (i + 1)) ++ tail))).length c5] 43, cells r7 [.bool true] 4]) hr5 rfl (by repeat (first | exact .nil | (apply Sub.cons; · repeat (first | exact .head | apply Take.tail)))) hw)) (fun v H' h => ?_)
      obtain ⟨rfl, rfl⟩ := h
      show VL _ _ _ _ _ (_ :: _ :: _)
      refine vl_val rfl (.some rfl) (val_assign rfl) ?_
      refine vl_nil ?_
      refine vc_seq ?_
      refine vc_region ?_
      refine vl_val rfl (.some rfl) (val_load Try.isAgg4 rfl (cell_cells (by repeat (first | exact .head | apply In.tail | apply Take.tail | apply Upd.tail)) rfl)) ?_
      refine vl_val rfl (.some rfl) (val_move rfl) ?_
      refine vl_on rfl rfl rfl rfl ?_
      refine vl_val rfl (.some rfl) (val_move rfl) ?_
      refine vl_on rfl rfl rfl rfl ?_
      refine vl_val rfl (.some rfl) (val_eq rfl rfl) ?_
      refine vl_on rfl rfl rfl rfl ?_
      refine vl_val rfl (.some rfl) (val_move rfl) ?_
      refine vl_split (t := 51) rfl (fun hg51 => ?_) (fun hg51 => ?_)
      · (try replace hg51 := of_decide_eq_true hg51)
        refine vl_off rfl rfl rfl rfl (.some rfl) ?_
        refine vl_off rfl rfl rfl rfl (.some rfl) ?_
        refine vl_on rfl rfl rfl rfl ?_
        refine vl_val rfl (.some rfl) (val_pick rfl rfl) ?_
        refine vl_val rfl (.some rfl) (val_pick rfl rfl) ?_
        first | refine vl_store rfl rfl .none rfl rfl Try.sizeOf4 rfl (by repeat (first | exact .head | apply In.tail | apply Take.tail | apply Upd.tail)) (by first | decide | exact Nat.le_refl _ | exact Nat.le_of_ble_eq_true rfl | (simp; omega)) ?_ | refine vl_storeSl rfl rfl .none rfl rfl Try.sizeOf4 rfl (by simp [Value.cells]) (by repeat (first | exact .head | apply In.tail | apply Take.tail | apply Upd.tail)) (by first | decide | (simp [Value.cells]; omega)) ?_
        refine vl_nil ?_
        refine vc_seq ?_
        refine vc_region ?_
        refine vl_val rfl (.some rfl) (val_move rfl) ?_
        refine vl_val rfl (.some rfl) (val_move rfl) ?_
        refine vl_val rfl (.some rfl) (val_add rfl rfl (show _ = ((l.getD j 0 : Nat) : Int) by rw [w_u64 (by omega) (by omega)]; omega)) ?_
        obtain ⟨r, hrL⟩ := row_at (L := L2) (i := i) (by omega)
        have hrl : r.l = l.take j := by have := vals_get hrL; rw [hL2, head_row (by omega)] at this; exact this.symm
        refine vl_eqv (Eqv.perm (Take.perm (c := big (L2.map rwC)) (by repeat (first | exact .head | apply In.tail | apply Take.tail | apply Upd.tail)))) ?_
        refine vl_eqv (rows_open L2 i r hrL _) ?_
        refine vl_val rfl (.some rfl) (val_assign rfl) ?_
        refine vl_nil ?_
        refine vc_drawsS [0, 1, 2, 3, 4, 5, 6, 7, 8, 9, 10, 11, 12, 15] [16] [0, 1, 2, 3, 4, 5, 6, 7, 8, 9, 10, 11, 12, 13, 14, 15, 16] [SKb b1 t As1 S.length cs1 Ac1 L2.length cc1, HR Ac1 L2.length cc1 (L2.map hdr)] (by repeat (first | exact .nil | (apply Sub.cons; · repeat (first | exact .head | apply Take.tail)))) rfl (by kernel_rfl) (fun _ _ _ h => h) ?_
        refine vd_val rfl rfl rfl (.some rfl) (val_move rfl) ?_
        refine vd_val rfl rfl rfl (.some rfl) (val_nil rfl rfl) ?_
        refine vd_val rfl rfl rfl (.some rfl) (by first | exact val_fieldAddr Try.runUnderlying57 rfl Try.sizeOf33 rfl | exact val_fieldAddrR Try.runUnderlying57 rfl Try.sizeOf33 rfl) ?_
        refine vd_val rfl rfl rfl (.some rfl) (val_load Try.isAgg33 rfl (by first | exact cell_cells (by repeat (first | exact .head | apply In.tail | apply Take.tail | apply Upd.tail)) rfl | exact cell_rd (rd_sl (by repeat (first | exact .head | apply In.tail | apply Take.tail | apply Upd.tail))) (by first | exact bcells_at (by omega) | exact ucells_at (by omega) | exact icells_at (by omega) | exact tcells_at (by omega) | exact bcells_get (by omega) | exact icells_get (by omega) | exact tcells_get (by omega) | exact ucells_get (by omega)) | exact cell_rd (rd_old (by assumption) rfl) (by first | exact bcells_at (by omega) | exact ucells_at (by omega) | exact icells_at (by omega) | exact tcells_at (by omega) | exact bcells_get (by omega) | exact icells_get (by omega) | exact tcells_get (by omega) | exact ucells_get (by omega)) | exact cell_old (by assumption) (by simp [fps]))) ?_
        refine vd_val rfl rfl rfl (.some rfl) (val_move rfl) ?_
        refine vd_val rfl rfl rfl (.some rfl) (val_move rfl) ?_
        refine vd_val rfl rfl rfl (.some rfl) (val_nil rfl rfl) ?_
        refine vd_val rfl rfl rfl (.some rfl) (by first | exact val_fieldAddr Try.runUnderlying57 rfl Try.sizeOf33 rfl | exact val_fieldAddrR Try.runUnderlying57 rfl Try.sizeOf33 rfl) ?_
        refine vd_val rfl rfl rfl (.some rfl) (val_load Try.isAgg33 rfl (by first | exact cell_cells (by repeat (first | exact .head | apply In.tail | apply Take.tail | apply Upd.tail)) rfl | exact cell_rd (rd_sl (by repeat (first | exact .head | apply In.tail | apply Take.tail | apply Upd.tail))) (by first | exact bcells_at (by omega) | exact ucells_at (by omega) | exact icells_at (by omega) | exact tcells_at (by omega) | exact bcells_get (by omega) | exact icells_get (by omega) | exact tcells_get (by omega) | exact ucells_get (by omega)) | exact cell_rd (rd_old (by assumption) rfl) (by first | exact bcells_at (by omega) | exact ucells_at (by omega) | exact icells_at (by omega) | exact tcells_at (by omega) | exact bcells_get (by omega) | exact icells_get (by omega) | exact tcells_get (by omega) | exact ucells_get (by omega)) | exact cell_old (by assumption) (by simp [fps]))) ?_
        refine vd_val rfl rfl rfl (.some rfl) (val_move rfl) ?_
        refine vd_val rfl rfl rfl (.some rfl) (val_indexAddr Try.runUnderlying33 Try.sizeOf25 rfl rfl (rd_sl (vs := L2.map hdr) (by repeat (first | exact .head | apply In.tail | apply Take.tail | apply Upd.tail))) (by omega) (by omega) (by rw [List.length_map]; omega)) ?_
        refine vd_val rfl rfl rfl (.some rfl) (val_load Try.isAgg25 rfl (cell_rd (rd_sl (vs := L2.map hdr) (by repeat (first | exact .head | apply In.tail | apply Take.tail | apply Upd.tail))) (hdr_at hrL))) ?_
        refine vd_val rfl rfl rfl (.some rfl) (val_move rfl) ?_
        refine vd_op rfl rfl ?_
        refine vl_lit sT25 rfl rfl (.some rfl) rfl rfl rfl (by decide) (by decide) rfl (show _ = ucells [l.getD j 0] from rfl) (fun r72 => ?_)
        refine vl_nil ?_
        refine ⟨fun _ => ⟨_, (by repeat (first | exact .nil | (apply Sub.cons; · repeat (first | exact .head | apply Take.tail))))⟩, ?_⟩
        refine vd_op rfl rfl ?_
        refine vl_append (A := r.A) (n := r.l.length) (c := r.c) (vs := ucells r.l) sT25 rfl rfl (.some rfl) rfl rfl (rd_sl (A := some ⟨r72, 0, none⟩) (vs := ucells [l.getD j 0]) (by repeat (first | exact .head | apply In.tail | apply Take.tail | apply Upd.tail))) (by rfl) (by rfl) (by rw [hrl, List.length_take]; omega) (by rw [hrl, List.length_take]; omega) (by repeat (first | exact .head | apply In.tail | apply Take.tail | apply Upd.tail)) (fun A73 k73 => ?_)
        rw [ucells_appM, show r.l.length + 1 = (r.l ++ [l.getD j 0]).length by simp]
        refine vl_nil ?_
        refine ⟨fun _ => ⟨_, (by repeat (first | exact .nil | (apply Sub.cons; · repeat (first | exact .head | apply Take.tail))))⟩, ?_⟩
        refine vd_val rfl rfl rfl (.some rfl) (val_indexAddr Try.runUnderlying33 Try.sizeOf25 rfl rfl (rd_sl (vs := L2.map hdr) (by repeat (first | exact .head | apply In.tail | apply Take.tail | apply Upd.tail))) (by omega) (by omega) (by rw [List.length_map]; omega)) ?_
        refine vd_op rfl rfl ?_
        refine vl_storeSl (vs := L2.map hdr) rfl rfl .none rfl rfl Try.sizeOf25 rfl (by simp [Value.cells]) (by repeat (first | exact .head | apply In.tail | apply Take.tail | apply Upd.tail)) (by rw [List.length_map]; show Int.toNat (i : Int) * 1 + 1 ≤ _; omega) ?_
        rw [set_laidS (hs := L2.map hdr) (i := i) (by rw [List.length_map]; omega)]
        refine vl_eqv (Eqv.perm (Take.perm (c := big ((L2.take i ++ L2.drop (i + 1)).map rwC)) (by repeat (first | exact .head | apply In.tail | apply Take.tail | apply Upd.tail)))) ?_
        refine vl_eqv (Eqv.perm (Take.perm (c := rwC ⟨A73, k73, r.l ++ [l.getD j 0]⟩) (by repeat (first | exact .head | apply In.tail | apply Take.tail | apply Upd.tail)))) ?_
        refine vl_eqv (rows_close L2 i ⟨A73, k73, r.l ++ [l.getD j 0]⟩ (by omega) _) ?_
        obtain ⟨L3, hL3⟩ : ∃ L3, L2.set i ⟨A73, k73, r.l ++ [l.getD j 0]⟩ = L3 := ⟨_, rfl⟩
        have hL3h : (L2.map hdr).set i (.slice A73 (r.l ++ [l.getD j 0]).length k73) = L3.map hdr := by rw [← hL3, List.map_set]
        have hL3l : L3.length = L2.length := by rw [← hL3, List.length_set]
        have hL3v : vals L3 = (mixG (fun j => V.getD j []) (fun _ => []) S.length i).set i (l.take (j + 1)) := by rw [← hL3]; unfold vals; rw [List.map_set]; show (vals L2).set i (r.l ++ [l.getD j 0]) = _; rw [hL2, List.set_set, hrl, List.take_add_one, List.getElem?_eq_getElem (show j < l.length by omega)]; simp [List.getD, show j < l.length by omega]
        have hSK : SKc ⟨b1, t, As1, cs1, S, Ac1, cc1, L2⟩ = SKc ⟨b1, t, As1, cs1, S, Ac1, cc1, L3⟩ := by show SKb b1 t As1 S.length cs1 Ac1 L2.length cc1 = SKb b1 t As1 S.length cs1 Ac1 L3.length cc1; rw [hL3l]
        rw [hL3, hL3h, hSK, ← hL3l]
        refine vl_nil ?_
        refine ⟨fun h => (by cases h), ?_⟩
        refine vd_nil ?_
        refine vc_region ?_
        refine vl_val rfl (.some rfl) (val_move rfl) ?_
        refine vl_val rfl (.some rfl) (val_add rfl rfl (by first | exact w_u64 (by omega) (by omega) | rfl)) ?_
        refine vl_val rfl (.some rfl) (val_assign rfl) ?_
        refine vl_nil ?_
        rw [← last_take (l := l) (i := j) (by omega)] at hq4 hr4 ⊢
        exact ⟨(l.length - (j + 1)), _, _, _, by omega, (by repeat (first | exact trivial | refine ⟨rfl, ?_⟩ | refine ⟨le_item rfl (by first | rfl | (congr 1; omega) | (simp; done) | (simp; omega)), ?_⟩)), (by repeat (first | exact .nil | (apply Sub.cons; · repeat (first | exact .head | apply Take.tail)))), ⟨j + 1, L3, _, _, by omega, rfl, by omega, hL3v, hq4, hr4, rfl, rfl⟩⟩
      · (try replace hg51 := of_decide_eq_false hg51)
        refine vl_on rfl rfl rfl rfl ?_
        refine vl_val rfl (.some rfl) (val_move rfl) ?_
        refine vl_on rfl rfl rfl rfl ?_
        refine vl_val rfl (.some rfl) (valEq (congrArg Value.bool (decide_eq_true (by omega))) (val_gt rfl rfl)) ?_
        refine vl_on rfl rfl rfl rfl ?_
        refine vl_val rfl (.some rfl) (val_pick rfl rfl) ?_
        refine vl_val rfl (.some rfl) (val_pick rfl rfl) ?_
        first | refine vl_store rfl rfl .none rfl rfl Try.sizeOf4 rfl (by repeat (first | exact .head | apply In.tail | apply Take.tail | apply Upd.tail)) (by first | decide | exact Nat.le_refl _ | exact Nat.le_of_ble_eq_true rfl | (simp; omega)) ?_ | refine vl_storeSl rfl rfl .none rfl rfl Try.sizeOf4 rfl (by simp [Value.cells]) (by repeat (first | exact .head | apply In.tail | apply Take.tail | apply Upd.tail)) (by first | decide | (simp [Value.cells]; omega)) ?_
        refine vl_nil ?_
        refine vc_seq ?_
        refine vc_region ?_
        refine vl_val rfl (.some rfl) (val_move rfl) ?_
        refine vl_val rfl (.some rfl) (val_move rfl) ?_
        refine vl_val rfl (.some rfl) (val_add rfl rfl (show _ = ((l.getD j 0 : Nat) : Int) by rw [w_u64 (by omega) (by omega)]; omega)) ?_
        obtain ⟨r, hrL⟩ := row_at (L := L2) (i := i) (by omega)
        have hrl : r.l = l.take j := by have := vals_get hrL; rw [hL2, head_row (by omega)] at this; exact this.symm
        refine vl_eqv (Eqv.perm (Take.perm (c := big (L2.map rwC)) (by repeat (first | exact .head | apply In.tail | apply Take.tail | apply Upd.tail)))) ?_
        refine vl_eqv (rows_open L2 i r hrL _) ?_
        refine vl_val rfl (.some rfl) (val_assign rfl) ?_
        refine vl_nil ?_
        refine vc_drawsS [0, 1, 2, 3, 4, 5, 6, 7, 8, 9, 10, 11, 12, 15] [16] [0, 1, 2, 3, 4, 5, 6, 7, 8, 9, 10, 11, 12, 13, 14, 15, 16] [SKb b1 t As1 S.length cs1 Ac1 L2.length cc1, HR Ac1 L2.length cc1 (L2.map hdr)] (by repeat (first | exact .nil | (apply Sub.cons; · repeat (first | exact .head | apply Take.tail)))) rfl (by kernel_rfl) (fun _ _ _ h => h) ?_
        refine vd_val rfl rfl rfl (.some rfl) (val_move rfl) ?_
        refine vd_val rfl rfl rfl (.some rfl) (val_nil rfl rfl) ?_
        refine vd_val rfl rfl rfl (.some rfl) (by first | exact val_fieldAddr Try.runUnderlying57 rfl Try.sizeOf33 rfl | exact val_fieldAddrR Try.runUnderlying57 rfl Try.sizeOf33 rfl) ?_
        refine vd_val rfl rfl rfl (.some rfl) (val_load Try.isAgg33 rfl (by first | exact cell_cells (by repeat (first | exact .head | apply In.tail | apply Take.tail | apply Upd.tail)) rfl | exact cell_rd (rd_sl (by repeat (first | exact .head | apply In.tail | apply Take.tail | apply Upd.tail))) (by first | exact bcells_at (by omega) | exact ucells_at (by omega) | exact icells_at (by omega) | exact tcells_at (by omega) | exact bcells_get (by omega) | exact icells_get (by omega) | exact tcells_get (by omega) | exact ucells_get (by omega)) | exact cell_rd (rd_old (by assumption) rfl) (by first | exact bcells_at (by omega) | exact ucells_at (by omega) | exact icells_at (by omega) | exact tcells_at (by omega) | exact bcells_get (by omega) | exact icells_get (by omega) | exact tcells_get (by omega) | exact ucells_get (by omega)) | exact cell_old (by assumption) (by simp [fps]))) ?_
        refine vd_val rfl rfl rfl (.some rfl) (val_move rfl) ?_
        refine vd_val rfl rfl rfl (.some rfl) (val_move rfl) ?_
        refine vd_val rfl rfl rfl (.some rfl) (val_nil rfl rfl) ?_
        refine vd_val rfl rfl rfl (.some rfl) (by first | exact val_fieldAddr Try.runUnderlying57 rfl Try.sizeOf33 rfl | exact val_fieldAddrR Try.runUnderlying57 rfl Try.sizeOf33 rfl) ?_
        refine vd_val rfl rfl rfl (.some rfl) (val_load Try.isAgg33 rfl (by first | exact cell_cells (by repeat (first | exact .head | apply In.tail | apply Take.tail | apply Upd.tail)) rfl | exact cell_rd (rd_sl (by repeat (first | exact .head | apply In.tail | apply Take.tail | apply Upd.tail))) (by first | exact bcells_at (by omega) | exact ucells_at (by omega) | exact icells_at (by omega) | exact tcells_at (by omega) | exact bcells_get (by omega) | exact icells_get (by omega) | exact tcells_get (by omega) | exact ucells_get (by omega)) | exact cell_rd (rd_old (by assumption) rfl) (by first | exact bcells_at (by omega) | exact ucells_at (by omega) | exact icells_at (by omega) | exact tcells_at (by omega) | exact bcells_get (by omega) | exact icells_get (by omega) | exact tcells_get (by omega) | exact ucells_get (by omega)) | exact cell_old (by assumption) (by simp [fps]))) ?_
        refine vd_val rfl rfl rfl (.some rfl) (val_move rfl) ?_
        refine vd_val rfl rfl rfl (.some rfl) (val_indexAddr Try.runUnderlying33 Try.sizeOf25 rfl rfl (rd_sl (vs := L2.map hdr) (by repeat (first | exact .head | apply In.tail | apply Take.tail | apply Upd.tail))) (by omega) (by omega) (by rw [List.length_map]; omega)) ?_
        refine vd_val rfl rfl rfl (.some rfl) (val_load Try.isAgg25 rfl (cell_rd (rd_sl (vs := L2.map hdr) (by repeat (first | exact .head | apply In.tail | apply Take.tail | apply Upd.tail))) (hdr_at hrL))) ?_
        refine vd_val rfl rfl rfl (.some rfl) (val_move rfl) ?_
        refine vd_op rfl rfl ?_
        refine vl_lit sT25 rfl rfl (.some rfl) rfl rfl rfl (by decide) (by decide) rfl (show _ = ucells [l.getD j 0] from rfl) (fun r72 => ?_)
        refine vl_nil ?_
        refine ⟨fun _ => ⟨_, (by repeat (first | exact .nil | (apply Sub.cons; · repeat (first | exact .head | apply Take.tail))))⟩, ?_⟩
        refine vd_op rfl rfl ?_
        refine vl_append (A := r.A) (n := r.l.length) (c := r.c) (vs := ucells r.l) sT25 rfl rfl (.some rfl) rfl rfl (rd_sl (A := some ⟨r72, 0, none⟩) (vs := ucells [l.getD j 0]) (by repeat (first | exact .head | apply In.tail | apply Take.tail | apply Upd.tail))) (by rfl) (by rfl) (by rw [hrl, List.length_take]; omega) (by rw [hrl, List.length_take]; omega) (by repeat (first | exact .head | apply In.tail | apply Take.tail | apply Upd.tail)) (fun A73 k73 => ?_)
        rw [ucells_appM, show r.l.length + 1 = (r.l ++ [l.getD j 0]).length by simp]
        refine vl_nil ?_
        refine ⟨fun _ => ⟨_, (by repeat (first | exact .nil | (apply Sub.cons; · repeat (first | exact .head | apply Take.tail))))⟩, ?_⟩
        refine vd_val rfl rfl rfl (.some rfl) (val_indexAddr Try.runUnderlying33 Try.sizeOf25 rfl rfl (rd_sl (vs := L2.map hdr) (by repeat (first | exact .head | apply In.tail | apply Take.tail | apply Upd.tail))) (by omega) (by omega) (by rw [List.length_map]; omega)) ?_
        refine vd_op rfl rfl ?_
        refine vl_storeSl (vs := L2.map hdr) rfl rfl .none rfl rfl Try.sizeOf25 rfl (by simp [Value.cells]) (by repeat (first | exact .head | apply In.tail | apply Take.tail | apply Upd.tail)) (by rw [List.length_map]; show Int.toNat (i : Int) * 1 + 1 ≤ _; omega) ?_
        rw [set_laidS (hs := L2.map hdr) (i := i) (by rw [List.length_map]; omega)]
        refine vl_eqv (Eqv.perm (Take.perm (c := big ((L2.take i ++ L2.drop (i + 1)).map rwC)) (by repeat (first | exact .head | apply In.tail | apply Take.tail | apply Upd.tail)))) ?_
        refine vl_eqv (Eqv.perm (Take.perm (c := rwC ⟨A73, k73, r.l ++ [l.getD j 0]⟩) (by repeat (first | exact .head | apply In.tail | apply Take.tail | apply Upd.tail)))) ?_
        refine vl_eqv (rows_close L2 i ⟨A73, k73, r.l ++ [l.getD j 0]⟩ (by omega) _) ?_
        obtain ⟨L3, hL3⟩ : ∃ L3, L2.set i ⟨A73, k73, r.l ++ [l.getD j 0]⟩ = L3 := ⟨_, rfl⟩
        have hL3h : (L2.map hdr).set i (.slice A73 (r.l ++ [l.getD j 0]).length k73) = L3.map hdr := by rw [← hL3, List.map_set]
        have hL3l : L3.length = L2.length := by rw [← hL3, List.length_set]
        have hL3v : vals L3 = (mixG (fun j => V.getD j []) (fun _ => []) S.length i).set i (l.take (j + 1)) := by rw [← hL3]; unfold vals; rw [List.map_set]; show (vals L2).set i (r.l ++ [l.getD j 0]) = _; rw [hL2, List.set_set, hrl, List.take_add_one, List.getElem?_eq_getElem (show j < l.length by omega)]; simp [List.getD, show j < l.length by omega]
        have hSK : SKc ⟨b1, t, As1, cs1, S, Ac1, cc1, L2⟩ = SKc ⟨b1, t, As1, cs1, S, Ac1, cc1, L3⟩ := by show SKb b1 t As1 S.length cs1 Ac1 L2.length cc1 = SKb b1 t As1 S.length cs1 Ac1 L3.length cc1; rw [hL3l]
        rw [hL3, hL3h, hSK, ← hL3l]
        refine vl_nil ?_
        refine ⟨fun h => (by cases h), ?_⟩
        refine vd_nil ?_
        refine vc_region ?_
        refine vl_val rfl (.some rfl) (val_move rfl) ?_
        refine vl_val rfl (.some rfl) (val_add rfl rfl (by first | exact w_u64 (by omega) (by omega) | rfl)) ?_
        refine vl_val rfl (.some rfl) (val_assign rfl) ?_
        refine vl_nil ?_
        rw [← last_take (l := l) (i := j) (by omega)] at hq4 hr4 ⊢
        exact ⟨(l.length - (j + 1)), _, _, _, by omega, (by repeat (first | exact trivial | refine ⟨rfl, ?_⟩ | refine ⟨le_item rfl (by first | rfl | (congr 1; omega) | (simp; done) | (simp; omega)), ?_⟩)), (by repeat (first | exact .nil | (apply Sub.cons; · repeat (first | exact .head | apply Take.tail)))), ⟨j + 1, L3, _, _, by omega, rfl, by omega, hL3v, hq4, hr4, rfl, rfl⟩⟩
    · (try replace hc2 := of_decide_eq_false hc2)
      refine vc_exit ?_
      refine vc_region ?_
      refine vl_val rfl (.some rfl) (val_add rfl rfl (by first | exact w_i64 (by omega) (by omega) | rfl)) ?_
      refine vl_val rfl (.some rfl) (val_move rfl) ?_
      refine vl_nil ?_
      obtain rfl : j = l.length := by omega
      rw [List.drop_length, deltaB, List.nil_append] at hr5 hq5
      rw [List.drop_length, deltaB, List.nil_append]
      exact ⟨(S.length - (i + 1)), _, _, _, by omega, (by repeat (first | exact trivial | refine ⟨rfl, ?_⟩ | refine ⟨le_item rfl (by first | rfl | (congr 1; omega) | (simp; done) | (simp; omega)), ?_⟩)), (by repeat (first | exact .nil | (apply Sub.cons; · repeat (first | exact .head | apply Take.tail)))), ⟨i + 1, L2, A5, c5, by omega, rfl, hL2l, by rw [hL2, List.take_length]; exact mixG_set hl.symm, hq5, hr5, rfl, rfl⟩⟩
  · (try replace hc1 := of_decide_eq_false hc1)
    refine vc_exit ?_
    refine vc_seq ?_
    refine vc_seq ?_
    refine vc_region ?_
    refine vl_val rfl (.some rfl) (val_load Try.isAgg4 rfl (cell_cells (by repeat (first | exact .head | apply In.tail | apply Take.tail | apply Upd.tail)) rfl)) ?_
    refine vl_val rfl (.some rfl) (val_not rfl) ?_
    refine vl_val rfl (.some rfl) (val_move rfl) ?_
    refine vl_on rfl rfl rfl rfl ?_
    refine vl_val rfl (.some rfl) (val_load Try.isAgg43 rfl (by first | exact cell_cells (by repeat (first | exact .head | apply In.tail | apply Take.tail | apply Upd.tail)) rfl | exact cell_rd (rd_sl (by repeat (first | exact .head | apply In.tail | apply Take.tail | apply Upd.tail))) (by first | exact bcells_at (by omega) | exact ucells_at (by omega) | exact icells_at (by omega) | exact tcells_at (by omega) | exact bcells_get (by omega) | exact icells_get (by omega) | exact tcells_get (by omega) | exact ucells_get (by omega)) | exact cell_rd (rd_old (by assumption) rfl) (by first | exact bcells_at (by omega) | exact ucells_at (by omega) | exact icells_at (by omega) | exact tcells_at (by omega) | exact bcells_get (by omega) | exact icells_get (by omega) | exact tcells_get (by omega) | exact ucells_get (by omega)) | exact cell_old (by assumption) (by simp [fps]))) ?_
    refine vl_on rfl rfl rfl rfl ?_
    refine vl_val rfl (.some rfl) (val_lenSl Try.runUnderlying43 rfl) ?_
    refine vl_on rfl rfl rfl rfl ?_
    refine vl_val rfl (.some rfl) (val_gt rfl rfl) ?_
    refine vl_val rfl (.some rfl) (val_pick rfl rfl) ?_
    refine vl_nil ?_
    refine vc_cond rfl (fun hc3 => ?_) (fun hc3 => ?_)
    · (try replace hc3 := of_decide_eq_true hc3)
      refine vc_seq ?_
      refine vc_region ?_
      refine vl_val rfl (.some rfl) (val_assign rfl) ?_
      refine vl_val rfl (.some rfl) (val_assign rfl) ?_
      refine vl_nil ?_
      refine vc_ret ?_
      refine ⟨_, [], _, res2 Try.results30 rfl rfl, .nil, ?_⟩
      obtain rfl : i = S.length := by omega
      rw [hn, List.drop_length] at hc3
      exact .inl ⟨fun e => by subst e; simp [bytesK] at hc3, rfl, rfl⟩
    · (try replace hc3 := of_decide_eq_false hc3)
      refine vc_skip ?_
      refine vc_seq ?_
      refine vc_region ?_
      refine vl_val rfl (.some rfl) (val_move rfl) ?_
      refine vl_val rfl (.some rfl) (val_assign rfl) ?_
      refine vl_val rfl (.some rfl) (val_assign rfl) ?_
      refine vl_nil ?_
      refine vc_ret ?_
      refine ⟨_, SDc As1 S.length cs1 S :: KQ b1 t As1 cs1 S Ac1 cc1 L2, _, res2 Try.results30 rfl rfl, (by repeat (first | exact .nil | (apply Sub.cons; · repeat (first | exact .head | apply Take.tail)))), ?_⟩
      obtain rfl : i = S.length := by omega
      rw [hn, List.drop_length] at hc3
      refine .inr ⟨List.eq_nil_of_length_eq_zero (by simp [bytesK] at hc3; simp [hc3]), b1, As1, cs1, Ac1, cc1, L2, rfl, ?_, rfl⟩
      rw [hL2, mixG_all, hn, range_getD]

end Go.Proofs.Ytclknendeeljaaa.K
