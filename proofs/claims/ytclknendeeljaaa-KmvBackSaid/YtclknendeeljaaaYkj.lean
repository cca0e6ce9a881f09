/- Walks of the program's functions, printed by a program of this session; Lean checks them. -/
import Derived.Test.YtclknendeeljaaaYki
namespace Go.Proofs.Ytclknendeeljaaa.K
open Go Go.RowKit Go.Proofs
set_option linter.unusedVariables false
set_option linter.unusedSimpArgs false


/-- Is the number at place i unlike all ahead of it (modulo P)? -/
def fstB (l : List Nat) (i : Nat) : Bool := decide (∀ j, j < i → l.getD j 0 % pM ≠ l.getD i 0 % pM)
def cntF (l : List Nat) (i : Nat) : Nat := ((List.range i).filter (fstB l)).length
theorem cntF_step (l : List Nat) (i : Nat) : cntF l (i + 1) = cntF l i + if fstB l i = true then 1 else 0 := by
  unfold cntF
  rw [List.range_succ, List.filter_append, List.length_append]
  by_cases h : fstB l i = true
  · simp [h]
  · simp [h]
theorem cntF_le (l : List Nat) (i : Nat) : cntF l i ≤ i := by
  have := List.length_filter_le (fstB l) (List.range i)
  rwa [List.length_range] at this
/-- The first ones. -/
def fsts (l : List Nat) : List Nat := ((List.range l.length).filter (fstB l)).map fun i => l.getD i 0
theorem fsts_len (l : List Nat) : (fsts l).length = cntF l l.length := by simp [fsts, cntF]
theorem fsts_all {l : List Nat} : ∀ (i : Nat), i < l.length → ∃ y ∈ fsts l, y % pM = l.getD i 0 % pM := by
  intro i
  induction i using Nat.strongRecOn with
  | _ i ih =>
    intro hi
    by_cases h : fstB l i = true
    · exact ⟨l.getD i 0, List.mem_map.2 ⟨i, List.mem_filter.2 ⟨List.mem_range.2 hi, h⟩, rfl⟩, rfl⟩
    · have : ∃ j, j < i ∧ l.getD j 0 % pM = l.getD i 0 % pM := by
        refine Classical.byContradiction fun hno => h ?_
        exact decide_eq_true fun j hj e => hno ⟨j, hj, e⟩
      obtain ⟨j, hj, e⟩ := this
      obtain ⟨y, hy, e2⟩ := ih j hj (by omega)
      exact ⟨y, hy, e2.trans e⟩
theorem fsts_in {l : List Nat} {y : Nat} (h : y ∈ fsts l) : ∃ i, i < l.length ∧ y = l.getD i 0 := by
  obtain ⟨i, hi, rfl⟩ := List.mem_map.1 h
  exact ⟨i, List.mem_range.1 (List.mem_filter.1 hi).1, rfl⟩
theorem fsts_hash {l : List Nat} {s : Nat × Nat} (h0 : 0 < s.1) (h : s.1 < pM) : ((fsts l).map (hashN s)).Nodup := by
  unfold fsts
  rw [List.map_map]
  refine List.pairwise_map.2 ?_
  have hr : (List.range l.length).Pairwise (· < ·) := List.pairwise_lt_range
  refine ((hr.filter (fstB l)).imp_of_mem ?_)
  intro a b ha hb hab e
  have hb2 : fstB l b = true := (List.mem_filter.1 hb).2
  exact of_decide_eq_true hb2 a hab ((hashN_inj h0 h).1 e)
theorem few_len {t : Nat} {S : List (Nat × Nat)} {V : List (List Nat)} {l : List Nat} (h : KeptV t S V (fun x => ∃ j, j < l.length ∧ x = l.getD j 0)) (hg : ∀ i, i < S.length → ¬ badS (S.getD i (0, 0))) {j : Nat} (hj : j < V.length) (hn : cntF l l.length ≤ t) : (V.getD j []).length = cntF l l.length := by
  have hs := hg j (by rw [h.ok.n]; exact hj)
  have h0 : 0 < (S.getD j (0, 0)).1 := Nat.pos_of_ne_zero fun e => hs (.inl e)
  have h1 : (S.getD j (0, 0)).1 < pM := Nat.lt_of_not_le fun e => hs (.inr (.inl e))
  have hk := h.k j hj
  have hnd := fsts_hash (l := l) h0 h1
  have hlen : ((fsts l).map (hashN (S.getD j (0, 0)))).length = cntF l l.length := by rw [List.length_map, fsts_len]
  have sub : ∀ x ∈ V.getD j [], x ∈ (fsts l).map (hashN (S.getD j (0, 0))) := fun x hx => by
    obtain ⟨y, ⟨i, hi, rfl⟩, rfl⟩ := hk.sub x hx
    obtain ⟨z, hz, e⟩ := fsts_all i hi
    exact List.mem_map.2 ⟨z, hz, (hashN_inj h0 h1).2 e⟩
  have inS : ∀ y ∈ (fsts l).map (hashN (S.getD j (0, 0))), ∃ x, (∃ i, i < l.length ∧ x = l.getD i 0) ∧ y = hashN (S.getD j (0, 0)) x := fun y hy => by
    obtain ⟨z, hz, rfl⟩ := List.mem_map.1 hy
    exact ⟨z, fsts_in hz, rfl⟩
  have h2 := nodup_sub_len hk.rise.nodup sub
  rw [hlen] at h2
  have sup : ∀ y ∈ (fsts l).map (hashN (S.getD j (0, 0))), y ∈ V.getD j [] := fun y hy => by
    rcases hk.all y (inS y hy) with a | ⟨a, b⟩
    · exact a
    · exfalso
      have hsub : ∀ x ∈ y :: V.getD j [], x ∈ (fsts l).map (hashN (S.getD j (0, 0))) := fun x hx => by
        rcases List.mem_cons.1 hx with rfl | hx
        · exact hy
        · exact sub x hx
      have hn2 : (y :: V.getD j []).Nodup := List.nodup_cons.2 ⟨fun hm => Nat.lt_irrefl _ (b y hm), hk.rise.nodup⟩
      have := nodup_sub_len hn2 hsub
      rw [hlen, List.length_cons] at this
      omega
  have h3 := nodup_sub_len hnd sup
  rw [hlen] at h3
  omega
theorem few_ans {t n : Nat} {V : List (List Nat)} (h : ∀ j, j < V.length → (V.getD j []).length = n) (hn : n < t) : ansV t V = List.replicate V.length (n : Int) := by
  refine ext_getD 0 (by simp [ansV]) fun j hj => ?_
  rw [ansV_len] at hj
  have e : (ansV t V).getD j 0 = (ansN t (V.getD j []) : Int) := by simp [ansV, List.getD, hj]
  rw [e]
  unfold ansN
  rw [if_neg (by rw [h j hj]; omega), h j hj]
  simp [List.getD, hj]
theorem few_mid {n m : Nat} (h : 0 < m) : midI (List.replicate m (n : Int)) = n := by
  refine mid_is (by simp; omega) ?_
  have h1 : (List.replicate m (n : Int)).countP (· < (n : Int)) = 0 := List.countP_eq_zero.2 fun x hx => by rw [List.eq_of_mem_replicate hx]; simp
  have h2 : (List.replicate m (n : Int)).countP (· == (n : Int)) = m := by
    have := (List.countP_eq_length (p := (· == (n : Int))) (l := List.replicate m (n : Int))).2 fun x hx => by rw [List.eq_of_mem_replicate hx]; simp
    rw [this, List.length_replicate]
  simp only [midB, Bool.and_eq_true, decide_eq_true_eq, h1, h2, List.length_replicate]
  omega
theorem fst_step {l : List Nat} {i j : Nat} {f : Bool} (hf : f = decide (∀ p, p < j → l.getD p 0 % pM ≠ l.getD i 0 % pM)) : (f = true → decide (((l.getD j 0 % pM : Nat) : Int) ≠ ((l.getD i 0 % pM : Nat) : Int)) = decide (∀ p, p < j + 1 → l.getD p 0 % pM ≠ l.getD i 0 % pM)) ∧ (f = false → false = decide (∀ p, p < j + 1 → l.getD p 0 % pM ≠ l.getD i 0 % pM)) := by
  constructor
  · intro e
    rw [e] at hf
    have h := of_decide_eq_true hf.symm
    rw [decide_eq_decide]
    constructor
    · intro h1 p hp
      rcases Nat.lt_or_ge p j with c | c
      · exact h p c
      · obtain rfl : p = j := by omega
        exact fun e => h1 (by rw [e])
    · intro h1 e; exact h1 j (by omega) (by omega)
  · intro e
    rw [e] at hf
    have h := of_decide_eq_false hf.symm
    symm
    rw [decide_eq_false_iff_not]
    exact fun h1 => h fun p hp => h1 p (by omega)
theorem rise_ge {l : List Nat} {i : Nat} (hr : Rise l) (h0 : 0 < i) (hi : i < l.length) : l.getD (i - 1) 0 < l.getD i 0 := by
  have := List.pairwise_iff_getElem.1 hr (i - 1) i (by omega) hi (by omega)
  simp only [List.getD, List.getElem?_eq_getElem hi, List.getElem?_eq_getElem (show i - 1 < l.length by omega), Option.getD_some]
  exact this

theorem ic_rep {m i : Nat} {n : Int} (h : i < m) : (icells .i64 (List.replicate m n))[Int.toNat (i : Int) * 1]? = some (.int .i64 n) := by
  rw [icells_at (by simpa using h)]
  simp [List.getD, h]

set_option maxRecDepth 20000 in
theorem fBad (T Kk Mm : Int) (A : Option Addr) (c : Nat) (S : List (Nat × Nat)) (hS : S.length < 9223372036854775808) (hb : ∀ s ∈ S, s.1 < 18446744073709551616 ∧ s.2 < 18446744073709551616) (w : World) (hr : Reads w A (seedC S)) (hg : ¬ goodK T S Kk Mm) (B : Option Addr) (d : Nat) (l : List Nat) (hll : l.length ≤ 9223372036854775807) (hul : ∀ x ∈ l, x < 18446744073709551616) : FnV Try.prog 3 [.agg #[.int .i64 T, .slice A S.length c, .int .i64 Kk, .int .i64 Mm], .slice B l.length d] (.bool true) w := by
  refine fn_enter Try.func3 rfl Try.ntmps3 rfl ?_
  refine vc_seq ?_
  refine vc_region ?_
  refine vl_box rfl rfl (.some rfl) rfl (fun r2 => ?_)
  refine vl_val rfl (.some rfl) (val_assign rfl) ?_
  refine vl_nil ?_
  refine vc_seq ?_
  refine vc_region ?_
  refine vl_val rfl (.some rfl) (val_loadAgg Try.isAgg24 Try.sizeOf24 rfl (by first | exact cells_whole (by repeat (first | exact .head | apply In.tail | apply Take.tail | apply Upd.tail)) | exact cells_part (by repeat (first | exact .head | apply In.tail | apply Take.tail | apply Upd.tail)) rfl) rfl) ?_
  refine vl_callV rfl rfl (.some rfl) Try.call12 rfl (fun w hw => kNewBad T Kk Mm A c S hS hb w (rdw (rd_old hr rfl) hw) hg) ?_
  refine vl_val rfl (.some rfl) (val_assign rfl) ?_
  refine vl_nil ?_
  refine vc_seq ?_
  refine vc_seq ?_
  refine vc_region ?_
  refine vl_val rfl (.some rfl) (val_move rfl) ?_
  refine vl_val rfl (.some rfl) (val_opO rfl rfl guard_ptr (bin_nil_eq Try.runUnderlying26)) ?_
  refine vl_val rfl (.some rfl) (val_move rfl) ?_
  refine vl_off rfl rfl rfl rfl (.some rfl) ?_
  refine vl_off rfl rfl rfl rfl (.some rfl) ?_
  refine vl_off rfl rfl rfl rfl (.some rfl) ?_
  refine vl_val rfl (.some rfl) (val_pick rfl rfl) ?_
  refine vl_nil ?_
  refine vc_cond rfl (fun _ => ?_) (fun h => by cases h)
  refine vc_seq ?_
  refine vc_region ?_
  refine vl_val rfl (.some rfl) (val_move rfl) ?_
  refine vl_val rfl (.some rfl) (val_opO rfl rfl guard_ptr (bin_nil_eq Try.runUnderlying26)) ?_
  refine vl_val rfl (.some rfl) (val_loadAgg Try.isAgg24 Try.sizeOf24 rfl (by first | exact cells_whole (by repeat (first | exact .head | apply In.tail | apply Take.tail | apply Upd.tail)) | exact cells_part (by repeat (first | exact .head | apply In.tail | apply Take.tail | apply Upd.tail)) rfl) rfl) ?_
  refine vl_callV rfl rfl (.some rfl) Try.call13 rfl (fun w hw => kGood T Kk Mm A c S hS hb w (rdw (rd_old hr rfl) hw)) ?_
  rw [decide_eq_false hg]
  refine vl_val rfl (.some rfl) (val_bne Try.underlying4 rfl rfl) ?_
  refine vl_val rfl (.some rfl) (val_move rfl) ?_
  refine vl_split (t := 31) rfl (fun hg31 => ?_) (fun hg31 => ?_)
  · (try replace hg31 := of_decide_eq_true hg31)
    refine vl_on rfl rfl rfl rfl ?_
    refine vl_callV rfl rfl (.some rfl) Try.call14 rfl (fun w hw => kLives w) ?_
    refine vl_val rfl (.some rfl) (val_pick rfl rfl) ?_
    refine vl_val rfl (.some rfl) (val_assign rfl) ?_
    refine vl_nil ?_
    refine vc_ret ?_
    refine ⟨_, [], _, res1 Try.results3 rfl, .nil, ?_⟩
    rfl
  · (try replace hg31 := of_decide_eq_false hg31)
    exfalso
    exact absurd hg31 (by decide)
set_option maxRecDepth 20000 in
set_option maxHeartbeats 2000000 in
theorem fGood2 (t : Nat) (Kk Mm : Int) (A : Option Addr) (c : Nat) (S : List (Nat × Nat)) (hS : S.length < 9223372036854775808) (hb : ∀ s ∈ S, s.1 < 18446744073709551616 ∧ s.2 < 18446744073709551616) (w : World) (hr : Reads w A (seedC S)) (hg : goodK t S Kk Mm) (B : Option Addr) (d : Nat) (l : List Nat) (hll : l.length ≤ 9223372036854775807) (hul : ∀ x ∈ l, x < 18446744073709551616) (hrl : Reads w B (ucells l)) (hld : l.length ≤ d) : FnV Try.prog 3 [.agg #[.int .i64 (t : Nat), .slice A S.length c, .int .i64 Kk, .int .i64 Mm], .slice B l.length d] (.bool true) w := by
  have hk0 := keptV_new hg hb
  refine fn_enter Try.func3 rfl Try.ntmps3 rfl ?_
  refine vc_seq ?_
  refine vc_region ?_
  refine vl_box rfl rfl (.some rfl) rfl (fun r2 => ?_)
  refine vl_val rfl (.some rfl) (val_assign rfl) ?_
  refine vl_nil ?_
  refine vc_seq ?_
  refine vc_region ?_
  refine vl_val rfl (.some rfl) (val_loadAgg Try.isAgg24 Try.sizeOf24 rfl (by first | exact cells_whole (by repeat (first | exact .head | apply In.tail | apply Take.tail | apply Upd.tail)) | exact cells_part (by repeat (first | exact .head | apply In.tail | apply Take.tail | apply Upd.tail)) rfl) rfl) ?_
  refine vl_call (C := []) rfl rfl (.some rfl) Try.call12 rfl .nil (fun w hw => qNew t Kk Mm A c S hb w (rdw (rd_old hr rfl) hw) hg) (fun v H' h => ?_)
  obtain ⟨b1, As1, cs1, Ac1, cc1, L1, rfl, hL1, rfl⟩ := h
  show VL _ _ _ _ _ (_ :: _ :: _ :: _ :: _)
  refine vl_val rfl (.some rfl) (val_assign rfl) ?_
  refine vl_nil ?_
  refine vc_seq ?_
  refine vc_seq ?_
  refine vc_region ?_
  refine vl_val rfl (.some rfl) (val_move rfl) ?_
  refine vl_val rfl (.some rfl) (val_opO rfl rfl guard_ptr (bin_ptr_eq Try.runUnderlying26)) ?_
  refine vl_val rfl (.some rfl) (val_move rfl) ?_
  refine vl_on rfl rfl rfl rfl ?_
  refine vl_val rfl (.some rfl) (val_move rfl) ?_
  refine vl_on rfl rfl rfl rfl ?_
  refine vl_val rfl (.some rfl) (val_lenSl Try.runUnderlying25 rfl) ?_
  refine vl_on rfl rfl rfl rfl ?_
  refine vl_val rfl (.some rfl) (val_gt rfl rfl) ?_
  refine vl_val rfl (.some rfl) (val_pick rfl rfl) ?_
  refine vl_nil ?_
  refine vc_cond rfl (fun hc0 => ?_) (fun hc0 => ?_)
  · (try replace hc0 := of_decide_eq_true hc0)
    refine vc_seq ?_
    refine vc_region ?_
    refine vl_val rfl (.some rfl) (val_move rfl) ?_
    refine vl_val rfl (.some rfl) (val_opO rfl rfl guard_ptr (bin_ptr_eq Try.runUnderlying26)) ?_
    refine vl_val rfl (.some rfl) (val_loadAgg Try.isAgg24 Try.sizeOf24 rfl (by first | exact cells_whole (by repeat (first | exact .head | apply In.tail | apply Take.tail | apply Upd.tail)) | exact cells_part (by repeat (first | exact .head | apply In.tail | apply Take.tail | apply Upd.tail)) rfl) rfl) ?_
    refine vl_callV rfl rfl (.some rfl) Try.call13 rfl (fun w hw => kGood t Kk Mm A c S hS hb w (rdw (rd_old hr rfl) hw)) ?_
    rw [decide_eq_true hg]
    refine vl_val rfl (.some rfl) (val_bne Try.underlying4 rfl rfl) ?_
    refine vl_val rfl (.some rfl) (val_move rfl) ?_
    refine vl_split (t := 31) rfl (fun hg31 => ?_) (fun hg31 => ?_)
    · (try replace hg31 := of_decide_eq_true hg31)
      refine vl_on rfl rfl rfl rfl ?_
      refine vl_callV rfl rfl (.some rfl) Try.call14 rfl (fun w hw => kLives w) ?_
      refine vl_val rfl (.some rfl) (val_pick rfl rfl) ?_
      refine vl_val rfl (.some rfl) (val_assign rfl) ?_
      refine vl_nil ?_
      refine vc_ret ?_
      refine ⟨_, [], _, res1 Try.results3 rfl, .nil, ?_⟩
      rfl
    · (try replace hg31 := of_decide_eq_false hg31)
      exfalso
      exact absurd hg31 (by decide)
  · (try replace hc0 := of_decide_eq_false hc0)
    refine vc_skip ?_
    refine vc_seq ?_
    refine vc_region ?_
    refine vl_val rfl (.some rfl) (val_assign rfl) ?_
    refine vl_nil ?_
    refine vc_seq ?_
    refine vc_seq ?_
    refine vc_region ?_
    refine vl_val rfl (.some rfl) (val_move rfl) ?_
    refine vl_val rfl (.some rfl) (val_lenSl Try.runUnderlying25 rfl) ?_
    refine vl_val rfl (.some rfl) (val_move rfl) ?_
    refine vl_nil ?_
    refine vc_block ?_
    refine vc_loopw (fun q E H => ∃ (i : Nat) (V1 : List (List Nat)) (K1 : List (Sl Nat)), i ≤ l.length ∧ q = l.length - i ∧ vals K1 = V1 ∧ KeptV t S V1 (fun x => ∃ j, j < i ∧ x = l.getD j 0) ∧ E = [(1, .slice B l.length d), (2, .pointer (some ⟨r2, 0, none⟩)), (5, .pointer (some ⟨b1, 0, none⟩)), (6, .int .i64 (cntF l i : Nat)), (34, .slice B l.length d), (35, .int .i64 l.length), (36, .int .i64 i)] ∧ H = [cells r2 [.int .i64 (t : Nat), .slice A S.length c, .int .i64 Kk, .int .i64 Mm] 24, SDc As1 S.length cs1 S] ++ KQ b1 t As1 cs1 S Ac1 cc1 K1) (l.length) ⟨_, _, _, ⟨0, _, L1, by omega, rfl, hL1, keptV_none hk0, rfl, rfl⟩, (by repeat (first | exact trivial | refine ⟨rfl, ?_⟩ | refine ⟨le_item rfl (by first | rfl | (congr 1; omega) | (simp; done) | (simp; omega)), ?_⟩)), (by repeat (first | exact .nil | (apply Sub.cons; · repeat (first | exact .head | apply Take.tail))))⟩ ?_
    intro q E H hI
    obtain ⟨i, V1, K1, hi, rfl, hK1, hk1, rfl, rfl⟩ := hI
    have hcl := cntF_le l i
    refine vc_seq ?_
    refine vc_region ?_
    refine vl_val rfl (.some rfl) (val_lt rfl rfl) ?_
    refine vl_nil ?_
    refine vc_seq ?_
    refine vc_cond rfl (fun hc1 => ?_) (fun hc1 => ?_)
    · (try replace hc1 := of_decide_eq_true hc1)
      refine vc_skip ?_
      refine vc_seq ?_
      refine vc_block ?_
      refine vc_seq ?_
      refine vc_region ?_
      refine vl_val rfl (.some rfl) (val_move rfl) ?_
      refine vl_val rfl (.some rfl) (val_indexAddr Try.runUnderlying25 Try.sizeOf30 rfl rfl (rd_old hrl rfl) (by omega) (by omega) (by rw [ucells_length]; omega)) ?_
      refine vl_val rfl (.some rfl) (val_load Try.isAgg30 rfl (by first | exact cell_cells (by repeat (first | exact .head | apply In.tail | apply Take.tail | apply Upd.tail)) rfl | exact cell_rd (rd_sl (by repeat (first | exact .head | apply In.tail | apply Take.tail | apply Upd.tail))) (by first | exact bcells_at (by omega) | exact ucells_at (by omega) | exact icells_at (by omega) | exact tcells_at (by omega) | exact bcells_get (by omega) | exact icells_get (by omega) | exact tcells_get (by omega) | exact ucells_get (by omega)) | exact cell_rd (rd_old (by assumption) rfl) (by first | exact bcells_at (by omega) | exact ucells_at (by omega) | exact icells_at (by omega) | exact tcells_at (by omega) | exact bcells_get (by omega) | exact icells_get (by omega) | exact tcells_get (by omega) | exact ucells_get (by omega)) | exact cell_old (by assumption) (by simp [fps]))) ?_
      refine vl_val rfl (.some rfl) (val_assign rfl) ?_
      refine vl_val rfl (.some rfl) (val_assign rfl) ?_
      refine vl_nil ?_
      refine vc_seq ?_
      refine vc_region ?_
      refine vl_val rfl (.some rfl) (val_move rfl) ?_
      refine vl_val rfl (.some rfl) (val_move rfl) ?_
      refine vl_call (C := KQ b1 t As1 cs1 S Ac1 cc1 K1) rfl rfl (.some rfl) Try.call15 rfl (by repeat (first | exact .nil | (apply Sub.cons; · repeat (first | exact .head | apply Take.tail)))) (fun w hw => qInsert hK1 hk1.ok (l.getD i 0) (hul _ (getD_mem 0 (by omega))) w (readsM_sl (A := As1) (n := S.length) (c := cs1) (sz := 2) (e := 81) (vs := seedC S) (C := KQ b1 t As1 cs1 S Ac1 cc1 K1) (by repeat (first | exact .nil | (apply Sub.cons; · repeat (first | exact .head | apply Take.tail)))) (by repeat (first | exact .head | apply In.tail | apply Take.tail | apply Upd.tail)) hw)) (fun v H' h => ?_)
      obtain ⟨K1', hK1', rfl⟩ := h
      show VL _ _ _ _ _ (_ :: _ :: _ :: _)
      refine vl_nil ?_
      refine vc_seq ?_
      refine vc_region ?_
      refine vl_val rfl (.some rfl) (val_assign rfl) ?_
      refine vl_nil ?_
      refine vc_seq ?_
      refine vc_seq ?_
      refine vc_region ?_
      refine vl_val rfl (.some rfl) (val_move rfl) ?_
      refine vl_val rfl (.some rfl) (val_move rfl) ?_
      refine vl_val rfl (.some rfl) (val_cutTo Try.runUnderlying25 Try.sizeOf30 rfl rfl (by omega) (by omega)) ?_
      refine vl_val rfl (.some rfl) (val_lenSl Try.runUnderlying25 rfl) ?_
      refine vl_val rfl (.some rfl) (val_move rfl) ?_
      refine vl_nil ?_
      refine vc_block ?_
      refine vc_loopw (fun q E H => ∃ (j : Nat) (f : Bool), j ≤ i ∧ q = i - j ∧ f = decide (∀ p, p < j → l.getD p 0 % pM ≠ l.getD i 0 % pM) ∧ E = [(1, .slice B l.length d), (2, .pointer (some ⟨r2, 0, none⟩)), (5, .pointer (some ⟨b1, 0, none⟩)), (6, .int .i64 (cntF l i : Nat)), (8, .int .u64 (l.getD i 0 : Nat)), (9, .bool f), (34, .slice B l.length d), (35, .int .i64 l.length), (36, .int .i64 i), (46, .slice B i d), (47, .int .i64 i), (48, .int .i64 j)] ∧ H = [cells r2 [.int .i64 (t : Nat), .slice A S.length c, .int .i64 Kk, .int .i64 Mm] 24, SDc As1 S.length cs1 S] ++ KQ b1 t As1 cs1 S Ac1 cc1 K1') (i) ⟨_, _, _, ⟨0, true, by omega, rfl, by simp, rfl, rfl⟩, (by repeat (first | exact trivial | refine ⟨rfl, ?_⟩ | refine ⟨le_item rfl (by first | rfl | (congr 1; omega) | (simp; done) | (simp; omega)), ?_⟩)), (by repeat (first | exact .nil | (apply Sub.cons; · repeat (first | exact .head | apply Take.tail))))⟩ ?_
      intro q E H hI
      obtain ⟨j, f, hj, rfl, hf, rfl, rfl⟩ := hI
      refine vc_seq ?_
      refine vc_region ?_
      refine vl_val rfl (.some rfl) (val_lt rfl rfl) ?_
      refine vl_nil ?_
      refine vc_seq ?_
      refine vc_cond rfl (fun hc2 => ?_) (fun hc2 => ?_)
      · (try replace hc2 := of_decide_eq_true hc2)
        refine vc_skip ?_
        refine vc_seq ?_
        refine vc_block ?_
        refine vc_seq ?_
        refine vc_region ?_
        refine vl_val rfl (.some rfl) (val_indexAddr Try.runUnderlying25 Try.sizeOf30 rfl rfl (vs := ucells l) (rd_old hrl rfl) (by omega) (by omega) (by rw [ucells_length]; omega)) ?_
        refine vl_val rfl (.some rfl) (val_load Try.isAgg30 rfl (by first | exact cell_cells (by repeat (first | exact .head | apply In.tail | apply Take.tail | apply Upd.tail)) rfl | exact cell_rd (rd_sl (by repeat (first | exact .head | apply In.tail | apply Take.tail | apply Upd.tail))) (by first | exact bcells_at (by omega) | exact ucells_at (by omega) | exact icells_at (by omega) | exact tcells_at (by omega) | exact bcells_get (by omega) | exact icells_get (by omega) | exact tcells_get (by omega) | exact ucells_get (by omega)) | exact cell_rd (rd_old (by assumption) rfl) (by first | exact bcells_at (by omega) | exact ucells_at (by omega) | exact icells_at (by omega) | exact tcells_at (by omega) | exact bcells_get (by omega) | exact icells_get (by omega) | exact tcells_get (by omega) | exact ucells_get (by omega)) | exact cell_old (by assumption) (by simp [fps]))) ?_
        refine vl_val rfl (.some rfl) (val_assign rfl) ?_
        refine vl_nil ?_
        refine vc_region ?_
        refine vl_val rfl (.some rfl) (val_move rfl) ?_
        refine vl_val rfl (.some rfl) (val_move rfl) ?_
        refine vl_split (t := 53) rfl (fun hg53 => ?_) (fun hg53 => ?_)
        · (try replace hg53 := of_decide_eq_true hg53)
          have hst := (fst_step (l := l) (i := i) (j := j) hf).1 hg53
          refine vl_on rfl rfl rfl rfl ?_
          refine vl_val rfl (.some rfl) (val_move rfl) ?_
          refine vl_on rfl rfl rfl rfl ?_
          refine vl_callV rfl rfl (.some rfl) Try.call16 rfl (fun w hw => fOf (l.getD j 0) (hul _ (getD_mem 0 (by omega))) w) ?_
          refine vl_on rfl rfl rfl rfl ?_
          refine vl_val rfl (.some rfl) (val_move rfl) ?_
          refine vl_on rfl rfl rfl rfl ?_
          refine vl_callV rfl rfl (.some rfl) Try.call16 rfl (fun w hw => fOf (l.getD i 0) (hul _ (getD_mem 0 (by omega))) w) ?_
          refine vl_on rfl rfl rfl rfl ?_
          refine vl_val rfl (.some rfl) (val_ne rfl rfl) ?_
          refine vl_val rfl (.some rfl) (val_pick rfl rfl) ?_
          refine vl_val rfl (.some rfl) (val_assign rfl) ?_
          refine vl_nil ?_
          refine vc_region ?_
          refine vl_val rfl (.some rfl) (val_add rfl rfl (by first | exact w_i64 (by omega) (by omega) | rfl)) ?_
          refine vl_val rfl (.some rfl) (val_move rfl) ?_
          refine vl_nil ?_
          first
            | exact ⟨(i - (j + 1)), _, _, _, by omega, (by repeat (first | exact trivial | refine ⟨rfl, ?_⟩ | refine ⟨le_item rfl (by first | rfl | (congr 1; omega) | (simp; done) | (simp; omega)), ?_⟩)), (by repeat (first | exact .nil | (apply Sub.cons; · repeat (first | exact .head | apply Take.tail)))), ⟨j + 1, _, by omega, rfl, hst, rfl, rfl⟩⟩
        · (try replace hg53 := of_decide_eq_false hg53)
          have hst := (fst_step (l := l) (i := i) (j := j) hf).2 hg53
          refine vl_off rfl rfl rfl rfl (.some rfl) ?_
          refine vl_off rfl rfl rfl rfl (.some rfl) ?_
          refine vl_off rfl rfl rfl rfl (.some rfl) ?_
          refine vl_off rfl rfl rfl rfl (.some rfl) ?_
          refine vl_off rfl rfl rfl rfl (.some rfl) ?_
          refine vl_val rfl (.some rfl) (val_pick rfl rfl) ?_
          refine vl_val rfl (.some rfl) (val_assign rfl) ?_
          refine vl_nil ?_
          refine vc_region ?_
          refine vl_val rfl (.some rfl) (val_add rfl rfl (by first | exact w_i64 (by omega) (by omega) | rfl)) ?_
          refine vl_val rfl (.some rfl) (val_move rfl) ?_
          refine vl_nil ?_
          first
            | exact ⟨(i - (j + 1)), _, _, _, by omega, (by repeat (first | exact trivial | refine ⟨rfl, ?_⟩ | refine ⟨le_item rfl (by first | rfl | (congr 1; omega) | (simp; done) | (simp; omega)), ?_⟩)), (by repeat (first | exact .nil | (apply Sub.cons; · repeat (first | exact .head | apply Take.tail)))), ⟨j + 1, _, by omega, rfl, hst, rfl, rfl⟩⟩
      · (try replace hc2 := of_decide_eq_false hc2)
        refine vc_exit ?_
        refine vc_seq ?_
        refine vc_region ?_
        refine vl_val rfl (.some rfl) (val_move rfl) ?_
        refine vl_nil ?_
        refine vc_cond rfl (fun hc3 => ?_) (fun hc3 => ?_)
        · (try replace hc3 := of_decide_eq_true hc3)
          
          refine vc_region ?_
          refine vl_val rfl (.some rfl) (val_move rfl) ?_
          refine vl_val rfl (.some rfl) (val_add rfl rfl (by first | exact w_i64 (by omega) (by omega) | rfl)) ?_
          refine vl_val rfl (.some rfl) (val_assign rfl) ?_
          refine vl_nil ?_
          refine vc_region ?_
          refine vl_val rfl (.some rfl) (val_add rfl rfl (by first | exact w_i64 (by omega) (by omega) | rfl)) ?_
          refine vl_val rfl (.some rfl) (val_move rfl) ?_
          refine vl_nil ?_
          have hji : i = j := by omega
          subst hji
          have hcs := cntF_step l i
          first | rw [if_pos (show fstB l i = true from hf.symm.trans hc3)] at hcs | rw [if_neg (show ¬ fstB l i = true from fun h => by rw [hc3] at hf; exact absurd (hf.trans h) (by decide))] at hcs
          exact ⟨(l.length - (i + 1)), _, _, _, by omega, (by repeat (first | exact trivial | refine ⟨rfl, ?_⟩ | refine ⟨le_item rfl (by first | rfl | (congr 1; omega) | (simp; done) | (simp; omega)), ?_⟩)), (by repeat (first | exact .nil | (apply Sub.cons; · repeat (first | exact .head | apply Take.tail)))), ⟨i + 1, _, K1', by omega, rfl, hK1', (hk1.ins _).congr (pk_step i), rfl, rfl⟩⟩
        · (try replace hc3 := of_decide_eq_false hc3)
          refine vc_skip ?_
          refine vc_region ?_
          refine vl_val rfl (.some rfl) (val_add rfl rfl (by first | exact w_i64 (by omega) (by omega) | rfl)) ?_
          refine vl_val rfl (.some rfl) (val_move rfl) ?_
          refine vl_nil ?_
          have hji : i = j := by omega
          subst hji
          have hcs := cntF_step l i
          first | rw [if_pos (show fstB l i = true from hf.symm.trans hc3)] at hcs | rw [if_neg (show ¬ fstB l i = true from fun h => by rw [hc3] at hf; exact absurd (hf.trans h) (by decide))] at hcs
          exact ⟨(l.length - (i + 1)), _, _, _, by omega, (by repeat (first | exact trivial | refine ⟨rfl, ?_⟩ | refine ⟨le_item rfl (by first | rfl | (congr 1; omega) | (simp; done) | (simp; omega)), ?_⟩)), (by repeat (first | exact .nil | (apply Sub.cons; · repeat (first | exact .head | apply Take.tail)))), ⟨i + 1, _, K1', by omega, rfl, hK1', (hk1.ins _).congr (pk_step i), rfl, rfl⟩⟩
    · (try replace hc1 := of_decide_eq_false hc1)
      refine vc_exit ?_
      refine vc_seq ?_
      refine vc_seq ?_
      refine vc_region ?_
      refine vl_val rfl (.some rfl) (val_move rfl) ?_
      obtain rfl : i = l.length := by omega
      have hn1 := hk1.ok.n1
      have hn7 := hk1.ok.n7
      have ht64 := hk1.ok.t64
      have hfl := fun (j : Nat) (hj : j < V1.length) => few_len hk1 hg.2.2.2.2.2 hj
      obtain ⟨n, hn⟩ : ∃ n, cntF l l.length = n := ⟨_, rfl⟩
      have hnl := cntF_le l l.length
      rw [hn] at hfl hnl ⊢
      refine vl_call (C := KQ b1 t As1 cs1 S Ac1 cc1 K1) rfl rfl (.some rfl) Try.call17 rfl (by repeat (first | exact .nil | (apply Sub.cons; · repeat (first | exact .head | apply Take.tail)))) (fun w hw => qCopies hK1 hk1.ok w) (fun v H' h => ?_)
      obtain ⟨A6, c6, D, rfl, hD, rfl⟩ := h
      have hDl : D.length = V1.length := by rw [← hD, vals_len]
      show VL _ _ _ _ _ (_ :: _ :: _ :: _ :: _ :: _)
      refine vl_val rfl (.some rfl) (val_lenSl Try.runUnderlying33 rfl) ?_
      refine vl_val rfl (.some rfl) (val_move rfl) ?_
      refine vl_nil ?_
      refine vc_block ?_
      refine vc_loopw (fun q E H => ∃ p : Nat, p ≤ D.length ∧ q = D.length - p ∧ E = [(2, .pointer (some ⟨r2, 0, none⟩)), (5, .pointer (some ⟨b1, 0, none⟩)), (6, .int .i64 n), (66, .slice A6 D.length c6), (67, .int .i64 D.length), (68, .int .i64 p)] ∧ H = [cells r2 [.int .i64 (t : Nat), .slice A S.length c, .int .i64 Kk, .int .i64 Mm] 24, SDc As1 S.length cs1 S, HR A6 D.length c6 (D.map hdr), big (D.map rwC)] ++ KQ b1 t As1 cs1 S Ac1 cc1 K1) (D.length) ⟨_, _, _, ⟨0, by omega, rfl, rfl, rfl⟩, (by repeat (first | exact trivial | refine ⟨rfl, ?_⟩ | refine ⟨le_item rfl (by first | rfl | (congr 1; omega) | (simp; done) | (simp; omega)), ?_⟩)), (by repeat (first | exact .nil | (apply Sub.cons; · repeat (first | exact .head | apply Take.tail))))⟩ ?_
      intro q E H hI
      obtain ⟨p, hp, rfl, rfl, rfl⟩ := hI
      refine vc_seq ?_
      refine vc_region ?_
      refine vl_val rfl (.some rfl) (val_lt rfl rfl) ?_
      refine vl_nil ?_
      refine vc_seq ?_
      refine vc_cond rfl (fun hc4 => ?_) (fun hc4 => ?_)
      · (try replace hc4 := of_decide_eq_true hc4)
        obtain ⟨r, hrD⟩ := row_at (L := D) (i := p) (by omega)
        have hri := vals_get hrD
        rw [hD] at hri
        have hrg := hk1.ok.good p (by omega)
        rw [hri] at hrg
        refine vc_skip ?_
        refine vc_seq ?_
        refine vc_block ?_
        refine vc_seq ?_
        refine vc_region ?_
        refine vl_val rfl (.some rfl) (val_indexAddr Try.runUnderlying33 Try.sizeOf25 rfl rfl (rd_sl (vs := D.map hdr) (by repeat (first | exact .head | apply In.tail | apply Take.tail | apply Upd.tail))) (by omega) (by omega) (by rw [List.length_map]; omega)) ?_
        refine vl_val rfl (.some rfl) (val_load Try.isAgg25 rfl (cell_rd (rd_sl (vs := D.map hdr) (by repeat (first | exact .head | apply In.tail | apply Take.tail | apply Upd.tail))) (hdr_at hrD))) ?_
        refine vl_val rfl (.some rfl) (val_assign rfl) ?_
        refine vl_nil ?_
        refine vc_seq ?_
        refine vc_seq ?_
        refine vc_region ?_
        refine vl_val rfl (.some rfl) (val_move rfl) ?_
        refine vl_val rfl (.some rfl) (val_lenSl Try.runUnderlying25 rfl) ?_
        refine vl_val rfl (.some rfl) (by first | exact val_fieldAddr Try.runUnderlying24 rfl Try.sizeOf3 rfl | exact val_fieldAddrR Try.runUnderlying24 rfl Try.sizeOf3 rfl) ?_
        refine vl_val rfl (.some rfl) (val_load Try.isAgg3 rfl (by first | exact cell_cells (by repeat (first | exact .head | apply In.tail | apply Take.tail | apply Upd.tail)) rfl | exact cell_rd (rd_sl (by repeat (first | exact .head | apply In.tail | apply Take.tail | apply Upd.tail))) (by first | exact bcells_at (by omega) | exact ucells_at (by omega) | exact icells_at (by omega) | exact tcells_at (by omega) | exact bcells_get (by omega) | exact icells_get (by omega) | exact tcells_get (by omega) | exact ucells_get (by omega)) | exact cell_rd (rd_old (by assumption) rfl) (by first | exact bcells_at (by omega) | exact ucells_at (by omega) | exact icells_at (by omega) | exact tcells_at (by omega) | exact bcells_get (by omega) | exact icells_get (by omega) | exact tcells_get (by omega) | exact ucells_get (by omega)) | exact cell_old (by assumption) (by simp [fps]))) ?_
        refine vl_val rfl (.some rfl) (val_gt rfl rfl) ?_
        refine vl_val rfl (.some rfl) (val_move rfl) ?_
        refine vl_split (t := 77) rfl (fun hg77 => ?_) (fun hg77 => ?_)
        · (try replace hg77 := of_decide_eq_true hg77)
          exfalso
          omega
        · (try replace hg77 := of_decide_eq_false hg77)
          refine vl_on rfl rfl rfl rfl ?_
          refine vl_val rfl (.some rfl) (val_move rfl) ?_
          refine vl_on rfl rfl rfl rfl ?_
          refine vl_val rfl (.some rfl) (by first | exact val_fieldAddr Try.runUnderlying24 rfl Try.sizeOf3 rfl | exact val_fieldAddrR Try.runUnderlying24 rfl Try.sizeOf3 rfl) ?_
          refine vl_on rfl rfl rfl rfl ?_
          refine vl_val rfl (.some rfl) (val_load Try.isAgg3 rfl (by first | exact cell_cells (by repeat (first | exact .head | apply In.tail | apply Take.tail | apply Upd.tail)) rfl | exact cell_rd (rd_sl (by repeat (first | exact .head | apply In.tail | apply Take.tail | apply Upd.tail))) (by first | exact bcells_at (by omega) | exact ucells_at (by omega) | exact icells_at (by omega) | exact tcells_at (by omega) | exact bcells_get (by omega) | exact icells_get (by omega) | exact tcells_get (by omega) | exact ucells_get (by omega)) | exact cell_rd (rd_old (by assumption) rfl) (by first | exact bcells_at (by omega) | exact ucells_at (by omega) | exact icells_at (by omega) | exact tcells_at (by omega) | exact bcells_get (by omega) | exact icells_get (by omega) | exact tcells_get (by omega) | exact ucells_get (by omega)) | exact cell_old (by assumption) (by simp [fps]))) ?_
          refine vl_on rfl rfl rfl rfl ?_
          refine vl_val rfl (.some rfl) (val_le rfl rfl) ?_
          refine vl_on rfl rfl rfl rfl ?_
          refine vl_val rfl (.some rfl) (val_move rfl) ?_
          refine vl_split (t := 82) rfl (fun hg82 => ?_) (fun hg82 => ?_)
          · (try replace hg82 := of_decide_eq_true hg82)
            refine vl_on rfl rfl rfl rfl ?_
            refine vl_val rfl (.some rfl) (val_move rfl) ?_
            refine vl_on rfl rfl rfl rfl ?_
            refine vl_val rfl (.some rfl) (val_lenSl Try.runUnderlying25 rfl) ?_
            refine vl_on rfl rfl rfl rfl ?_
            refine vl_val rfl (.some rfl) (val_move rfl) ?_
            refine vl_on rfl rfl rfl rfl ?_
            refine vl_val rfl (.some rfl) (val_net rfl rfl (by have := hfl p (by omega) (by omega); rw [hri] at this; omega)) ?_
            refine vl_on rfl rfl rfl rfl ?_
            refine vl_val rfl (.some rfl) (val_pick rfl rfl) ?_
            refine vl_val rfl (.some rfl) (val_pick rfl rfl) ?_
            refine vl_nil ?_
            refine vc_cond rfl (fun h => by cases h) (fun _ => ?_)
            refine vc_skip ?_
            refine vc_seq ?_
            refine vc_region ?_
            refine vl_val rfl (.some rfl) (val_move rfl) ?_
            refine vl_val rfl (.some rfl) (val_lenSl Try.runUnderlying25 rfl) ?_
            refine vl_val rfl (.some rfl) (val_move rfl) ?_
            refine vl_nil ?_
            refine vc_block ?_
            refine vc_loopw (fun q E H => ∃ j : Nat, j ≤ r.l.length ∧ q = r.l.length - j ∧ E = [(2, .pointer (some ⟨r2, 0, none⟩)), (5, .pointer (some ⟨b1, 0, none⟩)), (6, .int .i64 n), (13, hdr r), (66, .slice A6 D.length c6), (67, .int .i64 D.length), (68, .int .i64 p), (90, .int .i64 r.l.length), (91, .int .i64 j)] ∧ H = [cells r2 [.int .i64 (t : Nat), .slice A S.length c, .int .i64 Kk, .int .i64 Mm] 24, SDc As1 S.length cs1 S, HR A6 D.length c6 (D.map hdr), big (D.map rwC)] ++ KQ b1 t As1 cs1 S Ac1 cc1 K1) (r.l.length) ⟨_, _, _, ⟨0, by omega, rfl, rfl, rfl⟩, (by repeat (first | exact trivial | refine ⟨rfl, ?_⟩ | refine ⟨le_item rfl (by first | rfl | (congr 1; omega) | (simp; done) | (simp; omega)), ?_⟩)), (by repeat (first | exact .nil | (apply Sub.cons; · repeat (first | exact .head | apply Take.tail))))⟩ ?_
            intro q E H hI
            obtain ⟨j, hj, rfl, rfl, rfl⟩ := hI
            refine vc_seq ?_
            refine vc_region ?_
            refine vl_val rfl (.some rfl) (val_lt rfl rfl) ?_
            refine vl_nil ?_
            refine vc_seq ?_
            refine vc_cond rfl (fun hc6 => ?_) (fun hc6 => ?_)
            · (try replace hc6 := of_decide_eq_true hc6)
              refine vc_skip ?_
              refine vc_seq ?_
              refine vc_block ?_
              refine vc_seq ?_
              refine vc_region ?_
              refine vl_val rfl (.some rfl) (val_move rfl) ?_
              refine vl_val rfl (.some rfl) (val_assign rfl) ?_
              refine vl_nil ?_
              refine vc_seq ?_
              refine vc_draws [0, 1, 2, 3, 4, 5, 6, 7, 8, 9, 10, 11, 12, 13] [] [0, 1, 2, 3, 4, 5, 6, 7, 8, 9, 10, 11, 12, 13] rfl (by kernel_rfl) (fun _ _ _ h => h) ?_
              refine vd_val rfl rfl rfl (.some rfl) (val_move rfl) ?_
              refine vd_val rfl rfl rfl (.some rfl) (val_gt rfl rfl) ?_
              refine vd_val rfl rfl rfl (.some rfl) (val_move rfl) ?_
              refine vd_split (t := 96) rfl (fun hg96 => ?_) (fun hg96 => ?_)
              · (try replace hg96 := of_decide_eq_true hg96)
                refine vd_on rfl rfl rfl rfl rfl rfl (.some rfl) (val_move rfl) ?_
                refine vd_on rfl rfl rfl rfl rfl rfl (.some rfl) (val_move rfl) ?_
                refine vd_on rfl rfl rfl rfl rfl rfl (.some rfl) (val_sub rfl rfl (show _ = ((j - 1 : Nat) : Int) by rw [w_i64 (by omega) (by omega)]; omega)) ?_
                refine vd_on rfl rfl rfl rfl rfl rfl (.some rfl) (val_indexAddr Try.runUnderlying25 Try.sizeOf30 rfl rfl (vs := ucells r.l) (rd_big (n := r.l.length) (c := r.c) (e := 30) (sz := 1) (l := D.map rwC) (by repeat (first | exact .head | apply In.tail | apply Take.tail | apply Upd.tail)) (List.mem_map.2 ⟨r, List.mem_of_getElem? hrD, rfl⟩)) (by omega) (by omega) (by rw [ucells_length]; omega)) ?_
                refine vd_on rfl rfl rfl rfl rfl rfl (.some rfl) (val_load Try.isAgg30 rfl (cell_rd (rd_big (n := r.l.length) (c := r.c) (e := 30) (sz := 1) (l := D.map rwC) (by repeat (first | exact .head | apply In.tail | apply Take.tail | apply Upd.tail)) (List.mem_map.2 ⟨r, List.mem_of_getElem? hrD, rfl⟩)) (ucells_at (i := j - 1) (by omega)))) ?_
                refine vd_on rfl rfl rfl rfl rfl rfl (.some rfl) (val_move rfl) ?_
                refine vd_on rfl rfl rfl rfl rfl rfl (.some rfl) (val_move rfl) ?_
                refine vd_on rfl rfl rfl rfl rfl rfl (.some rfl) (val_indexAddr Try.runUnderlying25 Try.sizeOf30 rfl rfl (vs := ucells r.l) (rd_big (n := r.l.length) (c := r.c) (e := 30) (sz := 1) (l := D.map rwC) (by repeat (first | exact .head | apply In.tail | apply Take.tail | apply Upd.tail)) (List.mem_map.2 ⟨r, List.mem_of_getElem? hrD, rfl⟩)) (by omega) (by omega) (by rw [ucells_length]; omega)) ?_
                refine vd_on rfl rfl rfl rfl rfl rfl (.some rfl) (val_load Try.isAgg30 rfl (cell_rd (rd_big (n := r.l.length) (c := r.c) (e := 30) (sz := 1) (l := D.map rwC) (by repeat (first | exact .head | apply In.tail | apply Take.tail | apply Upd.tail)) (List.mem_map.2 ⟨r, List.mem_of_getElem? hrD, rfl⟩)) (ucells_at (i := j) (by omega)))) ?_
                refine vd_on rfl rfl rfl rfl rfl rfl (.some rfl) (val_ge rfl rfl) ?_
                refine vd_val rfl rfl rfl (.some rfl) (val_pick rfl rfl) ?_
                refine vd_nil ?_
                refine vc_cond rfl (fun hc7 => False.elim (by (try replace hc7 := of_decide_eq_true hc7); have := rise_ge hrg.1 (i := j) (by omega) (by omega); omega)) (fun hc7 => ?_)
                (try replace hc7 := of_decide_eq_false hc7)
                refine vc_skip ?_
                refine vc_region ?_
                refine vl_val rfl (.some rfl) (val_add rfl rfl (by first | exact w_i64 (by omega) (by omega) | rfl)) ?_
                refine vl_val rfl (.some rfl) (val_move rfl) ?_
                refine vl_nil ?_
                exact ⟨(r.l.length - (j + 1)), _, _, _, by omega, (by repeat (first | exact trivial | refine ⟨rfl, ?_⟩ | refine ⟨le_item rfl (by first | rfl | (congr 1; omega) | (simp; done) | (simp; omega)), ?_⟩)), (by repeat (first | exact .nil | (apply Sub.cons; · repeat (first | exact .head | apply Take.tail)))), ⟨j + 1, by omega, rfl, rfl, rfl⟩⟩
              · (try replace hg96 := of_decide_eq_false hg96)
                refine vd_off rfl rfl rfl rfl rfl rfl (.some rfl) ?_
                refine vd_off rfl rfl rfl rfl rfl rfl (.some rfl) ?_
                refine vd_off rfl rfl rfl rfl rfl rfl (.some rfl) ?_
                refine vd_off rfl rfl rfl rfl rfl rfl (.some rfl) ?_
                refine vd_off rfl rfl rfl rfl rfl rfl (.some rfl) ?_
                refine vd_off rfl rfl rfl rfl rfl rfl (.some rfl) ?_
                refine vd_off rfl rfl rfl rfl rfl rfl (.some rfl) ?_
                refine vd_off rfl rfl rfl rfl rfl rfl (.some rfl) ?_
                refine vd_off rfl rfl rfl rfl rfl rfl (.some rfl) ?_
                refine vd_off rfl rfl rfl rfl rfl rfl (.some rfl) ?_
                refine vd_val rfl rfl rfl (.some rfl) (val_pick rfl rfl) ?_
                refine vd_nil ?_
                refine vc_cond rfl (fun h => by cases h) (fun _ => ?_)
                refine vc_skip ?_
                refine vc_region ?_
                refine vl_val rfl (.some rfl) (val_add rfl rfl (by first | exact w_i64 (by omega) (by omega) | rfl)) ?_
                refine vl_val rfl (.some rfl) (val_move rfl) ?_
                refine vl_nil ?_
                exact ⟨(r.l.length - (j + 1)), _, _, _, by omega, (by repeat (first | exact trivial | refine ⟨rfl, ?_⟩ | refine ⟨le_item rfl (by first | rfl | (congr 1; omega) | (simp; done) | (simp; omega)), ?_⟩)), (by repeat (first | exact .nil | (apply Sub.cons; · repeat (first | exact .head | apply Take.tail)))), ⟨j + 1, by omega, rfl, rfl, rfl⟩⟩
            · (try replace hc6 := of_decide_eq_false hc6)
              refine vc_exit ?_
              refine vc_region ?_
              refine vl_val rfl (.some rfl) (val_add rfl rfl (by first | exact w_i64 (by omega) (by omega) | rfl)) ?_
              refine vl_val rfl (.some rfl) (val_move rfl) ?_
              refine vl_nil ?_
              exact ⟨(D.length - (p + 1)), _, _, _, by omega, (by repeat (first | exact trivial | refine ⟨rfl, ?_⟩ | refine ⟨le_item rfl (by first | rfl | (congr 1; omega) | (simp; done) | (simp; omega)), ?_⟩)), (by repeat (first | exact .nil | (apply Sub.cons; · repeat (first | exact .head | apply Take.tail)))), ⟨p + 1, by omega, rfl, rfl, rfl⟩⟩
          · (try replace hg82 := of_decide_eq_false hg82)
            refine vl_off rfl rfl rfl rfl (.some rfl) ?_
            refine vl_off rfl rfl rfl rfl (.some rfl) ?_
            refine vl_off rfl rfl rfl rfl (.some rfl) ?_
            refine vl_off rfl rfl rfl rfl (.some rfl) ?_
            refine vl_on rfl rfl rfl rfl ?_
            refine vl_val rfl (.some rfl) (val_pick rfl rfl) ?_
            refine vl_val rfl (.some rfl) (val_pick rfl rfl) ?_
            refine vl_nil ?_
            refine vc_cond rfl (fun h => by cases h) (fun _ => ?_)
            refine vc_skip ?_
            refine vc_seq ?_
            refine vc_region ?_
            refine vl_val rfl (.some rfl) (val_move rfl) ?_
            refine vl_val rfl (.some rfl) (val_lenSl Try.runUnderlying25 rfl) ?_
            refine vl_val rfl (.some rfl) (val_move rfl) ?_
            refine vl_nil ?_
            refine vc_block ?_
            refine vc_loopw (fun q E H => ∃ j : Nat, j ≤ r.l.length ∧ q = r.l.length - j ∧ E = [(2, .pointer (some ⟨r2, 0, none⟩)), (5, .pointer (some ⟨b1, 0, none⟩)), (6, .int .i64 n), (13, hdr r), (66, .slice A6 D.length c6), (67, .int .i64 D.length), (68, .int .i64 p), (90, .int .i64 r.l.length), (91, .int .i64 j)] ∧ H = [cells r2 [.int .i64 (t : Nat), .slice A S.length c, .int .i64 Kk, .int .i64 Mm] 24, SDc As1 S.length cs1 S, HR A6 D.length c6 (D.map hdr), big (D.map rwC)] ++ KQ b1 t As1 cs1 S Ac1 cc1 K1) (r.l.length) ⟨_, _, _, ⟨0, by omega, rfl, rfl, rfl⟩, (by repeat (first | exact trivial | refine ⟨rfl, ?_⟩ | refine ⟨le_item rfl (by first | rfl | (congr 1; omega) | (simp; done) | (simp; omega)), ?_⟩)), (by repeat (first | exact .nil | (apply Sub.cons; · repeat (first | exact .head | apply Take.tail))))⟩ ?_
            intro q E H hI
            obtain ⟨j, hj, rfl, rfl, rfl⟩ := hI
            refine vc_seq ?_
            refine vc_region ?_
            refine vl_val rfl (.some rfl) (val_lt rfl rfl) ?_
            refine vl_nil ?_
            refine vc_seq ?_
            refine vc_cond rfl (fun hc6 => ?_) (fun hc6 => ?_)
            · (try replace hc6 := of_decide_eq_true hc6)
              refine vc_skip ?_
              refine vc_seq ?_
              refine vc_block ?_
              refine vc_seq ?_
              refine vc_region ?_
              refine vl_val rfl (.some rfl) (val_move rfl) ?_
              refine vl_val rfl (.some rfl) (val_assign rfl) ?_
              refine vl_nil ?_
              refine vc_seq ?_
              refine vc_draws [0, 1, 2, 3, 4, 5, 6, 7, 8, 9, 10, 11, 12, 13] [] [0, 1, 2, 3, 4, 5, 6, 7, 8, 9, 10, 11, 12, 13] rfl (by kernel_rfl) (fun _ _ _ h => h) ?_
              refine vd_val rfl rfl rfl (.some rfl) (val_move rfl) ?_
              refine vd_val rfl rfl rfl (.some rfl) (val_gt rfl rfl) ?_
              refine vd_val rfl rfl rfl (.some rfl) (val_move rfl) ?_
              refine vd_split (t := 96) rfl (fun hg96 => ?_) (fun hg96 => ?_)
              · (try replace hg96 := of_decide_eq_true hg96)
                refine vd_on rfl rfl rfl rfl rfl rfl (.some rfl) (val_move rfl) ?_
                refine vd_on rfl rfl rfl rfl rfl rfl (.some rfl) (val_move rfl) ?_
                refine vd_on rfl rfl rfl rfl rfl rfl (.some rfl) (val_sub rfl rfl (show _ = ((j - 1 : Nat) : Int) by rw [w_i64 (by omega) (by omega)]; omega)) ?_
                refine vd_on rfl rfl rfl rfl rfl rfl (.some rfl) (val_indexAddr Try.runUnderlying25 Try.sizeOf30 rfl rfl (vs := ucells r.l) (rd_big (n := r.l.length) (c := r.c) (e := 30) (sz := 1) (l := D.map rwC) (by repeat (first | exact .head | apply In.tail | apply Take.tail | apply Upd.tail)) (List.mem_map.2 ⟨r, List.mem_of_getElem? hrD, rfl⟩)) (by omega) (by omega) (by rw [ucells_length]; omega)) ?_
                refine vd_on rfl rfl rfl rfl rfl rfl (.some rfl) (val_load Try.isAgg30 rfl (cell_rd (rd_big (n := r.l.length) (c := r.c) (e := 30) (sz := 1) (l := D.map rwC) (by repeat (first | exact .head | apply In.tail | apply Take.tail | apply Upd.tail)) (List.mem_map.2 ⟨r, List.mem_of_getElem? hrD, rfl⟩)) (ucells_at (i := j - 1) (by omega)))) ?_
                refine vd_on rfl rfl rfl rfl rfl rfl (.some rfl) (val_move rfl) ?_
                refine vd_on rfl rfl rfl rfl rfl rfl (.some rfl) (val_move rfl) ?_
                refine vd_on rfl rfl rfl rfl rfl rfl (.some rfl) (val_indexAddr Try.runUnderlying25 Try.sizeOf30 rfl rfl (vs := ucells r.l) (rd_big (n := r.l.length) (c := r.c) (e := 30) (sz := 1) (l := D.map rwC) (by repeat (first | exact .head | apply In.tail | apply Take.tail | apply Upd.tail)) (List.mem_map.2 ⟨r, List.mem_of_getElem? hrD, rfl⟩)) (by omega) (by omega) (by rw [ucells_length]; omega)) ?_
                refine vd_on rfl rfl rfl rfl rfl rfl (.some rfl) (val_load Try.isAgg30 rfl (cell_rd (rd_big (n := r.l.length) (c := r.c) (e := 30) (sz := 1) (l := D.map rwC) (by repeat (first | exact .head | apply In.tail | apply Take.tail | apply Upd.tail)) (List.mem_map.2 ⟨r, List.mem_of_getElem? hrD, rfl⟩)) (ucells_at (i := j) (by omega)))) ?_
                refine vd_on rfl rfl rfl rfl rfl rfl (.some rfl) (val_ge rfl rfl) ?_
                refine vd_val rfl rfl rfl (.some rfl) (val_pick rfl rfl) ?_
                refine vd_nil ?_
                refine vc_cond rfl (fun hc7 => False.elim (by (try replace hc7 := of_decide_eq_true hc7); have := rise_ge hrg.1 (i := j) (by omega) (by omega); omega)) (fun hc7 => ?_)
                (try replace hc7 := of_decide_eq_false hc7)
                refine vc_skip ?_
                refine vc_region ?_
                refine vl_val rfl (.some rfl) (val_add rfl rfl (by first | exact w_i64 (by omega) (by omega) | rfl)) ?_
                refine vl_val rfl (.some rfl) (val_move rfl) ?_
                refine vl_nil ?_
                exact ⟨(r.l.length - (j + 1)), _, _, _, by omega, (by repeat (first | exact trivial | refine ⟨rfl, ?_⟩ | refine ⟨le_item rfl (by first | rfl | (congr 1; omega) | (simp; done) | (simp; omega)), ?_⟩)), (by repeat (first | exact .nil | (apply Sub.cons; · repeat (first | exact .head | apply Take.tail)))), ⟨j + 1, by omega, rfl, rfl, rfl⟩⟩
              · (try replace hg96 := of_decide_eq_false hg96)
                refine vd_off rfl rfl rfl rfl rfl rfl (.some rfl) ?_
                refine vd_off rfl rfl rfl rfl rfl rfl (.some rfl) ?_
                refine vd_off rfl rfl rfl rfl rfl rfl (.some rfl) ?_
                refine vd_off rfl rfl rfl rfl rfl rfl (.some rfl) ?_
                refine vd_off rfl rfl rfl rfl rfl rfl (.some rfl) ?_
                refine vd_off rfl rfl rfl rfl rfl rfl (.some rfl) ?_
                refine vd_off rfl rfl rfl rfl rfl rfl (.some rfl) ?_
                refine vd_off rfl rfl rfl rfl rfl rfl (.some rfl) ?_
                refine vd_off rfl rfl rfl rfl rfl rfl (.some rfl) ?_
                refine vd_off rfl rfl rfl rfl rfl rfl (.some rfl) ?_
                refine vd_val rfl rfl rfl (.some rfl) (val_pick rfl rfl) ?_
                refine vd_nil ?_
                refine vc_cond rfl (fun h => by cases h) (fun _ => ?_)
                refine vc_skip ?_
                refine vc_region ?_
                refine vl_val rfl (.some rfl) (val_add rfl rfl (by first | exact w_i64 (by omega) (by omega) | rfl)) ?_
                refine vl_val rfl (.some rfl) (val_move rfl) ?_
                refine vl_nil ?_
                exact ⟨(r.l.length - (j + 1)), _, _, _, by omega, (by repeat (first | exact trivial | refine ⟨rfl, ?_⟩ | refine ⟨le_item rfl (by first | rfl | (congr 1; omega) | (simp; done) | (simp; omega)), ?_⟩)), (by repeat (first | exact .nil | (apply Sub.cons; · repeat (first | exact .head | apply Take.tail)))), ⟨j + 1, by omega, rfl, rfl, rfl⟩⟩
            · (try replace hc6 := of_decide_eq_false hc6)
              refine vc_exit ?_
              refine vc_region ?_
              refine vl_val rfl (.some rfl) (val_add rfl rfl (by first | exact w_i64 (by omega) (by omega) | rfl)) ?_
              refine vl_val rfl (.some rfl) (val_move rfl) ?_
              refine vl_nil ?_
              exact ⟨(D.length - (p + 1)), _, _, _, by omega, (by repeat (first | exact trivial | refine ⟨rfl, ?_⟩ | refine ⟨le_item rfl (by first | rfl | (congr 1; omega) | (simp; done) | (simp; omega)), ?_⟩)), (by repeat (first | exact .nil | (apply Sub.cons; · repeat (first | exact .head | apply Take.tail)))), ⟨p + 1, by omega, rfl, rfl, rfl⟩⟩
      · (try replace hc4 := of_decide_eq_false hc4)
        refine vc_exit ?_
        refine vc_seq ?_
        refine vc_seq ?_
        refine vc_region ?_
        refine vl_val rfl (.some rfl) (val_move rfl) ?_
        refine vl_val rfl (.some rfl) (by first | exact val_fieldAddr Try.runUnderlying24 rfl Try.sizeOf3 rfl | exact val_fieldAddrR Try.runUnderlying24 rfl Try.sizeOf3 rfl) ?_
        refine vl_val rfl (.some rfl) (val_load Try.isAgg3 rfl (by first | exact cell_cells (by repeat (first | exact .head | apply In.tail | apply Take.tail | apply Upd.tail)) rfl | exact cell_rd (rd_sl (by repeat (first | exact .head | apply In.tail | apply Take.tail | apply Upd.tail))) (by first | exact bcells_at (by omega) | exact ucells_at (by omega) | exact icells_at (by omega) | exact tcells_at (by omega) | exact bcells_get (by omega) | exact icells_get (by omega) | exact tcells_get (by omega) | exact ucells_get (by omega)) | exact cell_rd (rd_old (by assumption) rfl) (by first | exact bcells_at (by omega) | exact ucells_at (by omega) | exact icells_at (by omega) | exact tcells_at (by omega) | exact bcells_get (by omega) | exact icells_get (by omega) | exact tcells_get (by omega) | exact ucells_get (by omega)) | exact cell_old (by assumption) (by simp [fps]))) ?_
        refine vl_val rfl (.some rfl) (val_ge rfl rfl) ?_
        refine vl_nil ?_
        refine vc_cond rfl (fun hc8 => ?_) (fun hc8 => ?_)
        · (try replace hc8 := of_decide_eq_true hc8)
          refine vc_seq ?_
          refine vc_region ?_
          refine vl_callV rfl rfl (.some rfl) Try.call14 rfl (fun w hw => kLives w) ?_
          refine vl_val rfl (.some rfl) (val_assign rfl) ?_
          refine vl_nil ?_
          refine vc_ret ?_
          refine ⟨_, [], _, res1 Try.results3 rfl, .nil, ?_⟩
          rfl
        · (try replace hc8 := of_decide_eq_false hc8)
          refine vc_skip ?_
          refine vc_seq ?_
          refine vc_seq ?_
          refine vc_region ?_
          refine vl_val rfl (.some rfl) (val_move rfl) ?_
          have hans := few_ans (t := t) (fun j hj => hfl j hj (by omega)) (by omega)
          refine vl_call (C := KQ b1 t As1 cs1 S Ac1 cc1 K1) rfl rfl (.some rfl) Try.call18 rfl (by repeat (first | exact .nil | (apply Sub.cons; · repeat (first | exact .head | apply Take.tail)))) (fun w hw => qAnswers hK1 hk1.ok w) (fun v H' h => ?_)
          rw [hans] at h
          obtain ⟨A7, c7, rfl, rfl⟩ := h
          show VL _ _ _ _ _ (_ :: _ :: _ :: _ :: _)
          refine vl_val rfl (.some rfl) (val_lenSl Try.runUnderlying35 rfl) ?_
          refine vl_val rfl (.some rfl) (val_move rfl) ?_
          refine vl_nil ?_
          refine vc_block ?_
          refine vc_loopw (fun q E H => ∃ p : Nat, p ≤ V1.length ∧ q = V1.length - p ∧ E = [(5, .pointer (some ⟨b1, 0, none⟩)), (6, .int .i64 n), (116, .slice A7 (List.replicate V1.length (n : Int)).length c7), (117, .int .i64 (List.replicate V1.length (n : Int)).length), (118, .int .i64 p)] ∧ H = [IW A7 (List.replicate V1.length (n : Int)).length c7 (List.replicate V1.length (n : Int))] ++ KQ b1 t As1 cs1 S Ac1 cc1 K1) (V1.length) ⟨_, _, _, ⟨0, by omega, rfl, rfl, rfl⟩, (by repeat (first | exact trivial | refine ⟨rfl, ?_⟩ | refine ⟨le_item rfl (by first | rfl | (congr 1; omega) | (simp; done) | (simp; omega)), ?_⟩)), (by repeat (first | exact .nil | (apply Sub.cons; · repeat (first | exact .head | apply Take.tail))))⟩ ?_
          intro q E H hI
          obtain ⟨p, hp, rfl, rfl, rfl⟩ := hI
          refine vc_seq ?_
          refine vc_region ?_
          refine vl_val rfl (.some rfl) (val_lt rfl rfl) ?_
          refine vl_nil ?_
          refine vc_seq ?_
          refine vc_cond rfl (fun hc9 => ?_) (fun hc9 => ?_)
          · (try replace hc9 := of_decide_eq_true hc9)
            refine vc_skip ?_
            refine vc_seq ?_
            refine vc_block ?_
            refine vc_seq ?_
            refine vc_region ?_
            refine vl_val rfl (.some rfl) (val_indexAddr Try.runUnderlying35 Try.sizeOf3 rfl rfl (rd_sl (vs := icells .i64 (List.replicate V1.length (n : Int))) (by repeat (first | exact .head | apply In.tail | apply Take.tail | apply Upd.tail))) (by omega) (by omega) (by rw [icells_length, List.length_replicate]; simp at *; omega)) ?_
            refine vl_val rfl (.some rfl) (val_load Try.isAgg3 rfl (cell_rd (rd_sl (vs := icells .i64 (List.replicate V1.length (n : Int))) (by repeat (first | exact .head | apply In.tail | apply Take.tail | apply Upd.tail))) (ic_rep (i := p) (by simp at *; omega)))) ?_
            refine vl_val rfl (.some rfl) (val_assign rfl) ?_
            refine vl_nil ?_
            refine vc_seq ?_
            refine vc_region ?_
            refine vl_val rfl (.some rfl) (val_move rfl) ?_
            refine vl_val rfl (.some rfl) (val_move rfl) ?_
            refine vl_val rfl (.some rfl) (val_net rfl rfl (rfl)) ?_
            refine vl_nil ?_
            refine vc_cond rfl (fun h => by cases h) (fun _ => ?_)
            refine vc_skip ?_
            refine vc_region ?_
            refine vl_val rfl (.some rfl) (val_add rfl rfl (by first | exact w_i64 (by omega) (by omega) | rfl)) ?_
            refine vl_val rfl (.some rfl) (val_move rfl) ?_
            refine vl_nil ?_
            exact ⟨(V1.length - (p + 1)), _, _, _, by simp at *; omega, (by repeat (first | exact trivial | refine ⟨rfl, ?_⟩ | refine ⟨le_item rfl (by first | rfl | (congr 1; omega) | (simp; done) | (simp; omega)), ?_⟩)), (by repeat (first | exact .nil | (apply Sub.cons; · repeat (first | exact .head | apply Take.tail)))), ⟨p + 1, by simp at *; omega, rfl, rfl, rfl⟩⟩
          · (try replace hc9 := of_decide_eq_false hc9)
            refine vc_exit ?_
            refine vc_seq ?_
            refine vc_region ?_
            refine vl_val rfl (.some rfl) (val_move rfl) ?_
            refine vl_call (C := KQ b1 t As1 cs1 S Ac1 cc1 K1) rfl rfl (.some rfl) Try.call19 rfl (by repeat (first | exact .nil | (apply Sub.cons; · repeat (first | exact .head | apply Take.tail)))) (fun w hw => qEstimate hK1 hk1.ok w) (fun v H' h => ?_)
            obtain ⟨rfl, rfl⟩ := h
            rw [hans, few_mid (by omega)]
            show VL _ _ _ _ _ (_ :: _ :: _ :: _)
            refine vl_val rfl (.some rfl) (val_move rfl) ?_
            refine vl_val rfl (.some rfl) (val_eqt rfl rfl (rfl)) ?_
            refine vl_val rfl (.some rfl) (val_move rfl) ?_
            refine vl_on rfl rfl rfl rfl ?_
            refine vl_callV rfl rfl (.some rfl) Try.call14 rfl (fun w hw => kLives w) ?_
            refine vl_val rfl (.some rfl) (val_pick rfl rfl) ?_
            refine vl_val rfl (.some rfl) (val_assign rfl) ?_
            refine vl_nil ?_
            refine vc_ret ?_
            refine ⟨_, [], _, res1 Try.results3 rfl, .nil, ?_⟩
            rfl

theorem law_KmvFew (T : Int) (A : Option Addr) (c : Nat) (q : List Sq) (Kk Mm : Int) (B : Option Addr) (d : Nat) (l : List Nat) (w : World) (g0 : -9223372036854775808 ≤ T ∧ T < 9223372036854775808) (hr : Reads w A (q.flatMap sqC)) (g1 : q.length ≤ c) (g2 : c ≤ maxLen) (g3 : ∀ v ∈ q, v.1 < 18446744073709551616 ∧ v.2.1 < 18446744073709551616 ∧ True) (g4 : -9223372036854775808 ≤ Kk ∧ Kk < 9223372036854775808) (g5 : -9223372036854775808 ≤ Mm ∧ Mm < 9223372036854775808) (hr1 : Reads w B (ucells l)) (gl1 : l.length ≤ d) (gd1 : d ≤ maxLen) (gu1 : ∀ x ∈ l, x < 18446744073709551616) : FnV Try.prog 3 [.agg #[.int .i64 T, .slice A q.length c, .int .i64 Kk, .int .i64 Mm], .slice B l.length d] (.bool true) w := by
  have hll : l.length ≤ 9223372036854775807 := by unfold maxLen at gd1; omega
  have hb : ∀ s ∈ q.map toSd, s.1 < 18446744073709551616 ∧ s.2 < 18446744073709551616 := fun s hs => by
    obtain ⟨v, hv, rfl⟩ := List.mem_map.1 hs
    exact ⟨(g3 v hv).1, (g3 v hv).2.1⟩
  have hl : q.length = (q.map toSd).length := (List.length_map _).symm
  rw [← seed_sq] at hr
  rw [hl]
  have hS : (q.map toSd).length < 9223372036854775808 := by unfold maxLen at g2; omega
  by_cases hg : goodK T (q.map toSd) Kk Mm
  · obtain ⟨t, rfl⟩ : ∃ t : Nat, T = t := ⟨T.toNat, by have := hg.1; omega⟩
    exact fGood2 t Kk Mm A c _ hS hb w hr hg B d l hll gu1 hr1 gl1
  · exact fBad T Kk Mm A c _ hS hb w hr hg B d l hll gu1

end Go.Proofs.Ytclknendeeljaaa.K
