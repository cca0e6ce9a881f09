/- Walks of the program's functions, printed by a program of this session; Lean checks them. -/
import Derived.Test.YtdehjgpdcdjhjaaYgi
namespace Go.Proofs.Ytdehjgpdcdjhjaa.K
open Go Go.RowKit Go.Proofs
set_option linter.unusedVariables false
set_option linter.unusedSimpArgs false


theorem good0 {p : Vk} (h : p.k = 0) : goodV p = true ↔ p = z3 := by
  unfold goodV
  rw [if_pos h]
  exact decide_eq_true_iff
theorem sound_iff (z : Zn) (nu : List Bool) (rows : Int) : soundZ z nu rows = true ↔ (z.n = ((nu.count true : Nat) : Int) ∧ goodV z.lo = true ∧ goodV z.hi = true ∧ z.lo.k = z.hi.k ∧ (z.lo.k = 0 ↔ ((nu.count true : Nat) : Int) = rows) ∧ cmpV z.lo z.hi ≤ 0) := by
  unfold soundZ
  by_cases h1 : z.n = ((nu.count true : Nat) : Int)
  · rw [if_neg (fun h => h h1)]
    by_cases h2 : z.n = rows
    · rw [if_pos h2, decide_eq_true_iff]
      constructor
      · intro h
        simp only [Zn.mk.injEq, true_and] at h
        obtain ⟨e1, e2⟩ := h
        rw [e1, e2]
        exact ⟨h1, by decide, by decide, rfl, ⟨fun _ => by rw [← h1, h2], fun _ => rfl⟩, by decide⟩
      · rintro ⟨_, g1, g2, g3, g4, _⟩
        have hk : z.lo.k = 0 := g4.2 (by rw [← h1, h2])
        rw [(good0 hk).1 g1, (good0 (by rw [← g3]; exact hk)).1 g2]
    · rw [if_neg h2]
      simp only [Bool.and_eq_true, decide_eq_true_eq]
      constructor
      · rintro ⟨⟨⟨⟨a, b⟩, c⟩, d⟩, e⟩
        exact ⟨h1, c, d, b, ⟨fun h => absurd h a, fun h => absurd (h1.trans h) h2⟩, e⟩
      · rintro ⟨_, c, d, b, a, e⟩
        exact ⟨⟨⟨⟨fun h => h2 (h1.trans (a.1 h)), b⟩, c⟩, d⟩, e⟩
  · rw [if_pos h1]
    exact ⟨fun h => (by cases h), fun h => absurd h.1 h1⟩

set_option maxRecDepth 20000 in
theorem xcGood (An Ai : Option Addr) (cn ci : Nat) (nl : List Bool) (il : List Int) (hn : nl.length < 9223372036854775808) (hi : il.length < 9223372036854775808) (w : World) (hrn : Reads w An (tcells nl)) (hri : Reads w Ai (icells .i64 il)) : FnV Try.prog 65 [(VA An cn nl Ai ci il)] (.bool (decide (okV nl il))) w := by
  refine fn_enter Try.func65 rfl Try.ntmps65 rfl ?_
  refine vc_seq ?_
  refine vc_region ?_
  refine vl_box rfl rfl (.some rfl) rfl (fun r1 => ?_)
  refine vl_val rfl (.some rfl) (val_assign rfl) ?_
  refine vl_nil ?_
  refine vc_seq ?_
  refine vc_seq ?_
  refine vc_region ?_
  refine vl_val rfl (.some rfl) (by first | exact val_fieldAddr Try.runUnderlying87 rfl Try.sizeOf79 rfl | exact val_fieldAddrR Try.runUnderlying87 rfl Try.sizeOf79 rfl) ?_
  refine vl_val rfl (.some rfl) (val_load Try.isAgg79 rfl (by first | exact cell_cells (by repeat constructor) rfl | exact cell_rd (by first | exact rd_sl (by repeat constructor) | exact rd_old (by assumption) rfl) (by first | exact bcells_at (by omega) | exact ucells_at (by omega) | exact icells_at (by omega) | exact tcells_at (by omega) | exact bcells_get (by omega) | exact icells_get (by omega) | exact tcells_get (by omega) | exact ucells_get (by omega)) | exact cell_old (by assumption) (by simp [fps]))) ?_
  refine vl_val rfl (.some rfl) (val_lenSl Try.runUnderlying79 rfl) ?_
  refine vl_val rfl (.some rfl) (by first | exact val_fieldAddr Try.runUnderlying87 rfl Try.sizeOf22 rfl | exact val_fieldAddrR Try.runUnderlying87 rfl Try.sizeOf22 rfl) ?_
  refine vl_val rfl (.some rfl) (val_load Try.isAgg22 rfl (by first | exact cell_cells (by repeat constructor) rfl | exact cell_rd (by first | exact rd_sl (by repeat constructor) | exact rd_old (by assumption) rfl) (by first | exact bcells_at (by omega) | exact ucells_at (by omega) | exact icells_at (by omega) | exact tcells_at (by omega) | exact bcells_get (by omega) | exact icells_get (by omega) | exact tcells_get (by omega) | exact ucells_get (by omega)) | exact cell_old (by assumption) (by simp [fps]))) ?_
  refine vl_val rfl (.some rfl) (val_lenSl Try.runUnderlying22 rfl) ?_
  refine vl_val rfl (.some rfl) (val_ne rfl rfl) ?_
  refine vl_val rfl (.some rfl) (val_move rfl) ?_
  refine vl_split (t := 12) rfl (fun hg12 => ?_) (fun hg12 => ?_)
  · (try replace hg12 := of_decide_eq_true hg12)
    refine vl_off rfl rfl rfl rfl (.some rfl) ?_
    refine vl_off rfl rfl rfl rfl (.some rfl) ?_
    refine vl_off rfl rfl rfl rfl (.some rfl) ?_
    refine vl_off rfl rfl rfl rfl (.some rfl) ?_
    refine vl_val rfl (.some rfl) (val_pick rfl rfl) ?_
    refine vl_nil ?_
    refine vc_cond rfl (fun _ => ?_) (fun h => by cases h)
    refine vc_seq ?_
    refine vc_region ?_
    refine vl_val rfl (.some rfl) (val_assign rfl) ?_
    refine vl_nil ?_
    refine vc_ret ?_
    refine ⟨_, [], _, res1 Try.results65 rfl, .nil, ?_⟩
    show _ = _; rw [decide_eq_false (fun h => by have h1 := h.1; have h2 := h.2.1; omega)]
  · (try replace hg12 := of_decide_eq_false hg12)
    refine vl_on rfl rfl rfl rfl ?_
    refine vl_val rfl (.some rfl) (by first | exact val_fieldAddr Try.runUnderlying87 rfl Try.sizeOf22 rfl | exact val_fieldAddrR Try.runUnderlying87 rfl Try.sizeOf22 rfl) ?_
    refine vl_on rfl rfl rfl rfl ?_
    refine vl_val rfl (.some rfl) (val_load Try.isAgg22 rfl (by first | exact cell_cells (by repeat constructor) rfl | exact cell_rd (by first | exact rd_sl (by repeat constructor) | exact rd_old (by assumption) rfl) (by first | exact bcells_at (by omega) | exact ucells_at (by omega) | exact icells_at (by omega) | exact tcells_at (by omega) | exact bcells_get (by omega) | exact icells_get (by omega) | exact tcells_get (by omega) | exact ucells_get (by omega)) | exact cell_old (by assumption) (by simp [fps]))) ?_
    refine vl_on rfl rfl rfl rfl ?_
    refine vl_val rfl (.some rfl) (val_lenSl Try.runUnderlying22 rfl) ?_
    refine vl_on rfl rfl rfl rfl ?_
    refine vl_val rfl (.some rfl) (val_gt rfl rfl) ?_
    refine vl_val rfl (.some rfl) (val_pick rfl rfl) ?_
    refine vl_nil ?_
    refine vc_cond rfl (fun hc0 => ?_) (fun hc0 => ?_)
    · (try replace hc0 := of_decide_eq_true hc0)
      refine vc_seq ?_
      refine vc_region ?_
      refine vl_val rfl (.some rfl) (val_assign rfl) ?_
      refine vl_nil ?_
      refine vc_ret ?_
      refine ⟨_, [], _, res1 Try.results65 rfl, .nil, ?_⟩
      show _ = _; rw [decide_eq_false (fun h => by have h1 := h.1; have h2 := h.2.1; omega)]
    · (try replace hc0 := of_decide_eq_false hc0)
      refine vc_skip ?_
      refine vc_seq ?_
      refine vc_seq ?_
      refine vc_region ?_
      refine vl_val rfl (.some rfl) (by first | exact val_fieldAddr Try.runUnderlying87 rfl Try.sizeOf22 rfl | exact val_fieldAddrR Try.runUnderlying87 rfl Try.sizeOf22 rfl) ?_
      refine vl_val rfl (.some rfl) (val_load Try.isAgg22 rfl (by first | exact cell_cells (by repeat constructor) rfl | exact cell_rd (by first | exact rd_sl (by repeat constructor) | exact rd_old (by assumption) rfl) (by first | exact bcells_at (by omega) | exact ucells_at (by omega) | exact icells_at (by omega) | exact tcells_at (by omega) | exact bcells_get (by omega) | exact icells_get (by omega) | exact tcells_get (by omega) | exact ucells_get (by omega)) | exact cell_old (by assumption) (by simp [fps]))) ?_
      refine vl_val rfl (.some rfl) (val_lenSl Try.runUnderlying22 rfl) ?_
      refine vl_val rfl (.some rfl) (val_move rfl) ?_
      refine vl_nil ?_
      refine vc_block ?_
      refine vc_loopw (fun k E H => ∃ i : Nat, i ≤ il.length ∧ k = il.length - i ∧ (∀ j, j < i → 0 ≤ il.getD j 0 ∧ il.getD j 0 < 512 ∧ (nl.getD j false = true → il.getD j 0 = 0)) ∧ E = [(1, .pointer (some ⟨r1, 0, none⟩)), (19, .slice Ai il.length ci), (20, .int .i64 il.length), (21, .int .i64 i)] ∧ H = [cells r1 [.slice An nl.length cn, .slice Ai il.length ci] 87]) (il.length) ⟨_, _, _, ⟨0, by omega, rfl, fun j hj => absurd hj (by omega), rfl, rfl⟩, (by repeat (first | exact trivial | refine ⟨rfl, ?_⟩ | refine ⟨le_item rfl (by first | rfl | (congr 1; omega) | (simp; done) | (simp; omega)), ?_⟩)), (by repeat constructor)⟩ ?_
      intro k E H hI
      obtain ⟨i, hil, rfl, hall, rfl, rfl⟩ := hI
      refine vc_seq ?_
      refine vc_region ?_
      refine vl_val rfl (.some rfl) (val_lt rfl rfl) ?_
      refine vl_nil ?_
      refine vc_seq ?_
      refine vc_cond rfl (fun hc1 => ?_) (fun hc1 => ?_)
      · (try replace hc1 := of_decide_eq_true hc1)
        refine vc_skip ?_
        refine vc_seq ?_
        refine vc_block ?_
        refine vc_seq ?_
        refine vc_region ?_
        refine vl_val rfl (.some rfl) (val_move rfl) ?_
        refine vl_val rfl (.some rfl) (val_indexAddr Try.runUnderlying22 Try.sizeOf3 rfl rfl (by first | exact rd_sl (by repeat constructor) | exact rd_slr (by repeat constructor) | exact rd_old (by assumption) rfl) (by omega) (by omega) (by first | omega | (simp only [bcells_length, icells_length, ucells_length, tcells_length]; omega) | (simp only [bcells_length, icells_length, ucells_length, tcells_length, fillG_length]; omega) | (simp; omega))) ?_
        refine vl_val rfl (.some rfl) (val_load Try.isAgg3 rfl (by first | exact cell_cells (by repeat constructor) rfl | exact cell_rd (by first | exact rd_sl (by repeat constructor) | exact rd_old (by assumption) rfl) (by first | exact bcells_at (by omega) | exact ucells_at (by omega) | exact icells_at (by omega) | exact tcells_at (by omega) | exact bcells_get (by omega) | exact icells_get (by omega) | exact tcells_get (by omega) | exact ucells_get (by omega)) | exact cell_old (by assumption) (by simp [fps]))) ?_
        refine vl_val rfl (.some rfl) (val_assign rfl) ?_
        refine vl_val rfl (.some rfl) (val_assign rfl) ?_
        refine vl_nil ?_
        refine vc_seq ?_
        refine vc_region ?_
        refine vl_val rfl (.some rfl) (val_move rfl) ?_
        refine vl_val rfl (.some rfl) (val_lt rfl rfl) ?_
        refine vl_val rfl (.some rfl) (val_move rfl) ?_
        refine vl_split (t := 28) rfl (fun hg28 => ?_) (fun hg28 => ?_)
        · (try replace hg28 := of_decide_eq_true hg28)
          refine vl_off rfl rfl rfl rfl (.some rfl) ?_
          refine vl_off rfl rfl rfl rfl (.some rfl) ?_
          refine vl_val rfl (.some rfl) (val_pick rfl rfl) ?_
          refine vl_val rfl (.some rfl) (val_move rfl) ?_
          refine vl_off rfl rfl rfl rfl (.some rfl) ?_
          refine vl_off rfl rfl rfl rfl (.some rfl) ?_
          refine vl_off rfl rfl rfl rfl (.some rfl) ?_
          refine vl_off rfl rfl rfl rfl (.some rfl) ?_
          refine vl_off rfl rfl rfl rfl (.some rfl) ?_
          refine vl_off rfl rfl rfl rfl (.some rfl) ?_
          refine vl_offU rfl rfl rfl rfl (.some rfl) ?_
          refine vl_offU rfl rfl rfl rfl (.some rfl) ?_
          refine vl_off rfl rfl rfl rfl (.some rfl) ?_
          refine vl_val rfl (.some rfl) (val_pick rfl rfl) ?_
          refine vl_nil ?_
          refine vc_cond rfl (fun _ => ?_) (fun h => by cases h)
          refine vc_seq ?_
          refine vc_region ?_
          refine vl_val rfl (.some rfl) (val_assign rfl) ?_
          refine vl_nil ?_
          refine vc_ret ?_
          refine ⟨_, [], _, res1 Try.results65 rfl, .nil, ?_⟩
          show _ = _; rw [decide_eq_false (fun h => by
            obtain ⟨h4, h5, h6⟩ := h.2.2 i (by omega)
            first | omega | (have := h6 (by assumption); omega))]
        · (try replace hg28 := of_decide_eq_false hg28)
          refine vl_on rfl rfl rfl rfl ?_
          refine vl_val rfl (.some rfl) (val_move rfl) ?_
          refine vl_on rfl rfl rfl rfl ?_
          refine vl_val rfl (.some rfl) (val_ge rfl rfl) ?_
          refine vl_val rfl (.some rfl) (val_pick rfl rfl) ?_
          refine vl_val rfl (.some rfl) (val_move rfl) ?_
          refine vl_split (t := 32) rfl (fun hg32 => ?_) (fun hg32 => ?_)
          · (try replace hg32 := of_decide_eq_true hg32)
            refine vl_off rfl rfl rfl rfl (.some rfl) ?_
            refine vl_off rfl rfl rfl rfl (.some rfl) ?_
            refine vl_off rfl rfl rfl rfl (.some rfl) ?_
            refine vl_off rfl rfl rfl rfl (.some rfl) ?_
            refine vl_off rfl rfl rfl rfl (.some rfl) ?_
            refine vl_off rfl rfl rfl rfl (.some rfl) ?_
            refine vl_offU rfl rfl rfl rfl (.some rfl) ?_
            refine vl_offU rfl rfl rfl rfl (.some rfl) ?_
            refine vl_off rfl rfl rfl rfl (.some rfl) ?_
            refine vl_val rfl (.some rfl) (val_pick rfl rfl) ?_
            refine vl_nil ?_
            refine vc_cond rfl (fun _ => ?_) (fun h => by cases h)
            refine vc_seq ?_
            refine vc_region ?_
            refine vl_val rfl (.some rfl) (val_assign rfl) ?_
            refine vl_nil ?_
            refine vc_ret ?_
            refine ⟨_, [], _, res1 Try.results65 rfl, .nil, ?_⟩
            show _ = _; rw [decide_eq_false (fun h => by
              obtain ⟨h4, h5, h6⟩ := h.2.2 i (by omega)
              first | omega | (have := h6 (by assumption); omega))]
          · (try replace hg32 := of_decide_eq_false hg32)
            refine vl_on rfl rfl rfl rfl ?_
            refine vl_val rfl (.some rfl) (by first | exact val_fieldAddr Try.runUnderlying87 rfl Try.sizeOf79 rfl | exact val_fieldAddrR Try.runUnderlying87 rfl Try.sizeOf79 rfl) ?_
            refine vl_on rfl rfl rfl rfl ?_
            refine vl_val rfl (.some rfl) (val_load Try.isAgg79 rfl (by first | exact cell_cells (by repeat constructor) rfl | exact cell_rd (by first | exact rd_sl (by repeat constructor) | exact rd_old (by assumption) rfl) (by first | exact bcells_at (by omega) | exact ucells_at (by omega) | exact icells_at (by omega) | exact tcells_at (by omega) | exact bcells_get (by omega) | exact icells_get (by omega) | exact tcells_get (by omega) | exact ucells_get (by omega)) | exact cell_old (by assumption) (by simp [fps]))) ?_
            refine vl_on rfl rfl rfl rfl ?_
            refine vl_val rfl (.some rfl) (val_move rfl) ?_
            refine vl_on rfl rfl rfl rfl ?_
            refine vl_val rfl (.some rfl) (val_indexAddr Try.runUnderlying79 Try.sizeOf4 rfl rfl (by first | exact rd_sl (by repeat constructor) | exact rd_slr (by repeat constructor) | exact rd_old (by assumption) rfl) (by omega) (by omega) (by first | omega | (simp only [bcells_length, icells_length, ucells_length, tcells_length]; omega) | (simp only [bcells_length, icells_length, ucells_length, tcells_length, fillG_length]; omega) | (simp; omega))) ?_
            refine vl_on rfl rfl rfl rfl ?_
            refine vl_val rfl (.some rfl) (val_load Try.isAgg4 rfl (by first | exact cell_cells (by repeat constructor) rfl | exact cell_rd (by first | exact rd_sl (by repeat constructor) | exact rd_old (by assumption) rfl) (by first | exact bcells_at (by omega) | exact ucells_at (by omega) | exact icells_at (by omega) | exact tcells_at (by omega) | exact bcells_get (by omega) | exact icells_get (by omega) | exact tcells_get (by omega) | exact ucells_get (by omega)) | exact cell_old (by assumption) (by simp [fps]))) ?_
            refine vl_on rfl rfl rfl rfl ?_
            refine vl_val rfl (.some rfl) (val_move rfl) ?_
            refine vl_split (t := 38) rfl (fun hg38 => ?_) (fun hg38 => ?_)
            · (try replace hg38 := of_decide_eq_true hg38)
              refine vl_on rfl rfl rfl rfl ?_
              refine vl_val rfl (.some rfl) (val_move rfl) ?_
              refine vl_on rfl rfl rfl rfl ?_
              refine vl_val rfl (.some rfl) (val_ne rfl rfl) ?_
              refine vl_on rfl rfl rfl rfl ?_
              refine vl_val rfl (.some rfl) (val_pick rfl rfl) ?_
              refine vl_val rfl (.some rfl) (val_pick rfl rfl) ?_
              refine vl_nil ?_
              refine vc_cond rfl (fun hc2 => ?_) (fun hc2 => ?_)
              · (try replace hc2 := of_decide_eq_true hc2)
                refine vc_seq ?_
                refine vc_region ?_
                refine vl_val rfl (.some rfl) (val_assign rfl) ?_
                refine vl_nil ?_
                refine vc_ret ?_
                refine ⟨_, [], _, res1 Try.results65 rfl, .nil, ?_⟩
                show _ = _; rw [decide_eq_false (fun h => by
                  obtain ⟨h4, h5, h6⟩ := h.2.2 i (by omega)
                  first | omega | (have := h6 (by assumption); omega))]
              · (try replace hc2 := of_decide_eq_false hc2)
                refine vc_skip ?_
                refine vc_region ?_
                refine vl_val rfl (.some rfl) (val_add rfl rfl (by first | exact w_i64 (by omega) (by omega) | rfl)) ?_
                refine vl_val rfl (.some rfl) (val_move rfl) ?_
                refine vl_nil ?_
                exact ⟨il.length - (i + 1), _, _, _, by omega, (by repeat (first | exact trivial | refine ⟨rfl, ?_⟩ | refine ⟨le_item rfl (by first | rfl | (congr 1; omega) | (simp; done) | (simp; omega)), ?_⟩)), (by repeat constructor), ⟨i + 1, by omega, rfl, fun j hj => by
                  rcases Nat.lt_or_ge j i with h | h
                  · exact hall j h
                  · obtain rfl : j = i := by omega
                    refine ⟨by omega, by omega, fun hb => ?_⟩
                    first | omega | (rw [hb] at hg38; cases hg38), rfl, rfl⟩⟩
            · (try replace hg38 := of_decide_eq_false hg38)
              refine vl_off rfl rfl rfl rfl (.some rfl) ?_
              refine vl_off rfl rfl rfl rfl (.some rfl) ?_
              refine vl_on rfl rfl rfl rfl ?_
              refine vl_val rfl (.some rfl) (val_pick rfl rfl) ?_
              refine vl_val rfl (.some rfl) (val_pick rfl rfl) ?_
              refine vl_nil ?_
              refine vc_cond rfl (fun h => by cases h) (fun _ => ?_)
              refine vc_skip ?_
              refine vc_region ?_
              refine vl_val rfl (.some rfl) (val_add rfl rfl (by first | exact w_i64 (by omega) (by omega) | rfl)) ?_
              refine vl_val rfl (.some rfl) (val_move rfl) ?_
              refine vl_nil ?_
              exact ⟨il.length - (i + 1), _, _, _, by omega, (by repeat (first | exact trivial | refine ⟨rfl, ?_⟩ | refine ⟨le_item rfl (by first | rfl | (congr 1; omega) | (simp; done) | (simp; omega)), ?_⟩)), (by repeat constructor), ⟨i + 1, by omega, rfl, fun j hj => by
                rcases Nat.lt_or_ge j i with h | h
                · exact hall j h
                · obtain rfl : j = i := by omega
                  refine ⟨by omega, by omega, fun hb => ?_⟩
                  first | omega | (rw [hb] at hg38; cases hg38), rfl, rfl⟩⟩
      · (try replace hc1 := of_decide_eq_false hc1)
        refine vc_exit ?_
        refine vc_seq ?_
        refine vc_region ?_
        refine vl_val rfl (.some rfl) (val_assign rfl) ?_
        refine vl_nil ?_
        refine vc_ret ?_
        refine ⟨_, [], _, res1 Try.results65 rfl, .nil, ?_⟩
        show _ = _; rw [decide_eq_true ⟨by omega, by omega, fun j hj => hall j (by omega)⟩]
set_option maxRecDepth 20000 in
set_option maxHeartbeats 2000000 in
theorem xGoodS (n : Int) (Ac : Option Addr) (cc : Nat) (vs : List Vc) (Az : Option Addr) (cz : Nat) (zs : List Zn) (hlc : vs.length < 4611686018427387904) (hlz : zs.length < 4611686018427387904) (hwz : ∀ z ∈ zs, WV z.lo ∧ WV z.hi) (w : World) (hrs : SgR w Ac vs Az zs) : FnV Try.prog 38 [sgV n Ac cc vs Az cz zs] (.bool (decide (goodSg ⟨n, vs.map vcP, zs⟩))) w := by
  have hml : (vs.map vcP).length = vs.length := List.length_map _
  have hmg : ∀ i, (vs.map vcP).getD i ([], []) = vcP (vs.getD i vc0) := fun i => map_getDs vc0 ([], []) rfl
  refine fn_enter Try.func38 rfl Try.ntmps38 rfl ?_
  refine vc_seq ?_
  refine vc_region ?_
  refine vl_box rfl rfl (.some rfl) rfl (fun r1 => ?_)
  refine vl_val rfl (.some rfl) (val_assign rfl) ?_
  refine vl_nil ?_
  refine vc_seq ?_
  refine vc_seq ?_
  refine vc_region ?_
  refine vl_val rfl (.some rfl) (by first | exact val_fieldAddr Try.runUnderlying41 rfl Try.sizeOf3 rfl | exact val_fieldAddrR Try.runUnderlying41 rfl Try.sizeOf3 rfl) ?_
  refine vl_val rfl (.some rfl) (val_load Try.isAgg3 rfl (by first | exact cell_cells (by repeat constructor) rfl | exact cell_rd (by first | exact rd_sl (by repeat constructor) | exact rd_old (by assumption) rfl) (by first | exact bcells_at (by omega) | exact ucells_at (by omega) | exact icells_at (by omega) | exact tcells_at (by omega) | exact bcells_get (by omega) | exact icells_get (by omega) | exact tcells_get (by omega) | exact ucells_get (by omega)) | exact cell_old (by assumption) (by simp [fps]))) ?_
  refine vl_val rfl (.some rfl) (val_lt rfl rfl) ?_
  refine vl_val rfl (.some rfl) (val_move rfl) ?_
  refine vl_split (t := 12) rfl (fun hg12 => ?_) (fun hg12 => ?_)
  · (try replace hg12 := of_decide_eq_true hg12)
    refine vl_off rfl rfl rfl rfl (.some rfl) ?_
    refine vl_off rfl rfl rfl rfl (.some rfl) ?_
    refine vl_off rfl rfl rfl rfl (.some rfl) ?_
    refine vl_val rfl (.some rfl) (val_pick rfl rfl) ?_
    refine vl_val rfl (.some rfl) (val_move rfl) ?_
    refine vl_off rfl rfl rfl rfl (.some rfl) ?_
    refine vl_off rfl rfl rfl rfl (.some rfl) ?_
    refine vl_off rfl rfl rfl rfl (.some rfl) ?_
    refine vl_off rfl rfl rfl rfl (.some rfl) ?_
    refine vl_val rfl (.some rfl) (val_pick rfl rfl) ?_
    refine vl_val rfl (.some rfl) (val_move rfl) ?_
    refine vl_off rfl rfl rfl rfl (.some rfl) ?_
    refine vl_off rfl rfl rfl rfl (.some rfl) ?_
    refine vl_off rfl rfl rfl rfl (.some rfl) ?_
    refine vl_off rfl rfl rfl rfl (.some rfl) ?_
    refine vl_val rfl (.some rfl) (val_pick rfl rfl) ?_
    refine vl_val rfl (.some rfl) (val_move rfl) ?_
    refine vl_off rfl rfl rfl rfl (.some rfl) ?_
    refine vl_off rfl rfl rfl rfl (.some rfl) ?_
    refine vl_off rfl rfl rfl rfl (.some rfl) ?_
    refine vl_off rfl rfl rfl rfl (.some rfl) ?_
    refine vl_off rfl rfl rfl rfl (.some rfl) ?_
    refine vl_off rfl rfl rfl rfl (.some rfl) ?_
    refine vl_off rfl rfl rfl rfl (.some rfl) ?_
    refine vl_val rfl (.some rfl) (val_pick rfl rfl) ?_
    refine vl_nil ?_
    refine vc_cond rfl (fun _ => ?_) (fun h => by cases h)
    refine vc_seq ?_
    refine vc_region ?_
    refine vl_val rfl (.some rfl) (val_assign rfl) ?_
    refine vl_nil ?_
    refine vc_ret ?_
    refine ⟨_, [], _, res1 Try.results38 rfl, .nil, ?_⟩
    show _ = _
    rw [decide_eq_false]
    rintro ⟨h1, h2, h3, h4⟩
    simp only [hml] at h1 h2 h3
    omega
  · (try replace hg12 := of_decide_eq_false hg12)
    refine vl_on rfl rfl rfl rfl ?_
    refine vl_val rfl (.some rfl) (by first | exact val_fieldAddr Try.runUnderlying41 rfl Try.sizeOf3 rfl | exact val_fieldAddrR Try.runUnderlying41 rfl Try.sizeOf3 rfl) ?_
    refine vl_on rfl rfl rfl rfl ?_
    refine vl_val rfl (.some rfl) (val_load Try.isAgg3 rfl (by first | exact cell_cells (by repeat constructor) rfl | exact cell_rd (by first | exact rd_sl (by repeat constructor) | exact rd_old (by assumption) rfl) (by first | exact bcells_at (by omega) | exact ucells_at (by omega) | exact icells_at (by omega) | exact tcells_at (by omega) | exact bcells_get (by omega) | exact icells_get (by omega) | exact tcells_get (by omega) | exact ucells_get (by omega)) | exact cell_old (by assumption) (by simp [fps]))) ?_
    refine vl_on rfl rfl rfl rfl ?_
    refine vl_val rfl (.some rfl) (val_gt rfl rfl) ?_
    refine vl_val rfl (.some rfl) (val_pick rfl rfl) ?_
    refine vl_val rfl (.some rfl) (val_move rfl) ?_
    refine vl_split (t := 17) rfl (fun hg17 => ?_) (fun hg17 => ?_)
    · (try replace hg17 := of_decide_eq_true hg17)
      refine vl_off rfl rfl rfl rfl (.some rfl) ?_
      refine vl_off rfl rfl rfl rfl (.some rfl) ?_
      refine vl_off rfl rfl rfl rfl (.some rfl) ?_
      refine vl_off rfl rfl rfl rfl (.some rfl) ?_
      refine vl_val rfl (.some rfl) (val_pick rfl rfl) ?_
      refine vl_val rfl (.some rfl) (val_move rfl) ?_
      refine vl_off rfl rfl rfl rfl (.some rfl) ?_
      refine vl_off rfl rfl rfl rfl (.some rfl) ?_
      refine vl_off rfl rfl rfl rfl (.some rfl) ?_
      refine vl_off rfl rfl rfl rfl (.some rfl) ?_
      refine vl_val rfl (.some rfl) (val_pick rfl rfl) ?_
      refine vl_val rfl (.some rfl) (val_move rfl) ?_
      refine vl_off rfl rfl rfl rfl (.some rfl) ?_
      refine vl_off rfl rfl rfl rfl (.some rfl) ?_
      refine vl_off rfl rfl rfl rfl (.some rfl) ?_
      refine vl_off rfl rfl rfl rfl (.some rfl) ?_
      refine vl_off rfl rfl rfl rfl (.some rfl) ?_
      refine vl_off rfl rfl rfl rfl (.some rfl) ?_
      refine vl_off rfl rfl rfl rfl (.some rfl) ?_
      refine vl_val rfl (.some rfl) (val_pick rfl rfl) ?_
      refine vl_nil ?_
      refine vc_cond rfl (fun _ => ?_) (fun h => by cases h)
      refine vc_seq ?_
      refine vc_region ?_
      refine vl_val rfl (.some rfl) (val_assign rfl) ?_
      refine vl_nil ?_
      refine vc_ret ?_
      refine ⟨_, [], _, res1 Try.results38 rfl, .nil, ?_⟩
      show _ = _
      rw [decide_eq_false]
      rintro ⟨h1, h2, h3, h4⟩
      simp only [hml] at h1 h2 h3
      omega
    · (try replace hg17 := of_decide_eq_false hg17)
      refine vl_on rfl rfl rfl rfl ?_
      refine vl_val rfl (.some rfl) (by first | exact val_fieldAddr Try.runUnderlying41 rfl Try.sizeOf38 rfl | exact val_fieldAddrR Try.runUnderlying41 rfl Try.sizeOf38 rfl) ?_
      refine vl_on rfl rfl rfl rfl ?_
      refine vl_val rfl (.some rfl) (val_load Try.isAgg38 rfl (by first | exact cell_cells (by repeat constructor) rfl | exact cell_rd (by first | exact rd_sl (by repeat constructor) | exact rd_old (by assumption) rfl) (by first | exact bcells_at (by omega) | exact ucells_at (by omega) | exact icells_at (by omega) | exact tcells_at (by omega) | exact bcells_get (by omega) | exact icells_get (by omega) | exact tcells_get (by omega) | exact ucells_get (by omega)) | exact cell_old (by assumption) (by simp [fps]))) ?_
      refine vl_on rfl rfl rfl rfl ?_
      refine vl_val rfl (.some rfl) (val_lenSl Try.runUnderlying38 rfl) ?_
      refine vl_on rfl rfl rfl rfl ?_
      refine vl_val rfl (.some rfl) (val_lt rfl rfl) ?_
      refine vl_val rfl (.some rfl) (val_pick rfl rfl) ?_
      refine vl_val rfl (.some rfl) (val_move rfl) ?_
      refine vl_split (t := 23) rfl (fun hg23 => ?_) (fun hg23 => ?_)
      · (try replace hg23 := of_decide_eq_true hg23)
        refine vl_off rfl rfl rfl rfl (.some rfl) ?_
        refine vl_off rfl rfl rfl rfl (.some rfl) ?_
        refine vl_off rfl rfl rfl rfl (.some rfl) ?_
        refine vl_off rfl rfl rfl rfl (.some rfl) ?_
        refine vl_val rfl (.some rfl) (val_pick rfl rfl) ?_
        refine vl_val rfl (.some rfl) (val_move rfl) ?_
        refine vl_off rfl rfl rfl rfl (.some rfl) ?_
        refine vl_off rfl rfl rfl rfl (.some rfl) ?_
        refine vl_off rfl rfl rfl rfl (.some rfl) ?_
        refine vl_off rfl rfl rfl rfl (.some rfl) ?_
        refine vl_off rfl rfl rfl rfl (.some rfl) ?_
        refine vl_off rfl rfl rfl rfl (.some rfl) ?_
        refine vl_off rfl rfl rfl rfl (.some rfl) ?_
        refine vl_val rfl (.some rfl) (val_pick rfl rfl) ?_
        refine vl_nil ?_
        refine vc_cond rfl (fun _ => ?_) (fun h => by cases h)
        refine vc_seq ?_
        refine vc_region ?_
        refine vl_val rfl (.some rfl) (val_assign rfl) ?_
        refine vl_nil ?_
        refine vc_ret ?_
        refine ⟨_, [], _, res1 Try.results38 rfl, .nil, ?_⟩
        show _ = _
        rw [decide_eq_false]
        rintro ⟨h1, h2, h3, h4⟩
        simp only [hml] at h1 h2 h3
        omega
      · (try replace hg23 := of_decide_eq_false hg23)
        refine vl_on rfl rfl rfl rfl ?_
        refine vl_val rfl (.some rfl) (by first | exact val_fieldAddr Try.runUnderlying41 rfl Try.sizeOf38 rfl | exact val_fieldAddrR Try.runUnderlying41 rfl Try.sizeOf38 rfl) ?_
        refine vl_on rfl rfl rfl rfl ?_
        refine vl_val rfl (.some rfl) (val_load Try.isAgg38 rfl (by first | exact cell_cells (by repeat constructor) rfl | exact cell_rd (by first | exact rd_sl (by repeat constructor) | exact rd_old (by assumption) rfl) (by first | exact bcells_at (by omega) | exact ucells_at (by omega) | exact icells_at (by omega) | exact tcells_at (by omega) | exact bcells_get (by omega) | exact icells_get (by omega) | exact tcells_get (by omega) | exact ucells_get (by omega)) | exact cell_old (by assumption) (by simp [fps]))) ?_
        refine vl_on rfl rfl rfl rfl ?_
        refine vl_val rfl (.some rfl) (val_lenSl Try.runUnderlying38 rfl) ?_
        refine vl_on rfl rfl rfl rfl ?_
        refine vl_val rfl (.some rfl) (val_gt rfl rfl) ?_
        refine vl_val rfl (.some rfl) (val_pick rfl rfl) ?_
        refine vl_val rfl (.some rfl) (val_move rfl) ?_
        refine vl_split (t := 29) rfl (fun hg29 => ?_) (fun hg29 => ?_)
        · (try replace hg29 := of_decide_eq_true hg29)
          refine vl_off rfl rfl rfl rfl (.some rfl) ?_
          refine vl_off rfl rfl rfl rfl (.some rfl) ?_
          refine vl_off rfl rfl rfl rfl (.some rfl) ?_
          refine vl_off rfl rfl rfl rfl (.some rfl) ?_
          refine vl_off rfl rfl rfl rfl (.some rfl) ?_
          refine vl_off rfl rfl rfl rfl (.some rfl) ?_
          refine vl_off rfl rfl rfl rfl (.some rfl) ?_
          refine vl_val rfl (.some rfl) (val_pick rfl rfl) ?_
          refine vl_nil ?_
          refine vc_cond rfl (fun _ => ?_) (fun h => by cases h)
          refine vc_seq ?_
          refine vc_region ?_
          refine vl_val rfl (.some rfl) (val_assign rfl) ?_
          refine vl_nil ?_
          refine vc_ret ?_
          refine ⟨_, [], _, res1 Try.results38 rfl, .nil, ?_⟩
          show _ = _
          rw [decide_eq_false]
          rintro ⟨h1, h2, h3, h4⟩
          simp only [hml] at h1 h2 h3
          omega
        · (try replace hg29 := of_decide_eq_false hg29)
          refine vl_on rfl rfl rfl rfl ?_
          refine vl_val rfl (.some rfl) (by first | exact val_fieldAddr Try.runUnderlying41 rfl Try.sizeOf39 rfl | exact val_fieldAddrR Try.runUnderlying41 rfl Try.sizeOf39 rfl) ?_
          refine vl_on rfl rfl rfl rfl ?_
          refine vl_val rfl (.some rfl) (val_load Try.isAgg39 rfl (by first | exact cell_cells (by repeat constructor) rfl | exact cell_rd (by first | exact rd_sl (by repeat constructor) | exact rd_old (by assumption) rfl) (by first | exact bcells_at (by omega) | exact ucells_at (by omega) | exact icells_at (by omega) | exact tcells_at (by omega) | exact bcells_get (by omega) | exact icells_get (by omega) | exact tcells_get (by omega) | exact ucells_get (by omega)) | exact cell_old (by assumption) (by simp [fps]))) ?_
          refine vl_on rfl rfl rfl rfl ?_
          refine vl_val rfl (.some rfl) (val_lenSl Try.runUnderlying39 rfl) ?_
          refine vl_on rfl rfl rfl rfl ?_
          refine vl_val rfl (.some rfl) (by first | exact val_fieldAddr Try.runUnderlying41 rfl Try.sizeOf38 rfl | exact val_fieldAddrR Try.runUnderlying41 rfl Try.sizeOf38 rfl) ?_
          refine vl_on rfl rfl rfl rfl ?_
          refine vl_val rfl (.some rfl) (val_load Try.isAgg38 rfl (by first | exact cell_cells (by repeat constructor) rfl | exact cell_rd (by first | exact rd_sl (by repeat constructor) | exact rd_old (by assumption) rfl) (by first | exact bcells_at (by omega) | exact ucells_at (by omega) | exact icells_at (by omega) | exact tcells_at (by omega) | exact bcells_get (by omega) | exact icells_get (by omega) | exact tcells_get (by omega) | exact ucells_get (by omega)) | exact cell_old (by assumption) (by simp [fps]))) ?_
          refine vl_on rfl rfl rfl rfl ?_
          refine vl_val rfl (.some rfl) (val_lenSl Try.runUnderlying38 rfl) ?_
          refine vl_on rfl rfl rfl rfl ?_
          refine vl_val rfl (.some rfl) (val_ne rfl rfl) ?_
          refine vl_val rfl (.some rfl) (val_pick rfl rfl) ?_
          refine vl_nil ?_
          refine vc_cond rfl (fun hc0 => ?_) (fun hc0 => ?_)
          · (try replace hc0 := of_decide_eq_true hc0)
            refine vc_seq ?_
            refine vc_region ?_
            refine vl_val rfl (.some rfl) (val_assign rfl) ?_
            refine vl_nil ?_
            refine vc_ret ?_
            refine ⟨_, [], _, res1 Try.results38 rfl, .nil, ?_⟩
            show _ = _
            rw [decide_eq_false]
            rintro ⟨h1, h2, h3, h4⟩
            simp only [hml] at h1 h2 h3
            omega
          · (try replace hc0 := of_decide_eq_false hc0)
            have h0 : ((1 ≤ n ∧ n ≤ 1000) ∧ (1 ≤ vs.length ∧ vs.length ≤ 8)) ∧ zs.length = vs.length := by omega
            refine vc_skip ?_
            refine vc_seq ?_
            refine vc_seq ?_
            refine vc_region ?_
            refine vl_val rfl (.some rfl) (by first | exact val_fieldAddr Try.runUnderlying41 rfl Try.sizeOf38 rfl | exact val_fieldAddrR Try.runUnderlying41 rfl Try.sizeOf38 rfl) ?_
            refine vl_val rfl (.some rfl) (val_load Try.isAgg38 rfl (by first | exact cell_cells (by repeat constructor) rfl | exact cell_rd (by first | exact rd_sl (by repeat constructor) | exact rd_old (by assumption) rfl) (by first | exact bcells_at (by omega) | exact ucells_at (by omega) | exact icells_at (by omega) | exact tcells_at (by omega) | exact bcells_get (by omega) | exact icells_get (by omega) | exact tcells_get (by omega) | exact ucells_get (by omega)) | exact cell_old (by assumption) (by simp [fps]))) ?_
            refine vl_val rfl (.some rfl) (val_lenSl Try.runUnderlying38 rfl) ?_
            refine vl_val rfl (.some rfl) (val_move rfl) ?_
            refine vl_nil ?_
            refine vc_block ?_
            refine vc_loopw (fun k E H => ∃ i : Nat, i ≤ vs.length ∧ k = vs.length - i ∧ (∀ j, j < i → colOk n (vcP (vs.getD j vc0)) (zs.getD j zn0)) ∧ E = [(1, .pointer (some ⟨r1, 0, none⟩)), (39, .slice Ac vs.length cc), (40, .int .i64 vs.length), (41, .int .i64 i)] ∧ H = [cells r1 [.int .i64 n, .slice Ac vs.length cc, .slice Az zs.length cz] 41]) (vs.length) ⟨_, _, _, ⟨0, by omega, rfl, fun j h => absurd h (by omega), rfl, rfl⟩, (by repeat (first | exact trivial | refine ⟨rfl, ?_⟩ | refine ⟨le_item rfl (by first | rfl | (congr 1; omega) | (simp; done) | (simp; omega)), ?_⟩)), (by repeat constructor)⟩ ?_
            intro k E H hI
            obtain ⟨i, hi, rfl, hall, rfl, rfl⟩ := hI
            refine vc_seq ?_
            refine vc_region ?_
            refine vl_val rfl (.some rfl) (val_lt rfl rfl) ?_
            refine vl_nil ?_
            refine vc_seq ?_
            refine vc_cond rfl (fun hc1 => ?_) (fun hc1 => ?_)
            · (try replace hc1 := of_decide_eq_true hc1)
              have hi8 : i < vs.length := by omega
              have hcr := hrs.col _ (mem_getD vc0 hi8)
              have hl1 := hcr.ln
              have hl2 := hcr.li
              have hwz8 := hwz _ (mem_getD zn0 (show i < zs.length by omega))
              refine vc_skip ?_
              refine vc_seq ?_
              refine vc_block ?_
              refine vc_seq ?_
              refine vc_region ?_
              refine vl_val rfl (.some rfl) (val_move rfl) ?_
              refine vl_val rfl (.some rfl) (val_indexAddr Try.runUnderlying38 Try.sizeOf87 rfl rfl (rd_old hrs.cs rfl) (by omega) (by omega) (by rw [flatS_len vcC_len]; omega)) ?_
              refine vl_val rfl (.some rfl) (val_loadAgg Try.isAgg87 Try.sizeOf87 rfl (cells_rd (us := vcC (vs.getD i vc0)) (rd_old hrs.cs rfl) (by rw [Int.toNat_natCast]; exact flat_atM vcC_len vc0 _ _ (by omega))) rfl) ?_
              refine vl_alloc rfl rfl (.some rfl) Try.zeroValue87 (fun r4 => ?_)
              refine vl_val rfl (.some rfl) (val_assign rfl) ?_
              first | refine vl_store rfl rfl .none rfl rfl Try.sizeOf87 rfl (by repeat constructor) (by first | decide | exact Nat.le_refl _ | exact Nat.le_of_ble_eq_true rfl | (simp; omega)) ?_ | refine vl_storeSl rfl rfl .none rfl rfl Try.sizeOf87 rfl (by simp [Value.cells]) (by repeat constructor) (by first | decide | (simp [Value.cells]; omega)) ?_
              refine vl_nil ?_
              refine vc_seq ?_
              refine vc_seq ?_
              refine vc_region ?_
              refine vl_val rfl (.some rfl) (val_loadAgg Try.isAgg87 Try.sizeOf87 rfl (cells_part (us := vcC (vs.getD i vc0)) (by repeat constructor) rfl) rfl) ?_
              refine vl_callV rfl rfl (.some rfl) Try.call65 rfl (fun w hw => xcGood (vs.getD i vc0).A (vs.getD i vc0).B (vs.getD i vc0).c (vs.getD i vc0).d (vs.getD i vc0).nu (vs.getD i vc0).ids (by omega) (by omega) w (rdw (rd_old hcr.nu rfl) hw) (rdw (rd_old hcr.ids rfl) hw)) ?_
              refine vl_val rfl (.some rfl) (val_not rfl) ?_
              refine vl_val rfl (.some rfl) (val_move rfl) ?_
              refine vl_split (t := 49) rfl (fun hg49 => ?_) (fun hg49 => ?_)
              · (try replace hg49 := of_decide_eq_true hg49)
                refine vl_off rfl rfl rfl rfl (.some rfl) ?_
                refine vl_off rfl rfl rfl rfl (.some rfl) ?_
                refine vl_off rfl rfl rfl rfl (.some rfl) ?_
                refine vl_off rfl rfl rfl rfl (.some rfl) ?_
                refine vl_off rfl rfl rfl rfl (.some rfl) ?_
                refine vl_off rfl rfl rfl rfl (.some rfl) ?_
                refine vl_val rfl (.some rfl) (val_pick rfl rfl) ?_
                refine vl_nil ?_
                refine vc_cond rfl (fun _ => ?_) (fun h => by cases h)
                refine vc_seq ?_
                refine vc_region ?_
                refine vl_val rfl (.some rfl) (val_assign rfl) ?_
                refine vl_nil ?_
                refine vc_ret ?_
                refine ⟨_, [], _, res1 Try.results38 rfl, .nil, ?_⟩
                show _ = _
                rw [decide_eq_false]
                rintro ⟨h1, h2, h3, h4⟩
                have h5 := h4 i (by rw [hml]; omega)
                rw [hmg] at h5
                obtain ⟨a1, a2, a3⟩ := h5
                have b1 := (sound_iff _ _ _).1 a3
                have a2 : ((vs.getD i vc0).ids.length : Int) = n := a2
                obtain ⟨d1, d2, d3, d4, d5, d6⟩ := b1
                have d1 : (zs.getD i zn0).n = (((vs.getD i vc0).nu.count true : Nat) : Int) := d1
                first | omega | exact absurd d6 (Int.not_le.2 hc6) | (rw [decide_eq_decide.2 d5] at hg107; simp at hg107; done) | (simp_all; done)
              · (try replace hg49 := of_decide_eq_false hg49)
                refine vl_on rfl rfl rfl rfl ?_
                refine vl_val rfl (.some rfl) (by first | exact val_fieldAddr Try.runUnderlying87 rfl Try.sizeOf22 rfl | exact val_fieldAddrR Try.runUnderlying87 rfl Try.sizeOf22 rfl) ?_
                refine vl_on rfl rfl rfl rfl ?_
                refine vl_val rfl (.some rfl) (val_load Try.isAgg22 rfl (cell_cells (v := .slice (vs.getD i vc0).B (vs.getD i vc0).ids.length (vs.getD i vc0).d) (by repeat constructor) rfl)) ?_
                refine vl_on rfl rfl rfl rfl ?_
                refine vl_val rfl (.some rfl) (val_lenSl Try.runUnderlying22 rfl) ?_
                refine vl_on rfl rfl rfl rfl ?_
                refine vl_val rfl (.some rfl) (by first | exact val_fieldAddr Try.runUnderlying41 rfl Try.sizeOf3 rfl | exact val_fieldAddrR Try.runUnderlying41 rfl Try.sizeOf3 rfl) ?_
                refine vl_on rfl rfl rfl rfl ?_
                refine vl_val rfl (.some rfl) (val_load Try.isAgg3 rfl (by first | exact cell_cells (by repeat constructor) rfl | exact cell_rd (by first | exact rd_sl (by repeat constructor) | exact rd_old (by assumption) rfl) (by first | exact bcells_at (by omega) | exact ucells_at (by omega) | exact icells_at (by omega) | exact tcells_at (by omega) | exact bcells_get (by omega) | exact icells_get (by omega) | exact tcells_get (by omega) | exact ucells_get (by omega)) | exact cell_old (by assumption) (by simp [fps]))) ?_
                refine vl_on rfl rfl rfl rfl ?_
                refine vl_val rfl (.some rfl) (val_ne rfl rfl) ?_
                refine vl_val rfl (.some rfl) (val_pick rfl rfl) ?_
                refine vl_nil ?_
                refine vc_cond rfl (fun hc2 => ?_) (fun hc2 => ?_)
                · (try replace hc2 := of_decide_eq_true hc2)
                  refine vc_seq ?_
                  refine vc_region ?_
                  refine vl_val rfl (.some rfl) (val_assign rfl) ?_
                  refine vl_nil ?_
                  refine vc_ret ?_
                  refine ⟨_, [], _, res1 Try.results38 rfl, .nil, ?_⟩
                  show _ = _
                  rw [decide_eq_false]
                  rintro ⟨h1, h2, h3, h4⟩
                  have h5 := h4 i (by rw [hml]; omega)
                  rw [hmg] at h5
                  obtain ⟨a1, a2, a3⟩ := h5
                  have b1 := (sound_iff _ _ _).1 a3
                  have a2 : ((vs.getD i vc0).ids.length : Int) = n := a2
                  obtain ⟨d1, d2, d3, d4, d5, d6⟩ := b1
                  have d1 : (zs.getD i zn0).n = (((vs.getD i vc0).nu.count true : Nat) : Int) := d1
                  first | omega | exact absurd d6 (Int.not_le.2 hc6) | (rw [decide_eq_decide.2 d5] at hg107; simp at hg107; done) | (simp_all; done)
                · (try replace hc2 := of_decide_eq_false hc2)
                  refine vc_skip ?_
                  refine vc_seq ?_
                  refine vc_region ?_
                  refine vl_val rfl (.some rfl) (val_assign rfl) ?_
                  refine vl_nil ?_
                  refine vc_seq ?_
                  refine vc_seq ?_
                  refine vc_region ?_
                  refine vl_val rfl (.some rfl) (by first | exact val_fieldAddr Try.runUnderlying87 rfl Try.sizeOf79 rfl | exact val_fieldAddrR Try.runUnderlying87 rfl Try.sizeOf79 rfl) ?_
                  refine vl_val rfl (.some rfl) (val_load Try.isAgg79 rfl (cell_cells (v := .slice (vs.getD i vc0).A (vs.getD i vc0).nu.length (vs.getD i vc0).c) (by repeat constructor) rfl)) ?_
                  refine vl_val rfl (.some rfl) (val_lenSl Try.runUnderlying79 rfl) ?_
                  refine vl_val rfl (.some rfl) (val_move rfl) ?_
                  refine vl_nil ?_
                  refine vc_block ?_
                  refine vc_loopw (fun k E H => ∃ j : Nat, j ≤ (vs.getD i vc0).nu.length ∧ k = (vs.getD i vc0).nu.length - j ∧ E = [(1, .pointer (some ⟨r1, 0, none⟩)), (39, .slice Ac vs.length cc), (40, .int .i64 vs.length), (41, .int .i64 i), (3, .int .i64 i), (4, .pointer (some ⟨r4, 0, none⟩)), (5, .int .i64 ((((vs.getD i vc0).nu.take j).count true : Nat) : Int)), (58, .slice (vs.getD i vc0).A (vs.getD i vc0).nu.length (vs.getD i vc0).c), (59, .int .i64 (vs.getD i vc0).nu.length), (60, .int .i64 j)] ∧ H = [cells r1 [.int .i64 n, .slice Ac vs.length cc, .slice Az zs.length cz] 41, cells r4 (vcC (vs.getD i vc0)) 87]) ((vs.getD i vc0).nu.length) ⟨_, _, _, ⟨0, by omega, rfl, rfl, rfl⟩, (by repeat (first | exact trivial | refine ⟨rfl, ?_⟩ | refine ⟨le_item rfl (by first | rfl | (congr 1; omega) | (simp; done) | (simp; omega)), ?_⟩)), (by repeat constructor)⟩ ?_
                  intro k E H hI
                  obtain ⟨j, hj, rfl, rfl, rfl⟩ := hI
                  refine vc_seq ?_
                  refine vc_region ?_
                  refine vl_val rfl (.some rfl) (val_lt rfl rfl) ?_
                  refine vl_nil ?_
                  refine vc_seq ?_
                  refine vc_cond rfl (fun hc3 => ?_) (fun hc3 => ?_)
                  · (try replace hc3 := of_decide_eq_true hc3)
                    have hct := count_take (l := (vs.getD i vc0).nu) (i := j) (by omega)
                    have hcm : ((vs.getD i vc0).nu.take j).count true ≤ j := Nat.le_trans List.count_le_length (by rw [List.length_take]; omega)
                    refine vc_skip ?_
                    refine vc_seq ?_
                    refine vc_block ?_
                    refine vc_seq ?_
                    refine vc_region ?_
                    refine vl_val rfl (.some rfl) (val_indexAddr Try.runUnderlying79 Try.sizeOf4 rfl rfl (rd_old hcr.nu rfl) (by omega) (by omega) (by rw [Int.toNat_natCast, tcells_length]; omega)) ?_
                    refine vl_val rfl (.some rfl) (val_load Try.isAgg4 rfl (cell_rd (rd_old hcr.nu rfl) (tcells_at (by omega)))) ?_
                    refine vl_val rfl (.some rfl) (val_assign rfl) ?_
                    refine vl_nil ?_
                    refine vc_seq ?_
                    refine vc_region ?_
                    refine vl_val rfl (.some rfl) (val_move rfl) ?_
                    refine vl_nil ?_
                    refine vc_cond rfl (fun hc4 => ?_) (fun hc4 => ?_)
                    · (try replace hc4 := of_decide_eq_true hc4)
                      rw [hc4, if_pos rfl] at hct
                      refine vc_region ?_
                      refine vl_val rfl (.some rfl) (val_move rfl) ?_
                      refine vl_val rfl (.some rfl) (val_add rfl rfl (by first | exact w_i64 (by omega) (by omega) | rfl)) ?_
                      refine vl_val rfl (.some rfl) (val_assign rfl) ?_
                      refine vl_nil ?_
                      refine vc_region ?_
                      refine vl_val rfl (.some rfl) (val_add rfl rfl (by first | exact w_i64 (by omega) (by omega) | rfl)) ?_
                      refine vl_val rfl (.some rfl) (val_move rfl) ?_
                      refine vl_nil ?_
                      exact ⟨(vs.getD i vc0).nu.length - (j + 1), _, _, _, by omega, (by repeat (first | exact trivial | refine ⟨rfl, ?_⟩ | refine ⟨le_item rfl (by first | rfl | (congr 1; omega) | (simp; done) | (simp; omega)), ?_⟩)), (by repeat constructor), ⟨j + 1, by omega, rfl, rfl, rfl⟩⟩
                    · (try replace hc4 := of_decide_eq_false hc4)
                      rw [hc4, if_neg (by decide)] at hct
                      refine vc_skip ?_
                      refine vc_region ?_
                      refine vl_val rfl (.some rfl) (val_add rfl rfl (by first | exact w_i64 (by omega) (by omega) | rfl)) ?_
                      refine vl_val rfl (.some rfl) (val_move rfl) ?_
                      refine vl_nil ?_
                      exact ⟨(vs.getD i vc0).nu.length - (j + 1), _, _, _, by omega, (by repeat (first | exact trivial | refine ⟨rfl, ?_⟩ | refine ⟨le_item rfl (by first | rfl | (congr 1; omega) | (simp; done) | (simp; omega)), ?_⟩)), (by repeat constructor), ⟨j + 1, by omega, rfl, rfl, rfl⟩⟩
                  · (try replace hc3 := of_decide_eq_false hc3)
                    obtain rfl : j = (vs.getD i vc0).nu.length := by omega
                    rw [List.take_length]
                    refine vc_exit ?_
                    refine vc_seq ?_
                    refine vc_region ?_
                    refine vl_val rfl (.some rfl) (by first | exact val_fieldAddr Try.runUnderlying41 rfl Try.sizeOf39 rfl | exact val_fieldAddrR Try.runUnderlying41 rfl Try.sizeOf39 rfl) ?_
                    refine vl_val rfl (.some rfl) (val_load Try.isAgg39 rfl (by first | exact cell_cells (by repeat constructor) rfl | exact cell_rd (by first | exact rd_sl (by repeat constructor) | exact rd_old (by assumption) rfl) (by first | exact bcells_at (by omega) | exact ucells_at (by omega) | exact icells_at (by omega) | exact tcells_at (by omega) | exact bcells_get (by omega) | exact icells_get (by omega) | exact tcells_get (by omega) | exact ucells_get (by omega)) | exact cell_old (by assumption) (by simp [fps]))) ?_
                    refine vl_val rfl (.some rfl) (val_move rfl) ?_
                    refine vl_val rfl (.some rfl) (val_indexAddr Try.runUnderlying39 Try.sizeOf88 rfl rfl (rd_old hrs.zs rfl) (by omega) (by omega) (by rw [flatS_len znC_len]; omega)) ?_
                    refine vl_val rfl (.some rfl) (val_loadAgg Try.isAgg88 Try.sizeOf88 rfl (cells_rd (us := znC (zs.getD i zn0)) (rd_old hrs.zs rfl) (by rw [Int.toNat_natCast]; exact flat_atM znC_len zn0 _ _ (by omega))) rfl) ?_
                    refine vl_alloc rfl rfl (.some rfl) Try.zeroValue88 (fun r8 => ?_)
                    first | refine vl_store rfl rfl .none rfl rfl Try.sizeOf88 rfl (by repeat constructor) (by first | decide | exact Nat.le_refl _ | exact Nat.le_of_ble_eq_true rfl | (simp; omega)) ?_ | refine vl_storeSl rfl rfl .none rfl rfl Try.sizeOf88 rfl (by simp [Value.cells]) (by repeat constructor) (by first | decide | (simp [Value.cells]; omega)) ?_
                    refine vl_nil ?_
                    refine vc_seq ?_
                    refine vc_seq ?_
                    refine vc_region ?_
                    refine vl_val rfl (.some rfl) (by first | exact val_fieldAddr Try.runUnderlying88 rfl Try.sizeOf3 rfl | exact val_fieldAddrR Try.runUnderlying88 rfl Try.sizeOf3 rfl) ?_
                    refine vl_val rfl (.some rfl) (val_load Try.isAgg3 rfl (cell_cells (i := 0) (v := .int .i64 (zs.getD i zn0).n) (by repeat constructor) rfl)) ?_
                    refine vl_val rfl (.some rfl) (val_move rfl) ?_
                    refine vl_val rfl (.some rfl) (val_ne rfl rfl) ?_
                    refine vl_val rfl (.some rfl) (val_move rfl) ?_
                    refine vl_split (t := 77) rfl (fun hg77 => ?_) (fun hg77 => ?_)
                    · (try replace hg77 := of_decide_eq_true hg77)
                      refine vl_off rfl rfl rfl rfl (.some rfl) ?_
                      refine vl_off rfl rfl rfl rfl (.some rfl) ?_
                      refine vl_off rfl rfl rfl rfl (.some rfl) ?_
                      refine vl_off rfl rfl rfl rfl (.some rfl) ?_
                      refine vl_val rfl (.some rfl) (val_pick rfl rfl) ?_
                      refine vl_val rfl (.some rfl) (val_move rfl) ?_
                      refine vl_off rfl rfl rfl rfl (.some rfl) ?_
                      refine vl_off rfl rfl rfl rfl (.some rfl) ?_
                      refine vl_off rfl rfl rfl rfl (.some rfl) ?_
                      refine vl_off rfl rfl rfl rfl (.some rfl) ?_
                      refine vl_val rfl (.some rfl) (val_pick rfl rfl) ?_
                      refine vl_val rfl (.some rfl) (val_move rfl) ?_
                      refine vl_off rfl rfl rfl rfl (.some rfl) ?_
                      refine vl_off rfl rfl rfl rfl (.some rfl) ?_
                      refine vl_off rfl rfl rfl rfl (.some rfl) ?_
                      refine vl_off rfl rfl rfl rfl (.some rfl) ?_
                      refine vl_off rfl rfl rfl rfl (.some rfl) ?_
                      refine vl_off rfl rfl rfl rfl (.some rfl) ?_
                      refine vl_off rfl rfl rfl rfl (.some rfl) ?_
                      refine vl_val rfl (.some rfl) (val_pick rfl rfl) ?_
                      refine vl_nil ?_
                      refine vc_cond rfl (fun _ => ?_) (fun h => by cases h)
                      refine vc_seq ?_
                      refine vc_region ?_
                      refine vl_val rfl (.some rfl) (val_assign rfl) ?_
                      refine vl_nil ?_
                      refine vc_ret ?_
                      refine ⟨_, [], _, res1 Try.results38 rfl, .nil, ?_⟩
                      show _ = _
                      rw [decide_eq_false]
                      rintro ⟨h1, h2, h3, h4⟩
                      have h5 := h4 i (by rw [hml]; omega)
                      rw [hmg] at h5
                      obtain ⟨a1, a2, a3⟩ := h5
                      have b1 := (sound_iff _ _ _).1 a3
                      have a2 : ((vs.getD i vc0).ids.length : Int) = n := a2
                      obtain ⟨d1, d2, d3, d4, d5, d6⟩ := b1
                      have d1 : (zs.getD i zn0).n = (((vs.getD i vc0).nu.count true : Nat) : Int) := d1
                      first | omega | exact absurd d6 (Int.not_le.2 hc6) | (rw [decide_eq_decide.2 d5] at hg107; simp at hg107; done) | (simp_all; done)
                    · (try replace hg77 := of_decide_eq_false hg77)
                      refine vl_on rfl rfl rfl rfl ?_
                      refine vl_val rfl (.some rfl) (by first | exact val_fieldAddr Try.runUnderlying88 rfl Try.sizeOf62 rfl | exact val_fieldAddrR Try.runUnderlying88 rfl Try.sizeOf62 rfl) ?_
                      refine vl_on rfl rfl rfl rfl ?_
                      refine vl_val rfl (.some rfl) (val_loadAgg Try.isAgg62 Try.sizeOf62 rfl (cells_part (us := [.int .i64 ((zs.getD i zn0).lo).k, .int .i64 ((zs.getD i zn0).lo).n, .string ((zs.getD i zn0).lo).s]) (by repeat constructor) rfl) rfl) ?_
                      refine vl_on rfl rfl rfl rfl ?_
                      refine vl_callV rfl rfl (.some rfl) Try.call59 rfl (fun w hw => xGood (zs.getD i zn0).lo hwz8.1.1 hwz8.1.2 w) ?_
                      refine vl_on rfl rfl rfl rfl ?_
                      refine vl_val rfl (.some rfl) (val_not rfl) ?_
                      refine vl_val rfl (.some rfl) (val_pick rfl rfl) ?_
                      refine vl_val rfl (.some rfl) (val_move rfl) ?_
                      refine vl_split (t := 83) rfl (fun hg83 => ?_) (fun hg83 => ?_)
                      · (try replace hg83 := of_decide_eq_true hg83)
                        refine vl_off rfl rfl rfl rfl (.some rfl) ?_
                        refine vl_off rfl rfl rfl rfl (.some rfl) ?_
                        refine vl_off rfl rfl rfl rfl (.some rfl) ?_
                        refine vl_off rfl rfl rfl rfl (.some rfl) ?_
                        refine vl_val rfl (.some rfl) (val_pick rfl rfl) ?_
                        refine vl_val rfl (.some rfl) (val_move rfl) ?_
                        refine vl_off rfl rfl rfl rfl (.some rfl) ?_
                        refine vl_off rfl rfl rfl rfl (.some rfl) ?_
                        refine vl_off rfl rfl rfl rfl (.some rfl) ?_
                        refine vl_off rfl rfl rfl rfl (.some rfl) ?_
                        refine vl_off rfl rfl rfl rfl (.some rfl) ?_
                        refine vl_off rfl rfl rfl rfl (.some rfl) ?_
                        refine vl_off rfl rfl rfl rfl (.some rfl) ?_
                        refine vl_val rfl (.some rfl) (val_pick rfl rfl) ?_
                        refine vl_nil ?_
                        refine vc_cond rfl (fun _ => ?_) (fun h => by cases h)
                        refine vc_seq ?_
                        refine vc_region ?_
                        refine vl_val rfl (.some rfl) (val_assign rfl) ?_
                        refine vl_nil ?_
                        refine vc_ret ?_
                        refine ⟨_, [], _, res1 Try.results38 rfl, .nil, ?_⟩
                        show _ = _
                        rw [decide_eq_false]
                        rintro ⟨h1, h2, h3, h4⟩
                        have h5 := h4 i (by rw [hml]; omega)
                        rw [hmg] at h5
                        obtain ⟨a1, a2, a3⟩ := h5
                        have b1 := (sound_iff _ _ _).1 a3
                        have a2 : ((vs.getD i vc0).ids.length : Int) = n := a2
                        obtain ⟨d1, d2, d3, d4, d5, d6⟩ := b1
                        have d1 : (zs.getD i zn0).n = (((vs.getD i vc0).nu.count true : Nat) : Int) := d1
                        first | omega | exact absurd d6 (Int.not_le.2 hc6) | (rw [decide_eq_decide.2 d5] at hg107; simp at hg107; done) | (simp_all; done)
                      · (try replace hg83 := of_decide_eq_false hg83)
                        refine vl_on rfl rfl rfl rfl ?_
                        refine vl_val rfl (.some rfl) (by first | exact val_fieldAddr Try.runUnderlying88 rfl Try.sizeOf62 rfl | exact val_fieldAddrR Try.runUnderlying88 rfl Try.sizeOf62 rfl) ?_
                        refine vl_on rfl rfl rfl rfl ?_
                        refine vl_val rfl (.some rfl) (val_loadAgg Try.isAgg62 Try.sizeOf62 rfl (cells_part (us := [.int .i64 ((zs.getD i zn0).hi).k, .int .i64 ((zs.getD i zn0).hi).n, .string ((zs.getD i zn0).hi).s]) (by repeat constructor) rfl) rfl) ?_
                        refine vl_on rfl rfl rfl rfl ?_
                        refine vl_callV rfl rfl (.some rfl) Try.call59 rfl (fun w hw => xGood (zs.getD i zn0).hi hwz8.2.1 hwz8.2.2 w) ?_
                        refine vl_on rfl rfl rfl rfl ?_
                        refine vl_val rfl (.some rfl) (val_not rfl) ?_
                        refine vl_val rfl (.some rfl) (val_pick rfl rfl) ?_
                        refine vl_val rfl (.some rfl) (val_move rfl) ?_
                        refine vl_split (t := 89) rfl (fun hg89 => ?_) (fun hg89 => ?_)
                        · (try replace hg89 := of_decide_eq_true hg89)
                          refine vl_off rfl rfl rfl rfl (.some rfl) ?_
                          refine vl_off rfl rfl rfl rfl (.some rfl) ?_
                          refine vl_off rfl rfl rfl rfl (.some rfl) ?_
                          refine vl_off rfl rfl rfl rfl (.some rfl) ?_
                          refine vl_off rfl rfl rfl rfl (.some rfl) ?_
                          refine vl_off rfl rfl rfl rfl (.some rfl) ?_
                          refine vl_off rfl rfl rfl rfl (.some rfl) ?_
                          refine vl_val rfl (.some rfl) (val_pick rfl rfl) ?_
                          refine vl_nil ?_
                          refine vc_cond rfl (fun _ => ?_) (fun h => by cases h)
                          refine vc_seq ?_
                          refine vc_region ?_
                          refine vl_val rfl (.some rfl) (val_assign rfl) ?_
                          refine vl_nil ?_
                          refine vc_ret ?_
                          refine ⟨_, [], _, res1 Try.results38 rfl, .nil, ?_⟩
                          show _ = _
                          rw [decide_eq_false]
                          rintro ⟨h1, h2, h3, h4⟩
                          have h5 := h4 i (by rw [hml]; omega)
                          rw [hmg] at h5
                          obtain ⟨a1, a2, a3⟩ := h5
                          have b1 := (sound_iff _ _ _).1 a3
                          have a2 : ((vs.getD i vc0).ids.length : Int) = n := a2
                          obtain ⟨d1, d2, d3, d4, d5, d6⟩ := b1
                          have d1 : (zs.getD i zn0).n = (((vs.getD i vc0).nu.count true : Nat) : Int) := d1
                          first | omega | exact absurd d6 (Int.not_le.2 hc6) | (rw [decide_eq_decide.2 d5] at hg107; simp at hg107; done) | (simp_all; done)
                        · (try replace hg89 := of_decide_eq_false hg89)
                          refine vl_on rfl rfl rfl rfl ?_
                          refine vl_val rfl (.some rfl) (by first | exact val_fieldAddr Try.runUnderlying88 rfl Try.sizeOf62 rfl | exact val_fieldAddrR Try.runUnderlying88 rfl Try.sizeOf62 rfl) ?_
                          refine vl_on rfl rfl rfl rfl ?_
                          refine vl_val rfl (.some rfl) (by first | exact val_fieldAddr Try.runUnderlying62 rfl Try.sizeOf3 rfl | exact val_fieldAddrR Try.runUnderlying62 rfl Try.sizeOf3 rfl) ?_
                          refine vl_on rfl rfl rfl rfl ?_
                          refine vl_val rfl (.some rfl) (val_load Try.isAgg3 rfl (cell_cells (i := 1) (v := .int .i64 (zs.getD i zn0).lo.k) (by repeat constructor) rfl)) ?_
                          refine vl_on rfl rfl rfl rfl ?_
                          refine vl_val rfl (.some rfl) (by first | exact val_fieldAddr Try.runUnderlying88 rfl Try.sizeOf62 rfl | exact val_fieldAddrR Try.runUnderlying88 rfl Try.sizeOf62 rfl) ?_
                          refine vl_on rfl rfl rfl rfl ?_
                          refine vl_val rfl (.some rfl) (by first | exact val_fieldAddr Try.runUnderlying62 rfl Try.sizeOf3 rfl | exact val_fieldAddrR Try.runUnderlying62 rfl Try.sizeOf3 rfl) ?_
                          refine vl_on rfl rfl rfl rfl ?_
                          refine vl_val rfl (.some rfl) (val_load Try.isAgg3 rfl (cell_cells (i := 4) (v := .int .i64 (zs.getD i zn0).hi.k) (by repeat constructor) rfl)) ?_
                          refine vl_on rfl rfl rfl rfl ?_
                          refine vl_val rfl (.some rfl) (val_ne rfl rfl) ?_
                          refine vl_val rfl (.some rfl) (val_pick rfl rfl) ?_
                          refine vl_nil ?_
                          refine vc_cond rfl (fun hc5 => ?_) (fun hc5 => ?_)
                          · (try replace hc5 := of_decide_eq_true hc5)
                            refine vc_seq ?_
                            refine vc_region ?_
                            refine vl_val rfl (.some rfl) (val_assign rfl) ?_
                            refine vl_nil ?_
                            refine vc_ret ?_
                            refine ⟨_, [], _, res1 Try.results38 rfl, .nil, ?_⟩
                            show _ = _
                            rw [decide_eq_false]
                            rintro ⟨h1, h2, h3, h4⟩
                            have h5 := h4 i (by rw [hml]; omega)
                            rw [hmg] at h5
                            obtain ⟨a1, a2, a3⟩ := h5
                            have b1 := (sound_iff _ _ _).1 a3
                            have a2 : ((vs.getD i vc0).ids.length : Int) = n := a2
                            obtain ⟨d1, d2, d3, d4, d5, d6⟩ := b1
                            have d1 : (zs.getD i zn0).n = (((vs.getD i vc0).nu.count true : Nat) : Int) := d1
                            first | omega | exact absurd d6 (Int.not_le.2 hc6) | (rw [decide_eq_decide.2 d5] at hg107; simp at hg107; done) | (simp_all; done)
                          · (try replace hc5 := of_decide_eq_false hc5)
                            refine vc_skip ?_
                            refine vc_seq ?_
                            refine vc_region ?_
                            refine vl_val rfl (.some rfl) (by first | exact val_fieldAddr Try.runUnderlying88 rfl Try.sizeOf62 rfl | exact val_fieldAddrR Try.runUnderlying88 rfl Try.sizeOf62 rfl) ?_
                            refine vl_val rfl (.some rfl) (by first | exact val_fieldAddr Try.runUnderlying62 rfl Try.sizeOf3 rfl | exact val_fieldAddrR Try.runUnderlying62 rfl Try.sizeOf3 rfl) ?_
                            refine vl_val rfl (.some rfl) (val_load Try.isAgg3 rfl (cell_cells (i := 1) (v := .int .i64 (zs.getD i zn0).lo.k) (by repeat constructor) rfl)) ?_
                            refine vl_val rfl (.some rfl) (val_eq rfl rfl) ?_
                            refine vl_val rfl (.some rfl) (val_move rfl) ?_
                            refine vl_val rfl (.some rfl) (by first | exact val_fieldAddr Try.runUnderlying41 rfl Try.sizeOf3 rfl | exact val_fieldAddrR Try.runUnderlying41 rfl Try.sizeOf3 rfl) ?_
                            refine vl_val rfl (.some rfl) (val_load Try.isAgg3 rfl (by first | exact cell_cells (by repeat constructor) rfl | exact cell_rd (by first | exact rd_sl (by repeat constructor) | exact rd_old (by assumption) rfl) (by first | exact bcells_at (by omega) | exact ucells_at (by omega) | exact icells_at (by omega) | exact tcells_at (by omega) | exact bcells_get (by omega) | exact icells_get (by omega) | exact tcells_get (by omega) | exact ucells_get (by omega)) | exact cell_old (by assumption) (by simp [fps]))) ?_
                            refine vl_val rfl (.some rfl) (val_eq rfl rfl) ?_
                            refine vl_val rfl (.some rfl) (val_bne Try.underlying4 rfl rfl) ?_
                            refine vl_val rfl (.some rfl) (val_move rfl) ?_
                            refine vl_split (t := 107) rfl (fun hg107 => ?_) (fun hg107 => ?_)
                            · (try replace hg107 := of_decide_eq_true hg107)
                              refine vl_off rfl rfl rfl rfl (.some rfl) ?_
                              refine vl_off rfl rfl rfl rfl (.some rfl) ?_
                              refine vl_off rfl rfl rfl rfl (.some rfl) ?_
                              refine vl_off rfl rfl rfl rfl (.some rfl) ?_
                              refine vl_off rfl rfl rfl rfl (.some rfl) ?_
                              refine vl_off rfl rfl rfl rfl (.some rfl) ?_
                              refine vl_val rfl (.some rfl) (val_pick rfl rfl) ?_
                              refine vl_nil ?_
                              refine vc_cond rfl (fun _ => ?_) (fun h => by cases h)
                              refine vc_seq ?_
                              refine vc_region ?_
                              refine vl_val rfl (.some rfl) (val_assign rfl) ?_
                              refine vl_nil ?_
                              refine vc_ret ?_
                              refine ⟨_, [], _, res1 Try.results38 rfl, .nil, ?_⟩
                              show _ = _
                              rw [decide_eq_false]
                              rintro ⟨h1, h2, h3, h4⟩
                              have h5 := h4 i (by rw [hml]; omega)
                              rw [hmg] at h5
                              obtain ⟨a1, a2, a3⟩ := h5
                              have b1 := (sound_iff _ _ _).1 a3
                              have a2 : ((vs.getD i vc0).ids.length : Int) = n := a2
                              obtain ⟨d1, d2, d3, d4, d5, d6⟩ := b1
                              have d1 : (zs.getD i zn0).n = (((vs.getD i vc0).nu.count true : Nat) : Int) := d1
                              first | omega | exact absurd d6 (Int.not_le.2 hc6) | (rw [decide_eq_decide.2 d5] at hg107; simp at hg107; done) | (simp_all; done)
                            · (try replace hg107 := of_decide_eq_false hg107)
                              refine vl_on rfl rfl rfl rfl ?_
                              refine vl_val rfl (.some rfl) (by first | exact val_fieldAddr Try.runUnderlying88 rfl Try.sizeOf62 rfl | exact val_fieldAddrR Try.runUnderlying88 rfl Try.sizeOf62 rfl) ?_
                              refine vl_on rfl rfl rfl rfl ?_
                              refine vl_val rfl (.some rfl) (val_loadAgg Try.isAgg62 Try.sizeOf62 rfl (cells_part (us := [.int .i64 ((zs.getD i zn0).lo).k, .int .i64 ((zs.getD i zn0).lo).n, .string ((zs.getD i zn0).lo).s]) (by repeat constructor) rfl) rfl) ?_
                              refine vl_on rfl rfl rfl rfl ?_
                              refine vl_val rfl (.some rfl) (by first | exact val_fieldAddr Try.runUnderlying88 rfl Try.sizeOf62 rfl | exact val_fieldAddrR Try.runUnderlying88 rfl Try.sizeOf62 rfl) ?_
                              refine vl_on rfl rfl rfl rfl ?_
                              refine vl_val rfl (.some rfl) (val_loadAgg Try.isAgg62 Try.sizeOf62 rfl (cells_part (us := [.int .i64 ((zs.getD i zn0).hi).k, .int .i64 ((zs.getD i zn0).hi).n, .string ((zs.getD i zn0).hi).s]) (by repeat constructor) rfl) rfl) ?_
                              refine vl_on rfl rfl rfl rfl ?_
                              refine vl_callV rfl rfl (.some rfl) Try.call31 rfl (fun w hw => xCmp (zs.getD i zn0).lo (zs.getD i zn0).hi hwz8.1 hwz8.2 w) ?_
                              refine vl_on rfl rfl rfl rfl ?_
                              refine vl_val rfl (.some rfl) (val_gt rfl rfl) ?_
                              refine vl_val rfl (.some rfl) (val_pick rfl rfl) ?_
                              refine vl_nil ?_
                              refine vc_cond rfl (fun hc6 => ?_) (fun hc6 => ?_)
                              · (try replace hc6 := of_decide_eq_true hc6)
                                refine vc_seq ?_
                                refine vc_region ?_
                                refine vl_val rfl (.some rfl) (val_assign rfl) ?_
                                refine vl_nil ?_
                                refine vc_ret ?_
                                refine ⟨_, [], _, res1 Try.results38 rfl, .nil, ?_⟩
                                show _ = _
                                rw [decide_eq_false]
                                rintro ⟨h1, h2, h3, h4⟩
                                have h5 := h4 i (by rw [hml]; omega)
                                rw [hmg] at h5
                                obtain ⟨a1, a2, a3⟩ := h5
                                have b1 := (sound_iff _ _ _).1 a3
                                have a2 : ((vs.getD i vc0).ids.length : Int) = n := a2
                                obtain ⟨d1, d2, d3, d4, d5, d6⟩ := b1
                                have d1 : (zs.getD i zn0).n = (((vs.getD i vc0).nu.count true : Nat) : Int) := d1
                                first | omega | exact absurd d6 (Int.not_le.2 hc6) | (rw [decide_eq_decide.2 d5] at hg107; simp at hg107; done) | (simp_all; done)
                              · (try replace hc6 := of_decide_eq_false hc6)
                                have hcok : colOk n (vcP (vs.getD i vc0)) (zs.getD i zn0) := ⟨by simpa using hg49, (show (((vs.getD i vc0).ids.length : Nat) : Int) = n by omega), (sound_iff _ _ _).2 ⟨(show (zs.getD i zn0).n = (((vs.getD i vc0).nu.count true : Nat) : Int) by omega), by simpa using hg83, by simpa using hg89, by omega, (by simpa using hg107), by omega⟩⟩
                                refine vc_skip ?_
                                refine vc_region ?_
                                refine vl_val rfl (.some rfl) (val_add rfl rfl (by first | exact w_i64 (by omega) (by omega) | rfl)) ?_
                                refine vl_val rfl (.some rfl) (val_move rfl) ?_
                                refine vl_nil ?_
                                exact ⟨vs.length - (i + 1), _, _, _, by omega, (by repeat (first | exact trivial | refine ⟨rfl, ?_⟩ | refine ⟨le_item rfl (by first | rfl | (congr 1; omega) | (simp; done) | (simp; omega)), ?_⟩)), (by repeat constructor), ⟨i + 1, by omega, rfl, ext_lt hall hcok, rfl, rfl⟩⟩
            · (try replace hc1 := of_decide_eq_false hc1)
              obtain rfl : i = vs.length := by omega
              refine vc_exit ?_
              refine vc_seq ?_
              refine vc_region ?_
              refine vl_val rfl (.some rfl) (val_assign rfl) ?_
              refine vl_nil ?_
              refine vc_ret ?_
              refine ⟨_, [], _, res1 Try.results38 rfl, .nil, ?_⟩
              show _ = _
              rw [decide_eq_true]
              exact ⟨h0.1.1, by rw [hml]; exact h0.1.2, by rw [hml]; exact h0.2, fun i hi => by rw [hmg]; exact hall i (by rw [hml] at hi; exact hi)⟩



/-- The dictionaries, but that the one at i now has the values D. -/
def updX (ds : List Xd) (i : Nat) (D : List Vk) (ds2 : List Xd) : Prop := ds2.length = ds.length ∧ (∀ j, j ≠ i → ds2.getD j xd0 = ds.getD j xd0) ∧ ((ds2.getD i xd0).r = (ds.getD i xd0).r ∧ (ds2.getD i xd0).kd = (ds.getD i xd0).kd) ∧ (ds2.getD i xd0).vs = D
theorem updX_same (ds : List Xd) (i : Nat) : updX ds i (ds.getD i xd0).vs ds := ⟨rfl, fun _ _ => rfl, ⟨rfl, rfl⟩, rfl⟩
theorem updX_set {ds : List Xd} {i : Nat} {D : List Vk} {d : Xd} (hi : i < ds.length) (h1 : d.r = (ds.getD i xd0).r ∧ d.kd = (ds.getD i xd0).kd) (h2 : d.vs = D) : updX ds i D (ds.set i d) := by
  have e : (ds.set i d).getD i xd0 = d := by simp [List.getD, List.getElem?_set_self hi]
  refine ⟨List.length_set, fun j hj => ?_, ?_, ?_⟩
  · simp [List.getD, List.getElem?_set_ne (Ne.symm hj)]
  · rw [e]; exact h1
  · rw [e]; exact h2
/-- How far the tallies are: the rows ahead of r, and of row r the columns ahead of i. -/
def StX (ds : List Xd) (KS : List Int) (DV : List (List Vk)) (RS : Rws) (ts : List Ty) (ds2 : List Xd) (r i : Nat) : Prop := ts.length = ds.length ∧ ds2.length = ds.length ∧ ∀ j, j < ds.length → (coOf (ts.getD j ty0), (ds2.getD j xd0).vs) = colF (KS.getD j 0) (DV.getD j []) ((colR RS j).take (if j < i then r + 1 else r)) ∧ (ds2.getD j xd0).kd = (ds.getD j xd0).kd ∧ (ds2.getD j xd0).r = (ds.getD j xd0).r
theorem stX_start {ds : List Xd} {KS : List Int} {DV : List (List Vk)} {RS : Rws} (hD : ∀ i, DV.getD i [] = (ds.getD i xd0).vs) : StX ds KS DV RS (List.replicate ds.length ty0) ds 0 0 := by
  refine ⟨List.length_replicate, rfl, fun j hj => ⟨?_, rfl, rfl⟩⟩
  rw [if_neg (Nat.not_lt_zero _), List.take_zero, colF_nil, getDS_rep, hD]
theorem stX_row {ds : List Xd} {KS : List Int} {DV : List (List Vk)} {RS : Rws} {ts : List Ty} {ds2 : List Xd} {r : Nat} (h : StX ds KS DV RS ts ds2 r ds.length) : StX ds KS DV RS ts ds2 (r + 1) 0 := by
  refine ⟨h.1, h.2.1, fun j hj => ?_⟩
  have := h.2.2 j hj
  rw [if_pos hj] at this
  rw [if_neg (Nat.not_lt_zero _)]
  exact this
theorem stX_step {ds : List Xd} {KS : List Int} {DV : List (List Vk)} {RS : Rws} {ts : List Ty} {ds2 ds3 : List Xd} {r i : Nat} {t2 : Ty} (hK : ∀ i, KS.getD i 0 = (ds.getD i xd0).kd) (h : StX ds KS DV RS ts ds2 r i) (hi : i < ds.length) (hr : r < RS.length) (h1 : coOf t2 = (takeC (ds2.getD i xd0).kd (coOf (ts.getD i ty0), (ds2.getD i xd0).vs) ((RS.getD r []).getD i z3)).1) (h2 : updX ds2 i (takeC (ds2.getD i xd0).kd (coOf (ts.getD i ty0), (ds2.getD i xd0).vs) ((RS.getD r []).getD i z3)).2 ds3) : StX ds KS DV RS (ts.set i t2) ds3 r (i + 1) := by
  obtain ⟨l1, l2, hh⟩ := h
  obtain ⟨u1, u2, u3, u4⟩ := h2
  refine ⟨by rw [List.length_set, l1], by rw [u1, l2], fun j hj => ?_⟩
  by_cases hji : j = i
  · subst hji
    have hc := hh j hj
    rw [if_neg (Nat.lt_irrefl _)] at hc
    rw [if_pos (Nat.lt_succ_self _), colR_take hr, colF_snoc, ← hc.1]
    have e : (ts.set j t2).getD j ty0 = t2 := by simp [List.getD, List.getElem?_set_self (show j < ts.length by omega)]
    rw [e, u4, h1, hK, ← hc.2.1]
    exact ⟨rfl, u3.2, u3.1.trans hc.2.2⟩
  · have hc := hh j hj
    have e : (ts.set i t2).getD j ty0 = ts.getD j ty0 := by simp [List.getD, List.getElem?_set_ne (Ne.symm hji)]
    rw [e, u2 j hji]
    have e2 : (if j < i + 1 then r + 1 else r) = if j < i then r + 1 else r := by
      by_cases hl : j < i
      · rw [if_pos hl, if_pos (by omega)]
      · rw [if_neg hl, if_neg (by omega)]
    rw [e2]
    exact hc
theorem stX_bd {ds : List Xd} {KS : List Int} {DV : List (List Vk)} {RS : Rws} {ts : List Ty} {ds2 : List Xd} {r i j : Nat} (h : StX ds KS DV RS ts ds2 r i) (hj : j < ds.length) (hR : RS.length ≤ 1000) : (0 ≤ (ts.getD j ty0).z.n ∧ (ts.getD j ty0).z.n ≤ 1000000) ∧ (ts.getD j ty0).v.nu.length ≤ 1000000 ∧ (ts.getD j ty0).v.ids.length ≤ 1000000 := by
  have hc := (h.2.2 j hj).1
  have a := colF_n (KS.getD j 0) (DV.getD j []) ((colR RS j).take (if j < i then r + 1 else r))
  have b := colF_len (KS.getD j 0) (DV.getD j []) ((colR RS j).take (if j < i then r + 1 else r))
  have l : ((colR RS j).take (if j < i then r + 1 else r)).length ≤ 1000 := by rw [List.length_take, colR_len]; omega
  rw [← hc] at a b
  simp only at a b
  omega
def XKeep (ds ds2 : List Xd) : Prop := ds2.length = ds.length ∧ ∀ j, (ds2.getD j xd0).kd = (ds.getD j xd0).kd ∧ (ds2.getD j xd0).r = (ds.getD j xd0).r
theorem XKeep.rfl (ds : List Xd) : XKeep ds ds := ⟨Eq.refl _, fun _ => ⟨Eq.refl _, Eq.refl _⟩⟩
theorem stX_end {ds : List Xd} {KS : List Int} {DV : List (List Vk)} {RS : Rws} {ts : List Ty} {ds2 : List Xd} (hKl : KS.length = ds.length) (h : StX ds KS DV RS ts ds2 RS.length 0) (h0 : mayE KS DV RS = 0) : MadeS KS DV RS RS.length (ts.map (·.v)) (ts.map (·.z)) 0 (ds2.map (·.vs)) ∧ XKeep ds ds2 := by
  obtain ⟨l1, l2, hh⟩ := h
  have hc : ∀ j, j < ds.length → (coOf (ts.getD j ty0), (ds2.getD j xd0).vs) = (colsP KS DV RS).getD j (co0, []) := fun j hj => by
    rw [(hh j hj).1, if_neg (Nat.not_lt_zero _), show (colR RS j).take RS.length = colR RS j by rw [← colR_len RS j]; exact List.take_length]
    unfold colsP
    simp [List.getD, List.getElem?_map, hKl, hj]
  have hl : (colsP KS DV RS).length = ds.length := by unfold colsP; rw [List.length_map, List.length_range, hKl]
  refine ⟨?_, l2, fun j => ?_⟩
  · unfold MadeS makeP
    rw [if_neg (by rw [h0]; simp)]
    have e1 : (colsP KS DV RS).map (fun c => (c.1.nu, c.1.ids)) = (ts.map (·.v)).map vcP := by
      rw [List.map_map]
      refine ext_getD ([], []) (by rw [List.length_map, List.length_map, hl, l1]) fun j hj => ?_
      rw [List.length_map, hl] at hj
      rw [map_getDs (co0, []) ([], []) rfl, ← hc j hj, map_getDs ty0 ([], []) rfl]
      rfl
    have e2 : (colsP KS DV RS).map (·.1.z) = ts.map (·.z) := by
      refine ext_getD zn0 (by rw [List.length_map, List.length_map, hl, l1]) fun j hj => ?_
      rw [List.length_map, hl] at hj
      rw [map_getDs (co0, []) zn0 rfl, ← hc j hj, map_getDs ty0 zn0 rfl]
    have e3 : (colsP KS DV RS).map (·.2) = ds2.map (·.vs) := by
      refine ext_getD [] (by rw [List.length_map, List.length_map, hl, l2]) fun j hj => ?_
      rw [List.length_map, hl] at hj
      rw [map_getDs (co0, []) [] rfl, ← hc j hj, map_getDs xd0 [] rfl]
    rw [e1, e2, e3]
  · by_cases hj : j < ds.length
    · exact (hh j hj).2
    · simp [List.getD, List.getElem?_eq_none (show ds.length ≤ j by omega), List.getElem?_eq_none (show ds2.length ≤ j by omega)]

theorem xbVal {ds : List Xd} {i : Nat} (hi : i < ds.length) (hk : okK (ds.getD i xd0).kd) (n : Int) (w : World) : FnR Try.prog 39 [xdP (ds.getD i xd0), .int .i64 n] [XB ds] (.tuple #[vk (if 0 ≤ n ∧ n < (ds.getD i xd0).vs.length then (ds.getD i xd0).vs.getD n.toNat z3 else z3), .bool (decide (0 ≤ n ∧ n < (ds.getD i xd0).vs.length))]) w := by
  rw [xdP_ok hk]
  exact FnR.inBig xdH xd0 hi (R0 := []) (by rw [xdH_ok hk]; exact .refl _) (xValue _ _ _ _ _ _ w)
theorem xbRoom {ds : List Xd} {i : Nat} (hi : i < ds.length) (hk : okK (ds.getD i xd0).kd) (hl : (ds.getD i xd0).vs.length ≤ 512) (L : Option Addr) (cl : Nat) (us : List Vk) (hus : us.length ≤ 4611686018427387904) (hw : ∀ p ∈ us, WV p) (w : World) (hL : ReadsM w (fps [XB ds]) L (flat us)) : FnR Try.prog 29 [xdP (ds.getD i xd0), .slice L us.length cl] [XB ds] (.bool (roomT (ds.getD i xd0).kd (ds.getD i xd0).vs us)) w := by
  rw [xdP_ok hk]
  refine FnR.inBig xdH xd0 hi (R0 := []) (by rw [xdH_ok hk]; exact .refl _) (xRoom _ _ _ _ _ hl L cl us hk.1 hk.2 hus hw w (hL.less ?_))
  exact fps_in xd0 hi (by rw [xdH_ok hk]; exact fun c hc => hc)
theorem xbAdd {ds : List Xd} {i : Nat} (hi : i < ds.length) (hk : okK (ds.getD i xd0).kd) (hl : (ds.getD i xd0).vs.length ≤ 512) (p : Vk) (hw : WV p) (w : World) : Fn Try.prog 30 [xdP (ds.getD i xd0), vk p] [XB ds] (ret fun v H' => ∃ d, (v = .tuple #[.int .i64 (dadd (ds.getD i xd0).kd (ds.getD i xd0).vs p).1.1, .int .i64 (dadd (ds.getD i xd0).kd (ds.getD i xd0).vs p).1.2] ∧ (d.r = (ds.getD i xd0).r ∧ d.kd = (ds.getD i xd0).kd) ∧ d.vs = (dadd (ds.getD i xd0).kd (ds.getD i xd0).vs p).2) ∧ H' = [XB (ds.set i d)]) w := by
  rw [xdP_ok hk]
  refine Fn.inBig xdH xd0 hi ?_
  rw [xdH_ok hk]
  refine (xAdd (ds.getD i xd0).r (ds.getD i xd0).kd (ds.getD i xd0).A (ds.getD i xd0).c (ds.getD i xd0).vs hl p hk.1 hk.2 hw.1 hw.2 w).out fun v H ⟨A', c', e1, e2⟩ => ?_
  refine ⟨H, [], by rw [List.append_nil]; exact Eqv.refl _, ⟨(ds.getD i xd0).r, (ds.getD i xd0).kd, A', c', _⟩, ⟨e1, ⟨rfl, rfl⟩, rfl⟩, ?_⟩
  rw [xdH_ok (by exact hk)]
  exact e2
theorem xd_in {ds : List Xd} {i : Nat} (hi : i < ds.length) (hk : okK (ds.getD i xd0).kd) : RC (ds.getD i xd0).r (ds.getD i xd0).kd (ds.getD i xd0).A (ds.getD i xd0).vs.length (ds.getD i xd0).c ∈ ds.flatMap xdH :=
  List.mem_flatMap.2 ⟨_, mem_getD xd0 hi, by rw [xdH_ok hk]; exact List.mem_cons_self ..⟩
theorem takeC_wv {kd : Int} {c : Co × List Vk} {v : Vk} (h : WV c.1.z.lo ∧ WV c.1.z.hi) (hv : WV v) : WV (takeC kd c v).1.z.lo ∧ WV (takeC kd c v).1.z.hi := by
  rw [takeC_is]
  unfold takeZ
  split
  · exact h
  · refine ⟨?_, ?_⟩
    · show WV (if _ then _ else _)
      split
      · exact hv
      · exact h.1
    · show WV (if _ then _ else _)
      split
      · exact hv
      · exact h.2
theorem foldC_wv {kd : Int} : ∀ {vs : List Vk} {c : Co × List Vk}, (∀ v ∈ vs, WV v) → WV c.1.z.lo ∧ WV c.1.z.hi → WV (vs.foldl (takeC kd) c).1.z.lo ∧ WV (vs.foldl (takeC kd) c).1.z.hi
  | [], _, _, h => h
  | v :: vs, _, hv, h => foldC_wv (vs := vs) (fun x hx => hv x (List.mem_cons_of_mem _ hx)) (takeC_wv h (hv v (List.mem_cons_self ..)))
theorem wv_z3 : WV z3 := by unfold WV; decide
theorem colF_wv {kd : Int} {D vs : List Vk} (h : ∀ v ∈ vs, WV v) : WV (colF kd D vs).1.z.lo ∧ WV (colF kd D vs).1.z.hi := foldC_wv h ⟨wv_z3, wv_z3⟩
theorem colR_wv {rows : Rws} {i : Nat} (h : ∀ r ∈ rows, ∀ p ∈ r, WV p) : ∀ p ∈ colR rows i, WV p := by
  intro p hp
  obtain ⟨r, hr, rfl⟩ := List.mem_map.1 hp
  by_cases hi : i < r.length
  · exact h r hr _ (mem_getD z3 hi)
  · rw [show r.getD i z3 = z3 by simp [List.getD, List.getElem?_eq_none (Nat.not_lt.1 hi)]]; exact wv_z3
theorem stX_wv {ds : List Xd} {KS : List Int} {DV : List (List Vk)} {RS : Rws} {ts : List Ty} {ds2 : List Xd} {r i j : Nat} (h : StX ds KS DV RS ts ds2 r i) (hj : j < ds.length) (hw : ∀ r ∈ RS, ∀ p ∈ r, WV p) : WV (ts.getD j ty0).z.lo ∧ WV (ts.getD j ty0).z.hi := by
  have hc := (h.2.2 j hj).1
  have := colF_wv (kd := KS.getD j 0) (D := DV.getD j []) (vs := (colR RS j).take (if j < i then r + 1 else r)) (fun v hv => colR_wv hw v (List.mem_of_mem_take hv))
  rw [← hc] at this
  exact this
theorem stX_le {ds : List Xd} {KS : List Int} {DV : List (List Vk)} {RS : Rws} {ts : List Ty} {ds2 : List Xd} {r i j : Nat} (h : StX ds KS DV RS ts ds2 r i) (hj : j < ds.length) (hD : (DV.getD j []).length ≤ 512) : (ds2.getD j xd0).vs.length ≤ 512 := by
  have hc := (h.2.2 j hj).1
  have := colF_le (kd := KS.getD j 0) (D := DV.getD j []) (vs := (colR RS j).take (if j < i then r + 1 else r)) hD
  rw [← hc] at this
  exact this
theorem split_cz {ts : List Ty} {i : Nat} (h : i < ts.length) : ∃ PC QC PZ QZ : List Value, PC.length = i * 2 ∧ PZ.length = i * 7 ∧ ∀ t, ((ts.set i t).map (·.v)).flatMap vcC = PC ++ (vcC t.v ++ QC) ∧ ((ts.set i t).map (·.z)).flatMap znC = PZ ++ (znC t.z ++ QZ) := by
  refine ⟨((ts.take i).map (·.v)).flatMap vcC, ((ts.drop (i + 1)).map (·.v)).flatMap vcC, ((ts.take i).map (·.z)).flatMap znC, ((ts.drop (i + 1)).map (·.z)).flatMap znC, ?_, ?_, fun t => ?_⟩
  · rw [flatS_len vcC_len, List.length_map, List.length_take, Nat.min_eq_left (by omega)]
  · rw [flatS_len znC_len, List.length_map, List.length_take, Nat.min_eq_left (by omega)]
  · have e := split_at t (show i < (ts.set i t).length by simpa using h)
    rw [List.take_set_of_le (Nat.le_refl _), List.drop_set_of_lt (Nat.lt_succ_self _), show (ts.set i t).getD i t = t by simp [List.getD, List.getElem?_set_self h]] at e
    rw [e]
    simp only [List.map_append, List.map_cons, List.flatMap_append, List.flatMap_cons]
    exact ⟨trivial, trivial⟩
theorem set_same {α : Type} {l : List α} {i : Nat} (d : α) (h : i < l.length) : l.set i (l.getD i d) = l := by
  refine ext_getD d (by simp) fun j hj => ?_
  rw [set_getD]
  split
  · rename_i h2; rw [h2.1]
  · rfl
theorem rep_pushF {α : Type} (f : α → List Value) (x : α) (i : Nat) : (List.replicate i x).flatMap f ++ f x = (List.replicate (i + 1) x).flatMap f := by
  rw [List.replicate_succ', List.flatMap_append]; simp
theorem rep_map {α β : Type} (g : α → β) (n : Nat) (x : α) : (List.replicate n x).map g = List.replicate n (g x) := List.map_replicate




set_option maxRecDepth 20000 in
theorem sT38 : SlT Try.prog 38 87 2 48 (.agg #[.slice none 0 0, .slice none 0 0]) := ⟨Try.underlying38, ⟨Try.t87, Try.type87, rfl, rfl, rfl⟩, rfl, Nat.lt_of_sub_eq_succ rfl⟩
set_option maxRecDepth 20000 in
theorem sT39 : SlT Try.prog 39 88 7 72 (.agg #[.int .i64 0, .int .i64 0, .int .i64 0, .string .empty, .int .i64 0, .int .i64 0, .string .empty]) := ⟨Try.underlying39, ⟨Try.t88, Try.type88, rfl, rfl, rfl⟩, rfl, Nat.lt_of_sub_eq_succ rfl⟩

theorem xd_nilE {X : Cx} {E : Env} {H : List Chunk} {T e yT ty : TypeId} {x y : Operand} {d : Xd} (hu : ∀ w, (underlying T).run X.P w = .ok (.pointer e) w) (hx : E.ev x = some (xdP d)) (hy : E.ev y = some (.pointer none)) : Val X E H (.binOp .eql T x y yT) ty (.bool (decide (¬ okK d.kd))) := by
  by_cases hk : okK d.kd
  · rw [xdP_ok hk] at hx
    rw [decide_eq_false (fun h => h hk)]
    exact val_opO hx hy guard_ptr (bin_ptr_eq hu)
  · rw [xdP_no hk] at hx
    rw [decide_eq_true hk]
    exact val_opO hx hy guard_ptr (bin_nil_eq hu)
theorem made_failE {KS : List Int} {DV : List (List Vk)} {RS : Rws} {e : Int} (h : mayE KS DV RS = e) (he : e ≠ 0) : MadeS KS DV RS 0 [] [] e DV := by
  have := made_fail (KS := KS) (DV := DV) (RS := RS) (by rw [h]; exact he)
  rwa [h] at this

set_option maxRecDepth 20000 in
set_option maxHeartbeats 4000000 in
theorem xMake (Ak : Option Addr) (ck : Nat) (ds : List Xd) (Ar : Option Addr) (cr : Nat) (rows : List Rw) (Ad : Option Addr) (cd : Nat) (hnl : ds.length ≤ 1000000) (hrl : rows.length ≤ 4611686018427387904) (hll : ∀ q ∈ rows, q.2.2.length ≤ 4611686018427387904) (h512 : ∀ i, (ds.getD i xd0).vs.length ≤ 512) (hwv : ∀ q ∈ rows, ∀ p ∈ q.2.2, WV p) (w : World) (hk : ReadsM w (fps [XB ds]) Ak (icells .i64 (ds.map (·.kd)))) (hrd : ReadsM w (fps [XB ds]) Ar (rows.flatMap rowV)) (hrow : ∀ q ∈ rows, ReadsM w (fps [XB ds]) q.1 (flat q.2.2)) (hdp : ReadsM w (fps [XB ds]) Ad (ds.map xdP)) : Fn Try.prog 10 [.slice Ak ds.length ck, .slice Ar rows.length cr, .slice Ad ds.length cd] [XB ds] (ret fun v H' => ∃ (n : Int) (Ac : Option Addr) (cc : Nat) (vs : List Vc) (Az : Option Addr) (cz : Nat) (zs : List Zn) (e : Int) (ds2 : List Xd), v = .tuple #[.agg #[.int .i64 n, .slice Ac vs.length cc, .slice Az zs.length cz], .int .i64 e] ∧ H' = [XB ds2, big (vs.flatMap vcH), sl Ac vs.length cc 87 2 (vs.flatMap vcC), sl Az zs.length cz 88 7 (zs.flatMap znC)] ∧ MadeS (ds.map (·.kd)) (ds.map (·.vs)) (rows.map (·.2.2)) n vs zs e (ds2.map (·.vs)) ∧ XKeep ds ds2) w := by
  obtain ⟨KS, hKS⟩ : ∃ KS, ds.map (·.kd) = KS := ⟨_, rfl⟩
  obtain ⟨DV, hDV⟩ : ∃ DV, ds.map (·.vs) = DV := ⟨_, rfl⟩
  obtain ⟨RS, hRS⟩ : ∃ RS, rows.map (·.2.2) = RS := ⟨_, rfl⟩
  have hKl : KS.length = ds.length := by rw [← hKS]; exact List.length_map _
  have hRl : RS.length = rows.length := by rw [← hRS]; exact List.length_map _
  have hKg : ∀ i, KS.getD i 0 = (ds.getD i xd0).kd := fun i => by rw [← hKS]; exact map_getDs xd0 0 rfl
  have hDg : ∀ i, DV.getD i [] = (ds.getD i xd0).vs := fun i => by rw [← hDV]; exact map_getDs xd0 [] rfl
  have hRg : ∀ i, RS.getD i [] = (rows.getD i rw0).2.2 := fun i => by rw [← hRS]; exact map_getDs rw0 [] rfl
  rw [hKS] at hk
  have hwR : ∀ r ∈ RS, ∀ p ∈ r, WV p := fun r hr p hp => by
    rw [← hRS] at hr
    obtain ⟨q, hq, rfl⟩ := List.mem_map.1 hr
    exact hwv q hq p hp
  rw [hKS, hDV, hRS]
  refine fn_enter Try.func10 rfl Try.ntmps10 rfl ?_
  refine vc_seq ?_
  refine vc_region ?_
  refine vl_alloc rfl rfl (.some rfl) Try.zeroValue41 (fun r6 => ?_)
  refine vl_val rfl (.some rfl) (val_assign rfl) ?_
  refine vl_nil ?_
  refine vc_seq ?_
  refine vc_region ?_
  refine vl_val rfl (.some rfl) (val_move rfl) ?_
  refine vl_val rfl (.some rfl) (val_lenSl Try.runUnderlying22 rfl) ?_
  refine vl_val rfl (.some rfl) (val_assign rfl) ?_
  refine vl_nil ?_
  refine vc_seq ?_
  refine vc_seq ?_
  refine vc_region ?_
  refine vl_val rfl (.some rfl) (val_move rfl) ?_
  refine vl_val rfl (.some rfl) (val_move rfl) ?_
  refine vl_val rfl (.some rfl) (val_lenSl Try.runUnderlying27 rfl) ?_
  refine vl_val rfl (.some rfl) (val_ne rfl rfl) ?_
  refine vl_val rfl (.some rfl) (val_move rfl) ?_
  refine vl_split (t := 35) rfl (fun hg35 => ?_) (fun hg35 => ?_)
  · (try replace hg35 := of_decide_eq_true hg35)
    refine vl_off rfl rfl rfl rfl (.some rfl) ?_
    refine vl_off rfl rfl rfl rfl (.some rfl) ?_
    refine vl_val rfl (.some rfl) (val_pick rfl rfl) ?_
    refine vl_val rfl (.some rfl) (val_move rfl) ?_
    refine vl_off rfl rfl rfl rfl (.some rfl) ?_
    refine vl_off rfl rfl rfl rfl (.some rfl) ?_
    refine vl_val rfl (.some rfl) (val_pick rfl rfl) ?_
    refine vl_val rfl (.some rfl) (val_move rfl) ?_
    refine vl_off rfl rfl rfl rfl (.some rfl) ?_
    refine vl_off rfl rfl rfl rfl (.some rfl) ?_
    refine vl_off rfl rfl rfl rfl (.some rfl) ?_
    refine vl_val rfl (.some rfl) (val_pick rfl rfl) ?_
    refine vl_val rfl (.some rfl) (val_move rfl) ?_
    refine vl_off rfl rfl rfl rfl (.some rfl) ?_
    refine vl_off rfl rfl rfl rfl (.some rfl) ?_
    refine vl_off rfl rfl rfl rfl (.some rfl) ?_
    refine vl_val rfl (.some rfl) (val_pick rfl rfl) ?_
    refine vl_nil ?_
    refine vc_cond rfl (fun _ => ?_) (fun h => by cases h)
    refine vc_seq ?_
    refine vc_region ?_
    refine vl_val rfl (.some rfl) (val_buildSt (pl := #[(0, 1), (1, 1), (2, 1)]) (cs := #[.int .i64 (0), .slice none 0 0, .slice none 0 0]) Try.runUnderlying41 Try.zeroValue41 (fun w => by kernel_rfl) rfl rfl) ?_
    refine vl_nilSl 87 2 ?_
    refine vl_nilSl 88 7 ?_
    refine vl_eqv (eqv_nil _) ?_
    first | refine vl_store rfl rfl .none rfl rfl Try.sizeOf41 rfl (by repeat constructor) (by first | decide | exact Nat.le_refl _ | exact Nat.le_of_ble_eq_true rfl | (simp; omega)) ?_ | refine vl_storeSl rfl rfl .none rfl rfl Try.sizeOf41 rfl (by simp [Value.cells]) (by repeat constructor) (by first | decide | (simp [Value.cells]; omega)) ?_
    refine vl_val rfl (.some rfl) (val_assign rfl) ?_
    refine vl_nil ?_
    refine vc_ret ?_
    refine ⟨_, [XB ds, big [], sl none 0 0 87 2 [], sl none 0 0 88 7 []], _, resC2 Try.results10 rfl (whole_agg Try.isAgg41 Try.sizeOf41 (cells_whole (by repeat constructor)) rfl) rfl, (by repeat constructor), ?_⟩
    exact ⟨0, none, 0, [], none, 0, [], _, ds, rfl, rfl, by rw [hDV]; exact made_failE (mayE_arg (by omega)) (by decide), XKeep.rfl ds⟩
  · (try replace hg35 := of_decide_eq_false hg35)
    refine vl_on rfl rfl rfl rfl ?_
    refine vl_val rfl (.some rfl) (val_move rfl) ?_
    refine vl_on rfl rfl rfl rfl ?_
    refine vl_val rfl (.some rfl) (val_lt rfl rfl) ?_
    refine vl_val rfl (.some rfl) (val_pick rfl rfl) ?_
    refine vl_val rfl (.some rfl) (val_move rfl) ?_
    refine vl_split (t := 39) rfl (fun hg39 => ?_) (fun hg39 => ?_)
    · (try replace hg39 := of_decide_eq_true hg39)
      refine vl_off rfl rfl rfl rfl (.some rfl) ?_
      refine vl_off rfl rfl rfl rfl (.some rfl) ?_
      refine vl_val rfl (.some rfl) (val_pick rfl rfl) ?_
      refine vl_val rfl (.some rfl) (val_move rfl) ?_
      refine vl_off rfl rfl rfl rfl (.some rfl) ?_
      refine vl_off rfl rfl rfl rfl (.some rfl) ?_
      refine vl_off rfl rfl rfl rfl (.some rfl) ?_
      refine vl_val rfl (.some rfl) (val_pick rfl rfl) ?_
      refine vl_val rfl (.some rfl) (val_move rfl) ?_
      refine vl_off rfl rfl rfl rfl (.some rfl) ?_
      refine vl_off rfl rfl rfl rfl (.some rfl) ?_
      refine vl_off rfl rfl rfl rfl (.some rfl) ?_
      refine vl_val rfl (.some rfl) (val_pick rfl rfl) ?_
      refine vl_nil ?_
      refine vc_cond rfl (fun _ => ?_) (fun h => by cases h)
      refine vc_seq ?_
      refine vc_region ?_
      refine vl_val rfl (.some rfl) (val_buildSt (pl := #[(0, 1), (1, 1), (2, 1)]) (cs := #[.int .i64 (0), .slice none 0 0, .slice none 0 0]) Try.runUnderlying41 Try.zeroValue41 (fun w => by kernel_rfl) rfl rfl) ?_
      refine vl_nilSl 87 2 ?_
      refine vl_nilSl 88 7 ?_
      refine vl_eqv (eqv_nil _) ?_
      first | refine vl_store rfl rfl .none rfl rfl Try.sizeOf41 rfl (by repeat constructor) (by first | decide | exact Nat.le_refl _ | exact Nat.le_of_ble_eq_true rfl | (simp; omega)) ?_ | refine vl_storeSl rfl rfl .none rfl rfl Try.sizeOf41 rfl (by simp [Value.cells]) (by repeat constructor) (by first | decide | (simp [Value.cells]; omega)) ?_
      refine vl_val rfl (.some rfl) (val_assign rfl) ?_
      refine vl_nil ?_
      refine vc_ret ?_
      refine ⟨_, [XB ds, big [], sl none 0 0 87 2 [], sl none 0 0 88 7 []], _, resC2 Try.results10 rfl (whole_agg Try.isAgg41 Try.sizeOf41 (cells_whole (by repeat constructor)) rfl) rfl, (by repeat constructor), ?_⟩
      exact ⟨0, none, 0, [], none, 0, [], _, ds, rfl, rfl, by rw [hDV]; exact made_failE (mayE_arg (by omega)) (by decide), XKeep.rfl ds⟩
    · (try replace hg39 := of_decide_eq_false hg39)
      refine vl_on rfl rfl rfl rfl ?_
      refine vl_val rfl (.some rfl) (val_move rfl) ?_
      refine vl_on rfl rfl rfl rfl ?_
      refine vl_val rfl (.some rfl) (val_gt rfl rfl) ?_
      refine vl_val rfl (.some rfl) (val_pick rfl rfl) ?_
      refine vl_val rfl (.some rfl) (val_move rfl) ?_
      refine vl_split (t := 43) rfl (fun hg43 => ?_) (fun hg43 => ?_)
      · (try replace hg43 := of_decide_eq_true hg43)
        refine vl_off rfl rfl rfl rfl (.some rfl) ?_
        refine vl_off rfl rfl rfl rfl (.some rfl) ?_
        refine vl_off rfl rfl rfl rfl (.some rfl) ?_
        refine vl_val rfl (.some rfl) (val_pick rfl rfl) ?_
        refine vl_val rfl (.some rfl) (val_move rfl) ?_
        refine vl_off rfl rfl rfl rfl (.some rfl) ?_
        refine vl_off rfl rfl rfl rfl (.some rfl) ?_
        refine vl_off rfl rfl rfl rfl (.some rfl) ?_
        refine vl_val rfl (.some rfl) (val_pick rfl rfl) ?_
        refine vl_nil ?_
        refine vc_cond rfl (fun _ => ?_) (fun h => by cases h)
        refine vc_seq ?_
        refine vc_region ?_
        refine vl_val rfl (.some rfl) (val_buildSt (pl := #[(0, 1), (1, 1), (2, 1)]) (cs := #[.int .i64 (0), .slice none 0 0, .slice none 0 0]) Try.runUnderlying41 Try.zeroValue41 (fun w => by kernel_rfl) rfl rfl) ?_
        refine vl_nilSl 87 2 ?_
        refine vl_nilSl 88 7 ?_
        refine vl_eqv (eqv_nil _) ?_
        first | refine vl_store rfl rfl .none rfl rfl Try.sizeOf41 rfl (by repeat constructor) (by first | decide | exact Nat.le_refl _ | exact Nat.le_of_ble_eq_true rfl | (simp; omega)) ?_ | refine vl_storeSl rfl rfl .none rfl rfl Try.sizeOf41 rfl (by simp [Value.cells]) (by repeat constructor) (by first | decide | (simp [Value.cells]; omega)) ?_
        refine vl_val rfl (.some rfl) (val_assign rfl) ?_
        refine vl_nil ?_
        refine vc_ret ?_
        refine ⟨_, [XB ds, big [], sl none 0 0 87 2 [], sl none 0 0 88 7 []], _, resC2 Try.results10 rfl (whole_agg Try.isAgg41 Try.sizeOf41 (cells_whole (by repeat constructor)) rfl) rfl, (by repeat constructor), ?_⟩
        exact ⟨0, none, 0, [], none, 0, [], _, ds, rfl, rfl, by rw [hDV]; exact made_failE (mayE_arg (by omega)) (by decide), XKeep.rfl ds⟩
      · (try replace hg43 := of_decide_eq_false hg43)
        refine vl_on rfl rfl rfl rfl ?_
        refine vl_val rfl (.some rfl) (val_move rfl) ?_
        refine vl_on rfl rfl rfl rfl ?_
        refine vl_val rfl (.some rfl) (val_lenSl Try.runUnderlying23 rfl) ?_
        refine vl_on rfl rfl rfl rfl ?_
        refine vl_val rfl (.some rfl) (val_lt rfl rfl) ?_
        refine vl_val rfl (.some rfl) (val_pick rfl rfl) ?_
        refine vl_val rfl (.some rfl) (val_move rfl) ?_
        refine vl_split (t := 48) rfl (fun hg48 => ?_) (fun hg48 => ?_)
        · (try replace hg48 := of_decide_eq_true hg48)
          refine vl_off rfl rfl rfl rfl (.some rfl) ?_
          refine vl_off rfl rfl rfl rfl (.some rfl) ?_
          refine vl_off rfl rfl rfl rfl (.some rfl) ?_
          refine vl_val rfl (.some rfl) (val_pick rfl rfl) ?_
          refine vl_nil ?_
          refine vc_cond rfl (fun _ => ?_) (fun h => by cases h)
          refine vc_seq ?_
          refine vc_region ?_
          refine vl_val rfl (.some rfl) (val_buildSt (pl := #[(0, 1), (1, 1), (2, 1)]) (cs := #[.int .i64 (0), .slice none 0 0, .slice none 0 0]) Try.runUnderlying41 Try.zeroValue41 (fun w => by kernel_rfl) rfl rfl) ?_
          refine vl_nilSl 87 2 ?_
          refine vl_nilSl 88 7 ?_
          refine vl_eqv (eqv_nil _) ?_
          first | refine vl_store rfl rfl .none rfl rfl Try.sizeOf41 rfl (by repeat constructor) (by first | decide | exact Nat.le_refl _ | exact Nat.le_of_ble_eq_true rfl | (simp; omega)) ?_ | refine vl_storeSl rfl rfl .none rfl rfl Try.sizeOf41 rfl (by simp [Value.cells]) (by repeat constructor) (by first | decide | (simp [Value.cells]; omega)) ?_
          refine vl_val rfl (.some rfl) (val_assign rfl) ?_
          refine vl_nil ?_
          refine vc_ret ?_
          refine ⟨_, [XB ds, big [], sl none 0 0 87 2 [], sl none 0 0 88 7 []], _, resC2 Try.results10 rfl (whole_agg Try.isAgg41 Try.sizeOf41 (cells_whole (by repeat constructor)) rfl) rfl, (by repeat constructor), ?_⟩
          exact ⟨0, none, 0, [], none, 0, [], _, ds, rfl, rfl, by rw [hDV]; exact made_failE (mayE_arg (by omega)) (by decide), XKeep.rfl ds⟩
        · (try replace hg48 := of_decide_eq_false hg48)
          refine vl_on rfl rfl rfl rfl ?_
          refine vl_val rfl (.some rfl) (val_move rfl) ?_
          refine vl_on rfl rfl rfl rfl ?_
          refine vl_val rfl (.some rfl) (val_lenSl Try.runUnderlying23 rfl) ?_
          refine vl_on rfl rfl rfl rfl ?_
          refine vl_val rfl (.some rfl) (val_gt rfl rfl) ?_
          refine vl_val rfl (.some rfl) (val_pick rfl rfl) ?_
          refine vl_nil ?_
          refine vc_cond rfl (fun hc0 => ?_) (fun hc0 => ?_)
          · (try replace hc0 := of_decide_eq_true hc0)
            refine vc_seq ?_
            refine vc_region ?_
            refine vl_val rfl (.some rfl) (val_buildSt (pl := #[(0, 1), (1, 1), (2, 1)]) (cs := #[.int .i64 (0), .slice none 0 0, .slice none 0 0]) Try.runUnderlying41 Try.zeroValue41 (fun w => by kernel_rfl) rfl rfl) ?_
            refine vl_nilSl 87 2 ?_
            refine vl_nilSl 88 7 ?_
            refine vl_eqv (eqv_nil _) ?_
            first | refine vl_store rfl rfl .none rfl rfl Try.sizeOf41 rfl (by repeat constructor) (by first | decide | exact Nat.le_refl _ | exact Nat.le_of_ble_eq_true rfl | (simp; omega)) ?_ | refine vl_storeSl rfl rfl .none rfl rfl Try.sizeOf41 rfl (by simp [Value.cells]) (by repeat constructor) (by first | decide | (simp [Value.cells]; omega)) ?_
            refine vl_val rfl (.some rfl) (val_assign rfl) ?_
            refine vl_nil ?_
            refine vc_ret ?_
            refine ⟨_, [XB ds, big [], sl none 0 0 87 2 [], sl none 0 0 88 7 []], _, resC2 Try.results10 rfl (whole_agg Try.isAgg41 Try.sizeOf41 (cells_whole (by repeat constructor)) rfl) rfl, (by repeat constructor), ?_⟩
            exact ⟨0, none, 0, [], none, 0, [], _, ds, rfl, rfl, by rw [hDV]; exact made_failE (mayE_arg (by omega)) (by decide), XKeep.rfl ds⟩
          · (try replace hc0 := of_decide_eq_false hc0)
            have h0 : ¬ (KS.length < 1 ∨ 8 < KS.length ∨ RS.length < 1 ∨ 1000 < RS.length) := by omega
            refine vc_skip ?_
            refine vc_seq ?_
            refine vc_seq ?_
            refine vc_region ?_
            refine vl_val rfl (.some rfl) (val_move rfl) ?_
            refine vl_val rfl (.some rfl) (val_lenSl Try.runUnderlying27 rfl) ?_
            refine vl_val rfl (.some rfl) (val_move rfl) ?_
            refine vl_nil ?_
            refine vc_block ?_
            refine vc_loopw (fun k E H => ∃ i : Nat, i ≤ ds.length ∧ k = ds.length - i ∧ (∀ j, j < i → okK (KS.getD j 0)) ∧ E = [(0, .slice Ak ds.length ck), (1, .slice Ar rows.length cr), (2, .slice Ad ds.length cd), (6, .pointer (some ⟨r6, 0, none⟩)), (8, .int .i64 ds.length), (54, .slice Ad ds.length cd), (55, .int .i64 ds.length), (56, .int .i64 i)] ∧ H = [cells r6 [.int .i64 0, .slice none 0 0, .slice none 0 0] 41, XB ds]) (ds.length) ⟨_, _, _, ⟨0, by omega, by omega, fun j h => absurd h (by omega), rfl, rfl⟩, (by repeat (first | exact trivial | refine ⟨rfl, ?_⟩ | refine ⟨le_item rfl (by first | rfl | (congr 1; omega) | (simp; done) | (simp; omega)), ?_⟩)), (by repeat constructor)⟩ ?_
            intro k E H hI
            obtain ⟨i, hi, rfl, hok, rfl, rfl⟩ := hI
            refine vc_seq ?_
            refine vc_region ?_
            refine vl_val rfl (.some rfl) (val_lt rfl rfl) ?_
            refine vl_nil ?_
            refine vc_seq ?_
            refine vc_cond rfl (fun hc1 => ?_) (fun hc1 => ?_)
            · (try replace hc1 := of_decide_eq_true hc1)
              have hi8 : i < ds.length := by omega
              refine vc_skip ?_
              refine vc_seq ?_
              refine vc_block ?_
              refine vc_seq ?_
              refine vc_region ?_
              refine vl_val rfl (.some rfl) (val_move rfl) ?_
              refine vl_val rfl (.some rfl) (val_indexAddr Try.runUnderlying27 Try.sizeOf50 rfl rfl (rd_oldM hdp) (by omega) (by omega) (by rw [List.length_map]; omega)) ?_
              refine vl_val rfl (.some rfl) (val_load Try.isAgg50 rfl (cell_rd (rd_oldM hdp) (map_at xd0 (by omega)))) ?_
              refine vl_val rfl (.some rfl) (val_assign rfl) ?_
              refine vl_val rfl (.some rfl) (val_assign rfl) ?_
              refine vl_nil ?_
              refine vc_seq ?_
              refine vc_draws [0, 1, 2, 3, 4, 5, 6, 7, 8, 9, 10, 11, 12] [] [0, 1, 2, 3, 4, 5, 6, 7, 8, 9, 10, 11, 12] rfl (by kernel_rfl) (fun _ _ _ h => h) ?_
              refine vd_val rfl rfl rfl (.some rfl) (val_move rfl) ?_
              refine vd_val rfl rfl rfl (.some rfl) (xd_nilE Try.runUnderlying50 rfl rfl) ?_
              refine vd_val rfl rfl rfl (.some rfl) (val_move rfl) ?_
              refine vd_split (t := 63) rfl (fun hg63 => ?_) (fun hg63 => ?_)
              · (try replace hg63 := of_decide_eq_true hg63)
                have hnk : ¬ okK (ds.getD i xd0).kd := hg63
                refine vd_off rfl rfl rfl rfl rfl rfl (.some rfl) ?_
                refine vd_off rfl rfl rfl rfl rfl rfl (.some rfl) ?_
                refine vd_off rfl rfl rfl rfl rfl rfl (.some rfl) ?_
                refine vd_off rfl rfl rfl rfl rfl rfl (.some rfl) ?_
                refine vd_off rfl rfl rfl rfl rfl rfl (.some rfl) ?_
                refine vd_off rfl rfl rfl rfl rfl rfl (.some rfl) ?_
                refine vd_off rfl rfl rfl rfl rfl rfl (.some rfl) ?_
                refine vd_off rfl rfl rfl rfl rfl rfl (.some rfl) ?_
                refine vd_off rfl rfl rfl rfl rfl rfl (.some rfl) ?_
                refine vd_val rfl rfl rfl (.some rfl) (val_pick rfl rfl) ?_
                refine vd_nil ?_
                refine vc_cond rfl (fun _ => ?_) (fun h => by cases h)
                refine vc_seq ?_
                refine vc_region ?_
                refine vl_val rfl (.some rfl) (val_buildSt (pl := #[(0, 1), (1, 1), (2, 1)]) (cs := #[.int .i64 (0), .slice none 0 0, .slice none 0 0]) Try.runUnderlying41 Try.zeroValue41 (fun w => by kernel_rfl) rfl rfl) ?_
                refine vl_nilSl 87 2 ?_
                refine vl_nilSl 88 7 ?_
                refine vl_eqv (eqv_nil _) ?_
                first | refine vl_store rfl rfl .none rfl rfl Try.sizeOf41 rfl (by repeat constructor) (by first | decide | exact Nat.le_refl _ | exact Nat.le_of_ble_eq_true rfl | (simp; omega)) ?_ | refine vl_storeSl rfl rfl .none rfl rfl Try.sizeOf41 rfl (by simp [Value.cells]) (by repeat constructor) (by first | decide | (simp [Value.cells]; omega)) ?_
                refine vl_val rfl (.some rfl) (val_assign rfl) ?_
                refine vl_nil ?_
                refine vc_ret ?_
                refine ⟨_, [XB ds, big [], sl none 0 0 87 2 [], sl none 0 0 88 7 []], _, resC2 Try.results10 rfl (whole_agg Try.isAgg41 Try.sizeOf41 (cells_whole (by repeat constructor)) rfl) rfl, (by repeat constructor), ?_⟩
                exact ⟨0, none, 0, [], none, 0, [], _, ds, rfl, rfl, by rw [hDV]; exact made_failE (mayE_kind (i := i) (by omega) (by rw [hKg]; exact hnk)) (by decide), XKeep.rfl ds⟩
              · (try replace hg63 := of_decide_eq_false hg63)
                have hok8 : okK (ds.getD i xd0).kd := Decidable.not_not.1 hg63
                rw [xdP_ok hok8]
                refine vd_on rfl rfl rfl rfl rfl rfl (.some rfl) (val_move rfl) ?_
                refine vd_on rfl rfl rfl rfl rfl rfl (.some rfl) (val_nil rfl rfl) ?_
                refine vd_on rfl rfl rfl rfl rfl rfl (.some rfl) (by first | exact val_fieldAddr Try.runUnderlying55 rfl Try.sizeOf3 rfl | exact val_fieldAddrR Try.runUnderlying55 rfl Try.sizeOf3 rfl) ?_
                refine vd_on rfl rfl rfl rfl rfl rfl (.some rfl) (val_load Try.isAgg3 rfl (cell_big (by repeat constructor) (xd_in hi8 hok8) rfl)) ?_
                refine vd_on rfl rfl rfl rfl rfl rfl (.some rfl) (val_move rfl) ?_
                refine vd_on rfl rfl rfl rfl rfl rfl (.some rfl) (val_move rfl) ?_
                refine vd_on rfl rfl rfl rfl rfl rfl (.some rfl) (val_indexAddr Try.runUnderlying22 Try.sizeOf3 rfl rfl (rd_oldM hk) (by omega) (by omega) (by rw [icells_length]; omega)) ?_
                refine vd_on rfl rfl rfl rfl rfl rfl (.some rfl) (val_load Try.isAgg3 rfl (cell_rd (rd_oldM hk) (icells_at (by omega)))) ?_
                refine vd_on rfl rfl rfl rfl rfl rfl (.some rfl) (val_eqv (v' := .bool false) (v := .bool (decide ((ds.getD i xd0).kd ≠ KS.getD i 0))) (congrArg Value.bool (decide_eq_false (fun h => h (by rw [hKg])))) (val_ne rfl rfl)) ?_
                refine vd_val rfl rfl rfl (.some rfl) (val_pick rfl rfl) ?_
                refine vd_nil ?_
                refine vc_cond rfl (fun h => by cases h) (fun _ => ?_)
                refine vc_skip ?_
                refine vc_region ?_
                refine vl_val rfl (.some rfl) (val_add rfl rfl (by first | exact w_i64 (by omega) (by omega) | rfl)) ?_
                refine vl_val rfl (.some rfl) (val_move rfl) ?_
                refine vl_nil ?_
                exact ⟨ds.length - (i + 1), _, _, _, by omega, (by repeat (first | exact trivial | refine ⟨rfl, ?_⟩ | refine ⟨le_item rfl (by first | rfl | (congr 1; omega) | (simp; done) | (simp; omega)), ?_⟩)), (by repeat constructor), ⟨i + 1, by omega, rfl, ext_lt hok (by rw [hKg]; exact hok8), rfl, rfl⟩⟩
            · (try replace hc1 := of_decide_eq_false hc1)
              obtain rfl : i = ds.length := by omega
              have hok2 : ∀ i, i < KS.length → okK (KS.getD i 0) := fun i hi => hok i (by omega)
              refine vc_exit ?_
              refine vc_seq ?_
              refine vc_seq ?_
              refine vc_region ?_
              refine vl_val rfl (.some rfl) (val_move rfl) ?_
              refine vl_val rfl (.some rfl) (val_lenSl Try.runUnderlying23 rfl) ?_
              refine vl_val rfl (.some rfl) (val_move rfl) ?_
              refine vl_nil ?_
              refine vc_block ?_
              refine vc_loopw (fun k E H => ∃ r : Nat, r ≤ rows.length ∧ k = rows.length - r ∧ (∀ j, j < r → ¬ rowBad KS (RS.getD j [])) ∧ E = [(0, .slice Ak ds.length ck), (1, .slice Ar rows.length cr), (2, .slice Ad ds.length cd), (6, .pointer (some ⟨r6, 0, none⟩)), (8, .int .i64 ds.length), (76, .slice Ar rows.length cr), (77, .int .i64 rows.length), (78, .int .i64 r)] ∧ H = [cells r6 [.int .i64 0, .slice none 0 0, .slice none 0 0] 41, XB ds]) (rows.length) ⟨_, _, _, ⟨0, by omega, by omega, fun j h => absurd h (by omega), rfl, rfl⟩, (by repeat (first | exact trivial | refine ⟨rfl, ?_⟩ | refine ⟨le_item rfl (by first | rfl | (congr 1; omega) | (simp; done) | (simp; omega)), ?_⟩)), (by repeat constructor)⟩ ?_
              intro k E H hI
              obtain ⟨r, hr, rfl, hgr, rfl, rfl⟩ := hI
              refine vc_seq ?_
              refine vc_region ?_
              refine vl_val rfl (.some rfl) (val_lt rfl rfl) ?_
              refine vl_nil ?_
              refine vc_seq ?_
              refine vc_cond rfl (fun hc3 => ?_) (fun hc3 => ?_)
              · (try replace hc3 := of_decide_eq_true hc3)
                have hr8 : r < rows.length := by omega
                have hq := hrow _ (mem_getD rw0 hr8)
                have hql := hll _ (mem_getD rw0 hr8)
                have hwq : ∀ i, WV ((rows.getD r rw0).2.2.getD i z3) := fun i => by
                  by_cases h : i < (rows.getD r rw0).2.2.length
                  · exact hwv _ (mem_getD rw0 hr8) _ (mem_getD z3 h)
                  · rw [show (rows.getD r rw0).2.2.getD i z3 = z3 by rw [List.getD_eq_getElem?_getD, List.getElem?_eq_none (Nat.not_lt.1 h)]; rfl]; exact wv_z3
                refine vc_skip ?_
                refine vc_seq ?_
                refine vc_block ?_
                refine vc_seq ?_
                refine vc_region ?_
                refine vl_val rfl (.some rfl) (val_indexAddr Try.runUnderlying23 Try.sizeOf53 rfl rfl (rd_oldM hrd) (by omega) (by omega) (by rw [rowC_len]; omega)) ?_
                refine vl_val rfl (.some rfl) (val_load Try.isAgg53 rfl (cell_rd (rd_oldM hrd) (rowC_at (by omega)))) ?_
                refine vl_val rfl (.some rfl) (val_assign rfl) ?_
                refine vl_nil ?_
                refine vc_seq ?_
                refine vc_seq ?_
                refine vc_region ?_
                refine vl_val rfl (.some rfl) (val_move rfl) ?_
                refine vl_val rfl (.some rfl) (val_lenSl Try.runUnderlying53 rfl) ?_
                refine vl_val rfl (.some rfl) (val_move rfl) ?_
                refine vl_val rfl (.some rfl) (val_ne rfl rfl) ?_
                refine vl_nil ?_
                refine vc_cond rfl (fun hc4 => ?_) (fun hc4 => ?_)
                · (try replace hc4 := of_decide_eq_true hc4)
                  have hrb : rowBad KS (RS.getD r []) := .inl (by rw [hRg]; omega)
                  refine vc_seq ?_
                  refine vc_region ?_
                  refine vl_val rfl (.some rfl) (val_buildSt (pl := #[(0, 1), (1, 1), (2, 1)]) (cs := #[.int .i64 (0), .slice none 0 0, .slice none 0 0]) Try.runUnderlying41 Try.zeroValue41 (fun w => by kernel_rfl) rfl rfl) ?_
                  refine vl_nilSl 87 2 ?_
                  refine vl_nilSl 88 7 ?_
                  refine vl_eqv (eqv_nil _) ?_
                  first | refine vl_store rfl rfl .none rfl rfl Try.sizeOf41 rfl (by repeat constructor) (by first | decide | exact Nat.le_refl _ | exact Nat.le_of_ble_eq_true rfl | (simp; omega)) ?_ | refine vl_storeSl rfl rfl .none rfl rfl Try.sizeOf41 rfl (by simp [Value.cells]) (by repeat constructor) (by first | decide | (simp [Value.cells]; omega)) ?_
                  refine vl_val rfl (.some rfl) (val_assign rfl) ?_
                  refine vl_nil ?_
                  refine vc_ret ?_
                  refine ⟨_, [XB ds, big [], sl none 0 0 87 2 [], sl none 0 0 88 7 []], _, resC2 Try.results10 rfl (whole_agg Try.isAgg41 Try.sizeOf41 (cells_whole (by repeat constructor)) rfl) rfl, (by repeat constructor), ?_⟩
                  exact ⟨0, none, 0, [], none, 0, [], _, ds, rfl, rfl, by rw [hDV]; exact made_failE (mayE_sch h0 hok2 (i := r) (by omega) hrb) (by decide), XKeep.rfl ds⟩
                · (try replace hc4 := of_decide_eq_false hc4)
                  have hlen : (rows.getD r rw0).2.2.length = ds.length := by omega
                  refine vc_skip ?_
                  refine vc_seq ?_
                  refine vc_region ?_
                  refine vl_val rfl (.some rfl) (val_move rfl) ?_
                  refine vl_val rfl (.some rfl) (val_lenSl Try.runUnderlying53 rfl) ?_
                  refine vl_val rfl (.some rfl) (val_move rfl) ?_
                  refine vl_nil ?_
                  refine vc_block ?_
                  refine vc_loopw (fun k E H => ∃ i : Nat, i ≤ ds.length ∧ k = ds.length - i ∧ (∀ j, j < i → fitsB ((rows.getD r rw0).2.2.getD j z3) (KS.getD j 0) = true) ∧ E = [(0, .slice Ak ds.length ck), (1, .slice Ar rows.length cr), (2, .slice Ad ds.length cd), (6, .pointer (some ⟨r6, 0, none⟩)), (8, .int .i64 ds.length), (76, .slice Ar rows.length cr), (77, .int .i64 rows.length), (78, .int .i64 r), (87, .slice (rows.getD r rw0).1 (rows.getD r rw0).2.2.length (rows.getD r rw0).2.1), (88, .int .i64 ds.length), (89, .int .i64 i)] ∧ H = [cells r6 [.int .i64 0, .slice none 0 0, .slice none 0 0] 41, XB ds]) (ds.length) ⟨_, _, _, ⟨0, by omega, by omega, fun j h => absurd h (by omega), rfl, rfl⟩, (by repeat (first | exact trivial | refine ⟨rfl, ?_⟩ | refine ⟨le_item rfl (by first | rfl | (congr 1; omega) | (simp; done) | (simp; omega)), ?_⟩)), (by repeat constructor)⟩ ?_
                  intro k E H hI
                  obtain ⟨i, hi, rfl, hgf, rfl, rfl⟩ := hI
                  refine vc_seq ?_
                  refine vc_region ?_
                  refine vl_val rfl (.some rfl) (val_lt rfl rfl) ?_
                  refine vl_nil ?_
                  refine vc_seq ?_
                  refine vc_cond rfl (fun hc5 => ?_) (fun hc5 => ?_)
                  · (try replace hc5 := of_decide_eq_true hc5)
                    refine vc_skip ?_
                    refine vc_seq ?_
                    refine vc_block ?_
                    refine vc_seq ?_
                    refine vc_region ?_
                    refine vl_val rfl (.some rfl) (val_move rfl) ?_
                    refine vl_val rfl (.some rfl) (val_indexAddr Try.runUnderlying53 Try.sizeOf62 rfl rfl (rd_oldM hq) (by omega) (by omega) (by rw [vflat_len]; omega)) ?_
                    refine vl_val rfl (.some rfl) (val_loadAgg Try.isAgg62 Try.sizeOf62 rfl (cells_rd (us := [.int .i64 ((rows.getD r rw0).2.2.getD i z3).k, .int .i64 ((rows.getD r rw0).2.2.getD i z3).n, .string ((rows.getD r rw0).2.2.getD i z3).s]) (rd_oldM hq) (by rw [Int.toNat_natCast]; exact flat_at _ _ (by omega))) rfl) ?_
                    refine vl_alloc rfl rfl (.some rfl) Try.zeroValue62 (fun r14 => ?_)
                    refine vl_val rfl (.some rfl) (val_assign rfl) ?_
                    first | refine vl_store rfl rfl .none rfl rfl Try.sizeOf62 rfl (by repeat constructor) (by first | decide | exact Nat.le_refl _ | exact Nat.le_of_ble_eq_true rfl | (simp; omega)) ?_ | refine vl_storeSl rfl rfl .none rfl rfl Try.sizeOf62 rfl (by simp [Value.cells]) (by repeat constructor) (by first | decide | (simp [Value.cells]; omega)) ?_
                    refine vl_nil ?_
                    refine vc_seq ?_
                    refine vc_draws [0, 1, 2, 3, 4, 6] [] [0, 1, 2, 3, 4, 5, 6] rfl (by kernel_rfl) (fun _ _ _ h => h) ?_
                    refine vd_val rfl rfl rfl (.some rfl) (val_loadAgg Try.isAgg62 Try.sizeOf62 rfl (by first | exact cells_whole (by repeat constructor) | exact cells_part (by repeat constructor) rfl) rfl) ?_
                    refine vd_val rfl rfl rfl (.some rfl) (val_move rfl) ?_
                    refine vd_val rfl rfl rfl (.some rfl) (val_move rfl) ?_
                    refine vd_val rfl rfl rfl (.some rfl) (val_indexAddr Try.runUnderlying22 Try.sizeOf3 rfl rfl (rd_oldM hk) (by omega) (by omega) (by rw [icells_length]; omega)) ?_
                    refine vd_val rfl rfl rfl (.some rfl) (val_load Try.isAgg3 rfl (cell_rd (rd_oldM hk) (icells_at (by omega)))) ?_
                    refine vd_op rfl rfl ?_
                    refine vl_callV rfl rfl (.some rfl) Try.call28 rfl (fun w hw => xFitsA ((rows.getD r rw0).2.2.getD i z3) (KS.getD i 0) (hok2 i (by omega)) (hwq i) w) ?_
                    refine vl_nil ?_
                    refine ⟨fun _ => ⟨_, (by repeat (first | exact .nil | exact sub_self _ | exact sub_skip (sub_self _) | exact sub_skip (sub_skip (sub_self _)) | exact sub_skip (sub_skip (sub_skip (sub_self _))) | (apply Sub.cons; · repeat (first | exact .head | apply Take.tail))))⟩, ?_⟩
                    refine vd_val rfl rfl rfl (.some rfl) (val_not rfl) ?_
                    refine vd_nil ?_
                    refine vc_cond rfl (fun hc6 => ?_) (fun hc6 => ?_)
                    · (try replace hc6 := of_decide_eq_true hc6)
                      have hrb : rowBad KS (RS.getD r []) := .inr ⟨i, by omega, by rw [hRg]; simpa using hc6⟩
                      refine vc_seq ?_
                      refine vc_region ?_
                      refine vl_val rfl (.some rfl) (val_buildSt (pl := #[(0, 1), (1, 1), (2, 1)]) (cs := #[.int .i64 (0), .slice none 0 0, .slice none 0 0]) Try.runUnderlying41 Try.zeroValue41 (fun w => by kernel_rfl) rfl rfl) ?_
                      refine vl_nilSl 87 2 ?_
                      refine vl_nilSl 88 7 ?_
                      refine vl_eqv (eqv_nil _) ?_
                      first | refine vl_store rfl rfl .none rfl rfl Try.sizeOf41 rfl (by repeat constructor) (by first | decide | exact Nat.le_refl _ | exact Nat.le_of_ble_eq_true rfl | (simp; omega)) ?_ | refine vl_storeSl rfl rfl .none rfl rfl Try.sizeOf41 rfl (by simp [Value.cells]) (by repeat constructor) (by first | decide | (simp [Value.cells]; omega)) ?_
                      refine vl_val rfl (.some rfl) (val_assign rfl) ?_
                      refine vl_nil ?_
                      refine vc_ret ?_
                      refine ⟨_, [XB ds, big [], sl none 0 0 87 2 [], sl none 0 0 88 7 []], _, resC2 Try.results10 rfl (whole_agg Try.isAgg41 Try.sizeOf41 (cells_whole (by repeat constructor)) rfl) rfl, (by repeat constructor), ?_⟩
                      exact ⟨0, none, 0, [], none, 0, [], _, ds, rfl, rfl, by rw [hDV]; exact made_failE (mayE_sch h0 hok2 (i := r) (by omega) hrb) (by decide), XKeep.rfl ds⟩
                    · (try replace hc6 := of_decide_eq_false hc6)
                      have hft : fitsB ((rows.getD r rw0).2.2.getD i z3) (KS.getD i 0) = true := by simpa using hc6
                      refine vc_skip ?_
                      refine vc_region ?_
                      refine vl_val rfl (.some rfl) (val_add rfl rfl (by first | exact w_i64 (by omega) (by omega) | rfl)) ?_
                      refine vl_val rfl (.some rfl) (val_move rfl) ?_
                      refine vl_nil ?_
                      exact ⟨ds.length - (i + 1), _, _, _, by omega, (by repeat (first | exact trivial | refine ⟨rfl, ?_⟩ | refine ⟨le_item rfl (by first | rfl | (congr 1; omega) | (simp; done) | (simp; omega)), ?_⟩)), (by repeat constructor), ⟨i + 1, by omega, rfl, ext_lt hgf hft, rfl, rfl⟩⟩
                  · (try replace hc5 := of_decide_eq_false hc5)
                    obtain rfl : i = ds.length := by omega
                    have hnb : ¬ rowBad KS (RS.getD r []) := not_rowBad (by rw [hRg]; omega) (fun j hj => by rw [hRg]; exact hgf j (by omega))
                    refine vc_exit ?_
                    refine vc_region ?_
                    refine vl_val rfl (.some rfl) (val_add rfl rfl (by first | exact w_i64 (by omega) (by omega) | rfl)) ?_
                    refine vl_val rfl (.some rfl) (val_move rfl) ?_
                    refine vl_nil ?_
                    exact ⟨rows.length - (r + 1), _, _, _, by omega, (by repeat (first | exact trivial | refine ⟨rfl, ?_⟩ | refine ⟨le_item rfl (by first | rfl | (congr 1; omega) | (simp; done) | (simp; omega)), ?_⟩)), (by repeat constructor), ⟨r + 1, by omega, rfl, ext_lt hgr hnb, rfl, rfl⟩⟩
              · (try replace hc3 := of_decide_eq_false hc3)
                obtain rfl : r = rows.length := by omega
                have hgr2 : ∀ i, i < RS.length → ¬ rowBad KS (RS.getD i []) := fun i hi => hgr i (by omega)
                refine vc_exit ?_
                refine vc_seq ?_
                refine vc_seq ?_
                refine vc_region ?_
                refine vl_val rfl (.some rfl) (val_move rfl) ?_
                refine vl_val rfl (.some rfl) (val_lenSl Try.runUnderlying27 rfl) ?_
                refine vl_val rfl (.some rfl) (val_move rfl) ?_
                refine vl_nil ?_
                refine vc_block ?_
                refine vc_loopw (fun k E H => ∃ i : Nat, i ≤ ds.length ∧ k = ds.length - i ∧ (∀ j, j < i → roomT (KS.getD j 0) (DV.getD j []) (colR RS j) ≠ false) ∧ E = [(0, .slice Ak ds.length ck), (1, .slice Ar rows.length cr), (2, .slice Ad ds.length cd), (6, .pointer (some ⟨r6, 0, none⟩)), (8, .int .i64 ds.length), (104, .slice Ad ds.length cd), (105, .int .i64 ds.length), (106, .int .i64 i)] ∧ H = [cells r6 [.int .i64 0, .slice none 0 0, .slice none 0 0] 41, XB ds]) (ds.length) ⟨_, _, _, ⟨0, by omega, by omega, fun j h => absurd h (by omega), rfl, rfl⟩, (by repeat (first | exact trivial | refine ⟨rfl, ?_⟩ | refine ⟨le_item rfl (by first | rfl | (congr 1; omega) | (simp; done) | (simp; omega)), ?_⟩)), (by repeat constructor)⟩ ?_
                intro k E H hI
                obtain ⟨i, hi, rfl, hrm, rfl, rfl⟩ := hI
                refine vc_seq ?_
                refine vc_region ?_
                refine vl_val rfl (.some rfl) (val_lt rfl rfl) ?_
                refine vl_nil ?_
                refine vc_seq ?_
                refine vc_cond rfl (fun hc7 => ?_) (fun hc7 => ?_)
                · (try replace hc7 := of_decide_eq_true hc7)
                  have hi8 : i < ds.length := by omega
                  refine vc_skip ?_
                  refine vc_seq ?_
                  refine vc_block ?_
                  refine vc_seq ?_
                  refine vc_region ?_
                  refine vl_val rfl (.some rfl) (val_move rfl) ?_
                  refine vl_val rfl (.some rfl) (val_indexAddr Try.runUnderlying27 Try.sizeOf50 rfl rfl (rd_oldM hdp) (by omega) (by omega) (by rw [List.length_map]; omega)) ?_
                  refine vl_val rfl (.some rfl) (val_load Try.isAgg50 rfl (cell_rd (rd_oldM hdp) (map_at xd0 (by omega)))) ?_
                  refine vl_val rfl (.some rfl) (val_assign rfl) ?_
                  refine vl_val rfl (.some rfl) (val_assign rfl) ?_
                  refine vl_nil ?_
                  refine vc_seq ?_
                  refine vc_region ?_
                  refine vl_val rfl (.some rfl) (val_assign rfl) ?_
                  refine vl_nilSl 62 3 ?_
                  refine vl_nil ?_
                  refine vc_seq ?_
                  refine vc_seq ?_
                  refine vc_region ?_
                  refine vl_val rfl (.some rfl) (val_move rfl) ?_
                  refine vl_val rfl (.some rfl) (val_lenSl Try.runUnderlying23 rfl) ?_
                  refine vl_val rfl (.some rfl) (val_move rfl) ?_
                  refine vl_nil ?_
                  refine vc_block ?_
                  refine vc_loopw (fun k E H => ∃ (r : Nat) (A17 : Option Addr) (c17 : Nat), r ≤ rows.length ∧ k = rows.length - r ∧ E = [(0, .slice Ak ds.length ck), (1, .slice Ar rows.length cr), (2, .slice Ad ds.length cd), (6, .pointer (some ⟨r6, 0, none⟩)), (8, .int .i64 ds.length), (104, .slice Ad ds.length cd), (105, .int .i64 ds.length), (106, .int .i64 i), (15, .int .i64 i), (16, xdP (ds.getD i xd0)), (17, .slice A17 ((colR RS i).take r).length c17), (111, .slice Ar rows.length cr), (112, .int .i64 rows.length), (113, .int .i64 r)] ∧ H = [DS A17 c17 ((colR RS i).take r), cells r6 [.int .i64 0, .slice none 0 0, .slice none 0 0] 41, XB ds]) (rows.length) ⟨_, _, _, ⟨0, none, 0, by omega, by omega, rfl, rfl⟩, (by repeat (first | exact trivial | refine ⟨rfl, ?_⟩ | refine ⟨le_item rfl (by first | rfl | (congr 1; omega) | (simp; done) | (simp; omega)), ?_⟩)), (by repeat constructor)⟩ ?_
                  intro k E H hI
                  obtain ⟨r, A17, c17, hr, rfl, rfl, rfl⟩ := hI
                  refine vc_seq ?_
                  refine vc_region ?_
                  refine vl_val rfl (.some rfl) (val_lt rfl rfl) ?_
                  refine vl_nil ?_
                  refine vc_seq ?_
                  refine vc_cond rfl (fun hc8 => ?_) (fun hc8 => ?_)
                  · (try replace hc8 := of_decide_eq_true hc8)
                    have hr8 : r < rows.length := by omega
                    have hq := hrow _ (mem_getD rw0 hr8)
                    have hql := hll _ (mem_getD rw0 hr8)
                    have hlen := rowBad_len (hgr2 r (by omega))
                    rw [hRg] at hlen
                    have hct := colR_take (rows := RS) (i := i) (r := r) (by omega)
                    rw [hRg] at hct
                    have htl : ((colR RS i).take r).length ≤ 1000 := by rw [List.length_take, colR_len]; omega
                    refine vc_skip ?_
                    refine vc_seq ?_
                    refine vc_block ?_
                    refine vc_seq ?_
                    refine vc_region ?_
                    refine vl_val rfl (.some rfl) (val_indexAddr Try.runUnderlying23 Try.sizeOf53 rfl rfl (rd_oldM hrd) (by omega) (by omega) (by rw [rowC_len]; omega)) ?_
                    refine vl_val rfl (.some rfl) (val_load Try.isAgg53 rfl (cell_rd (rd_oldM hrd) (rowC_at (by omega)))) ?_
                    refine vl_val rfl (.some rfl) (val_assign rfl) ?_
                    refine vl_nil ?_
                    refine vc_region ?_
                    refine vl_val rfl (.some rfl) (val_move rfl) ?_
                    refine vl_val rfl (.some rfl) (val_move rfl) ?_
                    refine vl_val rfl (.some rfl) (val_move rfl) ?_
                    refine vl_val rfl (.some rfl) (val_indexAddr Try.runUnderlying53 Try.sizeOf62 rfl rfl (rd_oldM hq) (by omega) (by omega) (by rw [vflat_len]; omega)) ?_
                    refine vl_val rfl (.some rfl) (val_loadAgg Try.isAgg62 Try.sizeOf62 rfl (cells_rd (us := [.int .i64 ((rows.getD r rw0).2.2.getD i z3).k, .int .i64 ((rows.getD r rw0).2.2.getD i z3).n, .string ((rows.getD r rw0).2.2.getD i z3).s]) (rd_oldM hq) (by rw [Int.toNat_natCast]; exact flat_at _ _ (by omega))) rfl) ?_
                    refine vl_lit sT53 rfl rfl (.some rfl) rfl rfl rfl (by decide) (by decide) rfl rfl (fun r122 => ?_)
                    refine vl_append (us := flat [(rows.getD r rw0).2.2.getD i z3]) sT53 rfl rfl (.some rfl) rfl rfl (rd_sl (by repeat constructor)) rfl rfl (by omega) (by omega) (by repeat constructor) (fun A123 k123 => ?_)
                    rw [show flat ((colR RS i).take r) ++ flat [(rows.getD r rw0).2.2.getD i z3] = flat ((colR RS i).take (r + 1)) by rw [hct]; exact vk1 _ _, show ((colR RS i).take r).length + 1 = ((colR RS i).take (r + 1)).length by rw [hct]; simp]
                    refine vl_val rfl (.some rfl) (val_assign rfl) ?_
                    refine vl_nil ?_
                    refine vc_region ?_
                    refine vl_val rfl (.some rfl) (val_add rfl rfl (by first | exact w_i64 (by omega) (by omega) | rfl)) ?_
                    refine vl_val rfl (.some rfl) (val_move rfl) ?_
                    refine vl_nil ?_
                    exact ⟨rows.length - (r + 1), _, _, _, by omega, (by repeat (first | exact trivial | refine ⟨rfl, ?_⟩ | refine ⟨le_item rfl (by first | rfl | (congr 1; omega) | (simp; done) | (simp; omega)), ?_⟩)), (by repeat constructor), ⟨r + 1, A123, k123, by omega, rfl, rfl, rfl⟩⟩
                  · (try replace hc8 := of_decide_eq_false hc8)
                    obtain rfl : r = rows.length := by omega
                    rw [show (colR RS i).take rows.length = colR RS i by rw [← hRl, ← colR_len RS i]; exact List.take_length]
                    refine vc_exit ?_
                    refine vc_seq ?_
                    refine vc_region ?_
                    refine vl_val rfl (.some rfl) (val_move rfl) ?_
                    refine vl_val rfl (.some rfl) (val_move rfl) ?_
                    refine vl_callR [XB ds] rfl rfl (.some rfl) Try.call29 rfl (by repeat constructor) (fun w hw => xbRoom hi8 (by rw [← hKg]; exact hok2 i (by omega)) (h512 i) A17 c17 (colR RS i) (by rw [colR_len]; omega) (colR_wv hwR) w (by have h := readsM_sl (C := [XB ds]) (vs := flat (colR RS i)) (by repeat constructor) (by repeat constructor) hw; exact h)) ?_
                    rw [← hKg, ← hDg]
                    refine vl_val rfl (.some rfl) (val_not rfl) ?_
                    refine vl_nil ?_
                    refine vc_cond rfl (fun hc9 => ?_) (fun hc9 => ?_)
                    · (try replace hc9 := of_decide_eq_true hc9)
                      have hrf : roomT (KS.getD i 0) (DV.getD i []) (colR RS i) = false := by simpa using hc9
                      refine vc_seq ?_
                      refine vc_region ?_
                      refine vl_val rfl (.some rfl) (val_buildSt (pl := #[(0, 1), (1, 1), (2, 1)]) (cs := #[.int .i64 (0), .slice none 0 0, .slice none 0 0]) Try.runUnderlying41 Try.zeroValue41 (fun w => by kernel_rfl) rfl rfl) ?_
                      refine vl_nilSl 87 2 ?_
                      refine vl_nilSl 88 7 ?_
                      refine vl_eqv (eqv_nil _) ?_
                      first | refine vl_store rfl rfl .none rfl rfl Try.sizeOf41 rfl (by repeat constructor) (by first | decide | exact Nat.le_refl _ | exact Nat.le_of_ble_eq_true rfl | (simp; omega)) ?_ | refine vl_storeSl rfl rfl .none rfl rfl Try.sizeOf41 rfl (by simp [Value.cells]) (by repeat constructor) (by first | decide | (simp [Value.cells]; omega)) ?_
                      refine vl_val rfl (.some rfl) (val_assign rfl) ?_
                      refine vl_nil ?_
                      refine vc_ret ?_
                      refine ⟨_, [XB ds, big [], sl none 0 0 87 2 [], sl none 0 0 88 7 []], _, resC2 Try.results10 rfl (whole_agg Try.isAgg41 Try.sizeOf41 (cells_whole (by repeat constructor)) rfl) rfl, (by repeat constructor), ?_⟩
                      exact ⟨0, none, 0, [], none, 0, [], _, ds, rfl, rfl, by rw [hDV]; exact made_failE (mayE_full h0 hok2 hgr2 (i := i) (by omega) hrf) (by decide), XKeep.rfl ds⟩
                    · (try replace hc9 := of_decide_eq_false hc9)
                      have hrt : roomT (KS.getD i 0) (DV.getD i []) (colR RS i) ≠ false := by simpa using hc9
                      refine vc_skip ?_
                      refine vc_region ?_
                      refine vl_val rfl (.some rfl) (val_add rfl rfl (by first | exact w_i64 (by omega) (by omega) | rfl)) ?_
                      refine vl_val rfl (.some rfl) (val_move rfl) ?_
                      refine vl_nil ?_
                      exact ⟨ds.length - (i + 1), _, _, _, by omega, (by repeat (first | exact trivial | refine ⟨rfl, ?_⟩ | refine ⟨le_item rfl (by first | rfl | (congr 1; omega) | (simp; done) | (simp; omega)), ?_⟩)), (by repeat constructor), ⟨i + 1, by omega, rfl, ext_lt hrm hrt, rfl, rfl⟩⟩
                · (try replace hc7 := of_decide_eq_false hc7)
                  obtain rfl : i = ds.length := by omega
                  have hme : mayE KS DV RS = 0 := mayE_ok h0 hok2 hgr2 (fun i hi => hrm i (by omega))
                  refine vc_exit ?_
                  refine vc_seq ?_
                  refine vc_region ?_
                  refine vl_val rfl (.some rfl) (val_move rfl) ?_
                  refine vl_val rfl (.some rfl) (val_lenSl Try.runUnderlying23 rfl) ?_
                  refine vl_val rfl (.some rfl) (val_buildSt (pl := #[(0, 1), (1, 1), (2, 1)]) (cs := #[.int .i64 (rows.length), .slice none 0 0, .slice none 0 0]) Try.runUnderlying41 Try.zeroValue41 (fun w => by kernel_rfl) rfl rfl) ?_
                  refine vl_nilSl 87 2 ?_
                  refine vl_nilSl 88 7 ?_
                  refine vl_alloc rfl rfl (.some rfl) Try.zeroValue41 (fun r20 => ?_)
                  first | refine vl_store rfl rfl .none rfl rfl Try.sizeOf41 rfl (by repeat constructor) (by first | decide | exact Nat.le_refl _ | exact Nat.le_of_ble_eq_true rfl | (simp; omega)) ?_ | refine vl_storeSl rfl rfl .none rfl rfl Try.sizeOf41 rfl (by simp [Value.cells]) (by repeat constructor) (by first | decide | (simp [Value.cells]; omega)) ?_
                  refine vl_nil ?_
                  refine vc_seq ?_
                  refine vc_seq ?_
                  refine vc_region ?_
                  refine vl_val rfl (.some rfl) (val_assign rfl) ?_
                  refine vl_nil ?_
                  refine vc_block ?_
                  refine vc_loopw (fun k E H => ∃ (i : Nat) (Ac : Option Addr) (cc : Nat) (Az : Option Addr) (cz : Nat), i ≤ ds.length ∧ k = ds.length - i ∧ E = [(0, .slice Ak ds.length ck), (1, .slice Ar rows.length cr), (2, .slice Ad ds.length cd), (6, .pointer (some ⟨r6, 0, none⟩)), (8, .int .i64 ds.length), (20, .pointer (some ⟨r20, 0, none⟩)), (21, .int .i64 i)] ∧ H = [cells r6 [.int .i64 0, .slice none 0 0, .slice none 0 0] 41, cells r20 [.int .i64 rows.length, .slice Ac i cc, .slice Az i cz] 41, sl Ac i cc 87 2 ((List.replicate i vc0).flatMap vcC), sl Az i cz 88 7 ((List.replicate i zn0).flatMap znC), XB ds]) (ds.length) ⟨_, _, _, ⟨0, none, 0, none, 0, by omega, by omega, rfl, rfl⟩, (by repeat (first | exact trivial | refine ⟨rfl, ?_⟩ | refine ⟨le_item rfl (by first | rfl | (congr 1; omega) | (simp; done) | (simp; omega)), ?_⟩)), (by repeat constructor)⟩ ?_
                  intro k E H hI
                  obtain ⟨i, Ac, cc, Az, cz, hi, rfl, rfl, rfl⟩ := hI
                  refine vc_seq ?_
                  refine vc_seq ?_
                  refine vc_region ?_
                  refine vl_val rfl (.some rfl) (val_move rfl) ?_
                  refine vl_val rfl (.some rfl) (val_move rfl) ?_
                  refine vl_val rfl (.some rfl) (val_lt rfl rfl) ?_
                  refine vl_nil ?_
                  refine vc_cond rfl (fun hc10 => ?_) (fun hc10 => ?_)
                  · (try replace hc10 := of_decide_eq_true hc10)
                    refine vc_skip ?_
                    refine vc_seq ?_
                    refine vc_block ?_
                    refine vc_seq ?_
                    refine vc_region ?_
                    refine vl_val rfl (.some rfl) (by first | exact val_fieldAddr Try.runUnderlying41 rfl Try.sizeOf38 rfl | exact val_fieldAddrR Try.runUnderlying41 rfl Try.sizeOf38 rfl) ?_
                    refine vl_val rfl (.some rfl) (val_load Try.isAgg38 rfl (by first | exact cell_cells (by repeat constructor) rfl | exact cell_rd (by first | exact rd_sl (by repeat constructor) | exact rd_old (by assumption) rfl) (by first | exact bcells_at (by omega) | exact ucells_at (by omega) | exact icells_at (by omega) | exact tcells_at (by omega) | exact bcells_get (by omega) | exact icells_get (by omega) | exact tcells_get (by omega) | exact ucells_get (by omega)) | exact cell_old (by assumption) (by simp [fps]))) ?_
                    refine vl_val rfl (.some rfl) (val_buildSt (pl := #[(0, 1), (1, 1)]) (cs := #[.slice none 0 0, .slice none 0 0]) Try.runUnderlying87 Try.zeroValue87 (fun w => by kernel_rfl) rfl rfl) ?_
                    refine vl_lit sT38 rfl rfl (.some rfl) rfl rfl rfl (by decide) (by decide) rfl rfl (fun r142 => ?_)
                    refine vl_append (us := vcC vc0) sT38 rfl rfl (.some rfl) rfl rfl (rd_sl (by repeat constructor)) rfl rfl (by omega) (by omega) (by repeat constructor) (fun A143 k143 => ?_)
                    rw [rep_pushF vcC vc0 i]
                    refine vl_val rfl (.some rfl) (by first | exact val_fieldAddr Try.runUnderlying41 rfl Try.sizeOf38 rfl | exact val_fieldAddrR Try.runUnderlying41 rfl Try.sizeOf38 rfl) ?_
                    first | refine vl_store rfl rfl .none rfl rfl Try.sizeOf38 rfl (by repeat constructor) (by first | decide | exact Nat.le_refl _ | exact Nat.le_of_ble_eq_true rfl | (simp; omega)) ?_ | refine vl_storeSl rfl rfl .none rfl rfl Try.sizeOf38 rfl (by simp [Value.cells]) (by repeat constructor) (by first | decide | (simp [Value.cells]; omega)) ?_
                    refine vl_nil ?_
                    refine vc_region ?_
                    refine vl_val rfl (.some rfl) (by first | exact val_fieldAddr Try.runUnderlying41 rfl Try.sizeOf39 rfl | exact val_fieldAddrR Try.runUnderlying41 rfl Try.sizeOf39 rfl) ?_
                    refine vl_val rfl (.some rfl) (val_load Try.isAgg39 rfl (by first | exact cell_cells (by repeat constructor) rfl | exact cell_rd (by first | exact rd_sl (by repeat constructor) | exact rd_old (by assumption) rfl) (by first | exact bcells_at (by omega) | exact ucells_at (by omega) | exact icells_at (by omega) | exact tcells_at (by omega) | exact bcells_get (by omega) | exact icells_get (by omega) | exact tcells_get (by omega) | exact ucells_get (by omega)) | exact cell_old (by assumption) (by simp [fps]))) ?_
                    refine vl_val rfl (.some rfl) (val_buildSt (pl := #[(0, 1), (1, 3), (4, 3)]) (cs := #[.int .i64 0, .int .i64 0, .int .i64 0, .string ⟨#[]⟩, .int .i64 0, .int .i64 0, .string ⟨#[]⟩]) Try.runUnderlying88 Try.zeroValue88 (fun w => by kernel_rfl) rfl rfl) ?_
                    refine vl_lit sT39 rfl rfl (.some rfl) rfl rfl rfl (by decide) (by decide) rfl rfl (fun r148 => ?_)
                    refine vl_append (us := znC zn0) sT39 rfl rfl (.some rfl) rfl rfl (rd_sl (by repeat constructor)) rfl rfl (by omega) (by omega) (by repeat constructor) (fun A149 k149 => ?_)
                    rw [rep_pushF znC zn0 i]
                    refine vl_val rfl (.some rfl) (by first | exact val_fieldAddr Try.runUnderlying41 rfl Try.sizeOf39 rfl | exact val_fieldAddrR Try.runUnderlying41 rfl Try.sizeOf39 rfl) ?_
                    first | refine vl_store rfl rfl .none rfl rfl Try.sizeOf39 rfl (by repeat constructor) (by first | decide | exact Nat.le_refl _ | exact Nat.le_of_ble_eq_true rfl | (simp; omega)) ?_ | refine vl_storeSl rfl rfl .none rfl rfl Try.sizeOf39 rfl (by simp [Value.cells]) (by repeat constructor) (by first | decide | (simp [Value.cells]; omega)) ?_
                    refine vl_nil ?_
                    refine vc_region ?_
                    refine vl_val rfl (.some rfl) (val_move rfl) ?_
                    refine vl_val rfl (.some rfl) (val_add rfl rfl (by first | exact w_i64 (by omega) (by omega) | rfl)) ?_
                    refine vl_val rfl (.some rfl) (val_assign rfl) ?_
                    refine vl_nil ?_
                    exact ⟨ds.length - (i + 1), _, _, _, by omega, (by repeat (first | exact trivial | refine ⟨rfl, ?_⟩ | refine ⟨le_item rfl (by first | rfl | (congr 1; omega) | (simp; done) | (simp; omega)), ?_⟩)), (by repeat constructor), ⟨i + 1, A143, k143, A149, k149, by omega, rfl, rfl, rfl⟩⟩
                  · (try replace hc10 := of_decide_eq_false hc10)
                    obtain rfl : i = ds.length := by omega
                    refine vc_exit ?_
                    refine vc_seq ?_
                    refine vc_seq ?_
                    refine vc_region ?_
                    refine vl_val rfl (.some rfl) (val_move rfl) ?_
                    refine vl_eqv (eqv_tys ds.length _) ?_
                    rw [← rep_map (·.v) ds.length ty0, ← rep_map (·.z) ds.length ty0]
                    refine vl_val rfl (.some rfl) (val_lenSl Try.runUnderlying23 rfl) ?_
                    refine vl_val rfl (.some rfl) (val_move rfl) ?_
                    refine vl_nil ?_
                    refine vc_block ?_
                    refine vc_loopw (fun k E H => ∃ (r : Nat) (ts : List Ty) (ds2 : List Xd), r ≤ rows.length ∧ k = rows.length - r ∧ StX ds KS DV RS ts ds2 r 0 ∧ E = [(0, .slice Ak ds.length ck), (1, .slice Ar rows.length cr), (2, .slice Ad ds.length cd), (6, .pointer (some ⟨r6, 0, none⟩)), (8, .int .i64 ds.length), (20, .pointer (some ⟨r20, 0, none⟩)), (151, .slice Ar rows.length cr), (152, .int .i64 rows.length), (153, .int .i64 r)] ∧ H = [cells r6 [.int .i64 0, .slice none 0 0, .slice none 0 0] 41, cells r20 [.int .i64 rows.length, .slice Ac ds.length cc, .slice Az ds.length cz] 41, sl Ac ds.length cc 87 2 ((ts.map (·.v)).flatMap vcC), sl Az ds.length cz 88 7 ((ts.map (·.z)).flatMap znC), big (ts.flatMap tyH), XB ds2]) (rows.length) ⟨_, _, _, ⟨0, List.replicate ds.length ty0, ds, by omega, rfl, stX_start hDg, rfl, rfl⟩, (by repeat (first | exact trivial | refine ⟨rfl, ?_⟩ | refine ⟨le_item rfl (by first | rfl | (congr 1; omega) | (simp; done) | (simp; omega)), ?_⟩)), (by repeat constructor)⟩ ?_
                    intro k E H hI
                    obtain ⟨r, ts, ds2, hr, rfl, hst, rfl, rfl⟩ := hI
                    refine vc_seq ?_
                    refine vc_region ?_
                    refine vl_val rfl (.some rfl) (val_lt rfl rfl) ?_
                    refine vl_nil ?_
                    refine vc_seq ?_
                    refine vc_cond rfl (fun hc11 => ?_) (fun hc11 => ?_)
                    · (try replace hc11 := of_decide_eq_true hc11)
                      have hr8 : r < rows.length := by omega
                      have hq := hrow _ (mem_getD rw0 hr8)
                      have hql := hll _ (mem_getD rw0 hr8)
                      have hlen := rowBad_len (hgr2 r (by omega))
                      rw [hRg] at hlen
                      refine vc_skip ?_
                      refine vc_seq ?_
                      refine vc_block ?_
                      refine vc_seq ?_
                      refine vc_region ?_
                      refine vl_val rfl (.some rfl) (val_indexAddr Try.runUnderlying23 Try.sizeOf53 rfl rfl (rd_oldM hrd) (by omega) (by omega) (by rw [rowC_len]; omega)) ?_
                      refine vl_val rfl (.some rfl) (val_load Try.isAgg53 rfl (cell_rd (rd_oldM hrd) (rowC_at (by omega)))) ?_
                      refine vl_val rfl (.some rfl) (val_assign rfl) ?_
                      refine vl_nil ?_
                      refine vc_seq ?_
                      refine vc_region ?_
                      refine vl_val rfl (.some rfl) (val_move rfl) ?_
                      refine vl_val rfl (.some rfl) (val_lenSl Try.runUnderlying53 rfl) ?_
                      refine vl_val rfl (.some rfl) (val_move rfl) ?_
                      refine vl_nil ?_
                      refine vc_block ?_
                      refine vc_loopw (fun k E H => ∃ (i : Nat) (ts : List Ty) (ds2 : List Xd), i ≤ ds.length ∧ k = ds.length - i ∧ StX ds KS DV RS ts ds2 r i ∧ E = [(0, .slice Ak ds.length ck), (1, .slice Ar rows.length cr), (2, .slice Ad ds.length cd), (6, .pointer (some ⟨r6, 0, none⟩)), (8, .int .i64 ds.length), (20, .pointer (some ⟨r20, 0, none⟩)), (151, .slice Ar rows.length cr), (152, .int .i64 rows.length), (153, .int .i64 r), (157, .slice (rows.getD r rw0).1 (rows.getD r rw0).2.2.length (rows.getD r rw0).2.1), (158, .int .i64 ds.length), (159, .int .i64 i)] ∧ H = [cells r6 [.int .i64 0, .slice none 0 0, .slice none 0 0] 41, cells r20 [.int .i64 rows.length, .slice Ac ds.length cc, .slice Az ds.length cz] 41, sl Ac ds.length cc 87 2 ((ts.map (·.v)).flatMap vcC), sl Az ds.length cz 88 7 ((ts.map (·.z)).flatMap znC), big (ts.flatMap tyH), XB ds2]) (ds.length) ⟨_, _, _, ⟨0, ts, ds2, by omega, by omega, hst, rfl, rfl⟩, (by repeat (first | exact trivial | refine ⟨rfl, ?_⟩ | refine ⟨le_item rfl (by first | rfl | (congr 1; omega) | (simp; done) | (simp; omega)), ?_⟩)), (by repeat constructor)⟩ ?_
                      intro k E H hI
                      obtain ⟨i, ts, ds2, hi, rfl, hst, rfl, rfl⟩ := hI
                      refine vc_seq ?_
                      refine vc_region ?_
                      refine vl_val rfl (.some rfl) (val_lt rfl rfl) ?_
                      refine vl_nil ?_
                      refine vc_seq ?_
                      refine vc_cond rfl (fun hc12 => ?_) (fun hc12 => ?_)
                      · (try replace hc12 := of_decide_eq_true hc12)
                        have hi8 : i < ds.length := by omega
                        have hl1 := hst.1
                        have hbd := stX_bd hst hi8 (by omega)
                        have hks := (hst.2.2 i hi8).2
                        have hpe : xdP (ds.getD i xd0) = xdP (ds2.getD i xd0) := by unfold xdP; rw [hks.1, hks.2]
                        have hzw := stX_wv hst hi8 hwR
                        have hle := stX_le hst hi8 (by rw [hDg]; exact h512 i)
                        have hok9 : okK (ds2.getD i xd0).kd := by rw [hks.1, ← hKg]; exact hok2 i (by omega)
                        have hpw : WV ((rows.getD r rw0).2.2.getD i z3) := hwv _ (mem_getD rw0 hr8) _ (mem_getD z3 (by omega))
                        obtain ⟨PC, QC, PZ, QZ, hP1, hP2, hsp⟩ := split_cz (ts := ts) (i := i) (by omega)
                        have hsp0 := hsp (ts.getD i ty0)
                        rw [set_same ty0 (show i < ts.length by omega)] at hsp0
                        refine vc_open tyH ty0 (show i < ts.length by omega) (by repeat (first | exact .head | apply Take.tail)) ?_
                        show VC _ _ _ _ (_ :: _ :: _)
                        obtain ⟨z, hz⟩ : ∃ z, (ts.getD i ty0).z = z := ⟨_, rfl⟩
                        obtain ⟨v, hv⟩ : ∃ v, (ts.getD i ty0).v = v := ⟨_, rfl⟩
                        have hT : ts.getD i ty0 = ⟨z, v⟩ := by rw [← hz, ← hv]
                        rw [hz, hv] at hbd hsp0
                        rw [hz] at hzw
                        obtain ⟨⟨hz1, hz2⟩, hv1, hv2⟩ := hbd
                        rw [hsp0.1, hsp0.2, hv]
                        refine vc_skip ?_
                        refine vc_seq ?_
                        refine vc_block ?_
                        refine vc_seq ?_
                        refine vc_region ?_
                        refine vl_val rfl (.some rfl) (val_move rfl) ?_
                        refine vl_val rfl (.some rfl) (val_indexAddr Try.runUnderlying53 Try.sizeOf62 rfl rfl (rd_oldM hq) (by omega) (by omega) (by rw [vflat_len]; omega)) ?_
                        refine vl_val rfl (.some rfl) (val_loadAgg Try.isAgg62 Try.sizeOf62 rfl (cells_rd (us := [.int .i64 ((rows.getD r rw0).2.2.getD i z3).k, .int .i64 ((rows.getD r rw0).2.2.getD i z3).n, .string ((rows.getD r rw0).2.2.getD i z3).s]) (rd_oldM hq) (by rw [Int.toNat_natCast]; exact flat_at _ _ (by omega))) rfl) ?_
                        refine vl_alloc rfl rfl (.some rfl) Try.zeroValue62 (fun r25 => ?_)
                        refine vl_val rfl (.some rfl) (val_assign rfl) ?_
                        first | refine vl_store rfl rfl .none rfl rfl Try.sizeOf62 rfl (by repeat constructor) (by first | decide | exact Nat.le_refl _ | exact Nat.le_of_ble_eq_true rfl | (simp; omega)) ?_ | refine vl_storeSl rfl rfl .none rfl rfl Try.sizeOf62 rfl (by simp [Value.cells]) (by repeat constructor) (by first | decide | (simp [Value.cells]; omega)) ?_
                        refine vl_nil ?_
                        refine vc_seq ?_
                        refine vc_draws [0, 1, 2, 3, 4, 5, 6, 7, 8, 9] [] [0, 1, 2, 3, 4, 5, 6, 7, 8, 9] rfl (by kernel_rfl) (fun _ _ _ h => h) ?_
                        refine vd_val rfl rfl rfl (.some rfl) (by first | exact val_fieldAddr Try.runUnderlying41 rfl Try.sizeOf38 rfl | exact val_fieldAddrR Try.runUnderlying41 rfl Try.sizeOf38 rfl) ?_
                        refine vd_val rfl rfl rfl (.some rfl) (val_load Try.isAgg38 rfl (by first | exact cell_cells (by repeat constructor) rfl | exact cell_rd (by first | exact rd_sl (by repeat constructor) | exact rd_old (by assumption) rfl) (by first | exact bcells_at (by omega) | exact ucells_at (by omega) | exact icells_at (by omega) | exact tcells_at (by omega) | exact bcells_get (by omega) | exact icells_get (by omega) | exact tcells_get (by omega) | exact ucells_get (by omega)) | exact cell_old (by assumption) (by simp [fps]))) ?_
                        refine vd_val rfl rfl rfl (.some rfl) (val_move rfl) ?_
                        refine vd_val rfl rfl rfl (.some rfl) (val_indexAddr Try.runUnderlying38 Try.sizeOf87 rfl rfl (rd_sl (A := Ac) (by repeat constructor)) (by omega) (by omega) (by rw [Int.toNat_natCast, List.length_append, hP1, List.length_append]; show _ < _ + (2 + _); omega)) ?_
                        refine vd_val rfl rfl rfl (.some rfl) (by first | exact val_fieldAddr Try.runUnderlying41 rfl Try.sizeOf39 rfl | exact val_fieldAddrR Try.runUnderlying41 rfl Try.sizeOf39 rfl) ?_
                        refine vd_val rfl rfl rfl (.some rfl) (val_load Try.isAgg39 rfl (by first | exact cell_cells (by repeat constructor) rfl | exact cell_rd (by first | exact rd_sl (by repeat constructor) | exact rd_old (by assumption) rfl) (by first | exact bcells_at (by omega) | exact ucells_at (by omega) | exact icells_at (by omega) | exact tcells_at (by omega) | exact bcells_get (by omega) | exact icells_get (by omega) | exact tcells_get (by omega) | exact ucells_get (by omega)) | exact cell_old (by assumption) (by simp [fps]))) ?_
                        refine vd_val rfl rfl rfl (.some rfl) (val_move rfl) ?_
                        refine vd_val rfl rfl rfl (.some rfl) (val_indexAddr Try.runUnderlying39 Try.sizeOf88 rfl rfl (rd_sl (A := Az) (by repeat constructor)) (by omega) (by omega) (by rw [Int.toNat_natCast, List.length_append, hP2, List.length_append]; show _ < _ + (7 + _); omega)) ?_
                        refine vd_val rfl rfl rfl (.some rfl) (val_assign rfl) ?_
                        refine vd_val rfl rfl rfl (.some rfl) (val_assign rfl) ?_
                        refine vd_nil ?_
                        refine vc_seq ?_
                        refine vc_region ?_
                        refine vl_val rfl (.some rfl) (val_assign rfl) ?_
                        refine vl_nil ?_
                        refine vc_cut (fun E H => ∃ E0 H0 F, Env.le E0 E ∧ Sub H0 H F ∧ (fun E H => ∃ (z2 : Zn) (ds3 : List Xd), (z2 = takeZ z ((rows.getD r rw0).2.2.getD i z3) ∧ updX ds2 i (if ((rows.getD r rw0).2.2.getD i z3).k = 0 then (ds2.getD i xd0).vs else (dadd (ds2.getD i xd0).kd (ds2.getD i xd0).vs ((rows.getD r rw0).2.2.getD i z3)).2) ds3) ∧ E = [(0, .slice Ak ds.length ck), (1, .slice Ar rows.length cr), (2, .slice Ad ds.length cd), (6, .pointer (some ⟨r6, 0, none⟩)), (8, .int .i64 ds.length), (20, .pointer (some ⟨r20, 0, none⟩)), (151, .slice Ar rows.length cr), (152, .int .i64 rows.length), (153, .int .i64 r), (157, .slice (rows.getD r rw0).1 (rows.getD r rw0).2.2.length (rows.getD r rw0).2.1), (158, .int .i64 ds.length), (159, .int .i64 i), (25, .pointer (some ⟨r25, 0, none⟩)), (26, .pointer (some ((adr Ac).add (i * 2)))), (27, .pointer (some ((adr Az).add (i * 7)))), (28, .int .i64 (idT (ds2.getD i xd0).kd (ds2.getD i xd0).vs ((rows.getD r rw0).2.2.getD i z3)))] ∧ H = [cells r6 [.int .i64 0, .slice none 0 0, .slice none 0 0] 41, cells r20 [.int .i64 rows.length, .slice Ac ds.length cc, .slice Az ds.length cz] 41, cells r25 [.int .i64 ((rows.getD r rw0).2.2.getD i z3).k, .int .i64 ((rows.getD r rw0).2.2.getD i z3).n, .string ((rows.getD r rw0).2.2.getD i z3).s] 62, sl Ac ds.length cc 87 2 (PC ++ ((vcC v) ++ QC)), sl Az ds.length cz 88 7 (PZ ++ (znC z2 ++ QZ)), BL v.A v.nu.length v.c v.nu, IL v.B v.ids.length v.d v.ids, big (restL tyH ts i), XB ds3]) E0 H0) ?_ (fun E H h => ?_)
                        ·
                          refine vc_seq ?_
                          refine vc_region ?_
                          refine vl_val rfl (.some rfl) (by first | exact val_fieldAddr Try.runUnderlying62 rfl Try.sizeOf3 rfl | exact val_fieldAddrR Try.runUnderlying62 rfl Try.sizeOf3 rfl) ?_
                          refine vl_val rfl (.some rfl) (val_load Try.isAgg3 rfl (cell_cells (v := .int .i64 ((rows.getD r rw0).2.2.getD i z3).k) (by repeat constructor) rfl)) ?_
                          refine vl_val rfl (.some rfl) (val_eq rfl rfl) ?_
                          refine vl_nil ?_
                          refine vc_cond rfl (fun hc13 => ?_) (fun hc13 => ?_)
                          · (try replace hc13 := of_decide_eq_true hc13)
                            have hid : idT (ds2.getD i xd0).kd (ds2.getD i xd0).vs ((rows.getD r rw0).2.2.getD i z3) = 0 := by unfold idT; rw [if_pos hc13]
                            have hup : updX ds2 i (if ((rows.getD r rw0).2.2.getD i z3).k = 0 then (ds2.getD i xd0).vs else (dadd (ds2.getD i xd0).kd (ds2.getD i xd0).vs ((rows.getD r rw0).2.2.getD i z3)).2) ds2 := by rw [if_pos hc13]; exact updX_same ds2 i
                            refine vc_region ?_
                            refine vl_val rfl (.some rfl) (val_move rfl) ?_
                            refine vl_val rfl (.some rfl) (val_nil rfl rfl) ?_
                            refine vl_val rfl (.some rfl) (by first | exact val_fieldAddr Try.runUnderlying88 rfl Try.sizeOf3 rfl | exact val_fieldAddrR Try.runUnderlying88 rfl Try.sizeOf3 rfl) ?_
                            refine vl_val rfl (.some rfl) (val_load Try.isAgg3 rfl (cell_rd (rd_sl (A := Az) (by repeat constructor)) (at3 0 hP2 rfl))) ?_
                            refine vl_val rfl (.some rfl) (val_add rfl rfl (by first | exact w_i64 (by omega) (by omega) | rfl)) ?_
                            refine vl_val rfl (.some rfl) (val_nil rfl rfl) ?_
                            refine vl_val rfl (.some rfl) (by first | exact val_fieldAddr Try.runUnderlying88 rfl Try.sizeOf3 rfl | exact val_fieldAddrR Try.runUnderlying88 rfl Try.sizeOf3 rfl) ?_
                            refine vl_storeX (A := Az) (vs' := PZ ++ ((znC ⟨z.n + 1, z.lo, z.hi⟩) ++ QZ)) rfl rfl .none rfl rfl Try.sizeOf3 rfl (by simp [Value.cells]) (laid3 0 hP2 (Nat.le_of_ble_eq_true rfl)) (le3 0 hP2 (Nat.le_of_ble_eq_true rfl)) (by repeat constructor) ?_
                            refine vl_nil ?_
                            first
                              | exact ⟨_, _, _, (by repeat (first | exact trivial | refine ⟨rfl, ?_⟩ | refine ⟨le_item rfl (by first | rfl | (congr 1; omega) | (simp; done) | (simp; omega)), ?_⟩)), (by repeat constructor), ⟨_, ds2, ⟨tz0 hc13, hup⟩, rfl, rfl⟩⟩
                              | exact ⟨_, _, _, (by repeat (first | exact trivial | refine ⟨rfl, ?_⟩ | refine ⟨le_item rfl (by first | rfl | (congr 1; omega) | (simp; done) | (simp; omega)), ?_⟩)), (by repeat constructor), ⟨_, ds2.set i d, ⟨tz1 hc13 hlo hhi, hup⟩, rfl, rfl⟩⟩
                          · (try replace hc13 := of_decide_eq_false hc13)
                            have hid : idT (ds2.getD i xd0).kd (ds2.getD i xd0).vs ((rows.getD r rw0).2.2.getD i z3) = (dadd (ds2.getD i xd0).kd (ds2.getD i xd0).vs ((rows.getD r rw0).2.2.getD i z3)).1.1 := by unfold idT; rw [if_neg hc13]
                            refine vc_seq ?_
                            refine vc_drawsS [0, 1, 2, 3, 4, 6, 7, 8, 9] [] [0, 1, 2, 3, 4, 5, 6, 7, 8, 9] [cells r25 [.int .i64 ((rows.getD r rw0).2.2.getD i z3).k, .int .i64 ((rows.getD r rw0).2.2.getD i z3).n, .string ((rows.getD r rw0).2.2.getD i z3).s] 62] (by repeat constructor) rfl (by kernel_rfl) (fun _ _ _ h => h) ?_
                            refine vd_val rfl rfl rfl (.some rfl) (val_move rfl) ?_
                            refine vd_val rfl rfl rfl (.some rfl) (val_move rfl) ?_
                            refine vd_val rfl rfl rfl (.some rfl) (val_indexAddr Try.runUnderlying27 Try.sizeOf50 rfl rfl (rd_oldM hdp) (by omega) (by omega) (by rw [List.length_map]; omega)) ?_
                            refine vd_val rfl rfl rfl (.some rfl) (val_eqv hpe (val_load Try.isAgg50 rfl (cell_rd (rd_oldM hdp) (map_at xd0 (by omega))))) ?_
                            refine vd_val rfl rfl rfl (.some rfl) (val_loadAgg Try.isAgg62 Try.sizeOf62 rfl (cells_part (us := [.int .i64 ((rows.getD r rw0).2.2.getD i z3).k, .int .i64 ((rows.getD r rw0).2.2.getD i z3).n, .string ((rows.getD r rw0).2.2.getD i z3).s]) (by repeat constructor) rfl) rfl) ?_
                            refine vd_op rfl rfl ?_
                            refine vl_call (C := [XB ds2]) rfl rfl (.some rfl) Try.call30 rfl (by repeat constructor) (fun w hw => xbAdd (by rw [hst.2.1]; exact hi8) hok9 hle ((rows.getD r rw0).2.2.getD i z3) hpw w) (fun v9 H9 h => ?_)
                            obtain ⟨d, ⟨rfl, hd1, hd2⟩, rfl⟩ := h
                            show VL _ _ _ _ _ (_ :: _)
                            refine vl_nil ?_
                            refine ⟨fun _ => ⟨_, (by repeat (first | exact .nil | exact sub_self _ | exact sub_skip (sub_self _) | exact sub_skip (sub_skip (sub_self _)) | exact sub_skip (sub_skip (sub_skip (sub_self _))) | (apply Sub.cons; · repeat (first | exact .head | apply Take.tail))))⟩, ?_⟩
                            refine vd_val rfl rfl rfl (.some rfl) (val_move rfl) ?_
                            refine vd_val rfl rfl rfl (.some rfl) (val_extract rfl rfl) ?_
                            refine vd_val rfl rfl rfl (.some rfl) (val_extract rfl rfl) ?_
                            refine vd_val rfl rfl rfl (.some rfl) (val_assign rfl) ?_
                            refine vd_nil ?_
                            refine vc_cut (fun E H => ∃ E0 H0 F, Env.le E0 E ∧ Sub H0 H F ∧ (fun E H => ∃ lo2, lo2 = loT z ((rows.getD r rw0).2.2.getD i z3) ∧ E = [(0, .slice Ak ds.length ck), (1, .slice Ar rows.length cr), (2, .slice Ad ds.length cd), (6, .pointer (some ⟨r6, 0, none⟩)), (8, .int .i64 ds.length), (20, .pointer (some ⟨r20, 0, none⟩)), (151, .slice Ar rows.length cr), (152, .int .i64 rows.length), (153, .int .i64 r), (157, .slice (rows.getD r rw0).1 (rows.getD r rw0).2.2.length (rows.getD r rw0).2.1), (158, .int .i64 ds.length), (159, .int .i64 i), (25, .pointer (some ⟨r25, 0, none⟩)), (26, .pointer (some ((adr Ac).add (i * 2)))), (27, .pointer (some ((adr Az).add (i * 7)))), (28, .int .i64 (dadd (ds2.getD i xd0).kd (ds2.getD i xd0).vs ((rows.getD r rw0).2.2.getD i z3)).1.1)] ∧ H = [cells r6 [.int .i64 0, .slice none 0 0, .slice none 0 0] 41, cells r20 [.int .i64 rows.length, .slice Ac ds.length cc, .slice Az ds.length cz] 41, cells r25 [.int .i64 ((rows.getD r rw0).2.2.getD i z3).k, .int .i64 ((rows.getD r rw0).2.2.getD i z3).n, .string ((rows.getD r rw0).2.2.getD i z3).s] 62, sl Ac ds.length cc 87 2 (PC ++ ((vcC v) ++ QC)), sl Az ds.length cz 88 7 (PZ ++ (znC ⟨z.n, lo2, z.hi⟩ ++ QZ)), BL v.A v.nu.length v.c v.nu, IL v.B v.ids.length v.d v.ids, big (restL tyH ts i), XB (ds2.set i d)]) E0 H0) ?_ (fun E H h => ?_)
                            ·
                              refine vc_seq ?_
                              refine vc_draws [0, 1, 2, 3, 4, 5, 6, 7, 8, 9, 10, 11, 13, 14] [] [0, 1, 2, 3, 4, 5, 6, 7, 8, 9, 10, 11, 12, 13, 14] rfl (by kernel_rfl) (fun _ _ _ h => h) ?_
                              refine vd_val rfl rfl rfl (.some rfl) (val_move rfl) ?_
                              refine vd_val rfl rfl rfl (.some rfl) (val_nil rfl rfl) ?_
                              refine vd_val rfl rfl rfl (.some rfl) (by first | exact val_fieldAddr Try.runUnderlying88 rfl Try.sizeOf62 rfl | exact val_fieldAddrR Try.runUnderlying88 rfl Try.sizeOf62 rfl) ?_
                              refine vd_val rfl rfl rfl (.some rfl) (by first | exact val_fieldAddr Try.runUnderlying62 rfl Try.sizeOf3 rfl | exact val_fieldAddrR Try.runUnderlying62 rfl Try.sizeOf3 rfl) ?_
                              refine vd_val rfl rfl rfl (.some rfl) (val_load Try.isAgg3 rfl (cell_rd (rd_sl (A := Az) (by repeat constructor)) (at3 1 hP2 rfl))) ?_
                              refine vd_val rfl rfl rfl (.some rfl) (val_eq rfl rfl) ?_
                              refine vd_val rfl rfl rfl (.some rfl) (val_move rfl) ?_
                              refine vd_split (t := 197) rfl (fun hg197 => ?_) (fun hg197 => ?_)
                              · (try replace hg197 := of_decide_eq_true hg197)
                                refine vd_off rfl rfl rfl rfl rfl rfl (.some rfl) ?_
                                refine vd_off rfl rfl rfl rfl rfl rfl (.some rfl) ?_
                                refine vd_off rfl rfl rfl rfl rfl rfl (.some rfl) ?_
                                refine vd_off rfl rfl rfl rfl rfl rfl (.some rfl) ?_
                                refine vd_off rfl rfl rfl rfl rfl rfl (.some rfl) ?_
                                refine vd_op rfl rfl ?_
                                refine vl_off rfl rfl rfl rfl (.some rfl) ?_
                                refine vl_nil ?_
                                refine ⟨fun _ => ⟨_, (by repeat (first | exact .nil | exact sub_self _ | exact sub_skip (sub_self _) | exact sub_skip (sub_skip (sub_self _)) | exact sub_skip (sub_skip (sub_skip (sub_self _))) | (apply Sub.cons; · repeat (first | exact .head | apply Take.tail))))⟩, ?_⟩
                                refine vd_off rfl rfl rfl rfl rfl rfl (.some rfl) ?_
                                refine vd_val rfl rfl rfl (.some rfl) (val_pick rfl rfl) ?_
                                refine vd_nil ?_
                                refine vc_cond rfl (fun _ => ?_) (fun h => by cases h)
                                have hlo : ((rows.getD r rw0).2.2.getD i z3) = loT z ((rows.getD r rw0).2.2.getD i z3) := by unfold loT; rw [if_pos (.inl hg197)]
                                refine vc_region ?_
                                refine vl_val rfl (.some rfl) (val_move rfl) ?_
                                refine vl_val rfl (.some rfl) (val_loadAgg Try.isAgg62 Try.sizeOf62 rfl (cells_part (us := [.int .i64 ((rows.getD r rw0).2.2.getD i z3).k, .int .i64 ((rows.getD r rw0).2.2.getD i z3).n, .string ((rows.getD r rw0).2.2.getD i z3).s]) (by repeat constructor) rfl) rfl) ?_
                                refine vl_val rfl (.some rfl) (val_nil rfl rfl) ?_
                                refine vl_val rfl (.some rfl) (by first | exact val_fieldAddr Try.runUnderlying88 rfl Try.sizeOf62 rfl | exact val_fieldAddrR Try.runUnderlying88 rfl Try.sizeOf62 rfl) ?_
                                refine vl_storeX (A := Az) (vs' := PZ ++ ((znC ⟨z.n, (rows.getD r rw0).2.2.getD i z3, z.hi⟩) ++ QZ)) rfl rfl .none rfl rfl Try.sizeOf62 rfl (by simp [Value.cells]) (laid3 1 hP2 (Nat.le_of_ble_eq_true rfl)) (le3 1 hP2 (Nat.le_of_ble_eq_true rfl)) (by repeat constructor) ?_
                                refine vl_nil ?_
                                exact ⟨_, _, _, (by repeat (first | exact trivial | refine ⟨rfl, ?_⟩ | refine ⟨le_item rfl (by first | rfl | (congr 1; omega) | (simp; done) | (simp; omega)), ?_⟩)), (by repeat constructor), ⟨_, hlo, rfl, rfl⟩⟩
                              · (try replace hg197 := of_decide_eq_false hg197)
                                refine vd_on rfl rfl rfl rfl rfl rfl (.some rfl) (val_loadAgg Try.isAgg62 Try.sizeOf62 rfl (cells_part (us := [.int .i64 ((rows.getD r rw0).2.2.getD i z3).k, .int .i64 ((rows.getD r rw0).2.2.getD i z3).n, .string ((rows.getD r rw0).2.2.getD i z3).s]) (by repeat constructor) rfl) rfl) ?_
                                refine vd_on rfl rfl rfl rfl rfl rfl (.some rfl) (val_move rfl) ?_
                                refine vd_on rfl rfl rfl rfl rfl rfl (.some rfl) (val_nil rfl rfl) ?_
                                refine vd_on rfl rfl rfl rfl rfl rfl (.some rfl) (by first | exact val_fieldAddr Try.runUnderlying88 rfl Try.sizeOf62 rfl | exact val_fieldAddrR Try.runUnderlying88 rfl Try.sizeOf62 rfl) ?_
                                refine vd_on rfl rfl rfl rfl rfl rfl (.some rfl) (val_loadAgg Try.isAgg62 Try.sizeOf62 rfl (cells_rd (us := [.int .i64 (z.lo).k, .int .i64 (z.lo).n, .string (z.lo).s]) (rd_sl (A := Az) (by repeat constructor)) (drop3 1 hP2 (Nat.le_of_ble_eq_true rfl) rfl)) rfl) ?_
                                refine vd_op rfl rfl ?_
                                refine vl_on rfl rfl rfl rfl ?_
                                refine vl_callV rfl rfl (.some rfl) Try.call31 rfl (fun w hw => xCmp ((rows.getD r rw0).2.2.getD i z3) z.lo hpw hzw.1 w) ?_
                                refine vl_nil ?_
                                refine ⟨fun _ => ⟨_, (by repeat (first | exact .nil | exact sub_self _ | exact sub_skip (sub_self _) | exact sub_skip (sub_skip (sub_self _)) | exact sub_skip (sub_skip (sub_skip (sub_self _))) | (apply Sub.cons; · repeat (first | exact .head | apply Take.tail))))⟩, ?_⟩
                                refine vd_on rfl rfl rfl rfl rfl rfl (.some rfl) (val_lt rfl rfl) ?_
                                refine vd_val rfl rfl rfl (.some rfl) (val_pick rfl rfl) ?_
                                refine vd_nil ?_
                                refine vc_cond rfl (fun hc14 => ?_) (fun hc14 => ?_)
                                · (try replace hc14 := of_decide_eq_true hc14)
                                  have hlo : ((rows.getD r rw0).2.2.getD i z3) = loT z ((rows.getD r rw0).2.2.getD i z3) := by unfold loT; rw [if_pos (.inr hc14)]
                                  refine vc_region ?_
                                  refine vl_val rfl (.some rfl) (val_move rfl) ?_
                                  refine vl_val rfl (.some rfl) (val_loadAgg Try.isAgg62 Try.sizeOf62 rfl (cells_part (us := [.int .i64 ((rows.getD r rw0).2.2.getD i z3).k, .int .i64 ((rows.getD r rw0).2.2.getD i z3).n, .string ((rows.getD r rw0).2.2.getD i z3).s]) (by repeat constructor) rfl) rfl) ?_
                                  refine vl_val rfl (.some rfl) (val_nil rfl rfl) ?_
                                  refine vl_val rfl (.some rfl) (by first | exact val_fieldAddr Try.runUnderlying88 rfl Try.sizeOf62 rfl | exact val_fieldAddrR Try.runUnderlying88 rfl Try.sizeOf62 rfl) ?_
                                  refine vl_storeX (A := Az) (vs' := PZ ++ ((znC ⟨z.n, (rows.getD r rw0).2.2.getD i z3, z.hi⟩) ++ QZ)) rfl rfl .none rfl rfl Try.sizeOf62 rfl (by simp [Value.cells]) (laid3 1 hP2 (Nat.le_of_ble_eq_true rfl)) (le3 1 hP2 (Nat.le_of_ble_eq_true rfl)) (by repeat constructor) ?_
                                  refine vl_nil ?_
                                  exact ⟨_, _, _, (by repeat (first | exact trivial | refine ⟨rfl, ?_⟩ | refine ⟨le_item rfl (by first | rfl | (congr 1; omega) | (simp; done) | (simp; omega)), ?_⟩)), (by repeat constructor), ⟨_, hlo, rfl, rfl⟩⟩
                                · (try replace hc14 := of_decide_eq_false hc14)
                                  have hlo : z.lo = loT z ((rows.getD r rw0).2.2.getD i z3) := by unfold loT; rw [if_neg (by rintro (h | h); exact hg197 h; exact hc14 h)]
                                  refine vc_skip ?_
                                  exact ⟨_, _, _, (by repeat (first | exact trivial | refine ⟨rfl, ?_⟩ | refine ⟨le_item rfl (by first | rfl | (congr 1; omega) | (simp; done) | (simp; omega)), ?_⟩)), (by repeat constructor), ⟨_, hlo, rfl, rfl⟩⟩
                            · obtain ⟨E0, H0, F, hE0, hH0, hJ⟩ := h
                              obtain ⟨lo2, hlo, rfl, rfl⟩ := hJ
                              have hup : updX ds2 i (if ((rows.getD r rw0).2.2.getD i z3).k = 0 then (ds2.getD i xd0).vs else (dadd (ds2.getD i xd0).kd (ds2.getD i xd0).vs ((rows.getD r rw0).2.2.getD i z3)).2) (ds2.set i d) := by rw [if_neg hc13]; exact updX_set (by rw [hst.2.1]; exact hi8) hd1 hd2
                              refine vc_weak hE0 hH0 ?_
                              refine vc_seq ?_
                              refine vc_draws [0, 1, 2, 3, 4, 5, 6, 7, 8, 9, 10, 11, 13, 14] [] [0, 1, 2, 3, 4, 5, 6, 7, 8, 9, 10, 11, 12, 13, 14] rfl (by kernel_rfl) (fun _ _ _ h => h) ?_
                              refine vd_val rfl rfl rfl (.some rfl) (val_move rfl) ?_
                              refine vd_val rfl rfl rfl (.some rfl) (val_nil rfl rfl) ?_
                              refine vd_val rfl rfl rfl (.some rfl) (by first | exact val_fieldAddr Try.runUnderlying88 rfl Try.sizeOf62 rfl | exact val_fieldAddrR Try.runUnderlying88 rfl Try.sizeOf62 rfl) ?_
                              refine vd_val rfl rfl rfl (.some rfl) (by first | exact val_fieldAddr Try.runUnderlying62 rfl Try.sizeOf3 rfl | exact val_fieldAddrR Try.runUnderlying62 rfl Try.sizeOf3 rfl) ?_
                              refine vd_val rfl rfl rfl (.some rfl) (val_load Try.isAgg3 rfl (cell_rd (rd_sl (A := Az) (by repeat constructor)) (at3 4 hP2 rfl))) ?_
                              refine vd_val rfl rfl rfl (.some rfl) (val_eq rfl rfl) ?_
                              refine vd_val rfl rfl rfl (.some rfl) (val_move rfl) ?_
                              refine vd_split (t := 216) rfl (fun hg216 => ?_) (fun hg216 => ?_)
                              · (try replace hg216 := of_decide_eq_true hg216)
                                refine vd_off rfl rfl rfl rfl rfl rfl (.some rfl) ?_
                                refine vd_off rfl rfl rfl rfl rfl rfl (.some rfl) ?_
                                refine vd_off rfl rfl rfl rfl rfl rfl (.some rfl) ?_
                                refine vd_off rfl rfl rfl rfl rfl rfl (.some rfl) ?_
                                refine vd_off rfl rfl rfl rfl rfl rfl (.some rfl) ?_
                                refine vd_op rfl rfl ?_
                                refine vl_off rfl rfl rfl rfl (.some rfl) ?_
                                refine vl_nil ?_
                                refine ⟨fun _ => ⟨_, (by repeat (first | exact .nil | exact sub_self _ | exact sub_skip (sub_self _) | exact sub_skip (sub_skip (sub_self _)) | exact sub_skip (sub_skip (sub_skip (sub_self _))) | (apply Sub.cons; · repeat (first | exact .head | apply Take.tail))))⟩, ?_⟩
                                refine vd_off rfl rfl rfl rfl rfl rfl (.some rfl) ?_
                                refine vd_val rfl rfl rfl (.some rfl) (val_pick rfl rfl) ?_
                                refine vd_nil ?_
                                refine vc_cond rfl (fun _ => ?_) (fun h => by cases h)
                                have hhi : ((rows.getD r rw0).2.2.getD i z3) = hiT z ((rows.getD r rw0).2.2.getD i z3) := by unfold hiT; rw [if_pos (.inl hg216)]
                                refine vc_region ?_
                                refine vl_val rfl (.some rfl) (val_move rfl) ?_
                                refine vl_val rfl (.some rfl) (val_loadAgg Try.isAgg62 Try.sizeOf62 rfl (cells_part (us := [.int .i64 ((rows.getD r rw0).2.2.getD i z3).k, .int .i64 ((rows.getD r rw0).2.2.getD i z3).n, .string ((rows.getD r rw0).2.2.getD i z3).s]) (by repeat constructor) rfl) rfl) ?_
                                refine vl_val rfl (.some rfl) (val_nil rfl rfl) ?_
                                refine vl_val rfl (.some rfl) (by first | exact val_fieldAddr Try.runUnderlying88 rfl Try.sizeOf62 rfl | exact val_fieldAddrR Try.runUnderlying88 rfl Try.sizeOf62 rfl) ?_
                                refine vl_storeX (A := Az) (vs' := PZ ++ ((znC ⟨z.n, lo2, (rows.getD r rw0).2.2.getD i z3⟩) ++ QZ)) rfl rfl .none rfl rfl Try.sizeOf62 rfl (by simp [Value.cells]) (laid3 4 hP2 (Nat.le_of_ble_eq_true rfl)) (le3 4 hP2 (Nat.le_of_ble_eq_true rfl)) (by repeat constructor) ?_
                                refine vl_nil ?_
                                first
                                  | exact ⟨_, _, _, (by repeat (first | exact trivial | refine ⟨rfl, ?_⟩ | refine ⟨le_item rfl (by first | rfl | (congr 1; omega) | (simp; done) | (simp; omega)), ?_⟩)), (by repeat constructor), ⟨_, ds2, ⟨tz0 hc13, hup⟩, rfl, rfl⟩⟩
                                  | exact ⟨_, _, _, (by repeat (first | exact trivial | refine ⟨rfl, ?_⟩ | refine ⟨le_item rfl (by first | rfl | (congr 1; omega) | (simp; done) | (simp; omega)), ?_⟩)), (by repeat constructor), ⟨_, ds2.set i d, ⟨tz1 hc13 hlo hhi, hup⟩, rfl, rfl⟩⟩
                              · (try replace hg216 := of_decide_eq_false hg216)
                                refine vd_on rfl rfl rfl rfl rfl rfl (.some rfl) (val_loadAgg Try.isAgg62 Try.sizeOf62 rfl (cells_part (us := [.int .i64 ((rows.getD r rw0).2.2.getD i z3).k, .int .i64 ((rows.getD r rw0).2.2.getD i z3).n, .string ((rows.getD r rw0).2.2.getD i z3).s]) (by repeat constructor) rfl) rfl) ?_
                                refine vd_on rfl rfl rfl rfl rfl rfl (.some rfl) (val_move rfl) ?_
                                refine vd_on rfl rfl rfl rfl rfl rfl (.some rfl) (val_nil rfl rfl) ?_
                                refine vd_on rfl rfl rfl rfl rfl rfl (.some rfl) (by first | exact val_fieldAddr Try.runUnderlying88 rfl Try.sizeOf62 rfl | exact val_fieldAddrR Try.runUnderlying88 rfl Try.sizeOf62 rfl) ?_
                                refine vd_on rfl rfl rfl rfl rfl rfl (.some rfl) (val_loadAgg Try.isAgg62 Try.sizeOf62 rfl (cells_rd (us := [.int .i64 (z.hi).k, .int .i64 (z.hi).n, .string (z.hi).s]) (rd_sl (A := Az) (by repeat constructor)) (drop3 4 hP2 (Nat.le_of_ble_eq_true rfl) rfl)) rfl) ?_
                                refine vd_op rfl rfl ?_
                                refine vl_on rfl rfl rfl rfl ?_
                                refine vl_callV rfl rfl (.some rfl) Try.call31 rfl (fun w hw => xCmp ((rows.getD r rw0).2.2.getD i z3) z.hi hpw hzw.2 w) ?_
                                refine vl_nil ?_
                                refine ⟨fun _ => ⟨_, (by repeat (first | exact .nil | exact sub_self _ | exact sub_skip (sub_self _) | exact sub_skip (sub_skip (sub_self _)) | exact sub_skip (sub_skip (sub_skip (sub_self _))) | (apply Sub.cons; · repeat (first | exact .head | apply Take.tail))))⟩, ?_⟩
                                refine vd_on rfl rfl rfl rfl rfl rfl (.some rfl) (val_gt rfl rfl) ?_
                                refine vd_val rfl rfl rfl (.some rfl) (val_pick rfl rfl) ?_
                                refine vd_nil ?_
                                refine vc_cond rfl (fun hc15 => ?_) (fun hc15 => ?_)
                                · (try replace hc15 := of_decide_eq_true hc15)
                                  have hhi : ((rows.getD r rw0).2.2.getD i z3) = hiT z ((rows.getD r rw0).2.2.getD i z3) := by unfold hiT; rw [if_pos (.inr hc15)]
                                  refine vc_region ?_
                                  refine vl_val rfl (.some rfl) (val_move rfl) ?_
                                  refine vl_val rfl (.some rfl) (val_loadAgg Try.isAgg62 Try.sizeOf62 rfl (cells_part (us := [.int .i64 ((rows.getD r rw0).2.2.getD i z3).k, .int .i64 ((rows.getD r rw0).2.2.getD i z3).n, .string ((rows.getD r rw0).2.2.getD i z3).s]) (by repeat constructor) rfl) rfl) ?_
                                  refine vl_val rfl (.some rfl) (val_nil rfl rfl) ?_
                                  refine vl_val rfl (.some rfl) (by first | exact val_fieldAddr Try.runUnderlying88 rfl Try.sizeOf62 rfl | exact val_fieldAddrR Try.runUnderlying88 rfl Try.sizeOf62 rfl) ?_
                                  refine vl_storeX (A := Az) (vs' := PZ ++ ((znC ⟨z.n, lo2, (rows.getD r rw0).2.2.getD i z3⟩) ++ QZ)) rfl rfl .none rfl rfl Try.sizeOf62 rfl (by simp [Value.cells]) (laid3 4 hP2 (Nat.le_of_ble_eq_true rfl)) (le3 4 hP2 (Nat.le_of_ble_eq_true rfl)) (by repeat constructor) ?_
                                  refine vl_nil ?_
                                  first
                                    | exact ⟨_, _, _, (by repeat (first | exact trivial | refine ⟨rfl, ?_⟩ | refine ⟨le_item rfl (by first | rfl | (congr 1; omega) | (simp; done) | (simp; omega)), ?_⟩)), (by repeat constructor), ⟨_, ds2, ⟨tz0 hc13, hup⟩, rfl, rfl⟩⟩
                                    | exact ⟨_, _, _, (by repeat (first | exact trivial | refine ⟨rfl, ?_⟩ | refine ⟨le_item rfl (by first | rfl | (congr 1; omega) | (simp; done) | (simp; omega)), ?_⟩)), (by repeat constructor), ⟨_, ds2.set i d, ⟨tz1 hc13 hlo hhi, hup⟩, rfl, rfl⟩⟩
                                · (try replace hc15 := of_decide_eq_false hc15)
                                  have hhi : z.hi = hiT z ((rows.getD r rw0).2.2.getD i z3) := by unfold hiT; rw [if_neg (by rintro (h | h); exact hg216 h; exact hc15 h)]
                                  refine vc_skip ?_
                                  first
                                    | exact ⟨_, _, _, (by repeat (first | exact trivial | refine ⟨rfl, ?_⟩ | refine ⟨le_item rfl (by first | rfl | (congr 1; omega) | (simp; done) | (simp; omega)), ?_⟩)), (by repeat constructor), ⟨_, ds2, ⟨tz0 hc13, hup⟩, rfl, rfl⟩⟩
                                    | exact ⟨_, _, _, (by repeat (first | exact trivial | refine ⟨rfl, ?_⟩ | refine ⟨le_item rfl (by first | rfl | (congr 1; omega) | (simp; done) | (simp; omega)), ?_⟩)), (by repeat constructor), ⟨_, ds2.set i d, ⟨tz1 hc13 hlo hhi, hup⟩, rfl, rfl⟩⟩
                        · obtain ⟨E0, H0, F, hE0, hH0, hJ⟩ := h
                          obtain ⟨z2, ds3, ⟨hzt, hup⟩, rfl, rfl⟩ := hJ
                          refine vc_weak hE0 hH0 ?_
                          refine vc_seq ?_
                          refine vc_drawsS [0, 1, 2, 3, 4, 5, 6, 7, 11] [12] [0, 1, 2, 3, 4, 5, 6, 7, 8, 9, 10, 11, 12] [cells r25 [.int .i64 ((rows.getD r rw0).2.2.getD i z3).k, .int .i64 ((rows.getD r rw0).2.2.getD i z3).n, .string ((rows.getD r rw0).2.2.getD i z3).s] 62, sl Ac ds.length cc 87 2 (PC ++ ((vcC v) ++ QC))] (by repeat constructor) rfl (by kernel_rfl) (fun _ _ _ h => h) ?_
                          refine vd_val rfl rfl rfl (.some rfl) (val_move rfl) ?_
                          refine vd_val rfl rfl rfl (.some rfl) (val_move rfl) ?_
                          refine vd_val rfl rfl rfl (.some rfl) (val_nil rfl rfl) ?_
                          refine vd_val rfl rfl rfl (.some rfl) (by first | exact val_fieldAddr Try.runUnderlying87 rfl Try.sizeOf79 rfl | exact val_fieldAddrR Try.runUnderlying87 rfl Try.sizeOf79 rfl) ?_
                          refine vd_val rfl rfl rfl (.some rfl) (val_load Try.isAgg79 rfl (cell_rd (rd_sl (A := Ac) (by repeat constructor)) (at3 0 hP1 rfl))) ?_
                          refine vd_val rfl rfl rfl (.some rfl) (by first | exact val_fieldAddr Try.runUnderlying62 rfl Try.sizeOf3 rfl | exact val_fieldAddrR Try.runUnderlying62 rfl Try.sizeOf3 rfl) ?_
                          refine vd_val rfl rfl rfl (.some rfl) (val_load Try.isAgg3 rfl (cell_cells (v := .int .i64 ((rows.getD r rw0).2.2.getD i z3).k) (by repeat constructor) rfl)) ?_
                          refine vd_val rfl rfl rfl (.some rfl) (val_eq rfl rfl) ?_
                          refine vd_op rfl rfl ?_
                          refine vl_lit sT79 rfl rfl (.some rfl) rfl rfl rfl (by decide) (by decide) rfl (flat_one rfl) (fun r237 => ?_)
                          refine vl_nil ?_
                          refine ⟨fun _ => ⟨_, (by repeat (first | exact .nil | exact sub_self _ | exact sub_skip (sub_self _) | exact sub_skip (sub_skip (sub_self _)) | exact sub_skip (sub_skip (sub_skip (sub_self _))) | (apply Sub.cons; · repeat (first | exact .head | apply Take.tail))))⟩, ?_⟩
                          refine vd_op rfl rfl ?_
                          refine vl_append sT79 rfl rfl (.some rfl) rfl rfl (by first | exact rd_sl (by repeat constructor) | exact rd_slr (by repeat constructor) | exact rd_old (by assumption) rfl) (by first | rfl | (simp; done) | (simp; omega) | (simp only [bcells_length, icells_length, ucells_length, tcells_length]; omega)) (by first | rfl | exact one_b _ | exact one_u _ | exact one_i _ | exact one_t _) (by omega) (by omega) (by repeat constructor) (fun A238 k238 => ?_)
                          refine vl_nil ?_
                          refine ⟨fun _ => ⟨_, (by repeat (first | exact .nil | exact sub_self _ | exact sub_skip (sub_self _) | exact sub_skip (sub_skip (sub_self _)) | exact sub_skip (sub_skip (sub_skip (sub_self _))) | (apply Sub.cons; · repeat (first | exact .head | apply Take.tail))))⟩, ?_⟩
                          refine vd_op rfl rfl ?_
                          refine vl_val rfl (.some rfl) (val_nil rfl rfl) ?_
                          refine vl_nil ?_
                          refine ⟨fun _ => ⟨_, (by repeat (first | exact .nil | exact sub_self _ | exact sub_skip (sub_self _) | exact sub_skip (sub_skip (sub_self _)) | exact sub_skip (sub_skip (sub_skip (sub_self _))) | (apply Sub.cons; · repeat (first | exact .head | apply Take.tail))))⟩, ?_⟩
                          refine vd_val rfl rfl rfl (.some rfl) (by first | exact val_fieldAddr Try.runUnderlying87 rfl Try.sizeOf79 rfl | exact val_fieldAddrR Try.runUnderlying87 rfl Try.sizeOf79 rfl) ?_
                          refine vd_op rfl rfl ?_
                          refine vl_storeX (A := Ac) (vs' := PC ++ (([.slice A238 (v.nu.length + 1) k238, .slice v.B v.ids.length v.d]) ++ QC)) rfl rfl .none rfl rfl Try.sizeOf79 rfl (by simp [Value.cells]) (laid3 0 hP1 (Nat.le_of_ble_eq_true rfl)) (le3 0 hP1 (Nat.le_of_ble_eq_true rfl)) (by repeat constructor) ?_
                          refine vl_nil ?_
                          refine ⟨fun h => (by cases h), ?_⟩
                          refine vd_nil ?_
                          refine vc_region ?_
                          refine vl_val rfl (.some rfl) (val_move rfl) ?_
                          refine vl_val rfl (.some rfl) (val_move rfl) ?_
                          refine vl_val rfl (.some rfl) (val_nil rfl rfl) ?_
                          refine vl_val rfl (.some rfl) (by first | exact val_fieldAddr Try.runUnderlying87 rfl Try.sizeOf22 rfl | exact val_fieldAddrR Try.runUnderlying87 rfl Try.sizeOf22 rfl) ?_
                          refine vl_val rfl (.some rfl) (val_load Try.isAgg22 rfl (cell_rd (rd_sl (A := Ac) (by repeat constructor)) (at3 1 hP1 rfl))) ?_
                          refine vl_val rfl (.some rfl) (val_move rfl) ?_
                          refine vl_lit sT22 rfl rfl (.some rfl) rfl rfl rfl (by decide) (by decide) rfl (flat_one rfl) (fun r247 => ?_)
                          refine vl_append sT22 rfl rfl (.some rfl) rfl rfl (by first | exact rd_sl (by repeat constructor) | exact rd_slr (by repeat constructor) | exact rd_old (by assumption) rfl) (by first | rfl | (simp; done) | (simp; omega) | (simp only [bcells_length, icells_length, ucells_length, tcells_length]; omega)) (by first | rfl | exact one_b _ | exact one_u _ | exact one_i _ | exact one_t _) (by omega) (by omega) (by repeat constructor) (fun A248 k248 => ?_)
                          refine vl_val rfl (.some rfl) (val_nil rfl rfl) ?_
                          refine vl_val rfl (.some rfl) (by first | exact val_fieldAddr Try.runUnderlying87 rfl Try.sizeOf22 rfl | exact val_fieldAddrR Try.runUnderlying87 rfl Try.sizeOf22 rfl) ?_
                          refine vl_storeX (A := Ac) (vs' := PC ++ (([.slice A238 (v.nu.length + 1) k238, .slice A248 (v.ids.length + 1) k248]) ++ QC)) rfl rfl .none rfl rfl Try.sizeOf22 rfl (by simp [Value.cells]) (laid3 1 hP1 (Nat.le_of_ble_eq_true rfl)) (le3 1 hP1 (Nat.le_of_ble_eq_true rfl)) (by repeat constructor) ?_
                          obtain ⟨T3, hT3⟩ : ∃ T3 : Ty, T3 = ⟨z2, ⟨A238, k238, v.nu ++ [decide (((rows.getD r rw0).2.2.getD i z3).k = 0)], A248, k248, v.ids ++ [idT (ds2.getD i xd0).kd (ds2.getD i xd0).vs ((rows.getD r rw0).2.2.getD i z3)]⟩⟩ := ⟨_, rfl⟩
                          have he3 := hsp T3
                          refine vl_close2 tyH (x := T3) (show i < ts.length by omega) (c0 := sl A238 (v.nu.length + 1) k238 4 1 (tcells v.nu ++ [.bool (decide (((rows.getD r rw0).2.2.getD i z3).k = 0))])) (c1 := sl A248 (v.ids.length + 1) k248 3 1 (icells .i64 v.ids ++ [.int .i64 (idT (ds2.getD i xd0).kd (ds2.getD i xd0).vs ((rows.getD r rw0).2.2.getD i z3))])) (by rw [hT3]; simp [tcells, icells, BL, IL]) (by repeat (first | exact .head | apply Take.tail)) (by repeat (first | exact .head | apply Take.tail)) (by repeat (first | exact .head | apply Take.tail)) ?_
                          rw [show PC ++ ([.slice A238 (v.nu.length + 1) k238, .slice A248 (v.ids.length + 1) k248] ++ QC) = ((ts.set i T3).map (·.v)).flatMap vcC by rw [he3.1, hT3]; simp, show PZ ++ (znC z2 ++ QZ) = ((ts.set i T3).map (·.z)).flatMap znC by rw [he3.2, hT3]]
                          have hst3 : StX ds KS DV RS (ts.set i T3) ds3 r (i + 1) := stX_step hKg hst hi8 (show r < RS.length by omega) (by rw [hRg, hT, takeC_is, hT3, ← hzt]) (by rw [hRg, hT, takeC_is]; exact hup)
                          refine vl_nil ?_
                          refine vc_region ?_
                          refine vl_val rfl (.some rfl) (val_add rfl rfl (by first | exact w_i64 (by omega) (by omega) | rfl)) ?_
                          refine vl_val rfl (.some rfl) (val_move rfl) ?_
                          refine vl_nil ?_
                          exact ⟨ds.length - (i + 1), _, _, _, by omega, (by repeat (first | exact trivial | refine ⟨rfl, ?_⟩ | refine ⟨le_item rfl (by first | rfl | (congr 1; omega) | (simp; done) | (simp; omega)), ?_⟩)), (by repeat constructor), ⟨i + 1, ts.set i T3, ds3, by omega, rfl, hst3, rfl, rfl⟩⟩
                      · (try replace hc12 := of_decide_eq_false hc12)
                        obtain rfl : i = ds.length := by omega
                        have hst4 := stX_row hst
                        refine vc_exit ?_
                        refine vc_region ?_
                        refine vl_val rfl (.some rfl) (val_add rfl rfl (by first | exact w_i64 (by omega) (by omega) | rfl)) ?_
                        refine vl_val rfl (.some rfl) (val_move rfl) ?_
                        refine vl_nil ?_
                        exact ⟨rows.length - (r + 1), _, _, _, by omega, (by repeat (first | exact trivial | refine ⟨rfl, ?_⟩ | refine ⟨le_item rfl (by first | rfl | (congr 1; omega) | (simp; done) | (simp; omega)), ?_⟩)), (by repeat constructor), ⟨r + 1, ts, ds2, by omega, rfl, hst4, rfl, rfl⟩⟩
                    · (try replace hc11 := of_decide_eq_false hc11)
                      obtain rfl : r = rows.length := by omega
                      have hl1 := hst.1
                      rw [← hl1]
                      refine vc_exit ?_
                      refine vc_seq ?_
                      refine vc_region ?_
                      refine vl_val rfl (.some rfl) (val_loadAgg Try.isAgg41 Try.sizeOf41 rfl (by first | exact cells_whole (by repeat constructor) | exact cells_part (by repeat constructor) rfl) rfl) ?_
                      first | refine vl_store rfl rfl .none rfl rfl Try.sizeOf41 rfl (by repeat constructor) (by first | decide | exact Nat.le_refl _ | exact Nat.le_of_ble_eq_true rfl | (simp; omega)) ?_ | refine vl_storeSl rfl rfl .none rfl rfl Try.sizeOf41 rfl (by simp [Value.cells]) (by repeat constructor) (by first | decide | (simp [Value.cells]; omega)) ?_
                      refine vl_val rfl (.some rfl) (val_assign rfl) ?_
                      refine vl_nil ?_
                      refine vc_ret ?_
                      refine ⟨_, [XB ds2, big (ts.flatMap tyH), sl Ac ts.length cc 87 2 ((ts.map (·.v)).flatMap vcC), sl Az ts.length cz 88 7 ((ts.map (·.z)).flatMap znC)], _, resC2 Try.results10 rfl (whole_agg Try.isAgg41 Try.sizeOf41 (cells_whole (by repeat constructor)) rfl) rfl, (by repeat constructor), ?_⟩
                      obtain ⟨he1, he2⟩ := stX_end hKl (by rw [hRl]; exact hst) hme
                      refine ⟨rows.length, Ac, cc, ts.map (·.v), Az, cz, ts.map (·.z), 0, ds2, ?_, ?_, ?_, he2⟩
                      · rw [List.length_map, List.length_map]; rfl
                      · rw [List.length_map, List.length_map, tyH_v]
                      · rw [← hRl]; exact he1


end Go.Proofs.Ytdehjgpdcdjhjaa.K
