/- Walks of the program's functions, printed by a program of this session; Lean checks them. -/
import Derived.Test.YtclknendeeljaaaYkh
namespace Go.Proofs.Ytclknendeeljaaa.K
open Go Go.RowKit Go.Proofs
set_option linter.unusedVariables false
set_option linter.unusedSimpArgs false


abbrev RKb (b t : Nat) (As : Option Addr) (ns cs : Nat) (Al : Option Addr) (n cl : Nat) : Chunk := cells b [.int .i64 (t : Nat), .slice As ns cs, .slice Al n cl] 96
abbrev RQ (b t : Nat) (As : Option Addr) (cs : Nat) (S : List (Nat × Nat)) (Al : Option Addr) (cl : Nat) (L : List (Sl Nat)) : List Chunk := [RKb b t As S.length cs Al L.length cl, HR Al L.length cl (L.map hdr), big (L.map rwC)]
/-- What add has made of the first i numbers. -/
def outA (l : List Nat) (h i : Nat) : List Nat := if i ≤ lowN l h then l.take i else if h ∈ l then l.take i else l.take (lowN l h) ++ h :: (l.take i).drop (lowN l h)
theorem take_snoc {l : List Nat} {i : Nat} (hi : i < l.length) : l.take i ++ [l.getD i 0] = l.take (i + 1) := by
  rw [List.take_add_one, List.getElem?_eq_getElem hi]; simp [List.getD, hi]
theorem outA_low {l : List Nat} {h i : Nat} (hi : i < lowN l h) : outA l h i ++ [l.getD i 0] = outA l h (i + 1) := by
  have := lowN_le l h
  unfold outA
  rw [if_pos (by omega), if_pos (by omega), take_snoc (by omega)]
theorem outA_hit {l : List Nat} {h i : Nat} (hr : Rise l) (hi : i = lowN l h) (hl : i < l.length) (he : l.getD i 0 = h) : outA l h i ++ [h] = outA l h (i + 1) := by
  have hm : h ∈ l := (low_mem hr).2 ⟨by omega, by rw [← hi]; exact he⟩
  unfold outA
  rw [if_pos (by omega), if_neg (by omega), if_pos hm, ← take_snoc hl, he]
theorem outA_new {l : List Nat} {h i : Nat} (hr : Rise l) (hi : i = lowN l h) (hl : i < l.length) (he : l.getD i 0 ≠ h) : outA l h i ++ [h] ++ [l.getD i 0] = outA l h (i + 1) := by
  have hm : h ∉ l := fun hm => he (by rw [hi]; exact ((low_mem hr).1 hm).2)
  have e1 : outA l h i = l.take i := by unfold outA; rw [if_pos (by omega)]
  have e2 : outA l h (i + 1) = l.take i ++ h :: (l.take (i + 1)).drop i := by unfold outA; rw [if_neg (by omega), if_neg hm, ← hi]
  have hl2 : (l.take i).length = i := by rw [List.length_take]; omega
  rw [e1, e2, ← take_snoc hl, List.drop_append, List.drop_of_length_le (by omega), hl2, Nat.sub_self]
  simp
theorem outA_more {l : List Nat} {h i : Nat} (hi : lowN l h < i) (hl : i < l.length) : outA l h i ++ [l.getD i 0] = outA l h (i + 1) := by
  have hl2 : (l.take i).length = i := by rw [List.length_take]; omega
  by_cases hm : h ∈ l
  · have e1 : outA l h i = l.take i := by unfold outA; rw [if_neg (by omega), if_pos hm]
    have e2 : outA l h (i + 1) = l.take (i + 1) := by unfold outA; rw [if_neg (by omega), if_pos hm]
    rw [e1, e2, take_snoc hl]
  · have e1 : outA l h i = l.take (lowN l h) ++ h :: (l.take i).drop (lowN l h) := by unfold outA; rw [if_neg (by omega), if_neg hm]
    have e2 : outA l h (i + 1) = l.take (lowN l h) ++ h :: (l.take (i + 1)).drop (lowN l h) := by unfold outA; rw [if_neg (by omega), if_neg hm]
    rw [e1, e2, ← take_snoc hl, List.drop_append_of_le_length (by omega), List.append_assoc, List.cons_append]
theorem outA_len {l : List Nat} {h i : Nat} : (outA l h i).length ≤ i + 1 := by
  unfold outA
  split
  · rw [List.length_take]; omega
  · split
    · rw [List.length_take]; omega
    · simp only [List.length_append, List.length_cons, List.length_take, List.length_drop]; omega
theorem outA_no {l : List Nat} {h t : Nat} (hr : Rise l) (hlt : l.length ≤ t) (hp : lowN l h = l.length) : (outA l h l.length ++ [h]).take t = putK t l h := by
  have hm : h ∉ l := fun hm => by have := (low_mem hr).1 hm; omega
  unfold outA putK
  rw [if_pos (by omega), List.take_length]
  by_cases c : t ≤ lowN l h
  · rw [if_pos (.inr c), List.take_append_of_le_length (by omega), List.take_of_length_le hlt]
  · rw [if_neg (fun h => by rcases h with h | h; exact hm h; exact c h), hp, List.take_length, List.drop_length]
theorem outA_yes {l : List Nat} {h t : Nat} (hr : Rise l) (hlt : l.length ≤ t) (hp : lowN l h < l.length) : (outA l h l.length).take t = putK t l h := by
  unfold outA putK
  rw [if_neg (by omega)]
  by_cases hm : h ∈ l
  · rw [if_pos hm, if_pos (.inl hm), List.take_length, List.take_of_length_le hlt]
  · rw [if_neg hm, if_neg (fun h => by rcases h with h | h; exact hm h; omega), List.take_length]
theorem mrg_same {t : Nat} {l : List Nat} : ∀ (m : List Nat), (∀ x ∈ m, x ∈ l) → m.foldl (putK t) l = l
  | [], _ => rfl
  | x :: m, h => by
    rw [List.foldl_cons, putK_not (.inl (h x (by simp)))]
    exact mrg_same m fun y hy => h y (by simp [hy])
theorem mrgV_self {t : Nat} {V : List (List Nat)} : mrgV t V V = V := by
  unfold mrgV
  refine (List.map_congr_left fun j _ => ?_).trans (range_getD V [])
  exact mrg_same _ fun x h => h
theorem vl_sub {X : Cx} {Q : Post} {E : Env} {H H' F : List Chunk} {ops : Array Oper} {rest : List Oper} (hs : Sub H' H F) (h : VL X ops rest Q E H') : VL X ops rest Q E H := fun a w ha hw => h a w ha (hw.perm hs.perm).left
theorem hdr_set {L : List (Sl Nat)} {i : Nat} {r : Sl Nat} : (L.map hdr).set i (hdr r) = (L.set i r).map hdr := by rw [List.map_set]

theorem nil_row (H : List Chunk) : Eqv H (HR none 0 0 [] :: H) := by
  refine ⟨.refl _, fun w h c hc => ?_, fun w h c hc => h c (by simp [hc])⟩
  rcases List.mem_cons.1 hc with rfl | hc
  · exact ⟨rfl, .inl ⟨rfl, rfl⟩⟩
  · exact h c hc

theorem len_snoc {x : Nat} (X : List Nat) : X.length + 1 = (X ++ [x]).length := by simp
theorem low_gt {l : List Nat} {h i : Nat} (hr : Rise l) (hp : lowN l h < i) (hi : i < l.length) : h < l.getD i 0 := by
  have h1 := (not_congr (low_at (h := h) hr (show lowN l h < l.length by omega))).2 (by omega)
  have h2 := List.pairwise_iff_getElem.1 hr (lowN l h) i (by omega) hi hp
  simp only [List.getD, List.getElem?_eq_getElem hi, List.getElem?_eq_getElem (show lowN l h < l.length by omega), Option.getD_some] at h1 ⊢
  omega

set_option maxRecDepth 20000 in
set_option maxHeartbeats 1000000 in
theorem wGood (T Kk Mm : Int) (A : Option Addr) (c : Nat) (S : List (Nat × Nat)) (hS : S.length < 9223372036854775808) (hb : ∀ s ∈ S, s.1 < 18446744073709551616 ∧ s.2 < 18446744073709551616) (w : World) (hr : Reads w A (seedC S)) : FnV Try.prog 24 [(.agg #[.int .i64 T, .slice A S.length c, .int .i64 Kk, .int .i64 Mm])] (.bool (decide (goodK T S Kk Mm))) w := by
  have badIff : ∀ s : Nat × Nat, badS s ↔ (s.1 = 0 ∨ pM ≤ s.1 ∨ pM ≤ s.2) := fun s => Iff.rfl
  refine fn_enter Try.func24 rfl Try.ntmps24 rfl ?_
  refine vc_seq ?_
  refine vc_region ?_
  refine vl_box rfl rfl (.some rfl) rfl (fun r1 => ?_)
  refine vl_val rfl (.some rfl) (val_assign rfl) ?_
  refine vl_nil ?_
  refine vc_seq ?_
  refine vc_region ?_
  refine vl_val rfl (.some rfl) (by first | exact val_fieldAddr Try.runUnderlying24 rfl Try.sizeOf22 rfl | exact val_fieldAddrR Try.runUnderlying24 rfl Try.sizeOf22 rfl) ?_
  refine vl_val rfl (.some rfl) (val_load Try.isAgg22 rfl (by first | exact cell_cells (by repeat (first | exact .head | apply In.tail | apply Take.tail | apply Upd.tail)) rfl | exact cell_rd (rd_sl (by repeat (first | exact .head | apply In.tail | apply Take.tail | apply Upd.tail))) (by first | exact bcells_at (by omega) | exact ucells_at (by omega) | exact icells_at (by omega) | exact tcells_at (by omega) | exact bcells_get (by omega) | exact icells_get (by omega) | exact tcells_get (by omega) | exact ucells_get (by omega)) | exact cell_rd (rd_old (by assumption) rfl) (by first | exact bcells_at (by omega) | exact ucells_at (by omega) | exact icells_at (by omega) | exact tcells_at (by omega) | exact bcells_get (by omega) | exact icells_get (by omega) | exact tcells_get (by omega) | exact ucells_get (by omega)) | exact cell_old (by assumption) (by simp [fps]))) ?_
  refine vl_val rfl (.some rfl) (val_lenSl Try.runUnderlying22 rfl) ?_
  refine vl_val rfl (.some rfl) (val_assign rfl) ?_
  refine vl_nil ?_
  refine vc_seq ?_
  refine vc_seq ?_
  refine vc_region ?_
  refine vl_val rfl (.some rfl) (by first | exact val_fieldAddr Try.runUnderlying24 rfl Try.sizeOf3 rfl | exact val_fieldAddrR Try.runUnderlying24 rfl Try.sizeOf3 rfl) ?_
  refine vl_val rfl (.some rfl) (val_load Try.isAgg3 rfl (by first | exact cell_cells (by repeat (first | exact .head | apply In.tail | apply Take.tail | apply Upd.tail)) rfl | exact cell_rd (rd_sl (by repeat (first | exact .head | apply In.tail | apply Take.tail | apply Upd.tail))) (by first | exact bcells_at (by omega) | exact ucells_at (by omega) | exact icells_at (by omega) | exact tcells_at (by omega) | exact bcells_get (by omega) | exact icells_get (by omega) | exact tcells_get (by omega) | exact ucells_get (by omega)) | exact cell_rd (rd_old (by assumption) rfl) (by first | exact bcells_at (by omega) | exact ucells_at (by omega) | exact icells_at (by omega) | exact tcells_at (by omega) | exact bcells_get (by omega) | exact icells_get (by omega) | exact tcells_get (by omega) | exact ucells_get (by omega)) | exact cell_old (by assumption) (by simp [fps]))) ?_
  refine vl_val rfl (.some rfl) (val_lt rfl rfl) ?_
  refine vl_val rfl (.some rfl) (val_move rfl) ?_
  refine vl_split (t := 12) rfl (fun hg12 => ?_) (fun hg12 => ?_)
  · (try replace hg12 := of_decide_eq_true hg12)
    refine vl_off rfl rfl rfl rfl (.some rfl) ?_
    refine vl_off rfl rfl rfl rfl (.some rfl) ?_
    refine vl_off rfl rfl rfl rfl (.some rfl) ?_
    refine vl_val rfl (.some rfl) (val_pick rfl rfl) ?_
    refine vl_val rfl (.some rfl) (val_move rfl) ?_
    refine vl_off rfl rfl rfl rfl (.some rfl) ?_
    refine vl_off rfl rfl rfl rfl (.some rfl) ?_
    refine vl_off rfl rfl rfl rfl (.some rfl) ?_
    refine vl_offU rfl rfl rfl rfl (.some rfl) ?_
    refine vl_offU rfl rfl rfl rfl (.some rfl) ?_
    refine vl_off rfl rfl rfl rfl (.some rfl) ?_
    refine vl_off rfl rfl rfl rfl (.some rfl) ?_
    refine vl_offU rfl rfl rfl rfl (.some rfl) ?_
    refine vl_offU rfl rfl rfl rfl (.some rfl) ?_
    refine vl_off rfl rfl rfl rfl (.some rfl) ?_
    refine vl_off rfl rfl rfl rfl (.some rfl) ?_
    refine vl_offU rfl rfl rfl rfl (.some rfl) ?_
    refine vl_offU rfl rfl rfl rfl (.some rfl) ?_
    refine vl_off rfl rfl rfl rfl (.some rfl) ?_
    refine vl_val rfl (.some rfl) (val_pick rfl rfl) ?_
    refine vl_nil ?_
    refine vc_cond rfl (fun _ => ?_) (fun h => by cases h)
    refine vc_seq ?_
    refine vc_region ?_
    refine vl_val rfl (.some rfl) (val_assign rfl) ?_
    refine vl_nil ?_
    refine vc_ret ?_
    refine ⟨_, [], _, res1 Try.results24 rfl, .nil, ?_⟩
    show Value.bool false = _
    rw [decide_eq_false (p := goodK T S Kk Mm) (fun h => by obtain ⟨h1, h2, h3, h4, h5, h6⟩ := h; simp at *; omega)]
  · (try replace hg12 := of_decide_eq_false hg12)
    refine vl_on rfl rfl rfl rfl ?_
    refine vl_val rfl (.some rfl) (by first | exact val_fieldAddr Try.runUnderlying24 rfl Try.sizeOf3 rfl | exact val_fieldAddrR Try.runUnderlying24 rfl Try.sizeOf3 rfl) ?_
    refine vl_on rfl rfl rfl rfl ?_
    refine vl_val rfl (.some rfl) (val_load Try.isAgg3 rfl (by first | exact cell_cells (by repeat (first | exact .head | apply In.tail | apply Take.tail | apply Upd.tail)) rfl | exact cell_rd (rd_sl (by repeat (first | exact .head | apply In.tail | apply Take.tail | apply Upd.tail))) (by first | exact bcells_at (by omega) | exact ucells_at (by omega) | exact icells_at (by omega) | exact tcells_at (by omega) | exact bcells_get (by omega) | exact icells_get (by omega) | exact tcells_get (by omega) | exact ucells_get (by omega)) | exact cell_rd (rd_old (by assumption) rfl) (by first | exact bcells_at (by omega) | exact ucells_at (by omega) | exact icells_at (by omega) | exact tcells_at (by omega) | exact bcells_get (by omega) | exact icells_get (by omega) | exact tcells_get (by omega) | exact ucells_get (by omega)) | exact cell_old (by assumption) (by simp [fps]))) ?_
    refine vl_on rfl rfl rfl rfl ?_
    refine vl_val rfl (.some rfl) (val_gt rfl rfl) ?_
    refine vl_val rfl (.some rfl) (val_pick rfl rfl) ?_
    refine vl_val rfl (.some rfl) (val_move rfl) ?_
    refine vl_split (t := 17) rfl (fun hg17 => ?_) (fun hg17 => ?_)
    · (try replace hg17 := of_decide_eq_true hg17)
      refine vl_off rfl rfl rfl rfl (.some rfl) ?_
      refine vl_off rfl rfl rfl rfl (.some rfl) ?_
      refine vl_off rfl rfl rfl rfl (.some rfl) ?_
      refine vl_offU rfl rfl rfl rfl (.some rfl) ?_
      refine vl_offU rfl rfl rfl rfl (.some rfl) ?_
      refine vl_off rfl rfl rfl rfl (.some rfl) ?_
      refine vl_off rfl rfl rfl rfl (.some rfl) ?_
      refine vl_offU rfl rfl rfl rfl (.some rfl) ?_
      refine vl_offU rfl rfl rfl rfl (.some rfl) ?_
      refine vl_off rfl rfl rfl rfl (.some rfl) ?_
      refine vl_off rfl rfl rfl rfl (.some rfl) ?_
      refine vl_offU rfl rfl rfl rfl (.some rfl) ?_
      refine vl_offU rfl rfl rfl rfl (.some rfl) ?_
      refine vl_off rfl rfl rfl rfl (.some rfl) ?_
      refine vl_val rfl (.some rfl) (val_pick rfl rfl) ?_
      refine vl_nil ?_
      refine vc_cond rfl (fun _ => ?_) (fun h => by cases h)
      refine vc_seq ?_
      refine vc_region ?_
      refine vl_val rfl (.some rfl) (val_assign rfl) ?_
      refine vl_nil ?_
      refine vc_ret ?_
      refine ⟨_, [], _, res1 Try.results24 rfl, .nil, ?_⟩
      show Value.bool false = _
      rw [decide_eq_false (p := goodK T S Kk Mm) (fun h => by obtain ⟨h1, h2, h3, h4, h5, h6⟩ := h; simp at *; omega)]
    · (try replace hg17 := of_decide_eq_false hg17)
      refine vl_on rfl rfl rfl rfl ?_
      refine vl_val rfl (.some rfl) (val_move rfl) ?_
      refine vl_on rfl rfl rfl rfl ?_
      refine vl_val rfl (.some rfl) (val_ne rfl rfl) ?_
      refine vl_on rfl rfl rfl rfl ?_
      refine vl_val rfl (.some rfl) (val_move rfl) ?_
      refine vl_split (t := 20) rfl (fun hg20 => ?_) (fun hg20 => ?_)
      · (try replace hg20 := of_decide_eq_true hg20)
        refine vl_on rfl rfl rfl rfl ?_
        refine vl_val rfl (.some rfl) (val_move rfl) ?_
        refine vl_on rfl rfl rfl rfl ?_
        refine vl_val rfl (.some rfl) (val_ne rfl rfl) ?_
        refine vl_on rfl rfl rfl rfl ?_
        refine vl_val rfl (.some rfl) (val_pick rfl rfl) ?_
        refine vl_on rfl rfl rfl rfl ?_
        refine vl_val rfl (.some rfl) (val_move rfl) ?_
        refine vl_split (t := 24) rfl (fun hg24 => ?_) (fun hg24 => ?_)
        · (try replace hg24 := of_decide_eq_true hg24)
          refine vl_on rfl rfl rfl rfl ?_
          refine vl_val rfl (.some rfl) (val_move rfl) ?_
          refine vl_on rfl rfl rfl rfl ?_
          refine vl_val rfl (.some rfl) (val_ne rfl rfl) ?_
          refine vl_on rfl rfl rfl rfl ?_
          refine vl_val rfl (.some rfl) (val_pick rfl rfl) ?_
          refine vl_on rfl rfl rfl rfl ?_
          refine vl_val rfl (.some rfl) (val_move rfl) ?_
          refine vl_split (t := 28) rfl (fun hg28 => ?_) (fun hg28 => ?_)
          · (try replace hg28 := of_decide_eq_true hg28)
            refine vl_on rfl rfl rfl rfl ?_
            refine vl_val rfl (.some rfl) (val_move rfl) ?_
            refine vl_on rfl rfl rfl rfl ?_
            refine vl_val rfl (.some rfl) (val_ne rfl rfl) ?_
            refine vl_on rfl rfl rfl rfl ?_
            refine vl_val rfl (.some rfl) (val_pick rfl rfl) ?_
            refine vl_val rfl (.some rfl) (val_pick rfl rfl) ?_
            refine vl_nil ?_
            refine vc_cond rfl (fun hc0 => ?_) (fun hc0 => ?_)
            · (try replace hc0 := of_decide_eq_true hc0)
              refine vc_seq ?_
              refine vc_region ?_
              refine vl_val rfl (.some rfl) (val_assign rfl) ?_
              refine vl_nil ?_
              refine vc_ret ?_
              refine ⟨_, [], _, res1 Try.results24 rfl, .nil, ?_⟩
              show Value.bool false = _
              rw [decide_eq_false (p := goodK T S Kk Mm) (fun h => by obtain ⟨h1, h2, h3, h4, h5, h6⟩ := h; simp at *; omega)]
            · (try replace hc0 := of_decide_eq_false hc0)
              refine vc_skip ?_
              refine vc_seq ?_
              refine vc_seq ?_
              refine vc_region ?_
              refine vl_val rfl (.some rfl) (by first | exact val_fieldAddr Try.runUnderlying24 rfl Try.sizeOf22 rfl | exact val_fieldAddrR Try.runUnderlying24 rfl Try.sizeOf22 rfl) ?_
              refine vl_val rfl (.some rfl) (val_load Try.isAgg22 rfl (by first | exact cell_cells (by repeat (first | exact .head | apply In.tail | apply Take.tail | apply Upd.tail)) rfl | exact cell_rd (rd_sl (by repeat (first | exact .head | apply In.tail | apply Take.tail | apply Upd.tail))) (by first | exact bcells_at (by omega) | exact ucells_at (by omega) | exact icells_at (by omega) | exact tcells_at (by omega) | exact bcells_get (by omega) | exact icells_get (by omega) | exact tcells_get (by omega) | exact ucells_get (by omega)) | exact cell_rd (rd_old (by assumption) rfl) (by first | exact bcells_at (by omega) | exact ucells_at (by omega) | exact icells_at (by omega) | exact tcells_at (by omega) | exact bcells_get (by omega) | exact icells_get (by omega) | exact tcells_get (by omega) | exact ucells_get (by omega)) | exact cell_old (by assumption) (by simp [fps]))) ?_
              refine vl_val rfl (.some rfl) (val_lenSl Try.runUnderlying22 rfl) ?_
              refine vl_val rfl (.some rfl) (val_move rfl) ?_
              refine vl_nil ?_
              refine vc_block ?_
              have hT : 2 ≤ T ∧ T ≤ 64 ∧ S.length % 2 = 1 ∧ S.length ≤ 7 := by
                simp at *
                omega
              refine vc_loopw (fun k E H => ∃ i : Nat, i ≤ S.length ∧ k = S.length - i ∧ (∀ j, j < i → ¬ badS (S.getD j (0, 0))) ∧ E = [(1, .pointer (some ⟨r1, 0, none⟩)), (34, .slice A S.length c), (35, .int .i64 S.length), (36, .int .i64 i)] ∧ H = [cells r1 [.int .i64 T, .slice A S.length c, .int .i64 Kk, .int .i64 Mm] 24]) (S.length) ⟨_, _, _, ⟨0, by omega, rfl, fun j hj => absurd hj (by omega), rfl, rfl⟩, (by repeat (first | exact trivial | refine ⟨rfl, ?_⟩ | refine ⟨le_item rfl (by first | rfl | (congr 1; omega) | (simp; done) | (simp; omega)), ?_⟩)), (by repeat (first | exact .nil | (apply Sub.cons; · repeat (first | exact .head | apply Take.tail))))⟩ ?_
              intro k E H hI
              obtain ⟨i, hil, rfl, hall, rfl, rfl⟩ := hI
              refine vc_seq ?_
              refine vc_region ?_
              refine vl_val rfl (.some rfl) (val_lt rfl rfl) ?_
              refine vl_nil ?_
              refine vc_seq ?_
              refine vc_cond rfl (fun hc1 => ?_) (fun hc1 => ?_)
              · (try replace hc1 := of_decide_eq_true hc1)
                refine vc_skip ?_
                refine vc_seq ?_
                refine vc_block ?_
                refine vc_seq ?_
                refine vc_region ?_
                refine vl_val rfl (.some rfl) (val_indexAddr Try.runUnderlying22 Try.sizeOf81 rfl rfl (rd_old hr rfl) (by omega) (by omega) (by rw [seedC_len, Int.toNat_natCast]; omega)) ?_
                refine vl_val rfl (.some rfl) (val_loadAgg Try.isAgg81 Try.sizeOf81 rfl (cells_rd (us := seedV (S.getD i (0, 0))) (rd_old hr rfl) (seed_at rfl (by omega))) rfl) ?_
                refine vl_alloc rfl rfl (.some rfl) Try.zeroValue81 (fun r5 => ?_)
                first | refine vl_store rfl rfl .none rfl rfl Try.sizeOf81 rfl (by repeat (first | exact .head | apply In.tail | apply Take.tail | apply Upd.tail)) (by first | decide | exact Nat.le_refl _ | exact Nat.le_of_ble_eq_true rfl | (simp; omega)) ?_ | refine vl_storeSl rfl rfl .none rfl rfl Try.sizeOf81 rfl (by simp [Value.cells]) (by repeat (first | exact .head | apply In.tail | apply Take.tail | apply Upd.tail)) (by first | decide | (simp [Value.cells]; omega)) ?_
                refine vl_nil ?_
                refine vc_seq ?_
                refine vc_region ?_
                refine vl_val rfl (.some rfl) (by first | exact val_fieldAddr Try.runUnderlying81 rfl Try.sizeOf30 rfl | exact val_fieldAddrR Try.runUnderlying81 rfl Try.sizeOf30 rfl) ?_
                refine vl_val rfl (.some rfl) (val_load Try.isAgg30 rfl (by first | exact cell_cells (by repeat (first | exact .head | apply In.tail | apply Take.tail | apply Upd.tail)) rfl | exact cell_rd (rd_sl (by repeat (first | exact .head | apply In.tail | apply Take.tail | apply Upd.tail))) (by first | exact bcells_at (by omega) | exact ucells_at (by omega) | exact icells_at (by omega) | exact tcells_at (by omega) | exact bcells_get (by omega) | exact icells_get (by omega) | exact tcells_get (by omega) | exact ucells_get (by omega)) | exact cell_rd (rd_old (by assumption) rfl) (by first | exact bcells_at (by omega) | exact ucells_at (by omega) | exact icells_at (by omega) | exact tcells_at (by omega) | exact bcells_get (by omega) | exact icells_get (by omega) | exact tcells_get (by omega) | exact ucells_get (by omega)) | exact cell_old (by assumption) (by simp [fps]))) ?_
                refine vl_val rfl (.some rfl) (val_eq rfl rfl) ?_
                refine vl_val rfl (.some rfl) (val_move rfl) ?_
                refine vl_split (t := 43) rfl (fun hg43 => ?_) (fun hg43 => ?_)
                · (try replace hg43 := of_decide_eq_true hg43)
                  refine vl_off rfl rfl rfl rfl (.some rfl) ?_
                  refine vl_off rfl rfl rfl rfl (.some rfl) ?_
                  refine vl_off rfl rfl rfl rfl (.some rfl) ?_
                  refine vl_val rfl (.some rfl) (val_pick rfl rfl) ?_
                  refine vl_val rfl (.some rfl) (val_move rfl) ?_
                  refine vl_off rfl rfl rfl rfl (.some rfl) ?_
                  refine vl_off rfl rfl rfl rfl (.some rfl) ?_
                  refine vl_off rfl rfl rfl rfl (.some rfl) ?_
                  refine vl_val rfl (.some rfl) (val_pick rfl rfl) ?_
                  refine vl_nil ?_
                  refine vc_cond rfl (fun _ => ?_) (fun h => by cases h)
                  refine vc_seq ?_
                  refine vc_region ?_
                  refine vl_val rfl (.some rfl) (val_assign rfl) ?_
                  refine vl_nil ?_
                  refine vc_ret ?_
                  refine ⟨_, [], _, res1 Try.results24 rfl, .nil, ?_⟩
                  show Value.bool false = _
                  rw [decide_eq_false (p := goodK T S Kk Mm) (fun h => by obtain ⟨h1, h2, h3, h4, h5, h6⟩ := h; have h7 := h6 i (by omega); rw [badIff] at h7; unfold pM at h7; simp at *; omega)]
                · (try replace hg43 := of_decide_eq_false hg43)
                  refine vl_on rfl rfl rfl rfl ?_
                  refine vl_val rfl (.some rfl) (by first | exact val_fieldAddr Try.runUnderlying81 rfl Try.sizeOf30 rfl | exact val_fieldAddrR Try.runUnderlying81 rfl Try.sizeOf30 rfl) ?_
                  refine vl_on rfl rfl rfl rfl ?_
                  refine vl_val rfl (.some rfl) (val_load Try.isAgg30 rfl (by first | exact cell_cells (by repeat (first | exact .head | apply In.tail | apply Take.tail | apply Upd.tail)) rfl | exact cell_rd (rd_sl (by repeat (first | exact .head | apply In.tail | apply Take.tail | apply Upd.tail))) (by first | exact bcells_at (by omega) | exact ucells_at (by omega) | exact icells_at (by omega) | exact tcells_at (by omega) | exact bcells_get (by omega) | exact icells_get (by omega) | exact tcells_get (by omega) | exact ucells_get (by omega)) | exact cell_rd (rd_old (by assumption) rfl) (by first | exact bcells_at (by omega) | exact ucells_at (by omega) | exact icells_at (by omega) | exact tcells_at (by omega) | exact bcells_get (by omega) | exact icells_get (by omega) | exact tcells_get (by omega) | exact ucells_get (by omega)) | exact cell_old (by assumption) (by simp [fps]))) ?_
                  refine vl_on rfl rfl rfl rfl ?_
                  refine vl_val rfl (.some rfl) (val_ge rfl rfl) ?_
                  refine vl_val rfl (.some rfl) (val_pick rfl rfl) ?_
                  refine vl_val rfl (.some rfl) (val_move rfl) ?_
                  refine vl_split (t := 48) rfl (fun hg48 => ?_) (fun hg48 => ?_)
                  · (try replace hg48 := of_decide_eq_true hg48)
                    refine vl_off rfl rfl rfl rfl (.some rfl) ?_
                    refine vl_off rfl rfl rfl rfl (.some rfl) ?_
                    refine vl_off rfl rfl rfl rfl (.some rfl) ?_
                    refine vl_val rfl (.some rfl) (val_pick rfl rfl) ?_
                    refine vl_nil ?_
                    refine vc_cond rfl (fun _ => ?_) (fun h => by cases h)
                    refine vc_seq ?_
                    refine vc_region ?_
                    refine vl_val rfl (.some rfl) (val_assign rfl) ?_
                    refine vl_nil ?_
                    refine vc_ret ?_
                    refine ⟨_, [], _, res1 Try.results24 rfl, .nil, ?_⟩
                    show Value.bool false = _
                    rw [decide_eq_false (p := goodK T S Kk Mm) (fun h => by obtain ⟨h1, h2, h3, h4, h5, h6⟩ := h; have h7 := h6 i (by omega); rw [badIff] at h7; unfold pM at h7; simp at *; omega)]
                  · (try replace hg48 := of_decide_eq_false hg48)
                    refine vl_on rfl rfl rfl rfl ?_
                    refine vl_val rfl (.some rfl) (by first | exact val_fieldAddr Try.runUnderlying81 rfl Try.sizeOf30 rfl | exact val_fieldAddrR Try.runUnderlying81 rfl Try.sizeOf30 rfl) ?_
                    refine vl_on rfl rfl rfl rfl ?_
                    refine vl_val rfl (.some rfl) (val_load Try.isAgg30 rfl (by first | exact cell_cells (by repeat (first | exact .head | apply In.tail | apply Take.tail | apply Upd.tail)) rfl | exact cell_rd (rd_sl (by repeat (first | exact .head | apply In.tail | apply Take.tail | apply Upd.tail))) (by first | exact bcells_at (by omega) | exact ucells_at (by omega) | exact icells_at (by omega) | exact tcells_at (by omega) | exact bcells_get (by omega) | exact icells_get (by omega) | exact tcells_get (by omega) | exact ucells_get (by omega)) | exact cell_rd (rd_old (by assumption) rfl) (by first | exact bcells_at (by omega) | exact ucells_at (by omega) | exact icells_at (by omega) | exact tcells_at (by omega) | exact bcells_get (by omega) | exact icells_get (by omega) | exact tcells_get (by omega) | exact ucells_get (by omega)) | exact cell_old (by assumption) (by simp [fps]))) ?_
                    refine vl_on rfl rfl rfl rfl ?_
                    refine vl_val rfl (.some rfl) (val_ge rfl rfl) ?_
                    refine vl_val rfl (.some rfl) (val_pick rfl rfl) ?_
                    refine vl_nil ?_
                    refine vc_cond rfl (fun hc2 => ?_) (fun hc2 => ?_)
                    · (try replace hc2 := of_decide_eq_true hc2)
                      refine vc_seq ?_
                      refine vc_region ?_
                      refine vl_val rfl (.some rfl) (val_assign rfl) ?_
                      refine vl_nil ?_
                      refine vc_ret ?_
                      refine ⟨_, [], _, res1 Try.results24 rfl, .nil, ?_⟩
                      show Value.bool false = _
                      rw [decide_eq_false (p := goodK T S Kk Mm) (fun h => by obtain ⟨h1, h2, h3, h4, h5, h6⟩ := h; have h7 := h6 i (by omega); rw [badIff] at h7; unfold pM at h7; simp at *; omega)]
                    · (try replace hc2 := of_decide_eq_false hc2)
                      refine vc_skip ?_
                      refine vc_region ?_
                      refine vl_val rfl (.some rfl) (val_add rfl rfl (by first | exact w_i64 (by omega) (by omega) | rfl)) ?_
                      refine vl_val rfl (.some rfl) (val_move rfl) ?_
                      refine vl_nil ?_
                      exact ⟨S.length - (i + 1), _, _, _, by omega, (by repeat (first | exact trivial | refine ⟨rfl, ?_⟩ | refine ⟨le_item rfl (by first | rfl | (congr 1; omega) | (simp; done) | (simp; omega)), ?_⟩)), (by repeat (first | exact .nil | (apply Sub.cons; · repeat (first | exact .head | apply Take.tail)))), ⟨i + 1, by omega, rfl, fun j hj => by
                        rcases Nat.lt_or_ge j i with h | h
                        · exact hall j h
                        · obtain rfl : j = i := by omega
                          rw [badIff]; unfold pM; simp at *; omega, rfl, rfl⟩⟩
              · (try replace hc1 := of_decide_eq_false hc1)
                refine vc_exit ?_
                refine vc_seq ?_
                refine vc_region ?_
                refine vl_val rfl (.some rfl) (by first | exact val_fieldAddr Try.runUnderlying24 rfl Try.sizeOf3 rfl | exact val_fieldAddrR Try.runUnderlying24 rfl Try.sizeOf3 rfl) ?_
                refine vl_val rfl (.some rfl) (val_load Try.isAgg3 rfl (by first | exact cell_cells (by repeat (first | exact .head | apply In.tail | apply Take.tail | apply Upd.tail)) rfl | exact cell_rd (rd_sl (by repeat (first | exact .head | apply In.tail | apply Take.tail | apply Upd.tail))) (by first | exact bcells_at (by omega) | exact ucells_at (by omega) | exact icells_at (by omega) | exact tcells_at (by omega) | exact bcells_get (by omega) | exact icells_get (by omega) | exact tcells_get (by omega) | exact ucells_get (by omega)) | exact cell_rd (rd_old (by assumption) rfl) (by first | exact bcells_at (by omega) | exact ucells_at (by omega) | exact icells_at (by omega) | exact tcells_at (by omega) | exact bcells_get (by omega) | exact icells_get (by omega) | exact tcells_get (by omega) | exact ucells_get (by omega)) | exact cell_old (by assumption) (by simp [fps]))) ?_
                refine vl_val rfl (.some rfl) (val_ge rfl rfl) ?_
                refine vl_val rfl (.some rfl) (val_move rfl) ?_
                refine vl_split (t := 57) rfl (fun hg57 => ?_) (fun hg57 => ?_)
                · (try replace hg57 := of_decide_eq_true hg57)
                  refine vl_on rfl rfl rfl rfl ?_
                  refine vl_val rfl (.some rfl) (by first | exact val_fieldAddr Try.runUnderlying24 rfl Try.sizeOf3 rfl | exact val_fieldAddrR Try.runUnderlying24 rfl Try.sizeOf3 rfl) ?_
                  refine vl_on rfl rfl rfl rfl ?_
                  refine vl_val rfl (.some rfl) (val_load Try.isAgg3 rfl (by first | exact cell_cells (by repeat (first | exact .head | apply In.tail | apply Take.tail | apply Upd.tail)) rfl | exact cell_rd (rd_sl (by repeat (first | exact .head | apply In.tail | apply Take.tail | apply Upd.tail))) (by first | exact bcells_at (by omega) | exact ucells_at (by omega) | exact icells_at (by omega) | exact tcells_at (by omega) | exact bcells_get (by omega) | exact icells_get (by omega) | exact tcells_get (by omega) | exact ucells_get (by omega)) | exact cell_rd (rd_old (by assumption) rfl) (by first | exact bcells_at (by omega) | exact ucells_at (by omega) | exact icells_at (by omega) | exact tcells_at (by omega) | exact bcells_get (by omega) | exact icells_get (by omega) | exact tcells_get (by omega) | exact ucells_get (by omega)) | exact cell_old (by assumption) (by simp [fps]))) ?_
                  refine vl_on rfl rfl rfl rfl ?_
                  refine vl_val rfl (.some rfl) (val_le rfl rfl) ?_
                  refine vl_val rfl (.some rfl) (val_pick rfl rfl) ?_
                  refine vl_val rfl (.some rfl) (val_move rfl) ?_
                  refine vl_split (t := 62) rfl (fun hg62 => ?_) (fun hg62 => ?_)
                  · (try replace hg62 := of_decide_eq_true hg62)
                    refine vl_on rfl rfl rfl rfl ?_
                    refine vl_val rfl (.some rfl) (by first | exact val_fieldAddr Try.runUnderlying24 rfl Try.sizeOf3 rfl | exact val_fieldAddrR Try.runUnderlying24 rfl Try.sizeOf3 rfl) ?_
                    refine vl_on rfl rfl rfl rfl ?_
                    refine vl_val rfl (.some rfl) (val_load Try.isAgg3 rfl (by first | exact cell_cells (by repeat (first | exact .head | apply In.tail | apply Take.tail | apply Upd.tail)) rfl | exact cell_rd (rd_sl (by repeat (first | exact .head | apply In.tail | apply Take.tail | apply Upd.tail))) (by first | exact bcells_at (by omega) | exact ucells_at (by omega) | exact icells_at (by omega) | exact tcells_at (by omega) | exact bcells_get (by omega) | exact icells_get (by omega) | exact tcells_get (by omega) | exact ucells_get (by omega)) | exact cell_rd (rd_old (by assumption) rfl) (by first | exact bcells_at (by omega) | exact ucells_at (by omega) | exact icells_at (by omega) | exact tcells_at (by omega) | exact bcells_get (by omega) | exact icells_get (by omega) | exact tcells_get (by omega) | exact ucells_get (by omega)) | exact cell_old (by assumption) (by simp [fps]))) ?_
                    refine vl_on rfl rfl rfl rfl ?_
                    refine vl_val rfl (.some rfl) (val_ge rfl rfl) ?_
                    refine vl_val rfl (.some rfl) (val_pick rfl rfl) ?_
                    refine vl_val rfl (.some rfl) (val_move rfl) ?_
                    refine vl_split (t := 67) rfl (fun hg67 => ?_) (fun hg67 => ?_)
                    · (try replace hg67 := of_decide_eq_true hg67)
                      refine vl_on rfl rfl rfl rfl ?_
                      refine vl_val rfl (.some rfl) (by first | exact val_fieldAddr Try.runUnderlying24 rfl Try.sizeOf3 rfl | exact val_fieldAddrR Try.runUnderlying24 rfl Try.sizeOf3 rfl) ?_
                      refine vl_on rfl rfl rfl rfl ?_
                      refine vl_val rfl (.some rfl) (val_load Try.isAgg3 rfl (by first | exact cell_cells (by repeat (first | exact .head | apply In.tail | apply Take.tail | apply Upd.tail)) rfl | exact cell_rd (rd_sl (by repeat (first | exact .head | apply In.tail | apply Take.tail | apply Upd.tail))) (by first | exact bcells_at (by omega) | exact ucells_at (by omega) | exact icells_at (by omega) | exact tcells_at (by omega) | exact bcells_get (by omega) | exact icells_get (by omega) | exact tcells_get (by omega) | exact ucells_get (by omega)) | exact cell_rd (rd_old (by assumption) rfl) (by first | exact bcells_at (by omega) | exact ucells_at (by omega) | exact icells_at (by omega) | exact tcells_at (by omega) | exact bcells_get (by omega) | exact icells_get (by omega) | exact tcells_get (by omega) | exact ucells_get (by omega)) | exact cell_old (by assumption) (by simp [fps]))) ?_
                      refine vl_on rfl rfl rfl rfl ?_
                      refine vl_val rfl (.some rfl) (val_le rfl rfl) ?_
                      refine vl_val rfl (.some rfl) (val_pick rfl rfl) ?_
                      refine vl_val rfl (.some rfl) (val_assign rfl) ?_
                      refine vl_nil ?_
                      refine vc_ret ?_
                      refine ⟨_, [], _, res1 Try.results24 rfl, .nil, ?_⟩
                      obtain rfl : i = S.length := by omega
                      first | (show Value.bool false = _; rw [decide_eq_false (p := goodK T S Kk Mm) (fun h => by obtain ⟨h1, h2, h3, h4, h5, h6⟩ := h; simp at *; omega)]) | (refine congrArg Value.bool ?_; rw [decide_eq_decide]; unfold goodK; simp at hg57 hg62 hg67; exact ⟨fun h => ⟨by omega, by omega, by omega, by omega, by omega, hall⟩, fun h => h.2.2.1.2⟩)
                    · (try replace hg67 := of_decide_eq_false hg67)
                      refine vl_off rfl rfl rfl rfl (.some rfl) ?_
                      refine vl_off rfl rfl rfl rfl (.some rfl) ?_
                      refine vl_off rfl rfl rfl rfl (.some rfl) ?_
                      refine vl_val rfl (.some rfl) (val_pick rfl rfl) ?_
                      refine vl_val rfl (.some rfl) (val_assign rfl) ?_
                      refine vl_nil ?_
                      refine vc_ret ?_
                      refine ⟨_, [], _, res1 Try.results24 rfl, .nil, ?_⟩
                      obtain rfl : i = S.length := by omega
                      first | (show Value.bool false = _; rw [decide_eq_false (p := goodK T S Kk Mm) (fun h => by obtain ⟨h1, h2, h3, h4, h5, h6⟩ := h; simp at *; omega)]) | (refine congrArg Value.bool ?_; rw [decide_eq_decide]; unfold goodK; simp at hg57 hg62 hg67; exact ⟨fun h => ⟨by omega, by omega, by omega, by omega, by omega, hall⟩, fun h => h.2.2.1.2⟩)
                  · (try replace hg62 := of_decide_eq_false hg62)
                    refine vl_off rfl rfl rfl rfl (.some rfl) ?_
                    refine vl_off rfl rfl rfl rfl (.some rfl) ?_
                    refine vl_off rfl rfl rfl rfl (.some rfl) ?_
                    refine vl_val rfl (.some rfl) (val_pick rfl rfl) ?_
                    refine vl_val rfl (.some rfl) (val_move rfl) ?_
                    refine vl_off rfl rfl rfl rfl (.some rfl) ?_
                    refine vl_off rfl rfl rfl rfl (.some rfl) ?_
                    refine vl_off rfl rfl rfl rfl (.some rfl) ?_
                    refine vl_val rfl (.some rfl) (val_pick rfl rfl) ?_
                    refine vl_val rfl (.some rfl) (val_assign rfl) ?_
                    refine vl_nil ?_
                    refine vc_ret ?_
                    refine ⟨_, [], _, res1 Try.results24 rfl, .nil, ?_⟩
                    obtain rfl : i = S.length := by omega
                    first | (show Value.bool false = _; rw [decide_eq_false (p := goodK T S Kk Mm) (fun h => by obtain ⟨h1, h2, h3, h4, h5, h6⟩ := h; simp at *; omega)]) | (refine congrArg Value.bool ?_; rw [decide_eq_decide]; unfold goodK; simp at hg57 hg62 hg67; exact ⟨fun h => ⟨by omega, by omega, by omega, by omega, by omega, hall⟩, fun h => h.2.2.1.2⟩)
                · (try replace hg57 := of_decide_eq_false hg57)
                  refine vl_off rfl rfl rfl rfl (.some rfl) ?_
                  refine vl_off rfl rfl rfl rfl (.some rfl) ?_
                  refine vl_off rfl rfl rfl rfl (.some rfl) ?_
                  refine vl_val rfl (.some rfl) (val_pick rfl rfl) ?_
                  refine vl_val rfl (.some rfl) (val_move rfl) ?_
                  refine vl_off rfl rfl rfl rfl (.some rfl) ?_
                  refine vl_off rfl rfl rfl rfl (.some rfl) ?_
                  refine vl_off rfl rfl rfl rfl (.some rfl) ?_
                  refine vl_val rfl (.some rfl) (val_pick rfl rfl) ?_
                  refine vl_val rfl (.some rfl) (val_move rfl) ?_
                  refine vl_off rfl rfl rfl rfl (.some rfl) ?_
                  refine vl_off rfl rfl rfl rfl (.some rfl) ?_
                  refine vl_off rfl rfl rfl rfl (.some rfl) ?_
                  refine vl_val rfl (.some rfl) (val_pick rfl rfl) ?_
                  refine vl_val rfl (.some rfl) (val_assign rfl) ?_
                  refine vl_nil ?_
                  refine vc_ret ?_
                  refine ⟨_, [], _, res1 Try.results24 rfl, .nil, ?_⟩
                  obtain rfl : i = S.length := by omega
                  first | (show Value.bool false = _; rw [decide_eq_false (p := goodK T S Kk Mm) (fun h => by obtain ⟨h1, h2, h3, h4, h5, h6⟩ := h; simp at *; omega)]) | (refine congrArg Value.bool ?_; rw [decide_eq_decide]; unfold goodK; simp at hg57 hg62 hg67; exact ⟨fun h => ⟨by omega, by omega, by omega, by omega, by omega, hall⟩, fun h => h.2.2.1.2⟩)
          · (try replace hg28 := of_decide_eq_false hg28)
            refine vl_off rfl rfl rfl rfl (.some rfl) ?_
            refine vl_off rfl rfl rfl rfl (.some rfl) ?_
            refine vl_on rfl rfl rfl rfl ?_
            refine vl_val rfl (.some rfl) (val_pick rfl rfl) ?_
            refine vl_val rfl (.some rfl) (val_pick rfl rfl) ?_
            refine vl_nil ?_
            refine vc_cond rfl (fun h => by cases h) (fun _ => ?_)
            refine vc_skip ?_
            refine vc_seq ?_
            refine vc_seq ?_
            refine vc_region ?_
            refine vl_val rfl (.some rfl) (by first | exact val_fieldAddr Try.runUnderlying24 rfl Try.sizeOf22 rfl | exact val_fieldAddrR Try.runUnderlying24 rfl Try.sizeOf22 rfl) ?_
            refine vl_val rfl (.some rfl) (val_load Try.isAgg22 rfl (by first | exact cell_cells (by repeat (first | exact .head | apply In.tail | apply Take.tail | apply Upd.tail)) rfl | exact cell_rd (rd_sl (by repeat (first | exact .head | apply In.tail | apply Take.tail | apply Upd.tail))) (by first | exact bcells_at (by omega) | exact ucells_at (by omega) | exact icells_at (by omega) | exact tcells_at (by omega) | exact bcells_get (by omega) | exact icells_get (by omega) | exact tcells_get (by omega) | exact ucells_get (by omega)) | exact cell_rd (rd_old (by assumption) rfl) (by first | exact bcells_at (by omega) | exact ucells_at (by omega) | exact icells_at (by omega) | exact tcells_at (by omega) | exact bcells_get (by omega) | exact icells_get (by omega) | exact tcells_get (by omega) | exact ucells_get (by omega)) | exact cell_old (by assumption) (by simp [fps]))) ?_
            refine vl_val rfl (.some rfl) (val_lenSl Try.runUnderlying22 rfl) ?_
            refine vl_val rfl (.some rfl) (val_move rfl) ?_
            refine vl_nil ?_
            refine vc_block ?_
            have hT : 2 ≤ T ∧ T ≤ 64 ∧ S.length % 2 = 1 ∧ S.length ≤ 7 := by
              simp at *
              omega
            refine vc_loopw (fun k E H => ∃ i : Nat, i ≤ S.length ∧ k = S.length - i ∧ (∀ j, j < i → ¬ badS (S.getD j (0, 0))) ∧ E = [(1, .pointer (some ⟨r1, 0, none⟩)), (34, .slice A S.length c), (35, .int .i64 S.length), (36, .int .i64 i)] ∧ H = [cells r1 [.int .i64 T, .slice A S.length c, .int .i64 Kk, .int .i64 Mm] 24]) (S.length) ⟨_, _, _, ⟨0, by omega, rfl, fun j hj => absurd hj (by omega), rfl, rfl⟩, (by repeat (first | exact trivial | refine ⟨rfl, ?_⟩ | refine ⟨le_item rfl (by first | rfl | (congr 1; omega) | (simp; done) | (simp; omega)), ?_⟩)), (by repeat (first | exact .nil | (apply Sub.cons; · repeat (first | exact .head | apply Take.tail))))⟩ ?_
            intro k E H hI
            obtain ⟨i, hil, rfl, hall, rfl, rfl⟩ := hI
            refine vc_seq ?_
            refine vc_region ?_
            refine vl_val rfl (.some rfl) (val_lt rfl rfl) ?_
            refine vl_nil ?_
            refine vc_seq ?_
            refine vc_cond rfl (fun hc1 => ?_) (fun hc1 => ?_)
            · (try replace hc1 := of_decide_eq_true hc1)
              refine vc_skip ?_
              refine vc_seq ?_
              refine vc_block ?_
              refine vc_seq ?_
              refine vc_region ?_
              refine vl_val rfl (.some rfl) (val_indexAddr Try.runUnderlying22 Try.sizeOf81 rfl rfl (rd_old hr rfl) (by omega) (by omega) (by rw [seedC_len, Int.toNat_natCast]; omega)) ?_
              refine vl_val rfl (.some rfl) (val_loadAgg Try.isAgg81 Try.sizeOf81 rfl (cells_rd (us := seedV (S.getD i (0, 0))) (rd_old hr rfl) (seed_at rfl (by omega))) rfl) ?_
              refine vl_alloc rfl rfl (.some rfl) Try.zeroValue81 (fun r5 => ?_)
              first | refine vl_store rfl rfl .none rfl rfl Try.sizeOf81 rfl (by repeat (first | exact .head | apply In.tail | apply Take.tail | apply Upd.tail)) (by first | decide | exact Nat.le_refl _ | exact Nat.le_of_ble_eq_true rfl | (simp; omega)) ?_ | refine vl_storeSl rfl rfl .none rfl rfl Try.sizeOf81 rfl (by simp [Value.cells]) (by repeat (first | exact .head | apply In.tail | apply Take.tail | apply Upd.tail)) (by first | decide | (simp [Value.cells]; omega)) ?_
              refine vl_nil ?_
              refine vc_seq ?_
              refine vc_region ?_
              refine vl_val rfl (.some rfl) (by first | exact val_fieldAddr Try.runUnderlying81 rfl Try.sizeOf30 rfl | exact val_fieldAddrR Try.runUnderlying81 rfl Try.sizeOf30 rfl) ?_
              refine vl_val rfl (.some rfl) (val_load Try.isAgg30 rfl (by first | exact cell_cells (by repeat (first | exact .head | apply In.tail | apply Take.tail | apply Upd.tail)) rfl | exact cell_rd (rd_sl (by repeat (first | exact .head | apply In.tail | apply Take.tail | apply Upd.tail))) (by first | exact bcells_at (by omega) | exact ucells_at (by omega) | exact icells_at (by omega) | exact tcells_at (by omega) | exact bcells_get (by omega) | exact icells_get (by omega) | exact tcells_get (by omega) | exact ucells_get (by omega)) | exact cell_rd (rd_old (by assumption) rfl) (by first | exact bcells_at (by omega) | exact ucells_at (by omega) | exact icells_at (by omega) | exact tcells_at (by omega) | exact bcells_get (by omega) | exact icells_get (by omega) | exact tcells_get (by omega) | exact ucells_get (by omega)) | exact cell_old (by assumption) (by simp [fps]))) ?_
              refine vl_val rfl (.some rfl) (val_eq rfl rfl) ?_
              refine vl_val rfl (.some rfl) (val_move rfl) ?_
              refine vl_split (t := 43) rfl (fun hg43 => ?_) (fun hg43 => ?_)
              · (try replace hg43 := of_decide_eq_true hg43)
                refine vl_off rfl rfl rfl rfl (.some rfl) ?_
                refine vl_off rfl rfl rfl rfl (.some rfl) ?_
                refine vl_off rfl rfl rfl rfl (.some rfl) ?_
                refine vl_val rfl (.some rfl) (val_pick rfl rfl) ?_
                refine vl_val rfl (.some rfl) (val_move rfl) ?_
                refine vl_off rfl rfl rfl rfl (.some rfl) ?_
                refine vl_off rfl rfl rfl rfl (.some rfl) ?_
                refine vl_off rfl rfl rfl rfl (.some rfl) ?_
                refine vl_val rfl (.some rfl) (val_pick rfl rfl) ?_
                refine vl_nil ?_
                refine vc_cond rfl (fun _ => ?_) (fun h => by cases h)
                refine vc_seq ?_
                refine vc_region ?_
                refine vl_val rfl (.some rfl) (val_assign rfl) ?_
                refine vl_nil ?_
                refine vc_ret ?_
                refine ⟨_, [], _, res1 Try.results24 rfl, .nil, ?_⟩
                show Value.bool false = _
                rw [decide_eq_false (p := goodK T S Kk Mm) (fun h => by obtain ⟨h1, h2, h3, h4, h5, h6⟩ := h; have h7 := h6 i (by omega); rw [badIff] at h7; unfold pM at h7; simp at *; omega)]
              · (try replace hg43 := of_decide_eq_false hg43)
                refine vl_on rfl rfl rfl rfl ?_
                refine vl_val rfl (.some rfl) (by first | exact val_fieldAddr Try.runUnderlying81 rfl Try.sizeOf30 rfl | exact val_fieldAddrR Try.runUnderlying81 rfl Try.sizeOf30 rfl) ?_
                refine vl_on rfl rfl rfl rfl ?_
                refine vl_val rfl (.some rfl) (val_load Try.isAgg30 rfl (by first | exact cell_cells (by repeat (first | exact .head | apply In.tail | apply Take.tail | apply Upd.tail)) rfl | exact cell_rd (rd_sl (by repeat (first | exact .head | apply In.tail | apply Take.tail | apply Upd.tail))) (by first | exact bcells_at (by omega) | exact ucells_at (by omega) | exact icells_at (by omega) | exact tcells_at (by omega) | exact bcells_get (by omega) | exact icells_get (by omega) | exact tcells_get (by omega) | exact ucells_get (by omega)) | exact cell_rd (rd_old (by assumption) rfl) (by first | exact bcells_at (by omega) | exact ucells_at (by omega) | exact icells_at (by omega) | exact tcells_at (by omega) | exact bcells_get (by omega) | exact icells_get (by omega) | exact tcells_get (by omega) | exact ucells_get (by omega)) | exact cell_old (by assumption) (by simp [fps]))) ?_
                refine vl_on rfl rfl rfl rfl ?_
                refine vl_val rfl (.some rfl) (val_ge rfl rfl) ?_
                refine vl_val rfl (.some rfl) (val_pick rfl rfl) ?_
                refine vl_val rfl (.some rfl) (val_move rfl) ?_
                refine vl_split (t := 48) rfl (fun hg48 => ?_) (fun hg48 => ?_)
                · (try replace hg48 := of_decide_eq_true hg48)
                  refine vl_off rfl rfl rfl rfl (.some rfl) ?_
                  refine vl_off rfl rfl rfl rfl (.some rfl) ?_
                  refine vl_off rfl rfl rfl rfl (.some rfl) ?_
                  refine vl_val rfl (.some rfl) (val_pick rfl rfl) ?_
                  refine vl_nil ?_
                  refine vc_cond rfl (fun _ => ?_) (fun h => by cases h)
                  refine vc_seq ?_
                  refine vc_region ?_
                  refine vl_val rfl (.some rfl) (val_assign rfl) ?_
                  refine vl_nil ?_
                  refine vc_ret ?_
                  refine ⟨_, [], _, res1 Try.results24 rfl, .nil, ?_⟩
                  show Value.bool false = _
                  rw [decide_eq_false (p := goodK T S Kk Mm) (fun h => by obtain ⟨h1, h2, h3, h4, h5, h6⟩ := h; have h7 := h6 i (by omega); rw [badIff] at h7; unfold pM at h7; simp at *; omega)]
                · (try replace hg48 := of_decide_eq_false hg48)
                  refine vl_on rfl rfl rfl rfl ?_
                  refine vl_val rfl (.some rfl) (by first | exact val_fieldAddr Try.runUnderlying81 rfl Try.sizeOf30 rfl | exact val_fieldAddrR Try.runUnderlying81 rfl Try.sizeOf30 rfl) ?_
                  refine vl_on rfl rfl rfl rfl ?_
                  refine vl_val rfl (.some rfl) (val_load Try.isAgg30 rfl (by first | exact cell_cells (by repeat (first | exact .head | apply In.tail | apply Take.tail | apply Upd.tail)) rfl | exact cell_rd (rd_sl (by repeat (first | exact .head | apply In.tail | apply Take.tail | apply Upd.tail))) (by first | exact bcells_at (by omega) | exact ucells_at (by omega) | exact icells_at (by omega) | exact tcells_at (by omega) | exact bcells_get (by omega) | exact icells_get (by omega) | exact tcells_get (by omega) | exact ucells_get (by omega)) | exact cell_rd (rd_old (by assumption) rfl) (by first | exact bcells_at (by omega) | exact ucells_at (by omega) | exact icells_at (by omega) | exact tcells_at (by omega) | exact bcells_get (by omega) | exact icells_get (by omega) | exact tcells_get (by omega) | exact ucells_get (by omega)) | exact cell_old (by assumption) (by simp [fps]))) ?_
                  refine vl_on rfl rfl rfl rfl ?_
                  refine vl_val rfl (.some rfl) (val_ge rfl rfl) ?_
                  refine vl_val rfl (.some rfl) (val_pick rfl rfl) ?_
                  refine vl_nil ?_
                  refine vc_cond rfl (fun hc2 => ?_) (fun hc2 => ?_)
                  · (try replace hc2 := of_decide_eq_true hc2)
                    refine vc_seq ?_
                    refine vc_region ?_
                    refine vl_val rfl (.some rfl) (val_assign rfl) ?_
                    refine vl_nil ?_
                    refine vc_ret ?_
                    refine ⟨_, [], _, res1 Try.results24 rfl, .nil, ?_⟩
                    show Value.bool false = _
                    rw [decide_eq_false (p := goodK T S Kk Mm) (fun h => by obtain ⟨h1, h2, h3, h4, h5, h6⟩ := h; have h7 := h6 i (by omega); rw [badIff] at h7; unfold pM at h7; simp at *; omega)]
                  · (try replace hc2 := of_decide_eq_false hc2)
                    refine vc_skip ?_
                    refine vc_region ?_
                    refine vl_val rfl (.some rfl) (val_add rfl rfl (by first | exact w_i64 (by omega) (by omega) | rfl)) ?_
                    refine vl_val rfl (.some rfl) (val_move rfl) ?_
                    refine vl_nil ?_
                    exact ⟨S.length - (i + 1), _, _, _, by omega, (by repeat (first | exact trivial | refine ⟨rfl, ?_⟩ | refine ⟨le_item rfl (by first | rfl | (congr 1; omega) | (simp; done) | (simp; omega)), ?_⟩)), (by repeat (first | exact .nil | (apply Sub.cons; · repeat (first | exact .head | apply Take.tail)))), ⟨i + 1, by omega, rfl, fun j hj => by
                      rcases Nat.lt_or_ge j i with h | h
                      · exact hall j h
                      · obtain rfl : j = i := by omega
                        rw [badIff]; unfold pM; simp at *; omega, rfl, rfl⟩⟩
            · (try replace hc1 := of_decide_eq_false hc1)
              refine vc_exit ?_
              refine vc_seq ?_
              refine vc_region ?_
              refine vl_val rfl (.some rfl) (by first | exact val_fieldAddr Try.runUnderlying24 rfl Try.sizeOf3 rfl | exact val_fieldAddrR Try.runUnderlying24 rfl Try.sizeOf3 rfl) ?_
              refine vl_val rfl (.some rfl) (val_load Try.isAgg3 rfl (by first | exact cell_cells (by repeat (first | exact .head | apply In.tail | apply Take.tail | apply Upd.tail)) rfl | exact cell_rd (rd_sl (by repeat (first | exact .head | apply In.tail | apply Take.tail | apply Upd.tail))) (by first | exact bcells_at (by omega) | exact ucells_at (by omega) | exact icells_at (by omega) | exact tcells_at (by omega) | exact bcells_get (by omega) | exact icells_get (by omega) | exact tcells_get (by omega) | exact ucells_get (by omega)) | exact cell_rd (rd_old (by assumption) rfl) (by first | exact bcells_at (by omega) | exact ucells_at (by omega) | exact icells_at (by omega) | exact tcells_at (by omega) | exact bcells_get (by omega) | exact icells_get (by omega) | exact tcells_get (by omega) | exact ucells_get (by omega)) | exact cell_old (by assumption) (by simp [fps]))) ?_
              refine vl_val rfl (.some rfl) (val_ge rfl rfl) ?_
              refine vl_val rfl (.some rfl) (val_move rfl) ?_
              refine vl_split (t := 57) rfl (fun hg57 => ?_) (fun hg57 => ?_)
              · (try replace hg57 := of_decide_eq_true hg57)
                refine vl_on rfl rfl rfl rfl ?_
                refine vl_val rfl (.some rfl) (by first | exact val_fieldAddr Try.runUnderlying24 rfl Try.sizeOf3 rfl | exact val_fieldAddrR Try.runUnderlying24 rfl Try.sizeOf3 rfl) ?_
                refine vl_on rfl rfl rfl rfl ?_
                refine vl_val rfl (.some rfl) (val_load Try.isAgg3 rfl (by first | exact cell_cells (by repeat (first | exact .head | apply In.tail | apply Take.tail | apply Upd.tail)) rfl | exact cell_rd (rd_sl (by repeat (first | exact .head | apply In.tail | apply Take.tail | apply Upd.tail))) (by first | exact bcells_at (by omega) | exact ucells_at (by omega) | exact icells_at (by omega) | exact tcells_at (by omega) | exact bcells_get (by omega) | exact icells_get (by omega) | exact tcells_get (by omega) | exact ucells_get (by omega)) | exact cell_rd (rd_old (by assumption) rfl) (by first | exact bcells_at (by omega) | exact ucells_at (by omega) | exact icells_at (by omega) | exact tcells_at (by omega) | exact bcells_get (by omega) | exact icells_get (by omega) | exact tcells_get (by omega) | exact ucells_get (by omega)) | exact cell_old (by assumption) (by simp [fps]))) ?_
                refine vl_on rfl rfl rfl rfl ?_
                refine vl_val rfl (.some rfl) (val_le rfl rfl) ?_
                refine vl_val rfl (.some rfl) (val_pick rfl rfl) ?_
                refine vl_val rfl (.some rfl) (val_move rfl) ?_
                refine vl_split (t := 62) rfl (fun hg62 => ?_) (fun hg62 => ?_)
                · (try replace hg62 := of_decide_eq_true hg62)
                  refine vl_on rfl rfl rfl rfl ?_
                  refine vl_val rfl (.some rfl) (by first | exact val_fieldAddr Try.runUnderlying24 rfl Try.sizeOf3 rfl | exact val_fieldAddrR Try.runUnderlying24 rfl Try.sizeOf3 rfl) ?_
                  refine vl_on rfl rfl rfl rfl ?_
                  refine vl_val rfl (.some rfl) (val_load Try.isAgg3 rfl (by first | exact cell_cells (by repeat (first | exact .head | apply In.tail | apply Take.tail | apply Upd.tail)) rfl | exact cell_rd (rd_sl (by repeat (first | exact .head | apply In.tail | apply Take.tail | apply Upd.tail))) (by first | exact bcells_at (by omega) | exact ucells_at (by omega) | exact icells_at (by omega) | exact tcells_at (by omega) | exact bcells_get (by omega) | exact icells_get (by omega) | exact tcells_get (by omega) | exact ucells_get (by omega)) | exact cell_rd (rd_old (by assumption) rfl) (by first | exact bcells_at (by omega) | exact ucells_at (by omega) | exact icells_at (by omega) | exact tcells_at (by omega) | exact bcells_get (by omega) | exact icells_get (by omega) | exact tcells_get (by omega) | exact ucells_get (by omega)) | exact cell_old (by assumption) (by simp [fps]))) ?_
                  refine vl_on rfl rfl rfl rfl ?_
                  refine vl_val rfl (.some rfl) (val_ge rfl rfl) ?_
                  refine vl_val rfl (.some rfl) (val_pick rfl rfl) ?_
                  refine vl_val rfl (.some rfl) (val_move rfl) ?_
                  refine vl_split (t := 67) rfl (fun hg67 => ?_) (fun hg67 => ?_)
                  · (try replace hg67 := of_decide_eq_true hg67)
                    refine vl_on rfl rfl rfl rfl ?_
                    refine vl_val rfl (.some rfl) (by first | exact val_fieldAddr Try.runUnderlying24 rfl Try.sizeOf3 rfl | exact val_fieldAddrR Try.runUnderlying24 rfl Try.sizeOf3 rfl) ?_
                    refine vl_on rfl rfl rfl rfl ?_
                    refine vl_val rfl (.some rfl) (val_load Try.isAgg3 rfl (by first | exact cell_cells (by repeat (first | exact .head | apply In.tail | apply Take.tail | apply Upd.tail)) rfl | exact cell_rd (rd_sl (by repeat (first | exact .head | apply In.tail | apply Take.tail | apply Upd.tail))) (by first | exact bcells_at (by omega) | exact ucells_at (by omega) | exact icells_at (by omega) | exact tcells_at (by omega) | exact bcells_get (by omega) | exact icells_get (by omega) | exact tcells_get (by omega) | exact ucells_get (by omega)) | exact cell_rd (rd_old (by assumption) rfl) (by first | exact bcells_at (by omega) | exact ucells_at (by omega) | exact icells_at (by omega) | exact tcells_at (by omega) | exact bcells_get (by omega) | exact icells_get (by omega) | exact tcells_get (by omega) | exact ucells_get (by omega)) | exact cell_old (by assumption) (by simp [fps]))) ?_
                    refine vl_on rfl rfl rfl rfl ?_
                    refine vl_val rfl (.some rfl) (val_le rfl rfl) ?_
                    refine vl_val rfl (.some rfl) (val_pick rfl rfl) ?_
                    refine vl_val rfl (.some rfl) (val_assign rfl) ?_
                    refine vl_nil ?_
                    refine vc_ret ?_
                    refine ⟨_, [], _, res1 Try.results24 rfl, .nil, ?_⟩
                    obtain rfl : i = S.length := by omega
                    first | (show Value.bool false = _; rw [decide_eq_false (p := goodK T S Kk Mm) (fun h => by obtain ⟨h1, h2, h3, h4, h5, h6⟩ := h; simp at *; omega)]) | (refine congrArg Value.bool ?_; rw [decide_eq_decide]; unfold goodK; simp at hg57 hg62 hg67; exact ⟨fun h => ⟨by omega, by omega, by omega, by omega, by omega, hall⟩, fun h => h.2.2.1.2⟩)
                  · (try replace hg67 := of_decide_eq_false hg67)
                    refine vl_off rfl rfl rfl rfl (.some rfl) ?_
                    refine vl_off rfl rfl rfl rfl (.some rfl) ?_
                    refine vl_off rfl rfl rfl rfl (.some rfl) ?_
                    refine vl_val rfl (.some rfl) (val_pick rfl rfl) ?_
                    refine vl_val rfl (.some rfl) (val_assign rfl) ?_
                    refine vl_nil ?_
                    refine vc_ret ?_
                    refine ⟨_, [], _, res1 Try.results24 rfl, .nil, ?_⟩
                    obtain rfl : i = S.length := by omega
                    first | (show Value.bool false = _; rw [decide_eq_false (p := goodK T S Kk Mm) (fun h => by obtain ⟨h1, h2, h3, h4, h5, h6⟩ := h; simp at *; omega)]) | (refine congrArg Value.bool ?_; rw [decide_eq_decide]; unfold goodK; simp at hg57 hg62 hg67; exact ⟨fun h => ⟨by omega, by omega, by omega, by omega, by omega, hall⟩, fun h => h.2.2.1.2⟩)
                · (try replace hg62 := of_decide_eq_false hg62)
                  refine vl_off rfl rfl rfl rfl (.some rfl) ?_
                  refine vl_off rfl rfl rfl rfl (.some rfl) ?_
                  refine vl_off rfl rfl rfl rfl (.some rfl) ?_
                  refine vl_val rfl (.some rfl) (val_pick rfl rfl) ?_
                  refine vl_val rfl (.some rfl) (val_move rfl) ?_
                  refine vl_off rfl rfl rfl rfl (.some rfl) ?_
                  refine vl_off rfl rfl rfl rfl (.some rfl) ?_
                  refine vl_off rfl rfl rfl rfl (.some rfl) ?_
                  refine vl_val rfl (.some rfl) (val_pick rfl rfl) ?_
                  refine vl_val rfl (.some rfl) (val_assign rfl) ?_
                  refine vl_nil ?_
                  refine vc_ret ?_
                  refine ⟨_, [], _, res1 Try.results24 rfl, .nil, ?_⟩
                  obtain rfl : i = S.length := by omega
                  first | (show Value.bool false = _; rw [decide_eq_false (p := goodK T S Kk Mm) (fun h => by obtain ⟨h1, h2, h3, h4, h5, h6⟩ := h; simp at *; omega)]) | (refine congrArg Value.bool ?_; rw [decide_eq_decide]; unfold goodK; simp at hg57 hg62 hg67; exact ⟨fun h => ⟨by omega, by omega, by omega, by omega, by omega, hall⟩, fun h => h.2.2.1.2⟩)
              · (try replace hg57 := of_decide_eq_false hg57)
                refine vl_off rfl rfl rfl rfl (.some rfl) ?_
                refine vl_off rfl rfl rfl rfl (.some rfl) ?_
                refine vl_off rfl rfl rfl rfl (.some rfl) ?_
                refine vl_val rfl (.some rfl) (val_pick rfl rfl) ?_
                refine vl_val rfl (.some rfl) (val_move rfl) ?_
                refine vl_off rfl rfl rfl rfl (.some rfl) ?_
                refine vl_off rfl rfl rfl rfl (.some rfl) ?_
                refine vl_off rfl rfl rfl rfl (.some rfl) ?_
                refine vl_val rfl (.some rfl) (val_pick rfl rfl) ?_
                refine vl_val rfl (.some rfl) (val_move rfl) ?_
                refine vl_off rfl rfl rfl rfl (.some rfl) ?_
                refine vl_off rfl rfl rfl rfl (.some rfl) ?_
                refine vl_off rfl rfl rfl rfl (.some rfl) ?_
                refine vl_val rfl (.some rfl) (val_pick rfl rfl) ?_
                refine vl_val rfl (.some rfl) (val_assign rfl) ?_
                refine vl_nil ?_
                refine vc_ret ?_
                refine ⟨_, [], _, res1 Try.results24 rfl, .nil, ?_⟩
                obtain rfl : i = S.length := by omega
                first | (show Value.bool false = _; rw [decide_eq_false (p := goodK T S Kk Mm) (fun h => by obtain ⟨h1, h2, h3, h4, h5, h6⟩ := h; simp at *; omega)]) | (refine congrArg Value.bool ?_; rw [decide_eq_decide]; unfold goodK; simp at hg57 hg62 hg67; exact ⟨fun h => ⟨by omega, by omega, by omega, by omega, by omega, hall⟩, fun h => h.2.2.1.2⟩)
        · (try replace hg24 := of_decide_eq_false hg24)
          refine vl_off rfl rfl rfl rfl (.some rfl) ?_
          refine vl_off rfl rfl rfl rfl (.some rfl) ?_
          refine vl_on rfl rfl rfl rfl ?_
          refine vl_val rfl (.some rfl) (val_pick rfl rfl) ?_
          refine vl_on rfl rfl rfl rfl ?_
          refine vl_val rfl (.some rfl) (val_move rfl) ?_
          refine vl_off rfl rfl rfl rfl (.some rfl) ?_
          refine vl_off rfl rfl rfl rfl (.some rfl) ?_
          refine vl_on rfl rfl rfl rfl ?_
          refine vl_val rfl (.some rfl) (val_pick rfl rfl) ?_
          refine vl_val rfl (.some rfl) (val_pick rfl rfl) ?_
          refine vl_nil ?_
          refine vc_cond rfl (fun h => by cases h) (fun _ => ?_)
          refine vc_skip ?_
          refine vc_seq ?_
          refine vc_seq ?_
          refine vc_region ?_
          refine vl_val rfl (.some rfl) (by first | exact val_fieldAddr Try.runUnderlying24 rfl Try.sizeOf22 rfl | exact val_fieldAddrR Try.runUnderlying24 rfl Try.sizeOf22 rfl) ?_
          refine vl_val rfl (.some rfl) (val_load Try.isAgg22 rfl (by first | exact cell_cells (by repeat (first | exact .head | apply In.tail | apply Take.tail | apply Upd.tail)) rfl | exact cell_rd (rd_sl (by repeat (first | exact .head | apply In.tail | apply Take.tail | apply Upd.tail))) (by first | exact bcells_at (by omega) | exact ucells_at (by omega) | exact icells_at (by omega) | exact tcells_at (by omega) | exact bcells_get (by omega) | exact icells_get (by omega) | exact tcells_get (by omega) | exact ucells_get (by omega)) | exact cell_rd (rd_old (by assumption) rfl) (by first | exact bcells_at (by omega) | exact ucells_at (by omega) | exact icells_at (by omega) | exact tcells_at (by omega) | exact bcells_get (by omega) | exact icells_get (by omega) | exact tcells_get (by omega) | exact ucells_get (by omega)) | exact cell_old (by assumption) (by simp [fps]))) ?_
          refine vl_val rfl (.some rfl) (val_lenSl Try.runUnderlying22 rfl) ?_
          refine vl_val rfl (.some rfl) (val_move rfl) ?_
          refine vl_nil ?_
          refine vc_block ?_
          have hT : 2 ≤ T ∧ T ≤ 64 ∧ S.length % 2 = 1 ∧ S.length ≤ 7 := by
            simp at *
            omega
          refine vc_loopw (fun k E H => ∃ i : Nat, i ≤ S.length ∧ k = S.length - i ∧ (∀ j, j < i → ¬ badS (S.getD j (0, 0))) ∧ E = [(1, .pointer (some ⟨r1, 0, none⟩)), (34, .slice A S.length c), (35, .int .i64 S.length), (36, .int .i64 i)] ∧ H = [cells r1 [.int .i64 T, .slice A S.length c, .int .i64 Kk, .int .i64 Mm] 24]) (S.length) ⟨_, _, _, ⟨0, by omega, rfl, fun j hj => absurd hj (by omega), rfl, rfl⟩, (by repeat (first | exact trivial | refine ⟨rfl, ?_⟩ | refine ⟨le_item rfl (by first | rfl | (congr 1; omega) | (simp; done) | (simp; omega)), ?_⟩)), (by repeat (first | exact .nil | (apply Sub.cons; · repeat (first | exact .head | apply Take.tail))))⟩ ?_
          intro k E H hI
          obtain ⟨i, hil, rfl, hall, rfl, rfl⟩ := hI
          refine vc_seq ?_
          refine vc_region ?_
          refine vl_val rfl (.some rfl) (val_lt rfl rfl) ?_
          refine vl_nil ?_
          refine vc_seq ?_
          refine vc_cond rfl (fun hc1 => ?_) (fun hc1 => ?_)
          · (try replace hc1 := of_decide_eq_true hc1)
            refine vc_skip ?_
            refine vc_seq ?_
            refine vc_block ?_
            refine vc_seq ?_
            refine vc_region ?_
            refine vl_val rfl (.some rfl) (val_indexAddr Try.runUnderlying22 Try.sizeOf81 rfl rfl (rd_old hr rfl) (by omega) (by omega) (by rw [seedC_len, Int.toNat_natCast]; omega)) ?_
            refine vl_val rfl (.some rfl) (val_loadAgg Try.isAgg81 Try.sizeOf81 rfl (cells_rd (us := seedV (S.getD i (0, 0))) (rd_old hr rfl) (seed_at rfl (by omega))) rfl) ?_
            refine vl_alloc rfl rfl (.some rfl) Try.zeroValue81 (fun r5 => ?_)
            first | refine vl_store rfl rfl .none rfl rfl Try.sizeOf81 rfl (by repeat (first | exact .head | apply In.tail | apply Take.tail | apply Upd.tail)) (by first | decide | exact Nat.le_refl _ | exact Nat.le_of_ble_eq_true rfl | (simp; omega)) ?_ | refine vl_storeSl rfl rfl .none rfl rfl Try.sizeOf81 rfl (by simp [Value.cells]) (by repeat (first | exact .head | apply In.tail | apply Take.tail | apply Upd.tail)) (by first | decide | (simp [Value.cells]; omega)) ?_
            refine vl_nil ?_
            refine vc_seq ?_
            refine vc_region ?_
            refine vl_val rfl (.some rfl) (by first | exact val_fieldAddr Try.runUnderlying81 rfl Try.sizeOf30 rfl | exact val_fieldAddrR Try.runUnderlying81 rfl Try.sizeOf30 rfl) ?_
            refine vl_val rfl (.some rfl) (val_load Try.isAgg30 rfl (by first | exact cell_cells (by repeat (first | exact .head | apply In.tail | apply Take.tail | apply Upd.tail)) rfl | exact cell_rd (rd_sl (by repeat (first | exact .head | apply In.tail | apply Take.tail | apply Upd.tail))) (by first | exact bcells_at (by omega) | exact ucells_at (by omega) | exact icells_at (by omega) | exact tcells_at (by omega) | exact bcells_get (by omega) | exact icells_get (by omega) | exact tcells_get (by omega) | exact ucells_get (by omega)) | exact cell_rd (rd_old (by assumption) rfl) (by first | exact bcells_at (by omega) | exact ucells_at (by omega) | exact icells_at (by omega) | exact tcells_at (by omega) | exact bcells_get (by omega) | exact icells_get (by omega) | exact tcells_get (by omega) | exact ucells_get (by omega)) | exact cell_old (by assumption) (by simp [fps]))) ?_
            refine vl_val rfl (.some rfl) (val_eq rfl rfl) ?_
            refine vl_val rfl (.some rfl) (val_move rfl) ?_
            refine vl_split (t := 43) rfl (fun hg43 => ?_) (fun hg43 => ?_)
            · (try replace hg43 := of_decide_eq_true hg43)
              refine vl_off rfl rfl rfl rfl (.some rfl) ?_
              refine vl_off rfl rfl rfl rfl (.some rfl) ?_
              refine vl_off rfl rfl rfl rfl (.some rfl) ?_
              refine vl_val rfl (.some rfl) (val_pick rfl rfl) ?_
              refine vl_val rfl (.some rfl) (val_move rfl) ?_
              refine vl_off rfl rfl rfl rfl (.some rfl) ?_
              refine vl_off rfl rfl rfl rfl (.some rfl) ?_
              refine vl_off rfl rfl rfl rfl (.some rfl) ?_
              refine vl_val rfl (.some rfl) (val_pick rfl rfl) ?_
              refine vl_nil ?_
              refine vc_cond rfl (fun _ => ?_) (fun h => by cases h)
              refine vc_seq ?_
              refine vc_region ?_
              refine vl_val rfl (.some rfl) (val_assign rfl) ?_
              refine vl_nil ?_
              refine vc_ret ?_
              refine ⟨_, [], _, res1 Try.results24 rfl, .nil, ?_⟩
              show Value.bool false = _
              rw [decide_eq_false (p := goodK T S Kk Mm) (fun h => by obtain ⟨h1, h2, h3, h4, h5, h6⟩ := h; have h7 := h6 i (by omega); rw [badIff] at h7; unfold pM at h7; simp at *; omega)]
            · (try replace hg43 := of_decide_eq_false hg43)
              refine vl_on rfl rfl rfl rfl ?_
              refine vl_val rfl (.some rfl) (by first | exact val_fieldAddr Try.runUnderlying81 rfl Try.sizeOf30 rfl | exact val_fieldAddrR Try.runUnderlying81 rfl Try.sizeOf30 rfl) ?_
              refine vl_on rfl rfl rfl rfl ?_
              refine vl_val rfl (.some rfl) (val_load Try.isAgg30 rfl (by first | exact cell_cells (by repeat (first | exact .head | apply In.tail | apply Take.tail | apply Upd.tail)) rfl | exact cell_rd (rd_sl (by repeat (first | exact .head | apply In.tail | apply Take.tail | apply Upd.tail))) (by first | exact bcells_at (by omega) | exact ucells_at (by omega) | exact icells_at (by omega) | exact tcells_at (by omega) | exact bcells_get (by omega) | exact icells_get (by omega) | exact tcells_get (by omega) | exact ucells_get (by omega)) | exact cell_rd (rd_old (by assumption) rfl) (by first | exact bcells_at (by omega) | exact ucells_at (by omega) | exact icells_at (by omega) | exact tcells_at (by omega) | exact bcells_get (by omega) | exact icells_get (by omega) | exact tcells_get (by omega) | exact ucells_get (by omega)) | exact cell_old (by assumption) (by simp [fps]))) ?_
              refine vl_on rfl rfl rfl rfl ?_
              refine vl_val rfl (.some rfl) (val_ge rfl rfl) ?_
              refine vl_val rfl (.some rfl) (val_pick rfl rfl) ?_
              refine vl_val rfl (.some rfl) (val_move rfl) ?_
              refine vl_split (t := 48) rfl (fun hg48 => ?_) (fun hg48 => ?_)
              · (try replace hg48 := of_decide_eq_true hg48)
                refine vl_off rfl rfl rfl rfl (.some rfl) ?_
                refine vl_off rfl rfl rfl rfl (.some rfl) ?_
                refine vl_off rfl rfl rfl rfl (.some rfl) ?_
                refine vl_val rfl (.some rfl) (val_pick rfl rfl) ?_
                refine vl_nil ?_
                refine vc_cond rfl (fun _ => ?_) (fun h => by cases h)
                refine vc_seq ?_
                refine vc_region ?_
                refine vl_val rfl (.some rfl) (val_assign rfl) ?_
                refine vl_nil ?_
                refine vc_ret ?_
                refine ⟨_, [], _, res1 Try.results24 rfl, .nil, ?_⟩
                show Value.bool false = _
                rw [decide_eq_false (p := goodK T S Kk Mm) (fun h => by obtain ⟨h1, h2, h3, h4, h5, h6⟩ := h; have h7 := h6 i (by omega); rw [badIff] at h7; unfold pM at h7; simp at *; omega)]
              · (try replace hg48 := of_decide_eq_false hg48)
                refine vl_on rfl rfl rfl rfl ?_
                refine vl_val rfl (.some rfl) (by first | exact val_fieldAddr Try.runUnderlying81 rfl Try.sizeOf30 rfl | exact val_fieldAddrR Try.runUnderlying81 rfl Try.sizeOf30 rfl) ?_
                refine vl_on rfl rfl rfl rfl ?_
                refine vl_val rfl (.some rfl) (val_load Try.isAgg30 rfl (by first | exact cell_cells (by repeat (first | exact .head | apply In.tail | apply Take.tail | apply Upd.tail)) rfl | exact cell_rd (rd_sl (by repeat (first | exact .head | apply In.tail | apply Take.tail | apply Upd.tail))) (by first | exact bcells_at (by omega) | exact ucells_at (by omega) | exact icells_at (by omega) | exact tcells_at (by omega) | exact bcells_get (by omega) | exact icells_get (by omega) | exact tcells_get (by omega) | exact ucells_get (by omega)) | exact cell_rd (rd_old (by assumption) rfl) (by first | exact bcells_at (by omega) | exact ucells_at (by omega) | exact icells_at (by omega) | exact tcells_at (by omega) | exact bcells_get (by omega) | exact icells_get (by omega) | exact tcells_get (by omega) | exact ucells_get (by omega)) | exact cell_old (by assumption) (by simp [fps]))) ?_
                refine vl_on rfl rfl rfl rfl ?_
                refine vl_val rfl (.some rfl) (val_ge rfl rfl) ?_
                refine vl_val rfl (.some rfl) (val_pick rfl rfl) ?_
                refine vl_nil ?_
                refine vc_cond rfl (fun hc2 => ?_) (fun hc2 => ?_)
                · (try replace hc2 := of_decide_eq_true hc2)
                  refine vc_seq ?_
                  refine vc_region ?_
                  refine vl_val rfl (.some rfl) (val_assign rfl) ?_
                  refine vl_nil ?_
                  refine vc_ret ?_
                  refine ⟨_, [], _, res1 Try.results24 rfl, .nil, ?_⟩
                  show Value.bool false = _
                  rw [decide_eq_false (p := goodK T S Kk Mm) (fun h => by obtain ⟨h1, h2, h3, h4, h5, h6⟩ := h; have h7 := h6 i (by omega); rw [badIff] at h7; unfold pM at h7; simp at *; omega)]
                · (try replace hc2 := of_decide_eq_false hc2)
                  refine vc_skip ?_
                  refine vc_region ?_
                  refine vl_val rfl (.some rfl) (val_add rfl rfl (by first | exact w_i64 (by omega) (by omega) | rfl)) ?_
                  refine vl_val rfl (.some rfl) (val_move rfl) ?_
                  refine vl_nil ?_
                  exact ⟨S.length - (i + 1), _, _, _, by omega, (by repeat (first | exact trivial | refine ⟨rfl, ?_⟩ | refine ⟨le_item rfl (by first | rfl | (congr 1; omega) | (simp; done) | (simp; omega)), ?_⟩)), (by repeat (first | exact .nil | (apply Sub.cons; · repeat (first | exact .head | apply Take.tail)))), ⟨i + 1, by omega, rfl, fun j hj => by
                    rcases Nat.lt_or_ge j i with h | h
                    · exact hall j h
                    · obtain rfl : j = i := by omega
                      rw [badIff]; unfold pM; simp at *; omega, rfl, rfl⟩⟩
          · (try replace hc1 := of_decide_eq_false hc1)
            refine vc_exit ?_
            refine vc_seq ?_
            refine vc_region ?_
            refine vl_val rfl (.some rfl) (by first | exact val_fieldAddr Try.runUnderlying24 rfl Try.sizeOf3 rfl | exact val_fieldAddrR Try.runUnderlying24 rfl Try.sizeOf3 rfl) ?_
            refine vl_val rfl (.some rfl) (val_load Try.isAgg3 rfl (by first | exact cell_cells (by repeat (first | exact .head | apply In.tail | apply Take.tail | apply Upd.tail)) rfl | exact cell_rd (rd_sl (by repeat (first | exact .head | apply In.tail | apply Take.tail | apply Upd.tail))) (by first | exact bcells_at (by omega) | exact ucells_at (by omega) | exact icells_at (by omega) | exact tcells_at (by omega) | exact bcells_get (by omega) | exact icells_get (by omega) | exact tcells_get (by omega) | exact ucells_get (by omega)) | exact cell_rd (rd_old (by assumption) rfl) (by first | exact bcells_at (by omega) | exact ucells_at (by omega) | exact icells_at (by omega) | exact tcells_at (by omega) | exact bcells_get (by omega) | exact icells_get (by omega) | exact tcells_get (by omega) | exact ucells_get (by omega)) | exact cell_old (by assumption) (by simp [fps]))) ?_
            refine vl_val rfl (.some rfl) (val_ge rfl rfl) ?_
            refine vl_val rfl (.some rfl) (val_move rfl) ?_
            refine vl_split (t := 57) rfl (fun hg57 => ?_) (fun hg57 => ?_)
            · (try replace hg57 := of_decide_eq_true hg57)
              refine vl_on rfl rfl rfl rfl ?_
              refine vl_val rfl (.some rfl) (by first | exact val_fieldAddr Try.runUnderlying24 rfl Try.sizeOf3 rfl | exact val_fieldAddrR Try.runUnderlying24 rfl Try.sizeOf3 rfl) ?_
              refine vl_on rfl rfl rfl rfl ?_
              refine vl_val rfl (.some rfl) (val_load Try.isAgg3 rfl (by first | exact cell_cells (by repeat (first | exact .head | apply In.tail | apply Take.tail | apply Upd.tail)) rfl | exact cell_rd (rd_sl (by repeat (first | exact .head | apply In.tail | apply Take.tail | apply Upd.tail))) (by first | exact bcells_at (by omega) | exact ucells_at (by omega) | exact icells_at (by omega) | exact tcells_at (by omega) | exact bcells_get (by omega) | exact icells_get (by omega) | exact tcells_get (by omega) | exact ucells_get (by omega)) | exact cell_rd (rd_old (by assumption) rfl) (by first | exact bcells_at (by omega) | exact ucells_at (by omega) | exact icells_at (by omega) | exact tcells_at (by omega) | exact bcells_get (by omega) | exact icells_get (by omega) | exact tcells_get (by omega) | exact ucells_get (by omega)) | exact cell_old (by assumption) (by simp [fps]))) ?_
              refine vl_on rfl rfl rfl rfl ?_
              refine vl_val rfl (.some rfl) (val_le rfl rfl) ?_
              refine vl_val rfl (.some rfl) (val_pick rfl rfl) ?_
              refine vl_val rfl (.some rfl) (val_move rfl) ?_
              refine vl_split (t := 62) rfl (fun hg62 => ?_) (fun hg62 => ?_)
              · (try replace hg62 := of_decide_eq_true hg62)
                refine vl_on rfl rfl rfl rfl ?_
                refine vl_val rfl (.some rfl) (by first | exact val_fieldAddr Try.runUnderlying24 rfl Try.sizeOf3 rfl | exact val_fieldAddrR Try.runUnderlying24 rfl Try.sizeOf3 rfl) ?_
                refine vl_on rfl rfl rfl rfl ?_
                refine vl_val rfl (.some rfl) (val_load Try.isAgg3 rfl (by first | exact cell_cells (by repeat (first | exact .head | apply In.tail | apply Take.tail | apply Upd.tail)) rfl | exact cell_rd (rd_sl (by repeat (first | exact .head | apply In.tail | apply Take.tail | apply Upd.tail))) (by first | exact bcells_at (by omega) | exact ucells_at (by omega) | exact icells_at (by omega) | exact tcells_at (by omega) | exact bcells_get (by omega) | exact icells_get (by omega) | exact tcells_get (by omega) | exact ucells_get (by omega)) | exact cell_rd (rd_old (by assumption) rfl) (by first | exact bcells_at (by omega) | exact ucells_at (by omega) | exact icells_at (by omega) | exact tcells_at (by omega) | exact bcells_get (by omega) | exact icells_get (by omega) | exact tcells_get (by omega) | exact ucells_get (by omega)) | exact cell_old (by assumption) (by simp [fps]))) ?_
                refine vl_on rfl rfl rfl rfl ?_
                refine vl_val rfl (.some rfl) (val_ge rfl rfl) ?_
                refine vl_val rfl (.some rfl) (val_pick rfl rfl) ?_
                refine vl_val rfl (.some rfl) (val_move rfl) ?_
                refine vl_split (t := 67) rfl (fun hg67 => ?_) (fun hg67 => ?_)
                · (try replace hg67 := of_decide_eq_true hg67)
                  refine vl_on rfl rfl rfl rfl ?_
                  refine vl_val rfl (.some rfl) (by first | exact val_fieldAddr Try.runUnderlying24 rfl Try.sizeOf3 rfl | exact val_fieldAddrR Try.runUnderlying24 rfl Try.sizeOf3 rfl) ?_
                  refine vl_on rfl rfl rfl rfl ?_
                  refine vl_val rfl (.some rfl) (val_load Try.isAgg3 rfl (by first | exact cell_cells (by repeat (first | exact .head | apply In.tail | apply Take.tail | apply Upd.tail)) rfl | exact cell_rd (rd_sl (by repeat (first | exact .head | apply In.tail | apply Take.tail | apply Upd.tail))) (by first | exact bcells_at (by omega) | exact ucells_at (by omega) | exact icells_at (by omega) | exact tcells_at (by omega) | exact bcells_get (by omega) | exact icells_get (by omega) | exact tcells_get (by omega) | exact ucells_get (by omega)) | exact cell_rd (rd_old (by assumption) rfl) (by first | exact bcells_at (by omega) | exact ucells_at (by omega) | exact icells_at (by omega) | exact tcells_at (by omega) | exact bcells_get (by omega) | exact icells_get (by omega) | exact tcells_get (by omega) | exact ucells_get (by omega)) | exact cell_old (by assumption) (by simp [fps]))) ?_
                  refine vl_on rfl rfl rfl rfl ?_
                  refine vl_val rfl (.some rfl) (val_le rfl rfl) ?_
                  refine vl_val rfl (.some rfl) (val_pick rfl rfl) ?_
                  refine vl_val rfl (.some rfl) (val_assign rfl) ?_
                  refine vl_nil ?_
                  refine vc_ret ?_
                  refine ⟨_, [], _, res1 Try.results24 rfl, .nil, ?_⟩
                  obtain rfl : i = S.length := by omega
                  first | (show Value.bool false = _; rw [decide_eq_false (p := goodK T S Kk Mm) (fun h => by obtain ⟨h1, h2, h3, h4, h5, h6⟩ := h; simp at *; omega)]) | (refine congrArg Value.bool ?_; rw [decide_eq_decide]; unfold goodK; simp at hg57 hg62 hg67; exact ⟨fun h => ⟨by omega, by omega, by omega, by omega, by omega, hall⟩, fun h => h.2.2.1.2⟩)
                · (try replace hg67 := of_decide_eq_false hg67)
                  refine vl_off rfl rfl rfl rfl (.some rfl) ?_
                  refine vl_off rfl rfl rfl rfl (.some rfl) ?_
                  refine vl_off rfl rfl rfl rfl (.some rfl) ?_
                  refine vl_val rfl (.some rfl) (val_pick rfl rfl) ?_
                  refine vl_val rfl (.some rfl) (val_assign rfl) ?_
                  refine vl_nil ?_
                  refine vc_ret ?_
                  refine ⟨_, [], _, res1 Try.results24 rfl, .nil, ?_⟩
                  obtain rfl : i = S.length := by omega
                  first | (show Value.bool false = _; rw [decide_eq_false (p := goodK T S Kk Mm) (fun h => by obtain ⟨h1, h2, h3, h4, h5, h6⟩ := h; simp at *; omega)]) | (refine congrArg Value.bool ?_; rw [decide_eq_decide]; unfold goodK; simp at hg57 hg62 hg67; exact ⟨fun h => ⟨by omega, by omega, by omega, by omega, by omega, hall⟩, fun h => h.2.2.1.2⟩)
              · (try replace hg62 := of_decide_eq_false hg62)
                refine vl_off rfl rfl rfl rfl (.some rfl) ?_
                refine vl_off rfl rfl rfl rfl (.some rfl) ?_
                refine vl_off rfl rfl rfl rfl (.some rfl) ?_
                refine vl_val rfl (.some rfl) (val_pick rfl rfl) ?_
                refine vl_val rfl (.some rfl) (val_move rfl) ?_
                refine vl_off rfl rfl rfl rfl (.some rfl) ?_
                refine vl_off rfl rfl rfl rfl (.some rfl) ?_
                refine vl_off rfl rfl rfl rfl (.some rfl) ?_
                refine vl_val rfl (.some rfl) (val_pick rfl rfl) ?_
                refine vl_val rfl (.some rfl) (val_assign rfl) ?_
                refine vl_nil ?_
                refine vc_ret ?_
                refine ⟨_, [], _, res1 Try.results24 rfl, .nil, ?_⟩
                obtain rfl : i = S.length := by omega
                first | (show Value.bool false = _; rw [decide_eq_false (p := goodK T S Kk Mm) (fun h => by obtain ⟨h1, h2, h3, h4, h5, h6⟩ := h; simp at *; omega)]) | (refine congrArg Value.bool ?_; rw [decide_eq_decide]; unfold goodK; simp at hg57 hg62 hg67; exact ⟨fun h => ⟨by omega, by omega, by omega, by omega, by omega, hall⟩, fun h => h.2.2.1.2⟩)
            · (try replace hg57 := of_decide_eq_false hg57)
              refine vl_off rfl rfl rfl rfl (.some rfl) ?_
              refine vl_off rfl rfl rfl rfl (.some rfl) ?_
              refine vl_off rfl rfl rfl rfl (.some rfl) ?_
              refine vl_val rfl (.some rfl) (val_pick rfl rfl) ?_
              refine vl_val rfl (.some rfl) (val_move rfl) ?_
              refine vl_off rfl rfl rfl rfl (.some rfl) ?_
              refine vl_off rfl rfl rfl rfl (.some rfl) ?_
              refine vl_off rfl rfl rfl rfl (.some rfl) ?_
              refine vl_val rfl (.some rfl) (val_pick rfl rfl) ?_
              refine vl_val rfl (.some rfl) (val_move rfl) ?_
              refine vl_off rfl rfl rfl rfl (.some rfl) ?_
              refine vl_off rfl rfl rfl rfl (.some rfl) ?_
              refine vl_off rfl rfl rfl rfl (.some rfl) ?_
              refine vl_val rfl (.some rfl) (val_pick rfl rfl) ?_
              refine vl_val rfl (.some rfl) (val_assign rfl) ?_
              refine vl_nil ?_
              refine vc_ret ?_
              refine ⟨_, [], _, res1 Try.results24 rfl, .nil, ?_⟩
              obtain rfl : i = S.length := by omega
              first | (show Value.bool false = _; rw [decide_eq_false (p := goodK T S Kk Mm) (fun h => by obtain ⟨h1, h2, h3, h4, h5, h6⟩ := h; simp at *; omega)]) | (refine congrArg Value.bool ?_; rw [decide_eq_decide]; unfold goodK; simp at hg57 hg62 hg67; exact ⟨fun h => ⟨by omega, by omega, by omega, by omega, by omega, hall⟩, fun h => h.2.2.1.2⟩)
      · (try replace hg20 := of_decide_eq_false hg20)
        refine vl_off rfl rfl rfl rfl (.some rfl) ?_
        refine vl_off rfl rfl rfl rfl (.some rfl) ?_
        refine vl_on rfl rfl rfl rfl ?_
        refine vl_val rfl (.some rfl) (val_pick rfl rfl) ?_
        refine vl_on rfl rfl rfl rfl ?_
        refine vl_val rfl (.some rfl) (val_move rfl) ?_
        refine vl_off rfl rfl rfl rfl (.some rfl) ?_
        refine vl_off rfl rfl rfl rfl (.some rfl) ?_
        refine vl_on rfl rfl rfl rfl ?_
        refine vl_val rfl (.some rfl) (val_pick rfl rfl) ?_
        refine vl_on rfl rfl rfl rfl ?_
        refine vl_val rfl (.some rfl) (val_move rfl) ?_
        refine vl_off rfl rfl rfl rfl (.some rfl) ?_
        refine vl_off rfl rfl rfl rfl (.some rfl) ?_
        refine vl_on rfl rfl rfl rfl ?_
        refine vl_val rfl (.some rfl) (val_pick rfl rfl) ?_
        refine vl_val rfl (.some rfl) (val_pick rfl rfl) ?_
        refine vl_nil ?_
        refine vc_cond rfl (fun h => by cases h) (fun _ => ?_)
        refine vc_skip ?_
        refine vc_seq ?_
        refine vc_seq ?_
        refine vc_region ?_
        refine vl_val rfl (.some rfl) (by first | exact val_fieldAddr Try.runUnderlying24 rfl Try.sizeOf22 rfl | exact val_fieldAddrR Try.runUnderlying24 rfl Try.sizeOf22 rfl) ?_
        refine vl_val rfl (.some rfl) (val_load Try.isAgg22 rfl (by first | exact cell_cells (by repeat (first | exact .head | apply In.tail | apply Take.tail | apply Upd.tail)) rfl | exact cell_rd (rd_sl (by repeat (first | exact .head | apply In.tail | apply Take.tail | apply Upd.tail))) (by first | exact bcells_at (by omega) | exact ucells_at (by omega) | exact icells_at (by omega) | exact tcells_at (by omega) | exact bcells_get (by omega) | exact icells_get (by omega) | exact tcells_get (by omega) | exact ucells_get (by omega)) | exact cell_rd (rd_old (by assumption) rfl) (by first | exact bcells_at (by omega) | exact ucells_at (by omega) | exact icells_at (by omega) | exact tcells_at (by omega) | exact bcells_get (by omega) | exact icells_get (by omega) | exact tcells_get (by omega) | exact ucells_get (by omega)) | exact cell_old (by assumption) (by simp [fps]))) ?_
        refine vl_val rfl (.some rfl) (val_lenSl Try.runUnderlying22 rfl) ?_
        refine vl_val rfl (.some rfl) (val_move rfl) ?_
        refine vl_nil ?_
        refine vc_block ?_
        have hT : 2 ≤ T ∧ T ≤ 64 ∧ S.length % 2 = 1 ∧ S.length ≤ 7 := by
          simp at *
          omega
        refine vc_loopw (fun k E H => ∃ i : Nat, i ≤ S.length ∧ k = S.length - i ∧ (∀ j, j < i → ¬ badS (S.getD j (0, 0))) ∧ E = [(1, .pointer (some ⟨r1, 0, none⟩)), (34, .slice A S.length c), (35, .int .i64 S.length), (36, .int .i64 i)] ∧ H = [cells r1 [.int .i64 T, .slice A S.length c, .int .i64 Kk, .int .i64 Mm] 24]) (S.length) ⟨_, _, _, ⟨0, by omega, rfl, fun j hj => absurd hj (by omega), rfl, rfl⟩, (by repeat (first | exact trivial | refine ⟨rfl, ?_⟩ | refine ⟨le_item rfl (by first | rfl | (congr 1; omega) | (simp; done) | (simp; omega)), ?_⟩)), (by repeat (first | exact .nil | (apply Sub.cons; · repeat (first | exact .head | apply Take.tail))))⟩ ?_
        intro k E H hI
        obtain ⟨i, hil, rfl, hall, rfl, rfl⟩ := hI
        refine vc_seq ?_
        refine vc_region ?_
        refine vl_val rfl (.some rfl) (val_lt rfl rfl) ?_
        refine vl_nil ?_
        refine vc_seq ?_
        refine vc_cond rfl (fun hc1 => ?_) (fun hc1 => ?_)
        · (try replace hc1 := of_decide_eq_true hc1)
          refine vc_skip ?_
          refine vc_seq ?_
          refine vc_block ?_
          refine vc_seq ?_
          refine vc_region ?_
          refine vl_val rfl (.some rfl) (val_indexAddr Try.runUnderlying22 Try.sizeOf81 rfl rfl (rd_old hr rfl) (by omega) (by omega) (by rw [seedC_len, Int.toNat_natCast]; omega)) ?_
          refine vl_val rfl (.some rfl) (val_loadAgg Try.isAgg81 Try.sizeOf81 rfl (cells_rd (us := seedV (S.getD i (0, 0))) (rd_old hr rfl) (seed_at rfl (by omega))) rfl) ?_
          refine vl_alloc rfl rfl (.some rfl) Try.zeroValue81 (fun r5 => ?_)
          first | refine vl_store rfl rfl .none rfl rfl Try.sizeOf81 rfl (by repeat (first | exact .head | apply In.tail | apply Take.tail | apply Upd.tail)) (by first | decide | exact Nat.le_refl _ | exact Nat.le_of_ble_eq_true rfl | (simp; omega)) ?_ | refine vl_storeSl rfl rfl .none rfl rfl Try.sizeOf81 rfl (by simp [Value.cells]) (by repeat (first | exact .head | apply In.tail | apply Take.tail | apply Upd.tail)) (by first | decide | (simp [Value.cells]; omega)) ?_
          refine vl_nil ?_
          refine vc_seq ?_
          refine vc_region ?_
          refine vl_val rfl (.some rfl) (by first | exact val_fieldAddr Try.runUnderlying81 rfl Try.sizeOf30 rfl | exact val_fieldAddrR Try.runUnderlying81 rfl Try.sizeOf30 rfl) ?_
          refine vl_val rfl (.some rfl) (val_load Try.isAgg30 rfl (by first | exact cell_cells (by repeat (first | exact .head | apply In.tail | apply Take.tail | apply Upd.tail)) rfl | exact cell_rd (rd_sl (by repeat (first | exact .head | apply In.tail | apply Take.tail | apply Upd.tail))) (by first | exact bcells_at (by omega) | exact ucells_at (by omega) | exact icells_at (by omega) | exact tcells_at (by omega) | exact bcells_get (by omega) | exact icells_get (by omega) | exact tcells_get (by omega) | exact ucells_get (by omega)) | exact cell_rd (rd_old (by assumption) rfl) (by first | exact bcells_at (by omega) | exact ucells_at (by omega) | exact icells_at (by omega) | exact tcells_at (by omega) | exact bcells_get (by omega) | exact icells_get (by omega) | exact tcells_get (by omega) | exact ucells_get (by omega)) | exact cell_old (by assumption) (by simp [fps]))) ?_
          refine vl_val rfl (.some rfl) (val_eq rfl rfl) ?_
          refine vl_val rfl (.some rfl) (val_move rfl) ?_
          refine vl_split (t := 43) rfl (fun hg43 => ?_) (fun hg43 => ?_)
          · (try replace hg43 := of_decide_eq_true hg43)
            refine vl_off rfl rfl rfl rfl (.some rfl) ?_
            refine vl_off rfl rfl rfl rfl (.some rfl) ?_
            refine vl_off rfl rfl rfl rfl (.some rfl) ?_
            refine vl_val rfl (.some rfl) (val_pick rfl rfl) ?_
            refine vl_val rfl (.some rfl) (val_move rfl) ?_
            refine vl_off rfl rfl rfl rfl (.some rfl) ?_
            refine vl_off rfl rfl rfl rfl (.some rfl) ?_
            refine vl_off rfl rfl rfl rfl (.some rfl) ?_
            refine vl_val rfl (.some rfl) (val_pick rfl rfl) ?_
            refine vl_nil ?_
            refine vc_cond rfl (fun _ => ?_) (fun h => by cases h)
            refine vc_seq ?_
            refine vc_region ?_
            refine vl_val rfl (.some rfl) (val_assign rfl) ?_
            refine vl_nil ?_
            refine vc_ret ?_
            refine ⟨_, [], _, res1 Try.results24 rfl, .nil, ?_⟩
            show Value.bool false = _
            rw [decide_eq_false (p := goodK T S Kk Mm) (fun h => by obtain ⟨h1, h2, h3, h4, h5, h6⟩ := h; have h7 := h6 i (by omega); rw [badIff] at h7; unfold pM at h7; simp at *; omega)]
          · (try replace hg43 := of_decide_eq_false hg43)
            refine vl_on rfl rfl rfl rfl ?_
            refine vl_val rfl (.some rfl) (by first | exact val_fieldAddr Try.runUnderlying81 rfl Try.sizeOf30 rfl | exact val_fieldAddrR Try.runUnderlying81 rfl Try.sizeOf30 rfl) ?_
            refine vl_on rfl rfl rfl rfl ?_
            refine vl_val rfl (.some rfl) (val_load Try.isAgg30 rfl (by first | exact cell_cells (by repeat (first | exact .head | apply In.tail | apply Take.tail | apply Upd.tail)) rfl | exact cell_rd (rd_sl (by repeat (first | exact .head | apply In.tail | apply Take.tail | apply Upd.tail))) (by first | exact bcells_at (by omega) | exact ucells_at (by omega) | exact icells_at (by omega) | exact tcells_at (by omega) | exact bcells_get (by omega) | exact icells_get (by omega) | exact tcells_get (by omega) | exact ucells_get (by omega)) | exact cell_rd (rd_old (by assumption) rfl) (by first | exact bcells_at (by omega) | exact ucells_at (by omega) | exact icells_at (by omega) | exact tcells_at (by omega) | exact bcells_get (by omega) | exact icells_get (by omega) | exact tcells_get (by omega) | exact ucells_get (by omega)) | exact cell_old (by assumption) (by simp [fps]))) ?_
            refine vl_on rfl rfl rfl rfl ?_
            refine vl_val rfl (.some rfl) (val_ge rfl rfl) ?_
            refine vl_val rfl (.some rfl) (val_pick rfl rfl) ?_
            refine vl_val rfl (.some rfl) (val_move rfl) ?_
            refine vl_split (t := 48) rfl (fun hg48 => ?_) (fun hg48 => ?_)
            · (try replace hg48 := of_decide_eq_true hg48)
              refine vl_off rfl rfl rfl rfl (.some rfl) ?_
              refine vl_off rfl rfl rfl rfl (.some rfl) ?_
              refine vl_off rfl rfl rfl rfl (.some rfl) ?_
              refine vl_val rfl (.some rfl) (val_pick rfl rfl) ?_
              refine vl_nil ?_
              refine vc_cond rfl (fun _ => ?_) (fun h => by cases h)
              refine vc_seq ?_
              refine vc_region ?_
              refine vl_val rfl (.some rfl) (val_assign rfl) ?_
              refine vl_nil ?_
              refine vc_ret ?_
              refine ⟨_, [], _, res1 Try.results24 rfl, .nil, ?_⟩
              show Value.bool false = _
              rw [decide_eq_false (p := goodK T S Kk Mm) (fun h => by obtain ⟨h1, h2, h3, h4, h5, h6⟩ := h; have h7 := h6 i (by omega); rw [badIff] at h7; unfold pM at h7; simp at *; omega)]
            · (try replace hg48 := of_decide_eq_false hg48)
              refine vl_on rfl rfl rfl rfl ?_
              refine vl_val rfl (.some rfl) (by first | exact val_fieldAddr Try.runUnderlying81 rfl Try.sizeOf30 rfl | exact val_fieldAddrR Try.runUnderlying81 rfl Try.sizeOf30 rfl) ?_
              refine vl_on rfl rfl rfl rfl ?_
              refine vl_val rfl (.some rfl) (val_load Try.isAgg30 rfl (by first | exact cell_cells (by repeat (first | exact .head | apply In.tail | apply Take.tail | apply Upd.tail)) rfl | exact cell_rd (rd_sl (by repeat (first | exact .head | apply In.tail | apply Take.tail | apply Upd.tail))) (by first | exact bcells_at (by omega) | exact ucells_at (by omega) | exact icells_at (by omega) | exact tcells_at (by omega) | exact bcells_get (by omega) | exact icells_get (by omega) | exact tcells_get (by omega) | exact ucells_get (by omega)) | exact cell_rd (rd_old (by assumption) rfl) (by first | exact bcells_at (by omega) | exact ucells_at (by omega) | exact icells_at (by omega) | exact tcells_at (by omega) | exact bcells_get (by omega) | exact icells_get (by omega) | exact tcells_get (by omega) | exact ucells_get (by omega)) | exact cell_old (by assumption) (by simp [fps]))) ?_
              refine vl_on rfl rfl rfl rfl ?_
              refine vl_val rfl (.some rfl) (val_ge rfl rfl) ?_
              refine vl_val rfl (.some rfl) (val_pick rfl rfl) ?_
              refine vl_nil ?_
              refine vc_cond rfl (fun hc2 => ?_) (fun hc2 => ?_)
              · (try replace hc2 := of_decide_eq_true hc2)
                refine vc_seq ?_
                refine vc_region ?_
                refine vl_val rfl (.some rfl) (val_assign rfl) ?_
                refine vl_nil ?_
                refine vc_ret ?_
                refine ⟨_, [], _, res1 Try.results24 rfl, .nil, ?_⟩
                show Value.bool false = _
                rw [decide_eq_false (p := goodK T S Kk Mm) (fun h => by obtain ⟨h1, h2, h3, h4, h5, h6⟩ := h; have h7 := h6 i (by omega); rw [badIff] at h7; unfold pM at h7; simp at *; omega)]
              · (try replace hc2 := of_decide_eq_false hc2)
                refine vc_skip ?_
                refine vc_region ?_
                refine vl_val rfl (.some rfl) (val_add rfl rfl (by first | exact w_i64 (by omega) (by omega) | rfl)) ?_
                refine vl_val rfl (.some rfl) (val_move rfl) ?_
                refine vl_nil ?_
                exact ⟨S.length - (i + 1), _, _, _, by omega, (by repeat (first | exact trivial | refine ⟨rfl, ?_⟩ | refine ⟨le_item rfl (by first | rfl | (congr 1; omega) | (simp; done) | (simp; omega)), ?_⟩)), (by repeat (first | exact .nil | (apply Sub.cons; · repeat (first | exact .head | apply Take.tail)))), ⟨i + 1, by omega, rfl, fun j hj => by
                  rcases Nat.lt_or_ge j i with h | h
                  · exact hall j h
                  · obtain rfl : j = i := by omega
                    rw [badIff]; unfold pM; simp at *; omega, rfl, rfl⟩⟩
        · (try replace hc1 := of_decide_eq_false hc1)
          refine vc_exit ?_
          refine vc_seq ?_
          refine vc_region ?_
          refine vl_val rfl (.some rfl) (by first | exact val_fieldAddr Try.runUnderlying24 rfl Try.sizeOf3 rfl | exact val_fieldAddrR Try.runUnderlying24 rfl Try.sizeOf3 rfl) ?_
          refine vl_val rfl (.some rfl) (val_load Try.isAgg3 rfl (by first | exact cell_cells (by repeat (first | exact .head | apply In.tail | apply Take.tail | apply Upd.tail)) rfl | exact cell_rd (rd_sl (by repeat (first | exact .head | apply In.tail | apply Take.tail | apply Upd.tail))) (by first | exact bcells_at (by omega) | exact ucells_at (by omega) | exact icells_at (by omega) | exact tcells_at (by omega) | exact bcells_get (by omega) | exact icells_get (by omega) | exact tcells_get (by omega) | exact ucells_get (by omega)) | exact cell_rd (rd_old (by assumption) rfl) (by first | exact bcells_at (by omega) | exact ucells_at (by omega) | exact icells_at (by omega) | exact tcells_at (by omega) | exact bcells_get (by omega) | exact icells_get (by omega) | exact tcells_get (by omega) | exact ucells_get (by omega)) | exact cell_old (by assumption) (by simp [fps]))) ?_
          refine vl_val rfl (.some rfl) (val_ge rfl rfl) ?_
          refine vl_val rfl (.some rfl) (val_move rfl) ?_
          refine vl_split (t := 57) rfl (fun hg57 => ?_) (fun hg57 => ?_)
          · (try replace hg57 := of_decide_eq_true hg57)
            refine vl_on rfl rfl rfl rfl ?_
            refine vl_val rfl (.some rfl) (by first | exact val_fieldAddr Try.runUnderlying24 rfl Try.sizeOf3 rfl | exact val_fieldAddrR Try.runUnderlying24 rfl Try.sizeOf3 rfl) ?_
            refine vl_on rfl rfl rfl rfl ?_
            refine vl_val rfl (.some rfl) (val_load Try.isAgg3 rfl (by first | exact cell_cells (by repeat (first | exact .head | apply In.tail | apply Take.tail | apply Upd.tail)) rfl | exact cell_rd (rd_sl (by repeat (first | exact .head | apply In.tail | apply Take.tail | apply Upd.tail))) (by first | exact bcells_at (by omega) | exact ucells_at (by omega) | exact icells_at (by omega) | exact tcells_at (by omega) | exact bcells_get (by omega) | exact icells_get (by omega) | exact tcells_get (by omega) | exact ucells_get (by omega)) | exact cell_rd (rd_old (by assumption) rfl) (by first | exact bcells_at (by omega) | exact ucells_at (by omega) | exact icells_at (by omega) | exact tcells_at (by omega) | exact bcells_get (by omega) | exact icells_get (by omega) | exact tcells_get (by omega) | exact ucells_get (by omega)) | exact cell_old (by assumption) (by simp [fps]))) ?_
            refine vl_on rfl rfl rfl rfl ?_
            refine vl_val rfl (.some rfl) (val_le rfl rfl) ?_
            refine vl_val rfl (.some rfl) (val_pick rfl rfl) ?_
            refine vl_val rfl (.some rfl) (val_move rfl) ?_
            refine vl_split (t := 62) rfl (fun hg62 => ?_) (fun hg62 => ?_)
            · (try replace hg62 := of_decide_eq_true hg62)
              refine vl_on rfl rfl rfl rfl ?_
              refine vl_val rfl (.some rfl) (by first | exact val_fieldAddr Try.runUnderlying24 rfl Try.sizeOf3 rfl | exact val_fieldAddrR Try.runUnderlying24 rfl Try.sizeOf3 rfl) ?_
              refine vl_on rfl rfl rfl rfl ?_
              refine vl_val rfl (.some rfl) (val_load Try.isAgg3 rfl (by first | exact cell_cells (by repeat (first | exact .head | apply In.tail | apply Take.tail | apply Upd.tail)) rfl | exact cell_rd (rd_sl (by repeat (first | exact .head | apply In.tail | apply Take.tail | apply Upd.tail))) (by first | exact bcells_at (by omega) | exact ucells_at (by omega) | exact icells_at (by omega) | exact tcells_at (by omega) | exact bcells_get (by omega) | exact icells_get (by omega) | exact tcells_get (by omega) | exact ucells_get (by omega)) | exact cell_rd (rd_old (by assumption) rfl) (by first | exact bcells_at (by omega) | exact ucells_at (by omega) | exact icells_at (by omega) | exact tcells_at (by omega) | exact bcells_get (by omega) | exact icells_get (by omega) | exact tcells_get (by omega) | exact ucells_get (by omega)) | exact cell_old (by assumption) (by simp [fps]))) ?_
              refine vl_on rfl rfl rfl rfl ?_
              refine vl_val rfl (.some rfl) (val_ge rfl rfl) ?_
              refine vl_val rfl (.some rfl) (val_pick rfl rfl) ?_
              refine vl_val rfl (.some rfl) (val_move rfl) ?_
              refine vl_split (t := 67) rfl (fun hg67 => ?_) (fun hg67 => ?_)
              · (try replace hg67 := of_decide_eq_true hg67)
                refine vl_on rfl rfl rfl rfl ?_
                refine vl_val rfl (.some rfl) (by first | exact val_fieldAddr Try.runUnderlying24 rfl Try.sizeOf3 rfl | exact val_fieldAddrR Try.runUnderlying24 rfl Try.sizeOf3 rfl) ?_
                refine vl_on rfl rfl rfl rfl ?_
                refine vl_val rfl (.some rfl) (val_load Try.isAgg3 rfl (by first | exact cell_cells (by repeat (first | exact .head | apply In.tail | apply Take.tail | apply Upd.tail)) rfl | exact cell_rd (rd_sl (by repeat (first | exact .head | apply In.tail | apply Take.tail | apply Upd.tail))) (by first | exact bcells_at (by omega) | exact ucells_at (by omega) | exact icells_at (by omega) | exact tcells_at (by omega) | exact bcells_get (by omega) | exact icells_get (by omega) | exact tcells_get (by omega) | exact ucells_get (by omega)) | exact cell_rd (rd_old (by assumption) rfl) (by first | exact bcells_at (by omega) | exact ucells_at (by omega) | exact icells_at (by omega) | exact tcells_at (by omega) | exact bcells_get (by omega) | exact icells_get (by omega) | exact tcells_get (by omega) | exact ucells_get (by omega)) | exact cell_old (by assumption) (by simp [fps]))) ?_
                refine vl_on rfl rfl rfl rfl ?_
                refine vl_val rfl (.some rfl) (val_le rfl rfl) ?_
                refine vl_val rfl (.some rfl) (val_pick rfl rfl) ?_
                refine vl_val rfl (.some rfl) (val_assign rfl) ?_
                refine vl_nil ?_
                refine vc_ret ?_
                refine ⟨_, [], _, res1 Try.results24 rfl, .nil, ?_⟩
                obtain rfl : i = S.length := by omega
                first | (show Value.bool false = _; rw [decide_eq_false (p := goodK T S Kk Mm) (fun h => by obtain ⟨h1, h2, h3, h4, h5, h6⟩ := h; simp at *; omega)]) | (refine congrArg Value.bool ?_; rw [decide_eq_decide]; unfold goodK; simp at hg57 hg62 hg67; exact ⟨fun h => ⟨by omega, by omega, by omega, by omega, by omega, hall⟩, fun h => h.2.2.1.2⟩)
              · (try replace hg67 := of_decide_eq_false hg67)
                refine vl_off rfl rfl rfl rfl (.some rfl) ?_
                refine vl_off rfl rfl rfl rfl (.some rfl) ?_
                refine vl_off rfl rfl rfl rfl (.some rfl) ?_
                refine vl_val rfl (.some rfl) (val_pick rfl rfl) ?_
                refine vl_val rfl (.some rfl) (val_assign rfl) ?_
                refine vl_nil ?_
                refine vc_ret ?_
                refine ⟨_, [], _, res1 Try.results24 rfl, .nil, ?_⟩
                obtain rfl : i = S.length := by omega
                first | (show Value.bool false = _; rw [decide_eq_false (p := goodK T S Kk Mm) (fun h => by obtain ⟨h1, h2, h3, h4, h5, h6⟩ := h; simp at *; omega)]) | (refine congrArg Value.bool ?_; rw [decide_eq_decide]; unfold goodK; simp at hg57 hg62 hg67; exact ⟨fun h => ⟨by omega, by omega, by omega, by omega, by omega, hall⟩, fun h => h.2.2.1.2⟩)
            · (try replace hg62 := of_decide_eq_false hg62)
              refine vl_off rfl rfl rfl rfl (.some rfl) ?_
              refine vl_off rfl rfl rfl rfl (.some rfl) ?_
              refine vl_off rfl rfl rfl rfl (.some rfl) ?_
              refine vl_val rfl (.some rfl) (val_pick rfl rfl) ?_
              refine vl_val rfl (.some rfl) (val_move rfl) ?_
              refine vl_off rfl rfl rfl rfl (.some rfl) ?_
              refine vl_off rfl rfl rfl rfl (.some rfl) ?_
              refine vl_off rfl rfl rfl rfl (.some rfl) ?_
              refine vl_val rfl (.some rfl) (val_pick rfl rfl) ?_
              refine vl_val rfl (.some rfl) (val_assign rfl) ?_
              refine vl_nil ?_
              refine vc_ret ?_
              refine ⟨_, [], _, res1 Try.results24 rfl, .nil, ?_⟩
              obtain rfl : i = S.length := by omega
              first | (show Value.bool false = _; rw [decide_eq_false (p := goodK T S Kk Mm) (fun h => by obtain ⟨h1, h2, h3, h4, h5, h6⟩ := h; simp at *; omega)]) | (refine congrArg Value.bool ?_; rw [decide_eq_decide]; unfold goodK; simp at hg57 hg62 hg67; exact ⟨fun h => ⟨by omega, by omega, by omega, by omega, by omega, hall⟩, fun h => h.2.2.1.2⟩)
          · (try replace hg57 := of_decide_eq_false hg57)
            refine vl_off rfl rfl rfl rfl (.some rfl) ?_
            refine vl_off rfl rfl rfl rfl (.some rfl) ?_
            refine vl_off rfl rfl rfl rfl (.some rfl) ?_
            refine vl_val rfl (.some rfl) (val_pick rfl rfl) ?_
            refine vl_val rfl (.some rfl) (val_move rfl) ?_
            refine vl_off rfl rfl rfl rfl (.some rfl) ?_
            refine vl_off rfl rfl rfl rfl (.some rfl) ?_
            refine vl_off rfl rfl rfl rfl (.some rfl) ?_
            refine vl_val rfl (.some rfl) (val_pick rfl rfl) ?_
            refine vl_val rfl (.some rfl) (val_move rfl) ?_
            refine vl_off rfl rfl rfl rfl (.some rfl) ?_
            refine vl_off rfl rfl rfl rfl (.some rfl) ?_
            refine vl_off rfl rfl rfl rfl (.some rfl) ?_
            refine vl_val rfl (.some rfl) (val_pick rfl rfl) ?_
            refine vl_val rfl (.some rfl) (val_assign rfl) ?_
            refine vl_nil ?_
            refine vc_ret ?_
            refine ⟨_, [], _, res1 Try.results24 rfl, .nil, ?_⟩
            obtain rfl : i = S.length := by omega
            first | (show Value.bool false = _; rw [decide_eq_false (p := goodK T S Kk Mm) (fun h => by obtain ⟨h1, h2, h3, h4, h5, h6⟩ := h; simp at *; omega)]) | (refine congrArg Value.bool ?_; rw [decide_eq_decide]; unfold goodK; simp at hg57 hg62 hg67; exact ⟨fun h => ⟨by omega, by omega, by omega, by omega, by omega, hall⟩, fun h => h.2.2.1.2⟩)
set_option maxRecDepth 20000 in
theorem wNewBad (T Kk Mm : Int) (A : Option Addr) (c : Nat) (S : List (Nat × Nat)) (hS : S.length < 9223372036854775808) (hb : ∀ s ∈ S, s.1 < 18446744073709551616 ∧ s.2 < 18446744073709551616) (w : World) (hr : Reads w A (seedC S)) (hg : ¬ goodK T S Kk Mm) : FnV Try.prog 23 [(.agg #[.int .i64 T, .slice A S.length c, .int .i64 Kk, .int .i64 Mm])] (.pointer none) w := by
  refine fn_enter Try.func23 rfl Try.ntmps23 rfl ?_
  refine vc_seq ?_
  refine vc_region ?_
  refine vl_box rfl rfl (.some rfl) rfl (fun r1 => ?_)
  refine vl_val rfl (.some rfl) (val_assign rfl) ?_
  refine vl_nil ?_
  refine vc_seq ?_
  refine vc_seq ?_
  refine vc_region ?_
  refine vl_val rfl (.some rfl) (val_loadAgg Try.isAgg24 Try.sizeOf24 rfl (by first | exact cells_whole (by repeat (first | exact .head | apply In.tail | apply Take.tail | apply Upd.tail)) | exact cells_part (by repeat (first | exact .head | apply In.tail | apply Take.tail | apply Upd.tail)) rfl) rfl) ?_
  refine vl_callV rfl rfl (.some rfl) Try.call24 rfl (fun w hw => wGood T Kk Mm A c S hS hb w (rdw (rd_old hr rfl) hw)) ?_
  rw [decide_eq_false hg]
  refine vl_val rfl (.some rfl) (val_not rfl) ?_
  refine vl_nil ?_
  refine vc_cond rfl (fun _ => ?_) (fun h => by cases h)
  refine vc_seq ?_
  refine vc_region ?_
  refine vl_val rfl (.some rfl) (val_assign rfl) ?_
  refine vl_nil ?_
  refine vc_ret ?_
  refine ⟨_, [], _, res1 Try.results23 rfl, .nil, ?_⟩
  rfl
set_option maxRecDepth 20000 in
set_option maxHeartbeats 1000000 in
theorem wNew0 (t : Nat) (Kk Mm : Int) (A : Option Addr) (c : Nat) (S : List (Nat × Nat)) (hS : S.length < 9223372036854775808) (hb : ∀ s ∈ S, s.1 < 18446744073709551616 ∧ s.2 < 18446744073709551616) (w : World) (hr : Reads w A (seedC S)) (hg : goodK t S Kk Mm) : Fn Try.prog 23 [(.agg #[.int .i64 (t : Nat), .slice A S.length c, .int .i64 Kk, .int .i64 Mm])] [] (ret fun v H' => ∃ b As cs Al cl, v = .pointer (some ⟨b, 0, none⟩) ∧ H' = [SDc As S.length cs S, RKb b t As S.length cs Al S.length cl, HR Al S.length cl (List.replicate S.length (.slice none 0 0))]) w := by
  have h7 := hg.2.2.2.2.1
  refine fn_enter Try.func23 rfl Try.ntmps23 rfl ?_
  refine vc_seq ?_
  refine vc_region ?_
  refine vl_box rfl rfl (.some rfl) rfl (fun r1 => ?_)
  refine vl_val rfl (.some rfl) (val_assign rfl) ?_
  refine vl_nil ?_
  refine vc_seq ?_
  refine vc_seq ?_
  refine vc_region ?_
  refine vl_val rfl (.some rfl) (val_loadAgg Try.isAgg24 Try.sizeOf24 rfl (by first | exact cells_whole (by repeat (first | exact .head | apply In.tail | apply Take.tail | apply Upd.tail)) | exact cells_part (by repeat (first | exact .head | apply In.tail | apply Take.tail | apply Upd.tail)) rfl) rfl) ?_
  refine vl_callV rfl rfl (.some rfl) Try.call24 rfl (fun w hw => wGood t Kk Mm A c S hS hb w (rdw (rd_old hr rfl) hw)) ?_
  rw [decide_eq_true hg]
  refine vl_val rfl (.some rfl) (val_not rfl) ?_
  refine vl_nil ?_
  refine vc_cond rfl (fun h => by cases h) (fun _ => ?_)
  refine vc_skip ?_
  refine vc_seq ?_
  refine vc_drawsS [0, 1, 3, 4, 6, 8] [] [0, 1, 3, 4, 2, 5, 6, 7, 8] [cells r1 [.int .i64 (t : Nat), .slice A S.length c, .int .i64 Kk, .int .i64 Mm] 24] (by repeat (first | exact .nil | (apply Sub.cons; · repeat (first | exact .head | apply Take.tail)))) rfl (by kernel_rfl) (fun _ _ _ h => h) ?_
  refine vd_val rfl rfl rfl (.some rfl) (by first | exact val_fieldAddr Try.runUnderlying24 rfl Try.sizeOf3 rfl | exact val_fieldAddrR Try.runUnderlying24 rfl Try.sizeOf3 rfl) ?_
  refine vd_val rfl rfl rfl (.some rfl) (val_load Try.isAgg3 rfl (by first | exact cell_cells (by repeat (first | exact .head | apply In.tail | apply Take.tail | apply Upd.tail)) rfl | exact cell_rd (rd_sl (by repeat (first | exact .head | apply In.tail | apply Take.tail | apply Upd.tail))) (by first | exact bcells_at (by omega) | exact ucells_at (by omega) | exact icells_at (by omega) | exact tcells_at (by omega) | exact bcells_get (by omega) | exact icells_get (by omega) | exact tcells_get (by omega) | exact ucells_get (by omega)) | exact cell_rd (rd_old (by assumption) rfl) (by first | exact bcells_at (by omega) | exact ucells_at (by omega) | exact icells_at (by omega) | exact tcells_at (by omega) | exact bcells_get (by omega) | exact icells_get (by omega) | exact tcells_get (by omega) | exact ucells_get (by omega)) | exact cell_old (by assumption) (by simp [fps]))) ?_
  refine vd_val rfl rfl rfl (.some rfl) (by first | exact val_fieldAddr Try.runUnderlying24 rfl Try.sizeOf22 rfl | exact val_fieldAddrR Try.runUnderlying24 rfl Try.sizeOf22 rfl) ?_
  refine vd_val rfl rfl rfl (.some rfl) (val_load Try.isAgg22 rfl (by first | exact cell_cells (by repeat (first | exact .head | apply In.tail | apply Take.tail | apply Upd.tail)) rfl | exact cell_rd (rd_sl (by repeat (first | exact .head | apply In.tail | apply Take.tail | apply Upd.tail))) (by first | exact bcells_at (by omega) | exact ucells_at (by omega) | exact icells_at (by omega) | exact tcells_at (by omega) | exact bcells_get (by omega) | exact icells_get (by omega) | exact tcells_get (by omega) | exact ucells_get (by omega)) | exact cell_rd (rd_old (by assumption) rfl) (by first | exact bcells_at (by omega) | exact ucells_at (by omega) | exact icells_at (by omega) | exact tcells_at (by omega) | exact bcells_get (by omega) | exact icells_get (by omega) | exact tcells_get (by omega) | exact ucells_get (by omega)) | exact cell_old (by assumption) (by simp [fps]))) ?_
  refine vd_op rfl rfl ?_
  refine vl_lit0 sT22 Try.sizeOf81 rfl rfl (.some rfl) (fun r9 => ?_)
  refine vl_nil ?_
  refine ⟨fun _ => ⟨_, (by repeat (first | exact .nil | (apply Sub.cons; · repeat (first | exact .head | apply Take.tail))))⟩, ?_⟩
  refine vd_op rfl rfl ?_
  refine vl_append sT22 rfl rfl (.some rfl) rfl rfl (rd_old hr rfl) (by rw [seedC_len]) (one_s S) (by omega) (by omega) (by repeat (first | exact .head | apply In.tail | apply Take.tail | apply Upd.tail)) (fun A12 k12 => ?_)
  rw [Nat.zero_add, List.nil_append]
  refine vl_nil ?_
  refine ⟨fun _ => ⟨_, (by repeat (first | exact .nil | (apply Sub.cons; · repeat (first | exact .head | apply Take.tail))))⟩, ?_⟩
  refine vd_val rfl rfl rfl (.some rfl) (val_buildSt (pl := #[(0, 1), (1, 1), (2, 1)]) (cs := #[.int .i64 (t : Nat), .slice A12 S.length k12, .slice none 0 0]) Try.runUnderlying96 Try.zeroValue96 (fun w => by kernel_rfl) rfl rfl) ?_
  refine vd_op rfl rfl ?_
  refine vl_box rfl rfl (.some rfl) rfl (fun r14 => ?_)
  refine vl_nil ?_
  refine ⟨fun _ => ⟨_, (by repeat (first | exact .nil | (apply Sub.cons; · repeat (first | exact .head | apply Take.tail))))⟩, ?_⟩
  refine vd_val rfl rfl rfl (.some rfl) (val_assign rfl) ?_
  refine vd_nil ?_
  refine vc_seq ?_
  refine vc_seq ?_
  refine vc_region ?_
  refine vl_val rfl (.some rfl) (by first | exact val_fieldAddr Try.runUnderlying24 rfl Try.sizeOf22 rfl | exact val_fieldAddrR Try.runUnderlying24 rfl Try.sizeOf22 rfl) ?_
  refine vl_val rfl (.some rfl) (val_load Try.isAgg22 rfl (by first | exact cell_cells (by repeat (first | exact .head | apply In.tail | apply Take.tail | apply Upd.tail)) rfl | exact cell_rd (rd_sl (by repeat (first | exact .head | apply In.tail | apply Take.tail | apply Upd.tail))) (by first | exact bcells_at (by omega) | exact ucells_at (by omega) | exact icells_at (by omega) | exact tcells_at (by omega) | exact bcells_get (by omega) | exact icells_get (by omega) | exact tcells_get (by omega) | exact ucells_get (by omega)) | exact cell_rd (rd_old (by assumption) rfl) (by first | exact bcells_at (by omega) | exact ucells_at (by omega) | exact icells_at (by omega) | exact tcells_at (by omega) | exact bcells_get (by omega) | exact icells_get (by omega) | exact tcells_get (by omega) | exact ucells_get (by omega)) | exact cell_old (by assumption) (by simp [fps]))) ?_
  refine vl_val rfl (.some rfl) (val_lenSl Try.runUnderlying22 rfl) ?_
  refine vl_val rfl (.some rfl) (val_move rfl) ?_
  refine vl_nil ?_
  refine vc_block ?_
  refine vc_eqv (nil_row _) ?_
  refine vc_loopw (fun k E H => ∃ (i : Nat) (Al : Option Addr) (cl : Nat), i ≤ S.length ∧ k = S.length - i ∧ E = [(3, .pointer (some ⟨r14, 0, none⟩)), (17, .int .i64 S.length), (18, .int .i64 i)] ∧ H = [HR Al i cl (List.replicate i (.slice none 0 0)), RKb r14 t A12 S.length k12 Al i cl, SDc A12 S.length k12 S]) (S.length) ⟨_, _, _, ⟨0, none, 0, by omega, rfl, rfl, rfl⟩, (by repeat (first | exact trivial | refine ⟨rfl, ?_⟩ | refine ⟨le_item rfl (by first | rfl | (congr 1; omega) | (simp; done) | (simp; omega)), ?_⟩)), (by repeat (first | exact .nil | (apply Sub.cons; · repeat (first | exact .head | apply Take.tail))))⟩ ?_
  intro k E H hI
  obtain ⟨i, Al, cl, hil, rfl, rfl, rfl⟩ := hI
  refine vc_seq ?_
  refine vc_region ?_
  refine vl_val rfl (.some rfl) (val_lt rfl rfl) ?_
  refine vl_nil ?_
  refine vc_seq ?_
  refine vc_cond rfl (fun hc1 => ?_) (fun hc1 => ?_)
  · (try replace hc1 := of_decide_eq_true hc1)
    refine vc_skip ?_
    refine vc_seq ?_
    refine vc_block ?_
    refine vc_region ?_
    refine vl_val rfl (.some rfl) (val_move rfl) ?_
    refine vl_val rfl (.some rfl) (val_move rfl) ?_
    refine vl_val rfl (.some rfl) (val_nil rfl rfl) ?_
    refine vl_val rfl (.some rfl) (by first | exact val_fieldAddr Try.runUnderlying96 rfl Try.sizeOf33 rfl | exact val_fieldAddrR Try.runUnderlying96 rfl Try.sizeOf33 rfl) ?_
    refine vl_val rfl (.some rfl) (val_load Try.isAgg33 rfl (by first | exact cell_cells (by repeat (first | exact .head | apply In.tail | apply Take.tail | apply Upd.tail)) rfl | exact cell_rd (rd_sl (by repeat (first | exact .head | apply In.tail | apply Take.tail | apply Upd.tail))) (by first | exact bcells_at (by omega) | exact ucells_at (by omega) | exact icells_at (by omega) | exact tcells_at (by omega) | exact bcells_get (by omega) | exact icells_get (by omega) | exact tcells_get (by omega) | exact ucells_get (by omega)) | exact cell_rd (rd_old (by assumption) rfl) (by first | exact bcells_at (by omega) | exact ucells_at (by omega) | exact icells_at (by omega) | exact tcells_at (by omega) | exact bcells_get (by omega) | exact icells_get (by omega) | exact tcells_get (by omega) | exact ucells_get (by omega)) | exact cell_old (by assumption) (by simp [fps]))) ?_
    refine vl_lit sT33 rfl rfl (.some rfl) rfl rfl rfl (by decide) (by decide) rfl (show _ = [Value.slice none 0 0] from rfl) (fun r25 => ?_)
    refine vl_append (A := Al) (n := i) (c := cl) (vs := List.replicate i (.slice none 0 0)) sT33 rfl rfl (.some rfl) rfl rfl (rd_sl (A := some ⟨r25, 0, none⟩) (vs := [Value.slice none 0 0]) (by repeat (first | exact .head | apply In.tail | apply Take.tail | apply Upd.tail))) rfl rfl (by omega) (by omega) (by repeat (first | exact .head | apply In.tail | apply Take.tail | apply Upd.tail)) (fun A26 k26 => ?_)
    rw [show List.replicate i (Value.slice none 0 0) ++ [Value.slice none 0 0] = List.replicate (i + 1) (Value.slice none 0 0) by rw [List.replicate_succ']]
    refine vl_val rfl (.some rfl) (val_nil rfl rfl) ?_
    refine vl_val rfl (.some rfl) (by first | exact val_fieldAddr Try.runUnderlying96 rfl Try.sizeOf33 rfl | exact val_fieldAddrR Try.runUnderlying96 rfl Try.sizeOf33 rfl) ?_
    first | refine vl_store rfl rfl .none rfl rfl Try.sizeOf33 rfl (by repeat (first | exact .head | apply In.tail | apply Take.tail | apply Upd.tail)) (by first | decide | exact Nat.le_refl _ | exact Nat.le_of_ble_eq_true rfl | (simp; omega)) ?_ | refine vl_storeSl rfl rfl .none rfl rfl Try.sizeOf33 rfl (by simp [Value.cells]) (by repeat (first | exact .head | apply In.tail | apply Take.tail | apply Upd.tail)) (by first | decide | (simp [Value.cells]; omega)) ?_
    refine vl_nil ?_
    refine vc_region ?_
    refine vl_val rfl (.some rfl) (val_add rfl rfl (by first | exact w_i64 (by omega) (by omega) | rfl)) ?_
    refine vl_val rfl (.some rfl) (val_move rfl) ?_
    refine vl_nil ?_
    exact ⟨S.length - (i + 1), _, _, _, by omega, (by repeat (first | exact trivial | refine ⟨rfl, ?_⟩ | refine ⟨le_item rfl (by first | rfl | (congr 1; omega) | (simp; done) | (simp; omega)), ?_⟩)), (by repeat (first | exact .nil | (apply Sub.cons; · repeat (first | exact .head | apply Take.tail)))), ⟨i + 1, A26, k26, by omega, rfl, rfl, rfl⟩⟩
  · (try replace hc1 := of_decide_eq_false hc1)
    refine vc_exit ?_
    refine vc_seq ?_
    refine vc_region ?_
    refine vl_val rfl (.some rfl) (val_move rfl) ?_
    refine vl_val rfl (.some rfl) (val_assign rfl) ?_
    refine vl_nil ?_
    refine vc_ret ?_
    refine ⟨_, [SDc A12 S.length k12 S, RKb r14 t A12 S.length k12 Al i cl, HR Al i cl (List.replicate i (.slice none 0 0))], _, res1 Try.results23 rfl, (by repeat (first | exact .nil | (apply Sub.cons; · repeat (first | exact .head | apply Take.tail)))), ?_⟩
    obtain rfl : i = S.length := by omega
    exact ⟨r14, A12, k12, Al, cl, rfl, rfl⟩
set_option maxRecDepth 20000 in
set_option maxHeartbeats 1000000 in
theorem wAdd (A : Option Addr) (c : Nat) (l : List Nat) (h t : Nat) (hri : Rise l) (hlt : l.length ≤ t) (ht1 : 0 < t) (ht : t ≤ 1000) (hh : h < 18446744073709551616) (w : World) (hr : Reads w A (ucells l)) : Fn Try.prog 61 [.slice A l.length c, .int .u64 h, .int .i64 t] [] (ret fun u H' => ∃ A' c', u = .slice A' (putK t l h).length c' ∧ H' = [UW A' (putK t l h).length c' (putK t l h)]) w := by
  have hple := lowN_le l h
  refine fn_enter Try.func61 rfl Try.ntmps61 rfl ?_
  refine vc_seq ?_
  refine vc_region ?_
  refine vl_val rfl (.some rfl) (val_assign rfl) ?_
  refine vl_nil ?_
  refine vc_seq ?_
  refine vc_region ?_
  refine vl_val rfl (.some rfl) (val_assign rfl) ?_
  refine vl_nilSl 30 1 ?_
  refine vl_nil ?_
  refine vc_seq ?_
  refine vc_region ?_
  refine vl_val rfl (.some rfl) (val_assign rfl) ?_
  refine vl_nil ?_
  refine vc_seq ?_
  refine vc_seq ?_
  refine vc_region ?_
  refine vl_val rfl (.some rfl) (val_move rfl) ?_
  refine vl_val rfl (.some rfl) (val_lenSl Try.runUnderlying25 rfl) ?_
  refine vl_val rfl (.some rfl) (val_move rfl) ?_
  refine vl_nil ?_
  refine vc_block ?_
  refine vc_loopw (fun k E H => ∃ (i : Nat) (A2 : Option Addr) (c2 : Nat), i ≤ l.length ∧ k = l.length - i ∧ E = [(0, .slice A l.length c), (1, .int .u64 h), (2, .int .i64 t), (7, .slice A2 (outA l h i).length c2), (8, .bool (decide (lowN l h < i))), (11, .slice A l.length c), (12, .int .i64 l.length), (13, .int .i64 i)] ∧ H = [UW A2 (outA l h i).length c2 (outA l h i)]) (l.length) ⟨_, _, _, ⟨0, none, 0, by omega, rfl, rfl, rfl⟩, (by repeat (first | exact trivial | refine ⟨rfl, ?_⟩ | refine ⟨le_item rfl (by first | rfl | (congr 1; omega) | (simp; done) | (simp; omega)), ?_⟩)), (by repeat (first | exact .nil | (apply Sub.cons; · repeat (first | exact .head | apply Take.tail))))⟩ ?_
  intro k E H hI
  obtain ⟨i, A2, c2, hi, rfl, rfl, rfl⟩ := hI
  refine vc_seq ?_
  refine vc_region ?_
  refine vl_val rfl (.some rfl) (val_lt rfl rfl) ?_
  refine vl_nil ?_
  refine vc_seq ?_
  refine vc_cond rfl (fun hc0 => ?_) (fun hc0 => ?_)
  · (try replace hc0 := of_decide_eq_true hc0)
    have hat := low_at (h := h) hri (show i < l.length by omega)
    have hol := outA_len (l := l) (h := h) (i := i)
    have hgt := fun hp => low_gt (h := h) (i := i) hri hp (by omega)
    refine vc_skip ?_
    refine vc_seq ?_
    refine vc_block ?_
    refine vc_seq ?_
    refine vc_region ?_
    refine vl_val rfl (.some rfl) (val_indexAddr Try.runUnderlying25 Try.sizeOf30 rfl rfl (by first | exact rd_sl (by repeat (first | exact .head | apply In.tail | apply Take.tail | apply Upd.tail)) | exact rd_slr (by repeat (first | exact .head | apply In.tail | apply Take.tail | apply Upd.tail)) | exact rd_old (by assumption) rfl) (by omega) (by omega) (by first | omega | (simp only [bcells_length, icells_length, ucells_length, tcells_length]; omega) | (simp only [bcells_length, icells_length, ucells_length, tcells_length, fillG_length]; omega) | (simp; omega))) ?_
    refine vl_val rfl (.some rfl) (val_load Try.isAgg30 rfl (by first | exact cell_cells (by repeat (first | exact .head | apply In.tail | apply Take.tail | apply Upd.tail)) rfl | exact cell_rd (rd_sl (by repeat (first | exact .head | apply In.tail | apply Take.tail | apply Upd.tail))) (by first | exact bcells_at (by omega) | exact ucells_at (by omega) | exact icells_at (by omega) | exact tcells_at (by omega) | exact bcells_get (by omega) | exact icells_get (by omega) | exact tcells_get (by omega) | exact ucells_get (by omega)) | exact cell_rd (rd_old (by assumption) rfl) (by first | exact bcells_at (by omega) | exact ucells_at (by omega) | exact icells_at (by omega) | exact tcells_at (by omega) | exact bcells_get (by omega) | exact icells_get (by omega) | exact tcells_get (by omega) | exact ucells_get (by omega)) | exact cell_old (by assumption) (by simp [fps]))) ?_
    refine vl_val rfl (.some rfl) (val_assign rfl) ?_
    refine vl_nil ?_
    refine vc_seq ?_
    refine vc_seq ?_
    refine vc_region ?_
    refine vl_val rfl (.some rfl) (val_move rfl) ?_
    refine vl_val rfl (.some rfl) (val_not rfl) ?_
    refine vl_val rfl (.some rfl) (val_move rfl) ?_
    refine vl_split (t := 19) rfl (fun hg19 => ?_) (fun hg19 => ?_)
    · (try replace hg19 := of_decide_eq_true hg19)
      have hnd : ¬ lowN l h < i := by simpa using hg19
      refine vl_on rfl rfl rfl rfl ?_
      refine vl_val rfl (.some rfl) (val_move rfl) ?_
      refine vl_on rfl rfl rfl rfl ?_
      refine vl_val rfl (.some rfl) (val_move rfl) ?_
      refine vl_on rfl rfl rfl rfl ?_
      refine vl_val rfl (.some rfl) (val_ge rfl rfl) ?_
      refine vl_val rfl (.some rfl) (val_pick rfl rfl) ?_
      refine vl_nil ?_
      refine vc_cond rfl (fun hc1 => ?_) (fun hc1 => ?_)
      · (try replace hc1 := of_decide_eq_true hc1)
        refine vc_seq ?_
        refine vc_region ?_
        refine vl_val rfl (.some rfl) (val_move rfl) ?_
        refine vl_val rfl (.some rfl) (val_move rfl) ?_
        refine vl_lit sT25 rfl rfl (.some rfl) rfl rfl rfl (by decide) (by decide) rfl (show _ = ucells [h] from rfl) (fun r26 => ?_)
        refine vl_append sT25 rfl rfl (.some rfl) rfl rfl (rd_sl (A := some ⟨r26, 0, none⟩) (vs := ucells [h]) (by repeat (first | exact .head | apply In.tail | apply Take.tail | apply Upd.tail))) (by rfl) (by rfl) (by first | omega | (simp only [List.length_append, List.length_cons, List.length_nil]; omega)) (by first | omega | (simp only [List.length_append, List.length_cons, List.length_nil]; omega)) (by repeat (first | exact .head | apply In.tail | apply Take.tail | apply Upd.tail)) (fun A27 k27 => ?_)
        rw [ucells_appM, len_snoc (x := h)]
        refine vl_val rfl (.some rfl) (val_assign rfl) ?_
        refine vl_nil ?_
        refine vc_region ?_
        refine vl_val rfl (.some rfl) (val_assign rfl) ?_
        refine vl_nil ?_
        refine vc_seq ?_
        refine vc_region ?_
        refine vl_val rfl (.some rfl) (val_move rfl) ?_
        refine vl_val rfl (.some rfl) (val_move rfl) ?_
        refine vl_val rfl (.some rfl) (val_ne rfl rfl) ?_
        refine vl_nil ?_
        refine vc_cond rfl (fun hc2 => ?_) (fun hc2 => ?_)
        · (try replace hc2 := of_decide_eq_true hc2)
          refine vc_region ?_
          refine vl_val rfl (.some rfl) (val_move rfl) ?_
          refine vl_val rfl (.some rfl) (val_move rfl) ?_
          refine vl_lit sT25 rfl rfl (.some rfl) rfl rfl rfl (by decide) (by decide) rfl (show _ = ucells [(l.getD i 0)] from rfl) (fun r33 => ?_)
          refine vl_append sT25 rfl rfl (.some rfl) rfl rfl (rd_sl (A := some ⟨r33, 0, none⟩) (vs := ucells [(l.getD i 0)]) (by repeat (first | exact .head | apply In.tail | apply Take.tail | apply Upd.tail))) (by rfl) (by rfl) (by first | omega | (simp only [List.length_append, List.length_cons, List.length_nil]; omega)) (by first | omega | (simp only [List.length_append, List.length_cons, List.length_nil]; omega)) (by repeat (first | exact .head | apply In.tail | apply Take.tail | apply Upd.tail)) (fun A34 k34 => ?_)
          rw [ucells_appM, len_snoc (x := (l.getD i 0))]
          refine vl_val rfl (.some rfl) (val_assign rfl) ?_
          refine vl_nil ?_
          refine vc_region ?_
          refine vl_val rfl (.some rfl) (val_add rfl rfl (by first | exact w_i64 (by omega) (by omega) | rfl)) ?_
          refine vl_val rfl (.some rfl) (val_move rfl) ?_
          refine vl_nil ?_
          first | rw [outA_new hri (by omega) (by omega) (by omega)] | rw [outA_hit hri (by omega) (by omega) (by omega)] | rw [outA_low (by omega)] | rw [outA_more (by omega) (by omega)] | rw [show outA l h i = outA l h (i + 1) from False.elim (by omega)]
          exact ⟨(l.length - (i + 1)), _, _, _, by omega, (by repeat (first | exact trivial | refine ⟨rfl, ?_⟩ | refine ⟨le_item rfl (by first | rfl | (congr 1; omega) | (simp; done) | (simp; omega)), ?_⟩)), (by repeat (first | exact .nil | (apply Sub.cons; · repeat (first | exact .head | apply Take.tail)))), ⟨i + 1, _, _, by omega, rfl, rfl, rfl⟩⟩
        · (try replace hc2 := of_decide_eq_false hc2)
          refine vc_skip ?_
          refine vc_region ?_
          refine vl_val rfl (.some rfl) (val_add rfl rfl (by first | exact w_i64 (by omega) (by omega) | rfl)) ?_
          refine vl_val rfl (.some rfl) (val_move rfl) ?_
          refine vl_nil ?_
          first | rw [outA_new hri (by omega) (by omega) (by omega)] | rw [outA_hit hri (by omega) (by omega) (by omega)] | rw [outA_low (by omega)] | rw [outA_more (by omega) (by omega)] | rw [show outA l h i = outA l h (i + 1) from False.elim (by omega)]
          exact ⟨(l.length - (i + 1)), _, _, _, by omega, (by repeat (first | exact trivial | refine ⟨rfl, ?_⟩ | refine ⟨le_item rfl (by first | rfl | (congr 1; omega) | (simp; done) | (simp; omega)), ?_⟩)), (by repeat (first | exact .nil | (apply Sub.cons; · repeat (first | exact .head | apply Take.tail)))), ⟨i + 1, _, _, by omega, rfl, rfl, rfl⟩⟩
      · (try replace hc1 := of_decide_eq_false hc1)
        refine vc_skip ?_
        refine vc_seq ?_
        refine vc_region ?_
        refine vl_val rfl (.some rfl) (val_move rfl) ?_
        refine vl_val rfl (.some rfl) (val_move rfl) ?_
        refine vl_val rfl (.some rfl) (val_ne rfl rfl) ?_
        refine vl_nil ?_
        refine vc_cond rfl (fun hc2 => ?_) (fun hc2 => ?_)
        · (try replace hc2 := of_decide_eq_true hc2)
          refine vc_region ?_
          refine vl_val rfl (.some rfl) (val_move rfl) ?_
          refine vl_val rfl (.some rfl) (val_move rfl) ?_
          refine vl_lit sT25 rfl rfl (.some rfl) rfl rfl rfl (by decide) (by decide) rfl (show _ = ucells [(l.getD i 0)] from rfl) (fun r33 => ?_)
          refine vl_append sT25 rfl rfl (.some rfl) rfl rfl (rd_sl (A := some ⟨r33, 0, none⟩) (vs := ucells [(l.getD i 0)]) (by repeat (first | exact .head | apply In.tail | apply Take.tail | apply Upd.tail))) (by rfl) (by rfl) (by first | omega | (simp only [List.length_append, List.length_cons, List.length_nil]; omega)) (by first | omega | (simp only [List.length_append, List.length_cons, List.length_nil]; omega)) (by repeat (first | exact .head | apply In.tail | apply Take.tail | apply Upd.tail)) (fun A34 k34 => ?_)
          rw [ucells_appM, len_snoc (x := (l.getD i 0))]
          refine vl_val rfl (.some rfl) (val_assign rfl) ?_
          refine vl_nil ?_
          refine vc_region ?_
          refine vl_val rfl (.some rfl) (val_add rfl rfl (by first | exact w_i64 (by omega) (by omega) | rfl)) ?_
          refine vl_val rfl (.some rfl) (val_move rfl) ?_
          refine vl_nil ?_
          first | rw [outA_new hri (by omega) (by omega) (by omega)] | rw [outA_hit hri (by omega) (by omega) (by omega)] | rw [outA_low (by omega)] | rw [outA_more (by omega) (by omega)] | rw [show outA l h i = outA l h (i + 1) from False.elim (by omega)]
          exact ⟨(l.length - (i + 1)), _, _, _, by omega, (by repeat (first | exact trivial | refine ⟨rfl, ?_⟩ | refine ⟨le_item rfl (by first | rfl | (congr 1; omega) | (simp; done) | (simp; omega)), ?_⟩)), (by repeat (first | exact .nil | (apply Sub.cons; · repeat (first | exact .head | apply Take.tail)))), ⟨i + 1, _, _, by omega, rfl, rfl, rfl⟩⟩
        · (try replace hc2 := of_decide_eq_false hc2)
          refine vc_skip ?_
          refine vc_region ?_
          refine vl_val rfl (.some rfl) (val_add rfl rfl (by first | exact w_i64 (by omega) (by omega) | rfl)) ?_
          refine vl_val rfl (.some rfl) (val_move rfl) ?_
          refine vl_nil ?_
          first | rw [outA_new hri (by omega) (by omega) (by omega)] | rw [outA_hit hri (by omega) (by omega) (by omega)] | rw [outA_low (by omega)] | rw [outA_more (by omega) (by omega)] | rw [show outA l h i = outA l h (i + 1) from False.elim (by omega)]
          exact ⟨(l.length - (i + 1)), _, _, _, by omega, (by repeat (first | exact trivial | refine ⟨rfl, ?_⟩ | refine ⟨le_item rfl (by first | rfl | (congr 1; omega) | (simp; done) | (simp; omega)), ?_⟩)), (by repeat (first | exact .nil | (apply Sub.cons; · repeat (first | exact .head | apply Take.tail)))), ⟨i + 1, _, _, by omega, rfl, rfl, rfl⟩⟩
    · (try replace hg19 := of_decide_eq_false hg19)
      have hnd : lowN l h < i := by simpa using hg19
      have hgt2 := hgt hnd
      refine vl_off rfl rfl rfl rfl (.some rfl) ?_
      refine vl_off rfl rfl rfl rfl (.some rfl) ?_
      refine vl_off rfl rfl rfl rfl (.some rfl) ?_
      refine vl_val rfl (.some rfl) (val_pick rfl rfl) ?_
      refine vl_nil ?_
      refine vc_cond rfl (fun h => by cases h) (fun _ => ?_)
      refine vc_skip ?_
      refine vc_seq ?_
      refine vc_region ?_
      refine vl_val rfl (.some rfl) (val_move rfl) ?_
      refine vl_val rfl (.some rfl) (val_move rfl) ?_
      refine vl_val rfl (.some rfl) (val_ne rfl rfl) ?_
      refine vl_nil ?_
      refine vc_cond rfl (fun hc2 => ?_) (fun hc2 => ?_)
      · (try replace hc2 := of_decide_eq_true hc2)
        refine vc_region ?_
        refine vl_val rfl (.some rfl) (val_move rfl) ?_
        refine vl_val rfl (.some rfl) (val_move rfl) ?_
        refine vl_lit sT25 rfl rfl (.some rfl) rfl rfl rfl (by decide) (by decide) rfl (show _ = ucells [(l.getD i 0)] from rfl) (fun r33 => ?_)
        refine vl_append sT25 rfl rfl (.some rfl) rfl rfl (rd_sl (A := some ⟨r33, 0, none⟩) (vs := ucells [(l.getD i 0)]) (by repeat (first | exact .head | apply In.tail | apply Take.tail | apply Upd.tail))) (by rfl) (by rfl) (by first | omega | (simp only [List.length_append, List.length_cons, List.length_nil]; omega)) (by first | omega | (simp only [List.length_append, List.length_cons, List.length_nil]; omega)) (by repeat (first | exact .head | apply In.tail | apply Take.tail | apply Upd.tail)) (fun A34 k34 => ?_)
        rw [ucells_appM, len_snoc (x := (l.getD i 0))]
        refine vl_val rfl (.some rfl) (val_assign rfl) ?_
        refine vl_nil ?_
        refine vc_region ?_
        refine vl_val rfl (.some rfl) (val_add rfl rfl (by first | exact w_i64 (by omega) (by omega) | rfl)) ?_
        refine vl_val rfl (.some rfl) (val_move rfl) ?_
        refine vl_nil ?_
        first | rw [outA_new hri (by omega) (by omega) (by omega)] | rw [outA_hit hri (by omega) (by omega) (by omega)] | rw [outA_low (by omega)] | rw [outA_more (by omega) (by omega)] | rw [show outA l h i = outA l h (i + 1) from False.elim (by omega)]
        exact ⟨(l.length - (i + 1)), _, _, _, by omega, (by repeat (first | exact trivial | refine ⟨rfl, ?_⟩ | refine ⟨le_item rfl (by first | rfl | (congr 1; omega) | (simp; done) | (simp; omega)), ?_⟩)), (by repeat (first | exact .nil | (apply Sub.cons; · repeat (first | exact .head | apply Take.tail)))), ⟨i + 1, _, _, by omega, rfl, rfl, rfl⟩⟩
      · (try replace hc2 := of_decide_eq_false hc2)
        refine vc_skip ?_
        refine vc_region ?_
        refine vl_val rfl (.some rfl) (val_add rfl rfl (by first | exact w_i64 (by omega) (by omega) | rfl)) ?_
        refine vl_val rfl (.some rfl) (val_move rfl) ?_
        refine vl_nil ?_
        first | rw [outA_new hri (by omega) (by omega) (by omega)] | rw [outA_hit hri (by omega) (by omega) (by omega)] | rw [outA_low (by omega)] | rw [outA_more (by omega) (by omega)] | rw [show outA l h i = outA l h (i + 1) from False.elim (by omega)]
        exact ⟨(l.length - (i + 1)), _, _, _, by omega, (by repeat (first | exact trivial | refine ⟨rfl, ?_⟩ | refine ⟨le_item rfl (by first | rfl | (congr 1; omega) | (simp; done) | (simp; omega)), ?_⟩)), (by repeat (first | exact .nil | (apply Sub.cons; · repeat (first | exact .head | apply Take.tail)))), ⟨i + 1, _, _, by omega, rfl, rfl, rfl⟩⟩
  · (try replace hc0 := of_decide_eq_false hc0)
    refine vc_exit ?_
    refine vc_seq ?_
    refine vc_seq ?_
    refine vc_region ?_
    refine vl_val rfl (.some rfl) (val_move rfl) ?_
    refine vl_val rfl (.some rfl) (val_not rfl) ?_
    refine vl_nil ?_
    refine vc_cond rfl (fun hc3 => ?_) (fun hc3 => ?_)
    · (try replace hc3 := of_decide_eq_true hc3)
      obtain rfl : i = l.length := by omega
      have hlp : ¬ lowN l h < l.length := by simpa using hc3
      have hfin := outA_no (h := h) hri hlt (by omega)
      have hol := outA_len (l := l) (h := h) (i := l.length)
      refine vc_region ?_
      refine vl_val rfl (.some rfl) (val_move rfl) ?_
      refine vl_val rfl (.some rfl) (val_move rfl) ?_
      refine vl_lit sT25 rfl rfl (.some rfl) rfl rfl rfl (by decide) (by decide) rfl (show _ = ucells [h] from rfl) (fun r40 => ?_)
      refine vl_append sT25 rfl rfl (.some rfl) rfl rfl (rd_sl (A := some ⟨r40, 0, none⟩) (vs := ucells [h]) (by repeat (first | exact .head | apply In.tail | apply Take.tail | apply Upd.tail))) (by rfl) (by rfl) (by first | omega | (simp only [List.length_append, List.length_cons, List.length_nil]; omega)) (by first | omega | (simp only [List.length_append, List.length_cons, List.length_nil]; omega)) (by repeat (first | exact .head | apply In.tail | apply Take.tail | apply Upd.tail)) (fun A41 k41 => ?_)
      rw [ucells_appM, len_snoc (x := h)]
      refine vl_val rfl (.some rfl) (val_assign rfl) ?_
      refine vl_nil ?_
      refine vc_seq ?_
      refine vc_seq ?_
      refine vc_region ?_
      refine vl_val rfl (.some rfl) (val_move rfl) ?_
      refine vl_val rfl (.some rfl) (val_lenSl Try.runUnderlying25 rfl) ?_
      refine vl_val rfl (.some rfl) (val_move rfl) ?_
      refine vl_val rfl (.some rfl) (val_gt rfl rfl) ?_
      refine vl_nil ?_
      refine vc_cond rfl (fun hc4 => ?_) (fun hc4 => ?_)
      · (try replace hc4 := of_decide_eq_true hc4)
        refine vc_region ?_
        refine vl_slCap (e := 30) (sz := 1) .head (fun hcap => ?_)
        refine vl_front (k := t) (sz := 1) (e := 30) .head (by omega) (by omega) ?_
        rw [Nat.mul_one, ← ucells_takeM, hfin]
        refine vl_val rfl (.some rfl) (val_move rfl) ?_
        refine vl_val rfl (.some rfl) (val_move rfl) ?_
        refine vl_val rfl (.some rfl) (val_cutTo Try.runUnderlying25 Try.sizeOf30 rfl rfl (by omega) (by omega)) ?_
        refine vl_val rfl (.some rfl) (val_assign rfl) ?_
        refine vl_nil ?_
        refine vc_seq ?_
        refine vc_region ?_
        refine vl_val rfl (.some rfl) (val_move rfl) ?_
        refine vl_val rfl (.some rfl) (val_assign rfl) ?_
        refine vl_nil ?_
        refine vc_ret ?_
        first | (have hpl : (putK t l h).length = t := (by rw [← hfin, List.length_take]; omega)
                 refine ⟨_, [sl _ t _ 30 1 (ucells (putK t l h))], _, res1 Try.results61 rfl, (by repeat (first | exact .nil | (apply Sub.cons; · repeat (first | exact .head | apply Take.tail)))), ?_⟩
                 exact ⟨_, _, (by rw [hpl]; rfl), (by rw [hpl])⟩) | (rw [List.take_of_length_le (by omega)] at hfin; rw [hfin]; refine ⟨_, [UW _ (putK t l h).length _ (putK t l h)], _, res1 Try.results61 rfl, (by repeat (first | exact .nil | (apply Sub.cons; · repeat (first | exact .head | apply Take.tail)))), ?_⟩; exact ⟨_, _, rfl, rfl⟩)
      · (try replace hc4 := of_decide_eq_false hc4)
        refine vc_skip ?_
        refine vc_seq ?_
        refine vc_region ?_
        refine vl_val rfl (.some rfl) (val_move rfl) ?_
        refine vl_val rfl (.some rfl) (val_assign rfl) ?_
        refine vl_nil ?_
        refine vc_ret ?_
        first | (have hpl : (putK t l h).length = t := (by rw [← hfin, List.length_take]; omega)
                 refine ⟨_, [sl _ t _ 30 1 (ucells (putK t l h))], _, res1 Try.results61 rfl, (by repeat (first | exact .nil | (apply Sub.cons; · repeat (first | exact .head | apply Take.tail)))), ?_⟩
                 exact ⟨_, _, (by rw [hpl]; rfl), (by rw [hpl])⟩) | (rw [List.take_of_length_le (by omega)] at hfin; rw [hfin]; refine ⟨_, [UW _ (putK t l h).length _ (putK t l h)], _, res1 Try.results61 rfl, (by repeat (first | exact .nil | (apply Sub.cons; · repeat (first | exact .head | apply Take.tail)))), ?_⟩; exact ⟨_, _, rfl, rfl⟩)
    · (try replace hc3 := of_decide_eq_false hc3)
      obtain rfl : i = l.length := by omega
      have hlp : lowN l h < l.length := by simpa using hc3
      have hfin := outA_yes (h := h) hri hlt (by omega)
      have hol := outA_len (l := l) (h := h) (i := l.length)
      refine vc_skip ?_
      refine vc_seq ?_
      refine vc_seq ?_
      refine vc_region ?_
      refine vl_val rfl (.some rfl) (val_move rfl) ?_
      refine vl_val rfl (.some rfl) (val_lenSl Try.runUnderlying25 rfl) ?_
      refine vl_val rfl (.some rfl) (val_move rfl) ?_
      refine vl_val rfl (.some rfl) (val_gt rfl rfl) ?_
      refine vl_nil ?_
      refine vc_cond rfl (fun hc4 => ?_) (fun hc4 => ?_)
      · (try replace hc4 := of_decide_eq_true hc4)
        refine vc_region ?_
        refine vl_slCap (e := 30) (sz := 1) .head (fun hcap => ?_)
        refine vl_front (k := t) (sz := 1) (e := 30) .head (by omega) (by omega) ?_
        rw [Nat.mul_one, ← ucells_takeM, hfin]
        refine vl_val rfl (.some rfl) (val_move rfl) ?_
        refine vl_val rfl (.some rfl) (val_move rfl) ?_
        refine vl_val rfl (.some rfl) (val_cutTo Try.runUnderlying25 Try.sizeOf30 rfl rfl (by omega) (by omega)) ?_
        refine vl_val rfl (.some rfl) (val_assign rfl) ?_
        refine vl_nil ?_
        refine vc_seq ?_
        refine vc_region ?_
        refine vl_val rfl (.some rfl) (val_move rfl) ?_
        refine vl_val rfl (.some rfl) (val_assign rfl) ?_
        refine vl_nil ?_
        refine vc_ret ?_
        first | (have hpl : (putK t l h).length = t := (by rw [← hfin, List.length_take]; omega)
                 refine ⟨_, [sl _ t _ 30 1 (ucells (putK t l h))], _, res1 Try.results61 rfl, (by repeat (first | exact .nil | (apply Sub.cons; · repeat (first | exact .head | apply Take.tail)))), ?_⟩
                 exact ⟨_, _, (by rw [hpl]; rfl), (by rw [hpl])⟩) | (rw [List.take_of_length_le (by omega)] at hfin; rw [hfin]; refine ⟨_, [UW _ (putK t l h).length _ (putK t l h)], _, res1 Try.results61 rfl, (by repeat (first | exact .nil | (apply Sub.cons; · repeat (first | exact .head | apply Take.tail)))), ?_⟩; exact ⟨_, _, rfl, rfl⟩)
      · (try replace hc4 := of_decide_eq_false hc4)
        refine vc_skip ?_
        refine vc_seq ?_
        refine vc_region ?_
        refine vl_val rfl (.some rfl) (val_move rfl) ?_
        refine vl_val rfl (.some rfl) (val_assign rfl) ?_
        refine vl_nil ?_
        refine vc_ret ?_
        first | (have hpl : (putK t l h).length = t := (by rw [← hfin, List.length_take]; omega)
                 refine ⟨_, [sl _ t _ 30 1 (ucells (putK t l h))], _, res1 Try.results61 rfl, (by repeat (first | exact .nil | (apply Sub.cons; · repeat (first | exact .head | apply Take.tail)))), ?_⟩
                 exact ⟨_, _, (by rw [hpl]; rfl), (by rw [hpl])⟩) | (rw [List.take_of_length_le (by omega)] at hfin; rw [hfin]; refine ⟨_, [UW _ (putK t l h).length _ (putK t l h)], _, res1 Try.results61 rfl, (by repeat (first | exact .nil | (apply Sub.cons; · repeat (first | exact .head | apply Take.tail)))), ?_⟩; exact ⟨_, _, rfl, rfl⟩)

end Go.Proofs.Ytclknendeeljaaa.K
