/- Walks of the program's functions, printed by a program of this session; Lean checks them. -/
import Derived.Test.YtdehjgpdcdjhjaaCd
import Derived.Test.YtdehjgpdcdjhjaaYgn
namespace Go.Proofs.Ytdehjgpdcdjhjaa.K
open Go Go.RowKit Go.Proofs
set_option linter.unusedVariables false
set_option linter.unusedSimpArgs false
theorem pre_eq {α : Type} [DecidableEq α] {a b : List α} {i : Nat} (d : α) (h : a.take i = b.take i) (hi : i < a.length) (hl : a.length = b.length) (he : a.getD i d = b.getD i d) : a.take (i + 1) = b.take (i + 1) := by
  rw [List.take_add_one, List.take_add_one, h]
  congr 1
  rw [List.getD_eq_getElem?_getD, List.getD_eq_getElem?_getD, List.getElem?_eq_getElem hi, List.getElem?_eq_getElem (by omega)] at he
  rw [List.getElem?_eq_getElem hi, List.getElem?_eq_getElem (by omega)]
  simpa using he
theorem ne_at {α : Type} {a b : List α} {i : Nat} (d : α) (he : a.getD i d ≠ b.getD i d) : a ≠ b := fun h => he (by rw [h])

set_option maxRecDepth 20000 in
theorem rInts (A B : Option Addr) (c d : Nat) (a b : List Int) (ha : a.length ≤ 1000000000000) (w : World) (hr : Reads w A (icells .i64 a)) (hr2 : Reads w B (icells .i64 b)) : FnV Try.prog 33 [.slice A a.length c, .slice B b.length d] (.bool (decide (a = b))) w := by
  refine fn_enter Try.func33 rfl Try.ntmps33 rfl ?_
  refine vc_seq ?_
  refine vc_region ?_
  refine vl_val rfl (.some rfl) (val_assign rfl) ?_
  refine vl_nil ?_
  refine vc_seq ?_
  refine vc_seq ?_
  refine vc_region ?_
  refine vl_val rfl (.some rfl) (val_move rfl) ?_
  refine vl_val rfl (.some rfl) (val_lenSl Try.runUnderlying22 rfl) ?_
  refine vl_val rfl (.some rfl) (val_move rfl) ?_
  refine vl_val rfl (.some rfl) (val_lenSl Try.runUnderlying22 rfl) ?_
  refine vl_val rfl (.some rfl) (val_ne rfl rfl) ?_
  refine vl_nil ?_
  refine vc_cond rfl (fun hc0 => ?_) (fun hc0 => ?_)
  · (try replace hc0 := of_decide_eq_true hc0)
    refine vc_seq ?_
    refine vc_region ?_
    refine vl_val rfl (.some rfl) (val_assign rfl) ?_
    refine vl_nil ?_
    refine vc_ret ?_
    refine ⟨_, [], _, res1 Try.results33 rfl, .nil, ?_⟩
    show _ = _; rw [decide_eq_false (fun h => hc0 (by rw [h]))]
  · (try replace hc0 := of_decide_eq_false hc0)
    have hlen : a.length = b.length := by omega
    refine vc_skip ?_
    refine vc_seq ?_
    refine vc_seq ?_
    refine vc_region ?_
    refine vl_val rfl (.some rfl) (val_move rfl) ?_
    refine vl_val rfl (.some rfl) (val_lenSl Try.runUnderlying22 rfl) ?_
    refine vl_val rfl (.some rfl) (val_move rfl) ?_
    refine vl_nil ?_
    refine vc_block ?_
    refine vc_loopw (fun k E H => ∃ i : Nat, i ≤ a.length ∧ k = a.length - i ∧ a.take i = b.take i ∧ E = [(0, .slice A a.length c), (1, .slice B b.length d), (12, .int .i64 a.length), (13, .int .i64 i)] ∧ H = []) (a.length) ⟨_, _, _, ⟨0, by omega, rfl, rfl, rfl, rfl⟩, (by repeat (first | exact trivial | refine ⟨rfl, ?_⟩ | refine ⟨le_item rfl (by first | rfl | (congr 1; omega) | (simp; done) | (simp; omega)), ?_⟩)), (by repeat constructor)⟩ ?_
    intro k E H hI
    obtain ⟨i, hi, rfl, ht, rfl, rfl⟩ := hI
    refine vc_seq ?_
    refine vc_region ?_
    refine vl_val rfl (.some rfl) (val_lt rfl rfl) ?_
    refine vl_nil ?_
    refine vc_seq ?_
    refine vc_cond rfl (fun hc1 => ?_) (fun hc1 => ?_)
    · (try replace hc1 := of_decide_eq_true hc1)
      refine vc_skip ?_
      refine vc_seq ?_
      refine vc_block ?_
      refine vc_seq ?_
      refine vc_region ?_
      refine vl_val rfl (.some rfl) (val_move rfl) ?_
      refine vl_val rfl (.some rfl) (val_assign rfl) ?_
      refine vl_nil ?_
      refine vc_seq ?_
      refine vc_draws [0, 1, 2, 3, 4, 5, 6, 7, 8] [] [0, 1, 2, 3, 4, 5, 6, 7, 8] rfl (by kernel_rfl) (fun _ _ _ h => h) ?_
      refine vd_val rfl rfl rfl (.some rfl) (val_move rfl) ?_
      refine vd_val rfl rfl rfl (.some rfl) (val_move rfl) ?_
      refine vd_val rfl rfl rfl (.some rfl) (val_indexAddr Try.runUnderlying22 Try.sizeOf3 rfl rfl (by first | exact rd_sl (by repeat constructor) | exact rd_slr (by repeat constructor) | exact rd_old (by assumption) rfl) (by omega) (by omega) (by first | omega | (simp only [bcells_length, icells_length, ucells_length, tcells_length]; omega) | (simp only [bcells_length, icells_length, ucells_length, tcells_length, fillG_length]; omega) | (simp; omega))) ?_
      refine vd_val rfl rfl rfl (.some rfl) (val_load Try.isAgg3 rfl (by first | exact cell_cells (by repeat constructor) rfl | exact cell_rd (by first | exact rd_sl (by repeat constructor) | exact rd_old (by assumption) rfl) (by first | exact bcells_at (by omega) | exact ucells_at (by omega) | exact icells_at (by omega) | exact tcells_at (by omega) | exact bcells_get (by omega) | exact icells_get (by omega) | exact tcells_get (by omega) | exact ucells_get (by omega)) | exact cell_old (by assumption) (by simp [fps]))) ?_
      refine vd_val rfl rfl rfl (.some rfl) (val_move rfl) ?_
      refine vd_val rfl rfl rfl (.some rfl) (val_move rfl) ?_
      refine vd_val rfl rfl rfl (.some rfl) (val_indexAddr Try.runUnderlying22 Try.sizeOf3 rfl rfl (by first | exact rd_sl (by repeat constructor) | exact rd_slr (by repeat constructor) | exact rd_old (by assumption) rfl) (by omega) (by omega) (by first | omega | (simp only [bcells_length, icells_length, ucells_length, tcells_length]; omega) | (simp only [bcells_length, icells_length, ucells_length, tcells_length, fillG_length]; omega) | (simp; omega))) ?_
      refine vd_val rfl rfl rfl (.some rfl) (val_load Try.isAgg3 rfl (by first | exact cell_cells (by repeat constructor) rfl | exact cell_rd (by first | exact rd_sl (by repeat constructor) | exact rd_old (by assumption) rfl) (by first | exact bcells_at (by omega) | exact ucells_at (by omega) | exact icells_at (by omega) | exact tcells_at (by omega) | exact bcells_get (by omega) | exact icells_get (by omega) | exact tcells_get (by omega) | exact ucells_get (by omega)) | exact cell_old (by assumption) (by simp [fps]))) ?_
      refine vd_val rfl rfl rfl (.some rfl) (val_ne rfl rfl) ?_
      refine vd_nil ?_
      refine vc_cond rfl (fun hc2 => ?_) (fun hc2 => ?_)
      · (try replace hc2 := of_decide_eq_true hc2)
        refine vc_seq ?_
        refine vc_region ?_
        refine vl_val rfl (.some rfl) (val_assign rfl) ?_
        refine vl_nil ?_
        refine vc_ret ?_
        refine ⟨_, [], _, res1 Try.results33 rfl, .nil, ?_⟩
        show _ = _; rw [decide_eq_false (ne_at 0 (i := i) (by omega))]
      · (try replace hc2 := of_decide_eq_false hc2)
        refine vc_skip ?_
        refine vc_region ?_
        refine vl_val rfl (.some rfl) (val_add rfl rfl (by first | exact w_i64 (by omega) (by omega) | rfl)) ?_
        refine vl_val rfl (.some rfl) (val_move rfl) ?_
        refine vl_nil ?_
        exact ⟨a.length - (i + 1), _, _, _, by omega, (by repeat (first | exact trivial | refine ⟨rfl, ?_⟩ | refine ⟨le_item rfl (by first | rfl | (congr 1; omega) | (simp; done) | (simp; omega)), ?_⟩)), (by repeat constructor), ⟨i + 1, by omega, rfl, pre_eq 0 ht (by omega) hlen (by omega), rfl, rfl⟩⟩
    · (try replace hc1 := of_decide_eq_false hc1)
      refine vc_exit ?_
      refine vc_seq ?_
      refine vc_region ?_
      refine vl_val rfl (.some rfl) (val_assign rfl) ?_
      refine vl_nil ?_
      refine vc_ret ?_
      refine ⟨_, [], _, res1 Try.results33 rfl, .nil, ?_⟩
      show _ = _; rw [decide_eq_true (by rw [List.take_of_length_le (by omega), List.take_of_length_le (by omega)] at ht; exact ht)]




theorem vl_push1 {α : Type} (f : α → List Chunk) {X : Cx} {Q : Post} {E : Env} {H F F1 : List Chunk} {ops : Array Oper} {rest : List Oper} {l : List α} {x : α} {c0 : Chunk} (hf : f x = [c0]) (h1 : Take c0 H F1) (h2 : Take (big (l.flatMap f)) F1 F) (h : VL X ops rest Q E (big ((l ++ [x]).flatMap f) :: F)) : VL X ops rest Q E H := by
  refine vl_eqv ((Eqv.perm (h1.perm.trans (h2.perm.cons c0))).trans ?_) h
  have := eqv_push f l x F
  rw [hf] at this
  exact this
theorem rowsSt_push {s : Sg} {Ds : List (List Vk)} {c r : Nat} {A : Option Addr} {rs : List Rw} {ρ : List Vk} (h : RowsSt s Ds r rs) (hr : rs.length = r) (hl : ρ.length = s.cs.length) (hc : ∀ j, j < s.cs.length → cellP s Ds r j = some (ρ.getD j z3)) : RowsSt s Ds (r + 1) (rs ++ [(A, c, ρ)]) := by
  intro j hj
  by_cases e : j = r
  · subst e
    have : (rs ++ [(A, c, ρ)]).getD j rw0 = (A, c, ρ) := by simp [List.getD, ← hr]
    rw [this]
    exact ⟨hl, hc⟩
  · have : (rs ++ [(A, c, ρ)]).getD j rw0 = rs.getD j rw0 := by simp [List.getD, List.getElem?_append_left (show j < rs.length by omega)]
    rw [this]
    exact h j (by omega)
theorem cells_push {s : Sg} {Ds : List (List Vk)} {r i : Nat} {ρ : List Vk} {x : Vk} (hl : ρ.length = i) (h : ∀ j, j < i → cellP s Ds r j = some (ρ.getD j z3)) (hx : cellP s Ds r i = some x) : ∀ j, j < i + 1 → cellP s Ds r j = some ((ρ ++ [x]).getD j z3) := by
  intro j hj
  by_cases e : j = i
  · subst e
    rw [hx]; simp [List.getD, ← hl]
  · rw [h j (by omega)]
    simp [List.getD, List.getElem?_append_left (show j < ρ.length by omega)]
theorem cell_null {s : Sg} {Ds : List (List Vk)} {r i : Nat} (hn : (s.cs.getD i ([], [])).1.getD r false = true) : cellP s Ds r i = some z3 := by
  unfold cellP rowV1; rw [if_pos hn]
theorem cell_val {s : Sg} {Ds : List (List Vk)} {r i : Nat} (hn : ¬ (s.cs.getD i ([], [])).1.getD r false = true) (hv : 0 ≤ (s.cs.getD i ([], [])).2.getD r 0 ∧ (s.cs.getD i ([], [])).2.getD r 0 < (Ds.getD i []).length) : cellP s Ds r i = some ((Ds.getD i []).getD ((s.cs.getD i ([], [])).2.getD r 0).toNat z3) := by
  unfold cellP rowV1; rw [if_neg hn, if_pos hv]

set_option maxRecDepth 20000 in
set_option maxHeartbeats 2000000 in
theorem xRows (n : Int) (Ac : Option Addr) (cc : Nat) (vs : List Vc) (Az : Option Addr) (cz : Nat) (zs : List Zn) (hlc : vs.length < 4611686018427387904) (hlz : zs.length < 4611686018427387904) (hwz : ∀ z ∈ zs, WV z.lo ∧ WV z.hi) (ds : List Xd) (Ad : Option Addr) (cd : Nat) (hdl : ds.length ≤ 1000000) (hgk : goodSg (⟨n, vs.map vcP, zs⟩ : Sg) → ∀ i, i < ds.length → okK (ds.getD i xd0).kd) (w : World) (hrs : SgRM w (fps [XB ds]) Ac vs Az zs) (hdp : ReadsM w (fps [XB ds]) Ad (ds.map xdP)) : Fn Try.prog 13 [sgV n Ac cc vs Az cz zs, .slice Ad ds.length cd] [XB ds] (ret fun v H' => ∃ (Ao : Option Addr) (co : Nat) (rs : List Rw) (e : Int), v = .tuple #[.slice Ao rs.length co, .int .i64 e] ∧ H' = [XB ds, sl Ao rs.length co 53 1 (rs.flatMap rowV), big (rs.flatMap rwH)] ∧ rowsP (⟨n, vs.map vcP, zs⟩ : Sg) (ds.map (·.vs)) = (e, rs.map (·.2.2))) w := by
  have hml : (vs.map vcP).length = vs.length := List.length_map _
  have hmg : ∀ i, (vs.map vcP).getD i ([], []) = vcP (vs.getD i vc0) := fun i => map_getDs vc0 ([], []) rfl
  have hdv : (ds.map (·.vs)).length = ds.length := List.length_map _
  have hdg : ∀ i, (ds.map (·.vs)).getD i [] = (ds.getD i xd0).vs := fun i => map_getDs xd0 [] rfl
  refine fn_enter Try.func13 rfl Try.ntmps13 rfl ?_
  refine vc_seq ?_
  refine vc_region ?_
  refine vl_box rfl rfl (.some rfl) rfl (fun r2 => ?_)
  refine vl_val rfl (.some rfl) (val_assign rfl) ?_
  refine vl_val rfl (.some rfl) (val_assign rfl) ?_
  refine vl_nil ?_
  refine vc_seq ?_
  refine vc_seq ?_
  refine vc_region ?_
  refine vl_val rfl (.some rfl) (val_loadAgg Try.isAgg41 Try.sizeOf41 rfl (by first | exact cells_whole (by repeat constructor) | exact cells_part (by repeat constructor) rfl) rfl) ?_
  refine vl_callV rfl rfl (.some rfl) Try.call38 rfl (fun w hw => xGoodS n Ac cc vs Az cz zs hlc hlz hwz w (sgRM_R hrs hw)) ?_
  refine vl_val rfl (.some rfl) (val_not rfl) ?_
  refine vl_val rfl (.some rfl) (val_move rfl) ?_
  refine vl_split (t := 19) rfl (fun hg19 => ?_) (fun hg19 => ?_)
  · (try replace hg19 := of_decide_eq_true hg19)
    have hng : ¬ goodSg (⟨n, vs.map vcP, zs⟩ : Sg) := by simpa using hg19
    refine vl_off rfl rfl rfl rfl (.some rfl) ?_
    refine vl_off rfl rfl rfl rfl (.some rfl) ?_
    refine vl_off rfl rfl rfl rfl (.some rfl) ?_
    refine vl_off rfl rfl rfl rfl (.some rfl) ?_
    refine vl_off rfl rfl rfl rfl (.some rfl) ?_
    refine vl_off rfl rfl rfl rfl (.some rfl) ?_
    refine vl_val rfl (.some rfl) (val_pick rfl rfl) ?_
    refine vl_nil ?_
    refine vc_cond rfl (fun _ => ?_) (fun h => by cases h)
    refine vc_seq ?_
    refine vc_region ?_
    refine vl_val rfl (.some rfl) (val_assign rfl) ?_
    refine vl_nilSl 53 1 ?_
    refine vl_eqv (eqv_nil _) ?_
    refine vl_val rfl (.some rfl) (val_assign rfl) ?_
    refine vl_nil ?_
    refine vc_ret ?_
    refine ⟨_, [XB ds, sl none 0 0 53 1 [], big []], _, res2 Try.results13 rfl rfl, (by repeat constructor), ?_⟩
    exact ⟨none, 0, [], _, rfl, rfl, rowsP_arg (by first | exact .inl hng | exact .inr (by show (ds.map (·.vs)).length ≠ (vs.map vcP).length; omega))⟩
  · (try replace hg19 := of_decide_eq_false hg19)
    have hgd : goodSg (⟨n, vs.map vcP, zs⟩ : Sg) := by simpa using hg19
    have hok := hgk hgd
    have hgd2 := hgd
    obtain ⟨⟨hn1, hn2⟩, ⟨hc1, hc2⟩, hz, hall⟩ := hgd2
    simp only [hml] at hn1 hn2 hc1 hc2 hz hall
    refine vl_on rfl rfl rfl rfl ?_
    refine vl_val rfl (.some rfl) (val_move rfl) ?_
    refine vl_on rfl rfl rfl rfl ?_
    refine vl_val rfl (.some rfl) (val_lenSl Try.runUnderlying27 rfl) ?_
    refine vl_on rfl rfl rfl rfl ?_
    refine vl_val rfl (.some rfl) (by first | exact val_fieldAddr Try.runUnderlying41 rfl Try.sizeOf38 rfl | exact val_fieldAddrR Try.runUnderlying41 rfl Try.sizeOf38 rfl) ?_
    refine vl_on rfl rfl rfl rfl ?_
    refine vl_val rfl (.some rfl) (val_load Try.isAgg38 rfl (by first | exact cell_cells (by repeat constructor) rfl | exact cell_rd (by first | exact rd_sl (by repeat constructor) | exact rd_old (by assumption) rfl) (by first | exact bcells_at (by omega) | exact ucells_at (by omega) | exact icells_at (by omega) | exact tcells_at (by omega) | exact bcells_get (by omega) | exact icells_get (by omega) | exact tcells_get (by omega) | exact ucells_get (by omega)) | exact cell_old (by assumption) (by simp [fps]))) ?_
    refine vl_on rfl rfl rfl rfl ?_
    refine vl_val rfl (.some rfl) (val_lenSl Try.runUnderlying38 rfl) ?_
    refine vl_on rfl rfl rfl rfl ?_
    refine vl_val rfl (.some rfl) (val_ne rfl rfl) ?_
    refine vl_val rfl (.some rfl) (val_pick rfl rfl) ?_
    refine vl_nil ?_
    refine vc_cond rfl (fun hc0 => ?_) (fun hc0 => ?_)
    · (try replace hc0 := of_decide_eq_true hc0)
      refine vc_seq ?_
      refine vc_region ?_
      refine vl_val rfl (.some rfl) (val_assign rfl) ?_
      refine vl_nilSl 53 1 ?_
      refine vl_eqv (eqv_nil _) ?_
      refine vl_val rfl (.some rfl) (val_assign rfl) ?_
      refine vl_nil ?_
      refine vc_ret ?_
      refine ⟨_, [XB ds, sl none 0 0 53 1 [], big []], _, res2 Try.results13 rfl rfl, (by repeat constructor), ?_⟩
      exact ⟨none, 0, [], _, rfl, rfl, rowsP_arg (by first | exact .inl hng | exact .inr (by show (ds.map (·.vs)).length ≠ (vs.map vcP).length; omega))⟩
    · (try replace hc0 := of_decide_eq_false hc0)
      have hdc : ds.length = vs.length := by omega
      obtain ⟨N, rfl⟩ : ∃ N : Nat, n = (N : Int) := ⟨n.toNat, by omega⟩
      refine vc_skip ?_
      refine vc_seq ?_
      refine vc_seq ?_
      refine vc_region ?_
      refine vl_val rfl (.some rfl) (val_move rfl) ?_
      refine vl_val rfl (.some rfl) (val_lenSl Try.runUnderlying27 rfl) ?_
      refine vl_val rfl (.some rfl) (val_move rfl) ?_
      refine vl_nil ?_
      refine vc_block ?_
      refine vc_loopw (fun k E H => ∃ i : Nat, i ≤ ds.length ∧ k = ds.length - i ∧ E = [(1, .slice Ad ds.length cd), (2, .pointer (some ⟨r2, 0, none⟩)), (27, .slice Ad ds.length cd), (28, .int .i64 ds.length), (29, .int .i64 i)] ∧ H = [cells r2 [.int .i64 (N : Int), .slice Ac vs.length cc, .slice Az zs.length cz] 41, XB ds]) (ds.length) ⟨_, _, _, ⟨0, by omega, rfl, rfl, rfl⟩, (by repeat (first | exact trivial | refine ⟨rfl, ?_⟩ | refine ⟨le_item rfl (by first | rfl | (congr 1; omega) | (simp; done) | (simp; omega)), ?_⟩)), (by repeat constructor)⟩ ?_
      intro k E H hI
      obtain ⟨i, hi, rfl, rfl, rfl⟩ := hI
      refine vc_seq ?_
      refine vc_region ?_
      refine vl_val rfl (.some rfl) (val_lt rfl rfl) ?_
      refine vl_nil ?_
      refine vc_seq ?_
      refine vc_cond rfl (fun hc1 => ?_) (fun hc1 => ?_)
      · (try replace hc1 := of_decide_eq_true hc1)
        have hi8 : i < ds.length := by omega
        refine vc_skip ?_
        refine vc_seq ?_
        refine vc_block ?_
        refine vc_seq ?_
        refine vc_region ?_
        refine vl_val rfl (.some rfl) (val_indexAddr Try.runUnderlying27 Try.sizeOf50 rfl rfl (rd_oldM hdp) (by omega) (by omega) (by rw [List.length_map]; omega)) ?_
        refine vl_val rfl (.some rfl) (val_load Try.isAgg50 rfl (cell_rd (rd_oldM hdp) (map_at xd0 (by omega)))) ?_
        refine vl_val rfl (.some rfl) (val_assign rfl) ?_
        refine vl_nil ?_
        refine vc_seq ?_
        refine vc_region ?_
        refine vl_val rfl (.some rfl) (val_move rfl) ?_
        refine vl_val rfl (.some rfl) (val_eqv (v' := .bool false) (congrArg Value.bool (decide_eq_false (fun h => h (hok i hi8)))) (xd_nilE Try.runUnderlying50 rfl rfl)) ?_
        refine vl_nil ?_
        refine vc_cond rfl (fun h => by cases h) (fun _ => ?_)
        refine vc_skip ?_
        refine vc_region ?_
        refine vl_val rfl (.some rfl) (val_add rfl rfl (by first | exact w_i64 (by omega) (by omega) | rfl)) ?_
        refine vl_val rfl (.some rfl) (val_move rfl) ?_
        refine vl_nil ?_
        exact ⟨ds.length - (i + 1), _, _, _, by omega, (by repeat (first | exact trivial | refine ⟨rfl, ?_⟩ | refine ⟨le_item rfl (by first | rfl | (congr 1; omega) | (simp; done) | (simp; omega)), ?_⟩)), (by repeat constructor), ⟨i + 1, by omega, rfl, rfl, rfl⟩⟩
      · (try replace hc1 := of_decide_eq_false hc1)
        refine vc_exit ?_
        refine vc_seq ?_
        refine vc_region ?_
        refine vl_val rfl (.some rfl) (val_assign rfl) ?_
        refine vl_nilSl 53 1 ?_
        refine vl_eqv (eqv_nil _) ?_
        refine vl_nil ?_
        refine vc_seq ?_
        refine vc_seq ?_
        refine vc_region ?_
        refine vl_val rfl (.some rfl) (val_assign rfl) ?_
        refine vl_nil ?_
        refine vc_block ?_
        refine vc_loopw (fun k E H => ∃ (r : Nat) (Ao : Option Addr) (co : Nat) (rs : List Rw), r ≤ N ∧ k = N - r ∧ rs.length = r ∧ RowsSt (⟨(N : Int), vs.map vcP, zs⟩ : Sg) (ds.map (·.vs)) r rs ∧ E = [(1, .slice Ad ds.length cd), (2, .pointer (some ⟨r2, 0, none⟩)), (8, .slice Ao r co), (9, .int .i64 (r : Int))] ∧ H = [cells r2 [.int .i64 (N : Int), .slice Ac vs.length cc, .slice Az zs.length cz] 41, sl Ao r co 53 1 (rs.flatMap rowV), big (rs.flatMap rwH), XB ds]) (N) ⟨_, _, _, ⟨0, none, 0, [], by omega, rfl, rfl, fun j h => absurd h (Nat.not_lt_zero _), rfl, rfl⟩, (by repeat (first | exact trivial | refine ⟨rfl, ?_⟩ | refine ⟨le_item rfl (by first | rfl | (congr 1; omega) | (simp; done) | (simp; omega)), ?_⟩)), (by repeat constructor)⟩ ?_
        intro k E H hI
        obtain ⟨r, Ao, co, rs, hr, rfl, hrl, hrs0, rfl, rfl⟩ := hI
        refine vc_seq ?_
        refine vc_seq ?_
        refine vc_region ?_
        refine vl_val rfl (.some rfl) (val_move rfl) ?_
        refine vl_val rfl (.some rfl) (by first | exact val_fieldAddr Try.runUnderlying41 rfl Try.sizeOf3 rfl | exact val_fieldAddrR Try.runUnderlying41 rfl Try.sizeOf3 rfl) ?_
        refine vl_val rfl (.some rfl) (val_load Try.isAgg3 rfl (by first | exact cell_cells (by repeat constructor) rfl | exact cell_rd (by first | exact rd_sl (by repeat constructor) | exact rd_old (by assumption) rfl) (by first | exact bcells_at (by omega) | exact ucells_at (by omega) | exact icells_at (by omega) | exact tcells_at (by omega) | exact bcells_get (by omega) | exact icells_get (by omega) | exact tcells_get (by omega) | exact ucells_get (by omega)) | exact cell_old (by assumption) (by simp [fps]))) ?_
        refine vl_val rfl (.some rfl) (val_lt rfl rfl) ?_
        refine vl_nil ?_
        refine vc_cond rfl (fun hc3 => ?_) (fun hc3 => ?_)
        · (try replace hc3 := of_decide_eq_true hc3)
          have hr8 : r < N := by omega
          refine vc_skip ?_
          refine vc_seq ?_
          refine vc_block ?_
          refine vc_seq ?_
          refine vc_region ?_
          refine vl_val rfl (.some rfl) (val_assign rfl) ?_
          refine vl_nilSl 62 3 ?_
          refine vl_nil ?_
          refine vc_seq ?_
          refine vc_seq ?_
          refine vc_region ?_
          refine vl_val rfl (.some rfl) (by first | exact val_fieldAddr Try.runUnderlying41 rfl Try.sizeOf38 rfl | exact val_fieldAddrR Try.runUnderlying41 rfl Try.sizeOf38 rfl) ?_
          refine vl_val rfl (.some rfl) (val_load Try.isAgg38 rfl (by first | exact cell_cells (by repeat constructor) rfl | exact cell_rd (by first | exact rd_sl (by repeat constructor) | exact rd_old (by assumption) rfl) (by first | exact bcells_at (by omega) | exact ucells_at (by omega) | exact icells_at (by omega) | exact tcells_at (by omega) | exact bcells_get (by omega) | exact icells_get (by omega) | exact tcells_get (by omega) | exact ucells_get (by omega)) | exact cell_old (by assumption) (by simp [fps]))) ?_
          refine vl_val rfl (.some rfl) (val_lenSl Try.runUnderlying38 rfl) ?_
          refine vl_val rfl (.some rfl) (val_move rfl) ?_
          refine vl_nil ?_
          refine vc_block ?_
          refine vc_loopw (fun k E H => ∃ (i : Nat) (A10 : Option Addr) (c10 : Nat) (ρ : List Vk), i ≤ ds.length ∧ k = ds.length - i ∧ ρ.length = i ∧ (∀ j, j < i → cellP (⟨(N : Int), vs.map vcP, zs⟩ : Sg) (ds.map (·.vs)) r j = some (ρ.getD j z3)) ∧ E = [(1, .slice Ad ds.length cd), (2, .pointer (some ⟨r2, 0, none⟩)), (8, .slice Ao r co), (9, .int .i64 (r : Int)), (10, .slice A10 i c10), (43, .slice Ac vs.length cc), (44, .int .i64 vs.length), (45, .int .i64 (i : Int))] ∧ H = [sl A10 i c10 62 3 (flat ρ), cells r2 [.int .i64 (N : Int), .slice Ac vs.length cc, .slice Az zs.length cz] 41, sl Ao r co 53 1 (rs.flatMap rowV), big (rs.flatMap rwH), XB ds]) (ds.length) ⟨_, _, _, ⟨0, none, 0, [], by omega, by omega, rfl, fun j h => absurd h (Nat.not_lt_zero _), rfl, rfl⟩, (by repeat (first | exact trivial | refine ⟨rfl, ?_⟩ | refine ⟨le_item rfl (by first | rfl | (congr 1; omega) | (simp; done) | (simp; omega)), ?_⟩)), (by repeat constructor)⟩ ?_
          intro k E H hI
          obtain ⟨i, A10, c10, ρ, hi, rfl, hρ, hcell, rfl, rfl⟩ := hI
          refine vc_seq ?_
          refine vc_region ?_
          refine vl_val rfl (.some rfl) (val_lt rfl rfl) ?_
          refine vl_nil ?_
          refine vc_seq ?_
          refine vc_cond rfl (fun hc4 => ?_) (fun hc4 => ?_)
          · (try replace hc4 := of_decide_eq_true hc4)
            have hi8 : i < vs.length := by omega
            have hcr := hrs.col _ (mem_getD vc0 hi8)
            have hco := hall i hi8
            rw [hmg] at hco
            obtain ⟨⟨hk1, hk2, hk3⟩, hk4, hk5⟩ := hco
            have hk4 : (vs.getD i vc0).ids.length = N := by have h : (((vs.getD i vc0).ids.length : Nat) : Int) = (N : Int) := hk4; omega
            have hk1 : (vs.getD i vc0).nu.length = (vs.getD i vc0).ids.length := hk1
            refine vc_skip ?_
            refine vc_seq ?_
            refine vc_block ?_
            refine vc_seq ?_
            refine vc_region ?_
            refine vl_val rfl (.some rfl) (val_move rfl) ?_
            refine vl_val rfl (.some rfl) (val_indexAddr Try.runUnderlying38 Try.sizeOf87 rfl rfl (rd_oldM hrs.cs) (by omega) (by omega) (by rw [flatS_len vcC_len]; omega)) ?_
            refine vl_val rfl (.some rfl) (val_loadAgg Try.isAgg87 Try.sizeOf87 rfl (cells_rd (us := vcC (vs.getD i vc0)) (rd_oldM hrs.cs) (by rw [Int.toNat_natCast]; exact flat_atM vcC_len vc0 _ _ (by omega))) rfl) ?_
            refine vl_alloc rfl rfl (.some rfl) Try.zeroValue87 (fun r12 => ?_)
            refine vl_val rfl (.some rfl) (val_assign rfl) ?_
            first | refine vl_store rfl rfl .none rfl rfl Try.sizeOf87 rfl (by repeat constructor) (by first | decide | exact Nat.le_refl _ | exact Nat.le_of_ble_eq_true rfl | (simp; omega)) ?_ | refine vl_storeSl rfl rfl .none rfl rfl Try.sizeOf87 rfl (by simp [Value.cells]) (by repeat constructor) (by first | decide | (simp [Value.cells]; omega)) ?_
            refine vl_nil ?_
            refine vc_seq ?_
            refine vc_region ?_
            refine vl_val rfl (.some rfl) (val_buildSt (pl := #[(0, 1), (1, 1), (2, 1)]) (cs := #[.int .i64 0, .int .i64 0, .string ⟨#[]⟩]) Try.runUnderlying62 Try.zeroValue62 (fun w => by kernel_rfl) rfl rfl) ?_
            refine vl_alloc rfl rfl (.some rfl) Try.zeroValue62 (fun r13 => ?_)
            first | refine vl_store rfl rfl .none rfl rfl Try.sizeOf62 rfl (by repeat constructor) (by first | decide | exact Nat.le_refl _ | exact Nat.le_of_ble_eq_true rfl | (simp; omega)) ?_ | refine vl_storeSl rfl rfl .none rfl rfl Try.sizeOf62 rfl (by simp [Value.cells]) (by repeat constructor) (by first | decide | (simp [Value.cells]; omega)) ?_
            refine vl_nil ?_
            refine vc_cut (fun E H => ∃ E0 H0 F, Env.le E0 E ∧ Sub H0 H F ∧ (fun E H => ∃ x : Vk, cellP (⟨(N : Int), vs.map vcP, zs⟩ : Sg) (ds.map (·.vs)) r i = some x ∧ E = [(1, .slice Ad ds.length cd), (2, .pointer (some ⟨r2, 0, none⟩)), (8, .slice Ao r co), (9, .int .i64 (r : Int)), (10, .slice A10 i c10), (43, .slice Ac vs.length cc), (44, .int .i64 vs.length), (45, .int .i64 (i : Int)), (13, .pointer (some ⟨r13, 0, none⟩))] ∧ H = [cells r13 [.int .i64 x.k, .int .i64 x.n, .string x.s] 62, sl A10 i c10 62 3 (flat ρ), cells r2 [.int .i64 (N : Int), .slice Ac vs.length cc, .slice Az zs.length cz] 41, sl Ao r co 53 1 (rs.flatMap rowV), big (rs.flatMap rwH), XB ds]) E0 H0) ?_ (fun E H h => ?_)
            ·
              refine vc_seq ?_
              refine vc_region ?_
              refine vl_val rfl (.some rfl) (by first | exact val_fieldAddr Try.runUnderlying87 rfl Try.sizeOf79 rfl | exact val_fieldAddrR Try.runUnderlying87 rfl Try.sizeOf79 rfl) ?_
              refine vl_val rfl (.some rfl) (val_load Try.isAgg79 rfl (cell_cells (v := .slice (vs.getD i vc0).A (vs.getD i vc0).nu.length (vs.getD i vc0).c) (by repeat constructor) rfl)) ?_
              refine vl_val rfl (.some rfl) (val_move rfl) ?_
              refine vl_val rfl (.some rfl) (val_indexAddr Try.runUnderlying79 Try.sizeOf4 rfl rfl (rd_oldM hcr.nu) (by omega) (by omega) (by rw [Int.toNat_natCast, tcells_length]; omega)) ?_
              refine vl_val rfl (.some rfl) (val_load Try.isAgg4 rfl (cell_rd (rd_oldM hcr.nu) (tcells_at (by omega)))) ?_
              refine vl_val rfl (.some rfl) (val_not rfl) ?_
              refine vl_nil ?_
              refine vc_cond rfl (fun hc5 => ?_) (fun hc5 => ?_)
              · (try replace hc5 := of_decide_eq_true hc5)
                have hnu : ¬ ((⟨(N : Int), vs.map vcP, zs⟩ : Sg).cs.getD i ([], [])).1.getD r false = true := by show ¬ ((vs.map vcP).getD i ([], [])).1.getD r false = true; rw [hmg]; show ¬ (vs.getD i vc0).nu.getD r false = true; have h := (Bool.not_eq_true' _).mp hc5; rw [h]; decide
                refine vc_seq ?_
                refine vc_drawsT 16 [0, 1, 2, 3, 4, 5, 6, 7, 8, 10, 11, 12, 15] ([cells r12 (vcC (vs.getD i vc0)) 87]) (by repeat constructor) rfl (by kernel_rfl) rfl (fun _ _ _ h => h) ?_
                refine vt_val 0 rfl rfl (by kernel_rfl) rfl (.some rfl) (val_move rfl) ?_
                refine vt_val 1 rfl rfl (by kernel_rfl) rfl (.some rfl) (val_move rfl) ?_
                refine vt_val 2 rfl rfl (by kernel_rfl) rfl (.some rfl) (val_indexAddr Try.runUnderlying27 Try.sizeOf50 rfl rfl (rd_oldM hdp) (by omega) (by omega) (by rw [List.length_map]; omega)) ?_
                refine vt_val 3 rfl rfl (by kernel_rfl) rfl (.some rfl) (val_load Try.isAgg50 rfl (cell_rd (rd_oldM hdp) (map_at xd0 (by omega)))) ?_
                refine vt_val 4 rfl rfl (by kernel_rfl) rfl (.some rfl) (by first | exact val_fieldAddr Try.runUnderlying87 rfl Try.sizeOf22 rfl | exact val_fieldAddrR Try.runUnderlying87 rfl Try.sizeOf22 rfl) ?_
                refine vt_val 5 rfl rfl (by kernel_rfl) rfl (.some rfl) (val_load Try.isAgg22 rfl (cell_cells (v := .slice (vs.getD i vc0).B (vs.getD i vc0).ids.length (vs.getD i vc0).d) (by repeat constructor) rfl)) ?_
                refine vt_val 6 rfl rfl (by kernel_rfl) rfl (.some rfl) (val_move rfl) ?_
                refine vt_val 7 rfl rfl (by kernel_rfl) rfl (.some rfl) (val_indexAddr Try.runUnderlying22 Try.sizeOf3 rfl rfl (rd_oldM hcr.ids) (by omega) (by omega) (by rw [Int.toNat_natCast, icells_length]; omega)) ?_
                refine vt_val 8 rfl rfl (by kernel_rfl) rfl (.some rfl) (val_load Try.isAgg3 rfl (cell_rd (rd_oldM hcr.ids) (icells_at (by omega)))) ?_
                refine vt_fork2 9 13 (by kernel_rfl) ?_ ?_
                · refine vt_op rfl ?_
                  refine vl_callR [XB ds] rfl rfl (.some rfl) Try.call39 rfl (by repeat constructor) (fun w hw => xbVal (show i < ds.length by omega) (hok i (by omega)) ((vs.getD i vc0).ids.getD r 0) w) ?_
                  refine vl_nil ?_
                  refine ⟨⟨_, (by repeat constructor)⟩, ?_⟩
                  refine vt_val 10 rfl rfl (by kernel_rfl) rfl (.some rfl) (val_move rfl) ?_
                  refine vt_val 11 rfl rfl (by kernel_rfl) rfl (.some rfl) (val_extract rfl rfl) ?_
                  refine vt_val 12 rfl rfl (by kernel_rfl) rfl (.some rfl) (val_extract rfl rfl) ?_
                  refine vt_fork1 13 (by kernel_rfl) ?_
                  · refine vt_op rfl ?_
                    refine vl_alloc rfl rfl (.some rfl) Try.zeroValue62 (fun r14 => ?_)
                    refine vl_nil ?_
                    refine ⟨⟨_, (by repeat constructor)⟩, ?_⟩
                    refine vt_fork1 14 (by kernel_rfl) ?_
                    · refine vt_op rfl ?_
                      first | refine vl_store rfl rfl .none rfl rfl Try.sizeOf62 rfl (by repeat constructor) (by first | decide | exact Nat.le_refl _ | exact Nat.le_of_ble_eq_true rfl | (simp; omega)) ?_ | refine vl_storeSl rfl rfl .none rfl rfl Try.sizeOf62 rfl (by simp [Value.cells]) (by repeat constructor) (by first | decide | (simp [Value.cells]; omega)) ?_
                      refine vl_nil ?_
                      refine ⟨⟨_, (by repeat constructor)⟩, ?_⟩
                      refine vt_val 15 rfl rfl (by kernel_rfl) rfl (.some rfl) (val_assign rfl) ?_
                      refine vt_nil (by kernel_rfl) ?_
                      refine vc_seq ?_
                      refine vc_seq ?_
                      refine vc_region ?_
                      refine vl_val rfl (.some rfl) (val_move rfl) ?_
                      refine vl_val rfl (.some rfl) (val_not rfl) ?_
                      refine vl_nil ?_
                      refine vc_cond rfl (fun hc6 => ?_) (fun hc6 => ?_)
                      · (try replace hc6 := of_decide_eq_true hc6)
                        have hrg : ¬ (0 ≤ ((⟨(N : Int), vs.map vcP, zs⟩ : Sg).cs.getD i ([], [])).2.getD r 0 ∧ ((⟨(N : Int), vs.map vcP, zs⟩ : Sg).cs.getD i ([], [])).2.getD r 0 < ((ds.map (·.vs)).getD i []).length) := by show ¬ (0 ≤ ((vs.map vcP).getD i ([], [])).2.getD r 0 ∧ ((vs.map vcP).getD i ([], [])).2.getD r 0 < _); rw [hmg, hdg]; exact of_decide_eq_false ((Bool.not_eq_true' _).mp hc6)
                        refine vc_seq ?_
                        refine vc_region ?_
                        refine vl_val rfl (.some rfl) (val_assign rfl) ?_
                        refine vl_nilSl 53 1 ?_
                        refine vl_eqv (eqv_nil _) ?_
                        refine vl_val rfl (.some rfl) (val_assign rfl) ?_
                        refine vl_nil ?_
                        refine vc_ret ?_
                        refine ⟨_, [XB ds, sl none 0 0 53 1 [], big []], _, res2 Try.results13 rfl rfl, (by repeat constructor), ?_⟩
                        exact ⟨none, 0, [], _, rfl, rfl, rowsP_rng hgd (by show (ds.map (·.vs)).length = (vs.map vcP).length; omega) (show r < Int.toNat (N : Int) by omega) (show i < (vs.map vcP).length by omega) (rowSt_none hnu hrg)⟩
                      · (try replace hc6 := of_decide_eq_false hc6)
                        have hrg2 : 0 ≤ (vs.getD i vc0).ids.getD r 0 ∧ (vs.getD i vc0).ids.getD r 0 < (ds.getD i xd0).vs.length := of_decide_eq_true ((Bool.not_eq_false' _).mp hc6)
                        have hrg : 0 ≤ ((⟨(N : Int), vs.map vcP, zs⟩ : Sg).cs.getD i ([], [])).2.getD r 0 ∧ ((⟨(N : Int), vs.map vcP, zs⟩ : Sg).cs.getD i ([], [])).2.getD r 0 < ((ds.map (·.vs)).getD i []).length := by show 0 ≤ ((vs.map vcP).getD i ([], [])).2.getD r 0 ∧ ((vs.map vcP).getD i ([], [])).2.getD r 0 < _; rw [hmg, hdg]; exact hrg2
                        have hve : cellP (⟨(N : Int), vs.map vcP, zs⟩ : Sg) (ds.map (·.vs)) r i = some (if 0 ≤ (vs.getD i vc0).ids.getD r 0 ∧ (vs.getD i vc0).ids.getD r 0 < (ds.getD i xd0).vs.length then (ds.getD i xd0).vs.getD ((vs.getD i vc0).ids.getD r 0).toNat z3 else z3) := by rw [cell_val hnu hrg, if_pos hrg2]; show some ((((ds.map (·.vs)).getD i []).getD (((vs.map vcP).getD i ([], [])).2.getD r 0).toNat z3)) = _; rw [hmg, hdg]
                        refine vc_skip ?_
                        refine vc_region ?_
                        refine vl_val rfl (.some rfl) (val_loadAgg Try.isAgg62 Try.sizeOf62 rfl (cells_part (us := [.int .i64 (if 0 ≤ (vs.getD i vc0).ids.getD r 0 ∧ (vs.getD i vc0).ids.getD r 0 < (ds.getD i xd0).vs.length then (ds.getD i xd0).vs.getD ((vs.getD i vc0).ids.getD r 0).toNat z3 else z3).k, .int .i64 (if 0 ≤ (vs.getD i vc0).ids.getD r 0 ∧ (vs.getD i vc0).ids.getD r 0 < (ds.getD i xd0).vs.length then (ds.getD i xd0).vs.getD ((vs.getD i vc0).ids.getD r 0).toNat z3 else z3).n, .string (if 0 ≤ (vs.getD i vc0).ids.getD r 0 ∧ (vs.getD i vc0).ids.getD r 0 < (ds.getD i xd0).vs.length then (ds.getD i xd0).vs.getD ((vs.getD i vc0).ids.getD r 0).toNat z3 else z3).s]) (by repeat constructor) rfl) rfl) ?_
                        first | refine vl_store rfl rfl .none rfl rfl Try.sizeOf62 rfl (by repeat constructor) (by first | decide | exact Nat.le_refl _ | exact Nat.le_of_ble_eq_true rfl | (simp; omega)) ?_ | refine vl_storeSl rfl rfl .none rfl rfl Try.sizeOf62 rfl (by simp [Value.cells]) (by repeat constructor) (by first | decide | (simp [Value.cells]; omega)) ?_
                        refine vl_nil ?_
                        first
                          | exact ⟨_, _, _, (by repeat (first | exact trivial | refine ⟨rfl, ?_⟩ | refine ⟨le_item rfl (by first | rfl | (congr 1; omega) | (simp; done) | (simp; omega)), ?_⟩)), (by repeat constructor), ⟨_, hve, rfl, rfl⟩⟩
                          | exact ⟨_, _, _, (by repeat (first | exact trivial | refine ⟨rfl, ?_⟩ | refine ⟨le_item rfl (by first | rfl | (congr 1; omega) | (simp; done) | (simp; omega)), ?_⟩)), (by repeat constructor), ⟨z3, cell_null hnu, rfl, rfl⟩⟩
                · refine vt_op rfl ?_
                  refine vl_alloc rfl rfl (.some rfl) Try.zeroValue62 (fun r14 => ?_)
                  refine vl_nil ?_
                  refine ⟨⟨_, (by repeat constructor)⟩, ?_⟩
                  refine vt_fork1 9 (by kernel_rfl) ?_
                  · refine vt_op rfl ?_
                    refine vl_callR [XB ds] rfl rfl (.some rfl) Try.call39 rfl (by repeat constructor) (fun w hw => xbVal (show i < ds.length by omega) (hok i (by omega)) ((vs.getD i vc0).ids.getD r 0) w) ?_
                    refine vl_nil ?_
                    refine ⟨⟨_, (by repeat constructor)⟩, ?_⟩
                    refine vt_val 10 rfl rfl (by kernel_rfl) rfl (.some rfl) (val_move rfl) ?_
                    refine vt_val 11 rfl rfl (by kernel_rfl) rfl (.some rfl) (val_extract rfl rfl) ?_
                    refine vt_val 12 rfl rfl (by kernel_rfl) rfl (.some rfl) (val_extract rfl rfl) ?_
                    refine vt_fork1 14 (by kernel_rfl) ?_
                    · refine vt_op rfl ?_
                      first | refine vl_store rfl rfl .none rfl rfl Try.sizeOf62 rfl (by repeat constructor) (by first | decide | exact Nat.le_refl _ | exact Nat.le_of_ble_eq_true rfl | (simp; omega)) ?_ | refine vl_storeSl rfl rfl .none rfl rfl Try.sizeOf62 rfl (by simp [Value.cells]) (by repeat constructor) (by first | decide | (simp [Value.cells]; omega)) ?_
                      refine vl_nil ?_
                      refine ⟨⟨_, (by repeat constructor)⟩, ?_⟩
                      refine vt_val 15 rfl rfl (by kernel_rfl) rfl (.some rfl) (val_assign rfl) ?_
                      refine vt_nil (by kernel_rfl) ?_
                      refine vc_seq ?_
                      refine vc_seq ?_
                      refine vc_region ?_
                      refine vl_val rfl (.some rfl) (val_move rfl) ?_
                      refine vl_val rfl (.some rfl) (val_not rfl) ?_
                      refine vl_nil ?_
                      refine vc_cond rfl (fun hc6 => ?_) (fun hc6 => ?_)
                      · (try replace hc6 := of_decide_eq_true hc6)
                        have hrg : ¬ (0 ≤ ((⟨(N : Int), vs.map vcP, zs⟩ : Sg).cs.getD i ([], [])).2.getD r 0 ∧ ((⟨(N : Int), vs.map vcP, zs⟩ : Sg).cs.getD i ([], [])).2.getD r 0 < ((ds.map (·.vs)).getD i []).length) := by show ¬ (0 ≤ ((vs.map vcP).getD i ([], [])).2.getD r 0 ∧ ((vs.map vcP).getD i ([], [])).2.getD r 0 < _); rw [hmg, hdg]; exact of_decide_eq_false ((Bool.not_eq_true' _).mp hc6)
                        refine vc_seq ?_
                        refine vc_region ?_
                        refine vl_val rfl (.some rfl) (val_assign rfl) ?_
                        refine vl_nilSl 53 1 ?_
                        refine vl_eqv (eqv_nil _) ?_
                        refine vl_val rfl (.some rfl) (val_assign rfl) ?_
                        refine vl_nil ?_
                        refine vc_ret ?_
                        refine ⟨_, [XB ds, sl none 0 0 53 1 [], big []], _, res2 Try.results13 rfl rfl, (by repeat constructor), ?_⟩
                        exact ⟨none, 0, [], _, rfl, rfl, rowsP_rng hgd (by show (ds.map (·.vs)).length = (vs.map vcP).length; omega) (show r < Int.toNat (N : Int) by omega) (show i < (vs.map vcP).length by omega) (rowSt_none hnu hrg)⟩
                      · (try replace hc6 := of_decide_eq_false hc6)
                        have hrg2 : 0 ≤ (vs.getD i vc0).ids.getD r 0 ∧ (vs.getD i vc0).ids.getD r 0 < (ds.getD i xd0).vs.length := of_decide_eq_true ((Bool.not_eq_false' _).mp hc6)
                        have hrg : 0 ≤ ((⟨(N : Int), vs.map vcP, zs⟩ : Sg).cs.getD i ([], [])).2.getD r 0 ∧ ((⟨(N : Int), vs.map vcP, zs⟩ : Sg).cs.getD i ([], [])).2.getD r 0 < ((ds.map (·.vs)).getD i []).length := by show 0 ≤ ((vs.map vcP).getD i ([], [])).2.getD r 0 ∧ ((vs.map vcP).getD i ([], [])).2.getD r 0 < _; rw [hmg, hdg]; exact hrg2
                        have hve : cellP (⟨(N : Int), vs.map vcP, zs⟩ : Sg) (ds.map (·.vs)) r i = some (if 0 ≤ (vs.getD i vc0).ids.getD r 0 ∧ (vs.getD i vc0).ids.getD r 0 < (ds.getD i xd0).vs.length then (ds.getD i xd0).vs.getD ((vs.getD i vc0).ids.getD r 0).toNat z3 else z3) := by rw [cell_val hnu hrg, if_pos hrg2]; show some ((((ds.map (·.vs)).getD i []).getD (((vs.map vcP).getD i ([], [])).2.getD r 0).toNat z3)) = _; rw [hmg, hdg]
                        refine vc_skip ?_
                        refine vc_region ?_
                        refine vl_val rfl (.some rfl) (val_loadAgg Try.isAgg62 Try.sizeOf62 rfl (cells_part (us := [.int .i64 (if 0 ≤ (vs.getD i vc0).ids.getD r 0 ∧ (vs.getD i vc0).ids.getD r 0 < (ds.getD i xd0).vs.length then (ds.getD i xd0).vs.getD ((vs.getD i vc0).ids.getD r 0).toNat z3 else z3).k, .int .i64 (if 0 ≤ (vs.getD i vc0).ids.getD r 0 ∧ (vs.getD i vc0).ids.getD r 0 < (ds.getD i xd0).vs.length then (ds.getD i xd0).vs.getD ((vs.getD i vc0).ids.getD r 0).toNat z3 else z3).n, .string (if 0 ≤ (vs.getD i vc0).ids.getD r 0 ∧ (vs.getD i vc0).ids.getD r 0 < (ds.getD i xd0).vs.length then (ds.getD i xd0).vs.getD ((vs.getD i vc0).ids.getD r 0).toNat z3 else z3).s]) (by repeat constructor) rfl) rfl) ?_
                        first | refine vl_store rfl rfl .none rfl rfl Try.sizeOf62 rfl (by repeat constructor) (by first | decide | exact Nat.le_refl _ | exact Nat.le_of_ble_eq_true rfl | (simp; omega)) ?_ | refine vl_storeSl rfl rfl .none rfl rfl Try.sizeOf62 rfl (by simp [Value.cells]) (by repeat constructor) (by first | decide | (simp [Value.cells]; omega)) ?_
                        refine vl_nil ?_
                        first
                          | exact ⟨_, _, _, (by repeat (first | exact trivial | refine ⟨rfl, ?_⟩ | refine ⟨le_item rfl (by first | rfl | (congr 1; omega) | (simp; done) | (simp; omega)), ?_⟩)), (by repeat constructor), ⟨_, hve, rfl, rfl⟩⟩
                          | exact ⟨_, _, _, (by repeat (first | exact trivial | refine ⟨rfl, ?_⟩ | refine ⟨le_item rfl (by first | rfl | (congr 1; omega) | (simp; done) | (simp; omega)), ?_⟩)), (by repeat constructor), ⟨z3, cell_null hnu, rfl, rfl⟩⟩
              · (try replace hc5 := of_decide_eq_false hc5)
                have hnu : ((⟨(N : Int), vs.map vcP, zs⟩ : Sg).cs.getD i ([], [])).1.getD r false = true := by show ((vs.map vcP).getD i ([], [])).1.getD r false = true; rw [hmg]; exact (Bool.not_eq_false' _).mp hc5
                refine vc_skip ?_
                first
                  | exact ⟨_, _, _, (by repeat (first | exact trivial | refine ⟨rfl, ?_⟩ | refine ⟨le_item rfl (by first | rfl | (congr 1; omega) | (simp; done) | (simp; omega)), ?_⟩)), (by repeat constructor), ⟨_, hve, rfl, rfl⟩⟩
                  | exact ⟨_, _, _, (by repeat (first | exact trivial | refine ⟨rfl, ?_⟩ | refine ⟨le_item rfl (by first | rfl | (congr 1; omega) | (simp; done) | (simp; omega)), ?_⟩)), (by repeat constructor), ⟨z3, cell_null hnu, rfl, rfl⟩⟩
            · obtain ⟨E0, H0, F, hE0, hH0, hJ⟩ := h
              obtain ⟨x, hx, rfl, rfl⟩ := hJ
              refine vc_weak hE0 hH0 ?_
              refine vc_region ?_
              refine vl_val rfl (.some rfl) (val_move rfl) ?_
              refine vl_val rfl (.some rfl) (val_loadAgg Try.isAgg62 Try.sizeOf62 rfl (cells_part (us := [.int .i64 x.k, .int .i64 x.n, .string x.s]) (by repeat constructor) rfl) rfl) ?_
              refine vl_lit sT53 rfl rfl (.some rfl) rfl rfl rfl (by decide) (by decide) rfl rfl (fun r75 => ?_)
              refine vl_append (us := flat [x]) sT53 rfl rfl (.some rfl) rfl rfl (rd_sl (by repeat constructor)) rfl rfl (by omega) (by omega) (by repeat constructor) (fun A76 k76 => ?_)
              rw [vk1]
              refine vl_val rfl (.some rfl) (val_assign rfl) ?_
              refine vl_nil ?_
              refine vc_region ?_
              refine vl_val rfl (.some rfl) (val_add rfl rfl (by first | exact w_i64 (by omega) (by omega) | rfl)) ?_
              refine vl_val rfl (.some rfl) (val_move rfl) ?_
              refine vl_nil ?_
              exact ⟨ds.length - (i + 1), _, _, _, by omega, (by repeat (first | exact trivial | refine ⟨rfl, ?_⟩ | refine ⟨le_item rfl (by first | rfl | (congr 1; omega) | (simp; done) | (simp; omega)), ?_⟩)), (by repeat constructor), ⟨i + 1, A76, k76, ρ ++ [x], by omega, rfl, by rw [List.length_append, hρ]; rfl, cells_push hρ hcell hx, rfl, rfl⟩⟩
          · (try replace hc4 := of_decide_eq_false hc4)
            obtain rfl : i = ds.length := by omega
            refine vc_exit ?_
            refine vc_region ?_
            refine vl_val rfl (.some rfl) (val_move rfl) ?_
            refine vl_val rfl (.some rfl) (val_move rfl) ?_
            refine vl_lit sT23 rfl rfl (.some rfl) rfl rfl rfl (by decide) (by decide) rfl (flat_one rfl) (fun r80 => ?_)
            refine vl_append (us := [.slice A10 ds.length c10]) sT23 rfl rfl (.some rfl) rfl rfl (rd_sl (by repeat constructor)) rfl rfl (by omega) (by omega) (by repeat constructor) (fun A81 k81 => ?_)
            rw [show rs.flatMap rowV ++ [Value.slice A10 ds.length c10] = (rs ++ [(A10, c10, ρ)]).flatMap rowV by simp [hρ]]
            refine vl_push1 rwH (x := (A10, c10, ρ)) (c0 := sl A10 ds.length c10 62 3 (flat ρ)) (by show [DS A10 c10 ρ] = _; unfold DS; rw [hρ]) (by repeat (first | exact .head | apply Take.tail)) (by repeat (first | exact .head | apply Take.tail)) ?_
            refine vl_val rfl (.some rfl) (val_assign rfl) ?_
            refine vl_nil ?_
            refine vc_region ?_
            refine vl_val rfl (.some rfl) (val_move rfl) ?_
            refine vl_val rfl (.some rfl) (val_add rfl rfl (by first | exact w_i64 (by omega) (by omega) | rfl)) ?_
            refine vl_val rfl (.some rfl) (val_assign rfl) ?_
            refine vl_nil ?_
            exact ⟨N - (r + 1), _, _, _, by omega, (by repeat (first | exact trivial | refine ⟨rfl, ?_⟩ | refine ⟨le_item rfl (by first | rfl | (congr 1; omega) | (simp; done) | (simp; omega)), ?_⟩)), (by repeat constructor), ⟨r + 1, A81, k81, rs ++ [(A10, c10, ρ)], by omega, rfl, by rw [List.length_append, hrl]; rfl, rowsSt_push hrs0 hrl (by show ρ.length = (vs.map vcP).length; omega) (fun j hj => hcell j (by have h : j < (vs.map vcP).length := hj; omega)), rfl, rfl⟩⟩
        · (try replace hc3 := of_decide_eq_false hc3)
          have hrN : r = N := by omega
          subst hrN
          subst hrl
          refine vc_exit ?_
          refine vc_seq ?_
          refine vc_region ?_
          refine vl_val rfl (.some rfl) (val_move rfl) ?_
          refine vl_val rfl (.some rfl) (val_assign rfl) ?_
          refine vl_val rfl (.some rfl) (val_assign rfl) ?_
          refine vl_nil ?_
          refine vc_ret ?_
          refine ⟨_, [XB ds, sl Ao rs.length co 53 1 (rs.flatMap rowV), big (rs.flatMap rwH)], _, res2 Try.results13 rfl rfl, (by repeat constructor), ?_⟩
          exact ⟨_, _, rs, _, rfl, rfl, rowsSt_end hgd (by show (ds.map (·.vs)).length = (vs.map vcP).length; omega) (by show rs.length = Int.toNat ((rs.length : Nat) : Int); omega) hrs0⟩




theorem fszx : (Try.prog.fieldsOf 88).toList = [⟨"Nulls", 3, 0, false, "", "", 0⟩, ⟨"Min", 62, 1, false, "", "", 8⟩, ⟨"Max", 62, 4, false, "", "", 40⟩] := by kernel_rfl
theorem zx_equal (p q : Zn) (w : World) : (Op.equal 88 (znV p) (znV q)).run Try.prog w = .ok (decide (p = q)) w := by
  obtain ⟨n, a, b⟩ := p
  obtain ⟨n', a', b'⟩ := q
  unfold Op.equal znV
  rw [show Op.maxDepth = 9999 + 1 from rfl, run_equalIn_agg w 9999 88 _ _ (by kernel_rfl) (by kernel_rfl), fszx]
  have e3 : ∀ a b : Int, (Op.equalIn 9999 3 (.int .i64 a) (.int .i64 b)).run Try.prog w = .ok (decide (a = b)) w := fun a b => by
    rw [show (9999 : Nat) = 9998 + 1 from rfl, run_equalIn_int w 9998 3 .i64 .i64 a b Try.underlying3, int_beq]
  have ev := vk_eqD
  simp only [Op.eqFields, part, Sem.run_bind, Try.isAgg3, Try.isAgg62, Try.sizeOf62, Result.andThen_ok]
  simp [e3]
  by_cases h1 : n = n'
  · simp [h1]
    have h2 := ev a a' w
    have h3 := ev b b' w
    simp only [vk] at h2 h3
    rw [h2]
    by_cases h4 : a = a'
    · simp [h4, h3]
      by_cases h5 : b = b'
      · rw [if_pos h5, decide_eq_true h5]
      · rw [if_neg h5, decide_eq_false h5]
    · simp [h4]
  · simp [h1]

theorem take_flat1 {α : Type} (f : α → List Value) (d : α) {l : List α} {i : Nat} (h : i < l.length) : (l.take i).flatMap f ++ f (l.getD i d) = (l.take (i + 1)).flatMap f := by
  have e : l.take (i + 1) = l.take i ++ [l.getD i d] := by rw [List.take_add_one]; simp [List.getD, List.getElem?_eq_getElem h]
  rw [e, List.flatMap_append]; simp
theorem vcP_at {vs us : List Vc} {i : Nat} (h : vs.map vcP = us.map vcP) (hi : i < vs.length) : (vs.getD i vc0).nu = (us.getD i vc0).nu ∧ (vs.getD i vc0).ids = (us.getD i vc0).ids := by
  have e : (vs.map vcP).getD i ([], []) = (us.map vcP).getD i ([], []) := by rw [h]
  rw [show (vs.map vcP).getD i ([], []) = vcP (vs.getD i vc0) from map_getDs vc0 ([], []) rfl, show (us.map vcP).getD i ([], []) = vcP (us.getD i vc0) from map_getDs vc0 ([], []) rfl] at e
  simp only [Prod.mk.injEq] at e
  exact e

set_option maxRecDepth 20000 in
set_option maxHeartbeats 1000000 in
theorem gPlain (n : Int) (Ac : Option Addr) (cc : Nat) (vs : List Vc) (Az : Option Addr) (cz : Nat) (zs : List Zn) (hlc : vs.length < 4611686018427387904) (hlz : zs.length < 4611686018427387904) (w : World) (hrs : SgR w Ac vs Az zs) (hb1 : vs.length ≤ 1000000) (hb2 : zs.length ≤ 1000000) : Fn Try.prog 32 [sgV n Ac cc vs Az cz zs] [] (ret fun v H' => ∃ (Ap : Option Addr) (cp : Nat) (Aq : Option Addr) (cq : Nat), v = sgV n Ap cp vs Aq cq zs ∧ H' = [sl Ap vs.length cp 87 2 (vs.flatMap vcC), sl Aq zs.length cq 88 7 (zs.flatMap znC)]) w := by
  refine fn_enter Try.func32 rfl Try.ntmps32 rfl ?_
  refine vc_seq ?_
  refine vc_region ?_
  refine vl_box rfl rfl (.some rfl) rfl (fun r1 => ?_)
  refine vl_alloc rfl rfl (.some rfl) Try.zeroValue41 (fun r2 => ?_)
  refine vl_nil ?_
  refine vc_seq ?_
  refine vc_region ?_
  refine vl_val rfl (.some rfl) (by first | exact val_fieldAddr Try.runUnderlying34 rfl Try.sizeOf3 rfl | exact val_fieldAddrR Try.runUnderlying34 rfl Try.sizeOf3 rfl) ?_
  refine vl_val rfl (.some rfl) (val_load Try.isAgg3 rfl (by first | exact cell_cells (by repeat constructor) rfl | exact cell_rd (by first | exact rd_sl (by repeat constructor) | exact rd_old (by assumption) rfl) (by first | exact bcells_at (by omega) | exact ucells_at (by omega) | exact icells_at (by omega) | exact tcells_at (by omega) | exact bcells_get (by omega) | exact icells_get (by omega) | exact tcells_get (by omega) | exact ucells_get (by omega)) | exact cell_old (by assumption) (by simp [fps]))) ?_
  refine vl_val rfl (.some rfl) (val_buildSt (pl := #[(0, 1), (1, 1), (2, 1)]) (cs := #[.int .i64 n, .slice none 0 0, .slice none 0 0]) Try.runUnderlying41 Try.zeroValue41 (fun w => by kernel_rfl) rfl rfl) ?_
  refine vl_nilSl 87 2 ?_
  refine vl_nilSl 88 7 ?_
  refine vl_alloc rfl rfl (.some rfl) Try.zeroValue41 (fun r3 => ?_)
  first | refine vl_store rfl rfl .none rfl rfl Try.sizeOf41 rfl (by repeat constructor) (by first | decide | exact Nat.le_refl _ | exact Nat.le_of_ble_eq_true rfl | (simp; omega)) ?_ | refine vl_storeSl rfl rfl .none rfl rfl Try.sizeOf41 rfl (by simp [Value.cells]) (by repeat constructor) (by first | decide | (simp [Value.cells]; omega)) ?_
  refine vl_nil ?_
  refine vc_seq ?_
  refine vc_seq ?_
  refine vc_region ?_
  refine vl_val rfl (.some rfl) (by first | exact val_fieldAddr Try.runUnderlying34 rfl Try.sizeOf31 rfl | exact val_fieldAddrR Try.runUnderlying34 rfl Try.sizeOf31 rfl) ?_
  refine vl_val rfl (.some rfl) (val_load Try.isAgg31 rfl (by first | exact cell_cells (by repeat constructor) rfl | exact cell_rd (by first | exact rd_sl (by repeat constructor) | exact rd_old (by assumption) rfl) (by first | exact bcells_at (by omega) | exact ucells_at (by omega) | exact icells_at (by omega) | exact tcells_at (by omega) | exact bcells_get (by omega) | exact icells_get (by omega) | exact tcells_get (by omega) | exact ucells_get (by omega)) | exact cell_old (by assumption) (by simp [fps]))) ?_
  refine vl_val rfl (.some rfl) (val_lenSl Try.runUnderlying31 rfl) ?_
  refine vl_val rfl (.some rfl) (val_move rfl) ?_
  refine vl_nil ?_
  refine vc_block ?_
  refine vc_loopw (fun k E H => ∃ (i : Nat) (Ap : Option Addr) (cp : Nat), i ≤ vs.length ∧ k = vs.length - i ∧ E = [(1, .pointer (some ⟨r1, 0, none⟩)), (2, .pointer (some ⟨r2, 0, none⟩)), (3, .pointer (some ⟨r3, 0, none⟩)), (12, .slice Ac vs.length cc), (13, .int .i64 vs.length), (14, .int .i64 i)] ∧ H = [cells r1 [.int .i64 n, .slice Ac vs.length cc, .slice Az zs.length cz] 34, cells r2 [.int .i64 0, .slice none 0 0, .slice none 0 0] 41, cells r3 [.int .i64 n, .slice Ap i cp, .slice none 0 0] 41, sl Ap i cp 87 2 ((vs.take i).flatMap vcC), sl none 0 0 88 7 (([] : List Zn).flatMap znC)]) (vs.length) ⟨_, _, _, ⟨0, none, 0, by omega, rfl, rfl, rfl⟩, (by repeat (first | exact trivial | refine ⟨rfl, ?_⟩ | refine ⟨le_item rfl (by first | rfl | (congr 1; omega) | (simp; done) | (simp; omega)), ?_⟩)), (by repeat constructor)⟩ ?_
  intro k E H hI
  obtain ⟨i, Ap, cp, hi, rfl, rfl, rfl⟩ := hI
  refine vc_seq ?_
  refine vc_region ?_
  refine vl_val rfl (.some rfl) (val_lt rfl rfl) ?_
  refine vl_nil ?_
  refine vc_seq ?_
  refine vc_cond rfl (fun hc0 => ?_) (fun hc0 => ?_)
  · (try replace hc0 := of_decide_eq_true hc0)
    have hi8 : i < vs.length := by omega
    refine vc_skip ?_
    refine vc_seq ?_
    refine vc_block ?_
    refine vc_seq ?_
    refine vc_region ?_
    refine vl_val rfl (.some rfl) (val_indexAddr Try.runUnderlying31 Try.sizeOf81 rfl rfl (rd_old hrs.cs rfl) (by omega) (by omega) (by rw [flatS_len vcC_len]; omega)) ?_
    refine vl_val rfl (.some rfl) (val_loadAgg Try.isAgg81 Try.sizeOf81 rfl (cells_rd (us := vcC (vs.getD i vc0)) (rd_old hrs.cs rfl) (by rw [Int.toNat_natCast]; exact flat_atM vcC_len vc0 _ _ (by omega))) rfl) ?_
    refine vl_alloc rfl rfl (.some rfl) Try.zeroValue81 (fun r5 => ?_)
    first | refine vl_store rfl rfl .none rfl rfl Try.sizeOf81 rfl (by repeat constructor) (by first | decide | exact Nat.le_refl _ | exact Nat.le_of_ble_eq_true rfl | (simp; omega)) ?_ | refine vl_storeSl rfl rfl .none rfl rfl Try.sizeOf81 rfl (by simp [Value.cells]) (by repeat constructor) (by first | decide | (simp [Value.cells]; omega)) ?_
    refine vl_nil ?_
    refine vc_region ?_
    refine vl_val rfl (.some rfl) (by first | exact val_fieldAddr Try.runUnderlying41 rfl Try.sizeOf38 rfl | exact val_fieldAddrR Try.runUnderlying41 rfl Try.sizeOf38 rfl) ?_
    refine vl_val rfl (.some rfl) (val_load Try.isAgg38 rfl (by first | exact cell_cells (by repeat constructor) rfl | exact cell_rd (by first | exact rd_sl (by repeat constructor) | exact rd_old (by assumption) rfl) (by first | exact bcells_at (by omega) | exact ucells_at (by omega) | exact icells_at (by omega) | exact tcells_at (by omega) | exact bcells_get (by omega) | exact icells_get (by omega) | exact tcells_get (by omega) | exact ucells_get (by omega)) | exact cell_old (by assumption) (by simp [fps]))) ?_
    refine vl_val rfl (.some rfl) (by first | exact val_fieldAddr Try.runUnderlying81 rfl Try.sizeOf79 rfl | exact val_fieldAddrR Try.runUnderlying81 rfl Try.sizeOf79 rfl) ?_
    refine vl_val rfl (.some rfl) (val_load Try.isAgg79 rfl (cell_cells (v := .slice (vs.getD i vc0).A (vs.getD i vc0).nu.length (vs.getD i vc0).c) (by repeat constructor) rfl)) ?_
    refine vl_val rfl (.some rfl) (by first | exact val_fieldAddr Try.runUnderlying81 rfl Try.sizeOf22 rfl | exact val_fieldAddrR Try.runUnderlying81 rfl Try.sizeOf22 rfl) ?_
    refine vl_val rfl (.some rfl) (val_load Try.isAgg22 rfl (cell_cells (v := .slice (vs.getD i vc0).B (vs.getD i vc0).ids.length (vs.getD i vc0).d) (by repeat constructor) rfl)) ?_
    refine vl_val rfl (.some rfl) (val_buildSt (pl := #[(0, 1), (1, 1)]) (cs := #[.slice (vs.getD i vc0).A (vs.getD i vc0).nu.length (vs.getD i vc0).c, .slice (vs.getD i vc0).B (vs.getD i vc0).ids.length (vs.getD i vc0).d]) Try.runUnderlying87 Try.zeroValue87 (fun w => by kernel_rfl) rfl rfl) ?_
    refine vl_lit sT38 rfl rfl (.some rfl) rfl rfl rfl (by decide) (by decide) rfl rfl (fun r25 => ?_)
    refine vl_append (us := vcC (vs.getD i vc0)) sT38 rfl rfl (.some rfl) rfl rfl (rd_sl (by repeat constructor)) rfl rfl (by omega) (by omega) (by repeat constructor) (fun A26 k26 => ?_)
    rw [take_flat1 vcC vc0 hi8]
    refine vl_val rfl (.some rfl) (by first | exact val_fieldAddr Try.runUnderlying41 rfl Try.sizeOf38 rfl | exact val_fieldAddrR Try.runUnderlying41 rfl Try.sizeOf38 rfl) ?_
    first | refine vl_store rfl rfl .none rfl rfl Try.sizeOf38 rfl (by repeat constructor) (by first | decide | exact Nat.le_refl _ | exact Nat.le_of_ble_eq_true rfl | (simp; omega)) ?_ | refine vl_storeSl rfl rfl .none rfl rfl Try.sizeOf38 rfl (by simp [Value.cells]) (by repeat constructor) (by first | decide | (simp [Value.cells]; omega)) ?_
    refine vl_nil ?_
    refine vc_region ?_
    refine vl_val rfl (.some rfl) (val_add rfl rfl (by first | exact w_i64 (by omega) (by omega) | rfl)) ?_
    refine vl_val rfl (.some rfl) (val_move rfl) ?_
    refine vl_nil ?_
    exact ⟨vs.length - (i + 1), _, _, _, by omega, (by repeat (first | exact trivial | refine ⟨rfl, ?_⟩ | refine ⟨le_item rfl (by first | rfl | (congr 1; omega) | (simp; done) | (simp; omega)), ?_⟩)), (by repeat constructor), ⟨i + 1, A26, k26, by omega, rfl, rfl, rfl⟩⟩
  · (try replace hc0 := of_decide_eq_false hc0)
    obtain rfl : i = vs.length := by omega
    rw [List.take_length]
    refine vc_exit ?_
    refine vc_seq ?_
    refine vc_seq ?_
    refine vc_region ?_
    refine vl_val rfl (.some rfl) (by first | exact val_fieldAddr Try.runUnderlying34 rfl Try.sizeOf32 rfl | exact val_fieldAddrR Try.runUnderlying34 rfl Try.sizeOf32 rfl) ?_
    refine vl_val rfl (.some rfl) (val_load Try.isAgg32 rfl (by first | exact cell_cells (by repeat constructor) rfl | exact cell_rd (by first | exact rd_sl (by repeat constructor) | exact rd_old (by assumption) rfl) (by first | exact bcells_at (by omega) | exact ucells_at (by omega) | exact icells_at (by omega) | exact tcells_at (by omega) | exact bcells_get (by omega) | exact icells_get (by omega) | exact tcells_get (by omega) | exact ucells_get (by omega)) | exact cell_old (by assumption) (by simp [fps]))) ?_
    refine vl_val rfl (.some rfl) (val_lenSl Try.runUnderlying32 rfl) ?_
    refine vl_val rfl (.some rfl) (val_move rfl) ?_
    refine vl_nil ?_
    refine vc_block ?_
    refine vc_loopw (fun k E H => ∃ (i : Nat) (Aq : Option Addr) (cq : Nat), i ≤ zs.length ∧ k = zs.length - i ∧ E = [(2, .pointer (some ⟨r2, 0, none⟩)), (3, .pointer (some ⟨r3, 0, none⟩)), (30, .slice Az zs.length cz), (31, .int .i64 zs.length), (32, .int .i64 i)] ∧ H = [cells r2 [.int .i64 0, .slice none 0 0, .slice none 0 0] 41, cells r3 [.int .i64 n, .slice Ap vs.length cp, .slice Aq i cq] 41, sl Ap vs.length cp 87 2 (vs.flatMap vcC), sl Aq i cq 88 7 ((zs.take i).flatMap znC)]) (zs.length) ⟨_, _, _, ⟨0, none, 0, by omega, rfl, rfl, rfl⟩, (by repeat (first | exact trivial | refine ⟨rfl, ?_⟩ | refine ⟨le_item rfl (by first | rfl | (congr 1; omega) | (simp; done) | (simp; omega)), ?_⟩)), (by repeat constructor)⟩ ?_
    intro k E H hI
    obtain ⟨i, Aq, cq, hi, rfl, rfl, rfl⟩ := hI
    refine vc_seq ?_
    refine vc_region ?_
    refine vl_val rfl (.some rfl) (val_lt rfl rfl) ?_
    refine vl_nil ?_
    refine vc_seq ?_
    refine vc_cond rfl (fun hc1 => ?_) (fun hc1 => ?_)
    · (try replace hc1 := of_decide_eq_true hc1)
      have hi8 : i < zs.length := by omega
      refine vc_skip ?_
      refine vc_seq ?_
      refine vc_block ?_
      refine vc_seq ?_
      refine vc_region ?_
      refine vl_val rfl (.some rfl) (val_indexAddr Try.runUnderlying32 Try.sizeOf64 rfl rfl (rd_old hrs.zs rfl) (by omega) (by omega) (by rw [flatS_len znC_len]; omega)) ?_
      refine vl_val rfl (.some rfl) (val_loadAgg Try.isAgg64 Try.sizeOf64 rfl (cells_rd (us := znC (zs.getD i zn0)) (rd_old hrs.zs rfl) (by rw [Int.toNat_natCast]; exact flat_atM znC_len zn0 _ _ (by omega))) rfl) ?_
      refine vl_alloc rfl rfl (.some rfl) Try.zeroValue64 (fun r7 => ?_)
      first | refine vl_store rfl rfl .none rfl rfl Try.sizeOf64 rfl (by repeat constructor) (by first | decide | exact Nat.le_refl _ | exact Nat.le_of_ble_eq_true rfl | (simp; omega)) ?_ | refine vl_storeSl rfl rfl .none rfl rfl Try.sizeOf64 rfl (by simp [Value.cells]) (by repeat constructor) (by first | decide | (simp [Value.cells]; omega)) ?_
      refine vl_nil ?_
      refine vc_region ?_
      refine vl_val rfl (.some rfl) (by first | exact val_fieldAddr Try.runUnderlying41 rfl Try.sizeOf39 rfl | exact val_fieldAddrR Try.runUnderlying41 rfl Try.sizeOf39 rfl) ?_
      refine vl_val rfl (.some rfl) (val_load Try.isAgg39 rfl (by first | exact cell_cells (by repeat constructor) rfl | exact cell_rd (by first | exact rd_sl (by repeat constructor) | exact rd_old (by assumption) rfl) (by first | exact bcells_at (by omega) | exact ucells_at (by omega) | exact icells_at (by omega) | exact tcells_at (by omega) | exact bcells_get (by omega) | exact icells_get (by omega) | exact tcells_get (by omega) | exact ucells_get (by omega)) | exact cell_old (by assumption) (by simp [fps]))) ?_
      refine vl_val rfl (.some rfl) (by first | exact val_fieldAddr Try.runUnderlying64 rfl Try.sizeOf3 rfl | exact val_fieldAddrR Try.runUnderlying64 rfl Try.sizeOf3 rfl) ?_
      refine vl_val rfl (.some rfl) (val_load Try.isAgg3 rfl (cell_cells (v := .int .i64 (zs.getD i zn0).n) (by repeat constructor) rfl)) ?_
      refine vl_val rfl (.some rfl) (by first | exact val_fieldAddr Try.runUnderlying64 rfl Try.sizeOf62 rfl | exact val_fieldAddrR Try.runUnderlying64 rfl Try.sizeOf62 rfl) ?_
      refine vl_val rfl (.some rfl) (val_loadAgg Try.isAgg62 Try.sizeOf62 rfl (cells_part (us := [.int .i64 ((zs.getD i zn0).lo).k, .int .i64 ((zs.getD i zn0).lo).n, .string ((zs.getD i zn0).lo).s]) (by repeat constructor) rfl) rfl) ?_
      refine vl_val rfl (.some rfl) (by first | exact val_fieldAddr Try.runUnderlying64 rfl Try.sizeOf62 rfl | exact val_fieldAddrR Try.runUnderlying64 rfl Try.sizeOf62 rfl) ?_
      refine vl_val rfl (.some rfl) (val_loadAgg Try.isAgg62 Try.sizeOf62 rfl (cells_part (us := [.int .i64 ((zs.getD i zn0).hi).k, .int .i64 ((zs.getD i zn0).hi).n, .string ((zs.getD i zn0).hi).s]) (by repeat constructor) rfl) rfl) ?_
      refine vl_val rfl (.some rfl) (val_buildSt (pl := #[(0, 1), (1, 3), (4, 3)]) (cs := #[.int .i64 (zs.getD i zn0).n, .int .i64 (zs.getD i zn0).lo.k, .int .i64 (zs.getD i zn0).lo.n, .string (zs.getD i zn0).lo.s, .int .i64 (zs.getD i zn0).hi.k, .int .i64 (zs.getD i zn0).hi.n, .string (zs.getD i zn0).hi.s]) Try.runUnderlying88 Try.zeroValue88 (fun w => by kernel_rfl) rfl rfl) ?_
      refine vl_lit sT39 rfl rfl (.some rfl) rfl rfl rfl (by decide) (by decide) rfl rfl (fun r45 => ?_)
      refine vl_append (us := znC (zs.getD i zn0)) sT39 rfl rfl (.some rfl) rfl rfl (rd_sl (by repeat constructor)) rfl rfl (by omega) (by omega) (by repeat constructor) (fun A46 k46 => ?_)
      rw [take_flat1 znC zn0 hi8]
      refine vl_val rfl (.some rfl) (by first | exact val_fieldAddr Try.runUnderlying41 rfl Try.sizeOf39 rfl | exact val_fieldAddrR Try.runUnderlying41 rfl Try.sizeOf39 rfl) ?_
      first | refine vl_store rfl rfl .none rfl rfl Try.sizeOf39 rfl (by repeat constructor) (by first | decide | exact Nat.le_refl _ | exact Nat.le_of_ble_eq_true rfl | (simp; omega)) ?_ | refine vl_storeSl rfl rfl .none rfl rfl Try.sizeOf39 rfl (by simp [Value.cells]) (by repeat constructor) (by first | decide | (simp [Value.cells]; omega)) ?_
      refine vl_nil ?_
      refine vc_region ?_
      refine vl_val rfl (.some rfl) (val_add rfl rfl (by first | exact w_i64 (by omega) (by omega) | rfl)) ?_
      refine vl_val rfl (.some rfl) (val_move rfl) ?_
      refine vl_nil ?_
      exact ⟨zs.length - (i + 1), _, _, _, by omega, (by repeat (first | exact trivial | refine ⟨rfl, ?_⟩ | refine ⟨le_item rfl (by first | rfl | (congr 1; omega) | (simp; done) | (simp; omega)), ?_⟩)), (by repeat constructor), ⟨i + 1, A46, k46, by omega, rfl, rfl, rfl⟩⟩
    · (try replace hc1 := of_decide_eq_false hc1)
      obtain rfl : i = zs.length := by omega
      rw [List.take_length]
      refine vc_exit ?_
      refine vc_seq ?_
      refine vc_region ?_
      refine vl_val rfl (.some rfl) (val_loadAgg Try.isAgg41 Try.sizeOf41 rfl (by first | exact cells_whole (by repeat constructor) | exact cells_part (by repeat constructor) rfl) rfl) ?_
      first | refine vl_store rfl rfl .none rfl rfl Try.sizeOf41 rfl (by repeat constructor) (by first | decide | exact Nat.le_refl _ | exact Nat.le_of_ble_eq_true rfl | (simp; omega)) ?_ | refine vl_storeSl rfl rfl .none rfl rfl Try.sizeOf41 rfl (by simp [Value.cells]) (by repeat constructor) (by first | decide | (simp [Value.cells]; omega)) ?_
      refine vl_nil ?_
      refine vc_ret ?_
      refine ⟨_, [sl Ap vs.length cp 87 2 (vs.flatMap vcC), sl Aq zs.length cq 88 7 (zs.flatMap znC)], _, resC Try.results32 rfl (whole_agg Try.isAgg41 Try.sizeOf41 (cells_whole (by repeat constructor)) rfl), (by repeat constructor), ?_⟩
      exact ⟨Ap, cp, Aq, cq, rfl, rfl⟩




theorem rw_at {rs qs : List Rw} {i : Nat} (h : rs.map (·.2.2) = qs.map (·.2.2)) : (rs.getD i rw0).2.2 = (qs.getD i rw0).2.2 := by
  have e : (rs.map (·.2.2)).getD i [] = (qs.map (·.2.2)).getD i [] := by rw [h]
  rw [map_getDs rw0 [] rfl, map_getDs rw0 [] rfl] at e
  exact e
structure RwR (w : World) (A : Option Addr) (rs : List Rw) : Prop where
  hd : Reads w A (rs.flatMap rowV)
  row : ∀ q ∈ rs, Reads w q.1 (flat q.2.2)

set_option maxRecDepth 20000 in
set_option maxHeartbeats 1000000 in
theorem gSame (n : Int) (Ac : Option Addr) (cc : Nat) (vs : List Vc) (Az : Option Addr) (cz : Nat) (zs : List Zn) (hlc : vs.length < 4611686018427387904) (hlz : zs.length < 4611686018427387904) (hb1 : vs.length ≤ 1000000) (hb2 : zs.length ≤ 1000000) (Bc : Option Addr) (bc : Nat) (us : List Vc) (Bz : Option Addr) (bz : Nat) (hli : ∀ v ∈ vs, v.ids.length ≤ 1000000) (hvu : vs.map vcP = us.map vcP) (w : World) (hrs : SgR w Ac vs Az zs) (hrs2 : SgR w Bc us Bz zs) : FnV Try.prog 11 [sgV n Ac cc vs Az cz zs, sgV n Bc bc us Bz bz zs] (.bool true) w := by
  have hul : vs.length = us.length := by have h := congrArg List.length hvu; rwa [List.length_map, List.length_map] at h
  refine fn_enter Try.func11 rfl Try.ntmps11 rfl ?_
  refine vc_seq ?_
  refine vc_region ?_
  refine vl_box rfl rfl (.some rfl) rfl (fun r2 => ?_)
  refine vl_box rfl rfl (.some rfl) rfl (fun r3 => ?_)
  refine vl_val rfl (.some rfl) (val_assign rfl) ?_
  refine vl_nil ?_
  refine vc_seq ?_
  refine vc_region ?_
  refine vl_val rfl (.some rfl) (val_loadAgg Try.isAgg34 Try.sizeOf34 rfl (by first | exact cells_whole (by repeat constructor) | exact cells_part (by repeat constructor) rfl) rfl) ?_
  refine vl_call (C := []) rfl rfl (.some rfl) Try.call32 rfl .nil (fun w hw => gPlain n Ac cc vs Az cz zs hlc hlz w ⟨rdw (rd_old hrs.cs rfl) hw, rdw (rd_old hrs.zs rfl) hw, fun v hv => ⟨rdw (rd_old (hrs.col v hv).nu rfl) hw, rdw (rd_old (hrs.col v hv).ids rfl) hw, (hrs.col v hv).ln, (hrs.col v hv).li⟩⟩ hb1 hb2) (fun v9 H9 h => ?_)
  obtain ⟨Ap, cp, Aq, cq, rfl, rfl⟩ := h
  show VL _ _ _ _ _ (_ :: _ :: _)
  refine vl_alloc rfl rfl (.some rfl) Try.zeroValue41 (fun r5 => ?_)
  first | refine vl_store rfl rfl .none rfl rfl Try.sizeOf41 rfl (by repeat constructor) (by first | decide | exact Nat.le_refl _ | exact Nat.le_of_ble_eq_true rfl | (simp; omega)) ?_ | refine vl_storeSl rfl rfl .none rfl rfl Try.sizeOf41 rfl (by simp [Value.cells]) (by repeat constructor) (by first | decide | (simp [Value.cells]; omega)) ?_
  refine vl_nil ?_
  refine vc_seq ?_
  refine vc_seq ?_
  refine vc_region ?_
  refine vl_val rfl (.some rfl) (by first | exact val_fieldAddr Try.runUnderlying41 rfl Try.sizeOf3 rfl | exact val_fieldAddrR Try.runUnderlying41 rfl Try.sizeOf3 rfl) ?_
  refine vl_val rfl (.some rfl) (val_load Try.isAgg3 rfl (by first | exact cell_cells (by repeat constructor) rfl | exact cell_rd (by first | exact rd_sl (by repeat constructor) | exact rd_old (by assumption) rfl) (by first | exact bcells_at (by omega) | exact ucells_at (by omega) | exact icells_at (by omega) | exact tcells_at (by omega) | exact bcells_get (by omega) | exact icells_get (by omega) | exact tcells_get (by omega) | exact ucells_get (by omega)) | exact cell_old (by assumption) (by simp [fps]))) ?_
  refine vl_val rfl (.some rfl) (by first | exact val_fieldAddr Try.runUnderlying41 rfl Try.sizeOf3 rfl | exact val_fieldAddrR Try.runUnderlying41 rfl Try.sizeOf3 rfl) ?_
  refine vl_val rfl (.some rfl) (val_load Try.isAgg3 rfl (by first | exact cell_cells (by repeat constructor) rfl | exact cell_rd (by first | exact rd_sl (by repeat constructor) | exact rd_old (by assumption) rfl) (by first | exact bcells_at (by omega) | exact ucells_at (by omega) | exact icells_at (by omega) | exact tcells_at (by omega) | exact bcells_get (by omega) | exact icells_get (by omega) | exact tcells_get (by omega) | exact ucells_get (by omega)) | exact cell_old (by assumption) (by simp [fps]))) ?_
  refine vl_val rfl (.some rfl) (val_eqv (v' := .bool false) (congrArg Value.bool (decide_eq_false (fun h => h (by first | rfl | omega)))) (val_ne rfl rfl)) ?_
  refine vl_val rfl (.some rfl) (val_move rfl) ?_
  refine vl_on rfl rfl rfl rfl ?_
  refine vl_val rfl (.some rfl) (by first | exact val_fieldAddr Try.runUnderlying41 rfl Try.sizeOf38 rfl | exact val_fieldAddrR Try.runUnderlying41 rfl Try.sizeOf38 rfl) ?_
  refine vl_on rfl rfl rfl rfl ?_
  refine vl_val rfl (.some rfl) (val_load Try.isAgg38 rfl (by first | exact cell_cells (by repeat constructor) rfl | exact cell_rd (by first | exact rd_sl (by repeat constructor) | exact rd_old (by assumption) rfl) (by first | exact bcells_at (by omega) | exact ucells_at (by omega) | exact icells_at (by omega) | exact tcells_at (by omega) | exact bcells_get (by omega) | exact icells_get (by omega) | exact tcells_get (by omega) | exact ucells_get (by omega)) | exact cell_old (by assumption) (by simp [fps]))) ?_
  refine vl_on rfl rfl rfl rfl ?_
  refine vl_val rfl (.some rfl) (val_lenSl Try.runUnderlying38 rfl) ?_
  refine vl_on rfl rfl rfl rfl ?_
  refine vl_val rfl (.some rfl) (by first | exact val_fieldAddr Try.runUnderlying41 rfl Try.sizeOf38 rfl | exact val_fieldAddrR Try.runUnderlying41 rfl Try.sizeOf38 rfl) ?_
  refine vl_on rfl rfl rfl rfl ?_
  refine vl_val rfl (.some rfl) (val_load Try.isAgg38 rfl (by first | exact cell_cells (by repeat constructor) rfl | exact cell_rd (by first | exact rd_sl (by repeat constructor) | exact rd_old (by assumption) rfl) (by first | exact bcells_at (by omega) | exact ucells_at (by omega) | exact icells_at (by omega) | exact tcells_at (by omega) | exact bcells_get (by omega) | exact icells_get (by omega) | exact tcells_get (by omega) | exact ucells_get (by omega)) | exact cell_old (by assumption) (by simp [fps]))) ?_
  refine vl_on rfl rfl rfl rfl ?_
  refine vl_val rfl (.some rfl) (val_lenSl Try.runUnderlying38 rfl) ?_
  refine vl_on rfl rfl rfl rfl ?_
  refine vl_val rfl (.some rfl) (val_eqv (v' := .bool false) (congrArg Value.bool (decide_eq_false (fun h => h (by first | rfl | omega)))) (val_ne rfl rfl)) ?_
  refine vl_val rfl (.some rfl) (val_pick rfl rfl) ?_
  refine vl_val rfl (.some rfl) (val_move rfl) ?_
  refine vl_on rfl rfl rfl rfl ?_
  refine vl_val rfl (.some rfl) (by first | exact val_fieldAddr Try.runUnderlying41 rfl Try.sizeOf39 rfl | exact val_fieldAddrR Try.runUnderlying41 rfl Try.sizeOf39 rfl) ?_
  refine vl_on rfl rfl rfl rfl ?_
  refine vl_val rfl (.some rfl) (val_load Try.isAgg39 rfl (by first | exact cell_cells (by repeat constructor) rfl | exact cell_rd (by first | exact rd_sl (by repeat constructor) | exact rd_old (by assumption) rfl) (by first | exact bcells_at (by omega) | exact ucells_at (by omega) | exact icells_at (by omega) | exact tcells_at (by omega) | exact bcells_get (by omega) | exact icells_get (by omega) | exact tcells_get (by omega) | exact ucells_get (by omega)) | exact cell_old (by assumption) (by simp [fps]))) ?_
  refine vl_on rfl rfl rfl rfl ?_
  refine vl_val rfl (.some rfl) (val_lenSl Try.runUnderlying39 rfl) ?_
  refine vl_on rfl rfl rfl rfl ?_
  refine vl_val rfl (.some rfl) (by first | exact val_fieldAddr Try.runUnderlying41 rfl Try.sizeOf39 rfl | exact val_fieldAddrR Try.runUnderlying41 rfl Try.sizeOf39 rfl) ?_
  refine vl_on rfl rfl rfl rfl ?_
  refine vl_val rfl (.some rfl) (val_load Try.isAgg39 rfl (by first | exact cell_cells (by repeat constructor) rfl | exact cell_rd (by first | exact rd_sl (by repeat constructor) | exact rd_old (by assumption) rfl) (by first | exact bcells_at (by omega) | exact ucells_at (by omega) | exact icells_at (by omega) | exact tcells_at (by omega) | exact bcells_get (by omega) | exact icells_get (by omega) | exact tcells_get (by omega) | exact ucells_get (by omega)) | exact cell_old (by assumption) (by simp [fps]))) ?_
  refine vl_on rfl rfl rfl rfl ?_
  refine vl_val rfl (.some rfl) (val_lenSl Try.runUnderlying39 rfl) ?_
  refine vl_on rfl rfl rfl rfl ?_
  refine vl_val rfl (.some rfl) (val_eqv (v' := .bool false) (congrArg Value.bool (decide_eq_false (fun h => h (by first | rfl | omega)))) (val_ne rfl rfl)) ?_
  refine vl_val rfl (.some rfl) (val_pick rfl rfl) ?_
  refine vl_nil ?_
  refine vc_cond rfl (fun h => by cases h) (fun _ => ?_)
  refine vc_skip ?_
  refine vc_seq ?_
  refine vc_seq ?_
  refine vc_region ?_
  refine vl_val rfl (.some rfl) (by first | exact val_fieldAddr Try.runUnderlying41 rfl Try.sizeOf39 rfl | exact val_fieldAddrR Try.runUnderlying41 rfl Try.sizeOf39 rfl) ?_
  refine vl_val rfl (.some rfl) (val_load Try.isAgg39 rfl (by first | exact cell_cells (by repeat constructor) rfl | exact cell_rd (by first | exact rd_sl (by repeat constructor) | exact rd_old (by assumption) rfl) (by first | exact bcells_at (by omega) | exact ucells_at (by omega) | exact icells_at (by omega) | exact tcells_at (by omega) | exact bcells_get (by omega) | exact icells_get (by omega) | exact tcells_get (by omega) | exact ucells_get (by omega)) | exact cell_old (by assumption) (by simp [fps]))) ?_
  refine vl_val rfl (.some rfl) (val_lenSl Try.runUnderlying39 rfl) ?_
  refine vl_val rfl (.some rfl) (val_move rfl) ?_
  refine vl_nil ?_
  refine vc_block ?_
  refine vc_loopw (fun k E H => ∃ i : Nat, i ≤ zs.length ∧ k = zs.length - i ∧ E = [(3, .pointer (some ⟨r3, 0, none⟩)), (5, .pointer (some ⟨r5, 0, none⟩)), (37, .slice Aq zs.length cq), (38, .int .i64 zs.length), (39, .int .i64 i)] ∧ H = [cells r5 [.int .i64 n, .slice Ap vs.length cp, .slice Aq zs.length cq] 41, cells r3 [.int .i64 n, .slice Bc us.length bc, .slice Bz zs.length bz] 41, sl Ap vs.length cp 87 2 (vs.flatMap vcC), sl Aq zs.length cq 88 7 (zs.flatMap znC)]) (zs.length) ⟨_, _, _, ⟨0, by omega, rfl, rfl, rfl⟩, (by repeat (first | exact trivial | refine ⟨rfl, ?_⟩ | refine ⟨le_item rfl (by first | rfl | (congr 1; omega) | (simp; done) | (simp; omega)), ?_⟩)), (by repeat constructor)⟩ ?_
  intro k E H hI
  obtain ⟨i, hi, rfl, rfl, rfl⟩ := hI
  refine vc_seq ?_
  refine vc_region ?_
  refine vl_val rfl (.some rfl) (val_lt rfl rfl) ?_
  refine vl_nil ?_
  refine vc_seq ?_
  refine vc_cond rfl (fun hc1 => ?_) (fun hc1 => ?_)
  · (try replace hc1 := of_decide_eq_true hc1)
    have hi8 : i < zs.length := by omega
    refine vc_skip ?_
    refine vc_seq ?_
    refine vc_block ?_
    refine vc_seq ?_
    refine vc_region ?_
    refine vl_val rfl (.some rfl) (val_move rfl) ?_
    refine vl_val rfl (.some rfl) (val_assign rfl) ?_
    refine vl_nil ?_
    refine vc_seq ?_
    refine vc_draws [0, 1, 2, 3, 4, 5, 6, 7, 8, 9, 10] [] [0, 1, 2, 3, 4, 5, 6, 7, 8, 9, 10] rfl (by kernel_rfl) (fun _ _ _ h => h) ?_
    refine vd_val rfl rfl rfl (.some rfl) (by first | exact val_fieldAddr Try.runUnderlying41 rfl Try.sizeOf39 rfl | exact val_fieldAddrR Try.runUnderlying41 rfl Try.sizeOf39 rfl) ?_
    refine vd_val rfl rfl rfl (.some rfl) (val_load Try.isAgg39 rfl (by first | exact cell_cells (by repeat constructor) rfl | exact cell_rd (by first | exact rd_sl (by repeat constructor) | exact rd_old (by assumption) rfl) (by first | exact bcells_at (by omega) | exact ucells_at (by omega) | exact icells_at (by omega) | exact tcells_at (by omega) | exact bcells_get (by omega) | exact icells_get (by omega) | exact tcells_get (by omega) | exact ucells_get (by omega)) | exact cell_old (by assumption) (by simp [fps]))) ?_
    refine vd_val rfl rfl rfl (.some rfl) (val_move rfl) ?_
    refine vd_val rfl rfl rfl (.some rfl) (val_indexAddr Try.runUnderlying39 Try.sizeOf88 rfl rfl (rd_sl (A := Aq) (by repeat constructor)) (by omega) (by omega) (by rw [flatS_len znC_len]; omega)) ?_
    refine vd_val rfl rfl rfl (.some rfl) (val_loadAgg Try.isAgg88 Try.sizeOf88 rfl (cells_rd (us := znC (zs.getD i zn0)) (rd_sl (A := Aq) (by repeat constructor)) (by rw [Int.toNat_natCast]; exact flat_atM znC_len zn0 _ _ (by omega))) rfl) ?_
    refine vd_val rfl rfl rfl (.some rfl) (by first | exact val_fieldAddr Try.runUnderlying41 rfl Try.sizeOf39 rfl | exact val_fieldAddrR Try.runUnderlying41 rfl Try.sizeOf39 rfl) ?_
    refine vd_val rfl rfl rfl (.some rfl) (val_load Try.isAgg39 rfl (by first | exact cell_cells (by repeat constructor) rfl | exact cell_rd (by first | exact rd_sl (by repeat constructor) | exact rd_old (by assumption) rfl) (by first | exact bcells_at (by omega) | exact ucells_at (by omega) | exact icells_at (by omega) | exact tcells_at (by omega) | exact bcells_get (by omega) | exact icells_get (by omega) | exact tcells_get (by omega) | exact ucells_get (by omega)) | exact cell_old (by assumption) (by simp [fps]))) ?_
    refine vd_val rfl rfl rfl (.some rfl) (val_move rfl) ?_
    refine vd_val rfl rfl rfl (.some rfl) (val_indexAddr Try.runUnderlying39 Try.sizeOf88 rfl rfl (rd_old hrs2.zs rfl) (by omega) (by omega) (by rw [flatS_len znC_len]; omega)) ?_
    refine vd_val rfl rfl rfl (.some rfl) (val_loadAgg Try.isAgg88 Try.sizeOf88 rfl (cells_rd (us := znC (zs.getD i zn0)) (rd_old hrs2.zs rfl) (by rw [Int.toNat_natCast]; exact flat_atM znC_len zn0 _ _ (by omega))) rfl) ?_
    refine vd_val rfl rfl rfl (.some rfl) (val_eqv (v' := .bool false) (v := .bool (!decide ((zs.getD i zn0) = (zs.getD i zn0)))) (congrArg Value.bool (by simp)) (val_opO rfl rfl (fun w => run_eqGuard_agg w _ _ _ _ _ _ (by kernel_rfl)) (bin_agg_ne (zx_equal (zs.getD i zn0) (zs.getD i zn0))))) ?_
    refine vd_nil ?_
    refine vc_cond rfl (fun h => by cases h) (fun _ => ?_)
    refine vc_skip ?_
    refine vc_region ?_
    refine vl_val rfl (.some rfl) (val_add rfl rfl (by first | exact w_i64 (by omega) (by omega) | rfl)) ?_
    refine vl_val rfl (.some rfl) (val_move rfl) ?_
    refine vl_nil ?_
    exact ⟨zs.length - (i + 1), _, _, _, by omega, (by repeat (first | exact trivial | refine ⟨rfl, ?_⟩ | refine ⟨le_item rfl (by first | rfl | (congr 1; omega) | (simp; done) | (simp; omega)), ?_⟩)), (by repeat constructor), ⟨i + 1, by omega, rfl, rfl, rfl⟩⟩
  · (try replace hc1 := of_decide_eq_false hc1)
    refine vc_exit ?_
    refine vc_seq ?_
    refine vc_seq ?_
    refine vc_region ?_
    refine vl_val rfl (.some rfl) (by first | exact val_fieldAddr Try.runUnderlying41 rfl Try.sizeOf38 rfl | exact val_fieldAddrR Try.runUnderlying41 rfl Try.sizeOf38 rfl) ?_
    refine vl_val rfl (.some rfl) (val_load Try.isAgg38 rfl (by first | exact cell_cells (by repeat constructor) rfl | exact cell_rd (by first | exact rd_sl (by repeat constructor) | exact rd_old (by assumption) rfl) (by first | exact bcells_at (by omega) | exact ucells_at (by omega) | exact icells_at (by omega) | exact tcells_at (by omega) | exact bcells_get (by omega) | exact icells_get (by omega) | exact tcells_get (by omega) | exact ucells_get (by omega)) | exact cell_old (by assumption) (by simp [fps]))) ?_
    refine vl_val rfl (.some rfl) (val_lenSl Try.runUnderlying38 rfl) ?_
    refine vl_val rfl (.some rfl) (val_move rfl) ?_
    refine vl_nil ?_
    refine vc_block ?_
    refine vc_loopw (fun k E H => ∃ i : Nat, i ≤ vs.length ∧ k = vs.length - i ∧ E = [(3, .pointer (some ⟨r3, 0, none⟩)), (5, .pointer (some ⟨r5, 0, none⟩)), (55, .slice Ap vs.length cp), (56, .int .i64 vs.length), (57, .int .i64 i)] ∧ H = [cells r5 [.int .i64 n, .slice Ap vs.length cp, .slice Aq zs.length cq] 41, cells r3 [.int .i64 n, .slice Bc us.length bc, .slice Bz zs.length bz] 41, sl Ap vs.length cp 87 2 (vs.flatMap vcC), sl Aq zs.length cq 88 7 (zs.flatMap znC)]) (vs.length) ⟨_, _, _, ⟨0, by omega, rfl, rfl, rfl⟩, (by repeat (first | exact trivial | refine ⟨rfl, ?_⟩ | refine ⟨le_item rfl (by first | rfl | (congr 1; omega) | (simp; done) | (simp; omega)), ?_⟩)), (by repeat constructor)⟩ ?_
    intro k E H hI
    obtain ⟨i, hi, rfl, rfl, rfl⟩ := hI
    refine vc_seq ?_
    refine vc_region ?_
    refine vl_val rfl (.some rfl) (val_lt rfl rfl) ?_
    refine vl_nil ?_
    refine vc_seq ?_
    refine vc_cond rfl (fun hc3 => ?_) (fun hc3 => ?_)
    · (try replace hc3 := of_decide_eq_true hc3)
      have hi8 : i < vs.length := by omega
      have hc1 := hrs.col _ (mem_getD vc0 hi8)
      have hc2 := hrs2.col _ (mem_getD vc0 (show i < us.length by omega))
      have hvi := vcP_at (i := i) hvu hi8
      have hl3 := hli _ (mem_getD vc0 hi8)
      have hl1 := hc1.ln
      have hl2 := hc1.li
      have hnl : (vs.getD i vc0).nu.length = (us.getD i vc0).nu.length := by rw [hvi.1]
      refine vc_skip ?_
      refine vc_seq ?_
      refine vc_block ?_
      refine vc_seq ?_
      refine vc_region ?_
      refine vl_val rfl (.some rfl) (val_move rfl) ?_
      refine vl_val rfl (.some rfl) (val_indexAddr Try.runUnderlying38 Try.sizeOf87 rfl rfl (rd_sl (A := Ap) (by repeat constructor)) (by omega) (by omega) (by rw [flatS_len vcC_len]; omega)) ?_
      refine vl_val rfl (.some rfl) (val_loadAgg Try.isAgg87 Try.sizeOf87 rfl (cells_rd (us := vcC (vs.getD i vc0)) (rd_sl (A := Ap) (by repeat constructor)) (by rw [Int.toNat_natCast]; exact flat_atM vcC_len vc0 _ _ (by omega))) rfl) ?_
      refine vl_alloc rfl rfl (.some rfl) Try.zeroValue87 (fun r8 => ?_)
      refine vl_val rfl (.some rfl) (val_assign rfl) ?_
      first | refine vl_store rfl rfl .none rfl rfl Try.sizeOf87 rfl (by repeat constructor) (by first | decide | exact Nat.le_refl _ | exact Nat.le_of_ble_eq_true rfl | (simp; omega)) ?_ | refine vl_storeSl rfl rfl .none rfl rfl Try.sizeOf87 rfl (by simp [Value.cells]) (by repeat constructor) (by first | decide | (simp [Value.cells]; omega)) ?_
      refine vl_nil ?_
      refine vc_seq ?_
      refine vc_region ?_
      refine vl_val rfl (.some rfl) (by first | exact val_fieldAddr Try.runUnderlying41 rfl Try.sizeOf38 rfl | exact val_fieldAddrR Try.runUnderlying41 rfl Try.sizeOf38 rfl) ?_
      refine vl_val rfl (.some rfl) (val_load Try.isAgg38 rfl (by first | exact cell_cells (by repeat constructor) rfl | exact cell_rd (by first | exact rd_sl (by repeat constructor) | exact rd_old (by assumption) rfl) (by first | exact bcells_at (by omega) | exact ucells_at (by omega) | exact icells_at (by omega) | exact tcells_at (by omega) | exact bcells_get (by omega) | exact icells_get (by omega) | exact tcells_get (by omega) | exact ucells_get (by omega)) | exact cell_old (by assumption) (by simp [fps]))) ?_
      refine vl_val rfl (.some rfl) (val_move rfl) ?_
      refine vl_val rfl (.some rfl) (val_indexAddr Try.runUnderlying38 Try.sizeOf87 rfl rfl (rd_old hrs2.cs rfl) (by omega) (by omega) (by rw [flatS_len vcC_len]; omega)) ?_
      refine vl_val rfl (.some rfl) (val_loadAgg Try.isAgg87 Try.sizeOf87 rfl (cells_rd (us := vcC (us.getD i vc0)) (rd_old hrs2.cs rfl) (by rw [Int.toNat_natCast]; exact flat_atM vcC_len vc0 _ _ (by omega))) rfl) ?_
      refine vl_alloc rfl rfl (.some rfl) Try.zeroValue87 (fun r9 => ?_)
      first | refine vl_store rfl rfl .none rfl rfl Try.sizeOf87 rfl (by repeat constructor) (by first | decide | exact Nat.le_refl _ | exact Nat.le_of_ble_eq_true rfl | (simp; omega)) ?_ | refine vl_storeSl rfl rfl .none rfl rfl Try.sizeOf87 rfl (by simp [Value.cells]) (by repeat constructor) (by first | decide | (simp [Value.cells]; omega)) ?_
      refine vl_nil ?_
      refine vc_seq ?_
      refine vc_seq ?_
      refine vc_region ?_
      refine vl_val rfl (.some rfl) (by first | exact val_fieldAddr Try.runUnderlying87 rfl Try.sizeOf22 rfl | exact val_fieldAddrR Try.runUnderlying87 rfl Try.sizeOf22 rfl) ?_
      refine vl_val rfl (.some rfl) (val_load Try.isAgg22 rfl (cell_cells (v := .slice (vs.getD i vc0).B (vs.getD i vc0).ids.length (vs.getD i vc0).d) (by repeat constructor) rfl)) ?_
      refine vl_val rfl (.some rfl) (by first | exact val_fieldAddr Try.runUnderlying87 rfl Try.sizeOf22 rfl | exact val_fieldAddrR Try.runUnderlying87 rfl Try.sizeOf22 rfl) ?_
      refine vl_val rfl (.some rfl) (val_load Try.isAgg22 rfl (cell_cells (v := .slice (us.getD i vc0).B (us.getD i vc0).ids.length (us.getD i vc0).d) (by repeat constructor) rfl)) ?_
      refine vl_callV rfl rfl (.some rfl) Try.call33 rfl (fun w hw => rInts (vs.getD i vc0).B (us.getD i vc0).B (vs.getD i vc0).d (us.getD i vc0).d (vs.getD i vc0).ids (us.getD i vc0).ids (by omega) w (rdw (rd_old hc1.ids rfl) hw) (rdw (rd_old hc2.ids rfl) hw)) ?_
      rw [decide_eq_true hvi.2]
      refine vl_val rfl (.some rfl) (val_not rfl) ?_
      refine vl_val rfl (.some rfl) (val_move rfl) ?_
      refine vl_on rfl rfl rfl rfl ?_
      refine vl_val rfl (.some rfl) (by first | exact val_fieldAddr Try.runUnderlying87 rfl Try.sizeOf79 rfl | exact val_fieldAddrR Try.runUnderlying87 rfl Try.sizeOf79 rfl) ?_
      refine vl_on rfl rfl rfl rfl ?_
      refine vl_val rfl (.some rfl) (val_load Try.isAgg79 rfl (cell_cells (v := .slice (vs.getD i vc0).A (vs.getD i vc0).nu.length (vs.getD i vc0).c) (by repeat constructor) rfl)) ?_
      refine vl_on rfl rfl rfl rfl ?_
      refine vl_val rfl (.some rfl) (val_lenSl Try.runUnderlying79 rfl) ?_
      refine vl_on rfl rfl rfl rfl ?_
      refine vl_val rfl (.some rfl) (by first | exact val_fieldAddr Try.runUnderlying87 rfl Try.sizeOf79 rfl | exact val_fieldAddrR Try.runUnderlying87 rfl Try.sizeOf79 rfl) ?_
      refine vl_on rfl rfl rfl rfl ?_
      refine vl_val rfl (.some rfl) (val_load Try.isAgg79 rfl (cell_cells (v := .slice (us.getD i vc0).A (us.getD i vc0).nu.length (us.getD i vc0).c) (by repeat constructor) rfl)) ?_
      refine vl_on rfl rfl rfl rfl ?_
      refine vl_val rfl (.some rfl) (val_lenSl Try.runUnderlying79 rfl) ?_
      refine vl_on rfl rfl rfl rfl ?_
      refine vl_val rfl (.some rfl) (val_eqv (v' := .bool false) (congrArg Value.bool (decide_eq_false (fun h => h (by first | rfl | omega)))) (val_ne rfl rfl)) ?_
      refine vl_val rfl (.some rfl) (val_pick rfl rfl) ?_
      refine vl_nil ?_
      refine vc_cond rfl (fun h => by cases h) (fun _ => ?_)
      refine vc_skip ?_
      refine vc_seq ?_
      refine vc_region ?_
      refine vl_val rfl (.some rfl) (by first | exact val_fieldAddr Try.runUnderlying87 rfl Try.sizeOf79 rfl | exact val_fieldAddrR Try.runUnderlying87 rfl Try.sizeOf79 rfl) ?_
      refine vl_val rfl (.some rfl) (val_load Try.isAgg79 rfl (cell_cells (v := .slice (vs.getD i vc0).A (vs.getD i vc0).nu.length (vs.getD i vc0).c) (by repeat constructor) rfl)) ?_
      refine vl_val rfl (.some rfl) (val_lenSl Try.runUnderlying79 rfl) ?_
      refine vl_val rfl (.some rfl) (val_move rfl) ?_
      refine vl_nil ?_
      refine vc_block ?_
      refine vc_loopw (fun k E H => ∃ j : Nat, j ≤ (vs.getD i vc0).nu.length ∧ k = (vs.getD i vc0).nu.length - j ∧ E = [(3, .pointer (some ⟨r3, 0, none⟩)), (5, .pointer (some ⟨r5, 0, none⟩)), (55, .slice Ap vs.length cp), (56, .int .i64 vs.length), (57, .int .i64 i), (8, .pointer (some ⟨r8, 0, none⟩)), (9, .pointer (some ⟨r9, 0, none⟩)), (83, .slice (vs.getD i vc0).A (vs.getD i vc0).nu.length (vs.getD i vc0).c), (84, .int .i64 (vs.getD i vc0).nu.length), (85, .int .i64 j)] ∧ H = [cells r9 (vcC (us.getD i vc0)) 87, cells r8 (vcC (vs.getD i vc0)) 87, cells r5 [.int .i64 n, .slice Ap vs.length cp, .slice Aq zs.length cq] 41, cells r3 [.int .i64 n, .slice Bc us.length bc, .slice Bz zs.length bz] 41, sl Ap vs.length cp 87 2 (vs.flatMap vcC), sl Aq zs.length cq 88 7 (zs.flatMap znC)]) ((vs.getD i vc0).nu.length) ⟨_, _, _, ⟨0, by omega, rfl, rfl, rfl⟩, (by repeat (first | exact trivial | refine ⟨rfl, ?_⟩ | refine ⟨le_item rfl (by first | rfl | (congr 1; omega) | (simp; done) | (simp; omega)), ?_⟩)), (by repeat constructor)⟩ ?_
      intro k E H hI
      obtain ⟨j, hj, rfl, rfl, rfl⟩ := hI
      refine vc_seq ?_
      refine vc_region ?_
      refine vl_val rfl (.some rfl) (val_lt rfl rfl) ?_
      refine vl_nil ?_
      refine vc_seq ?_
      refine vc_cond rfl (fun hc5 => ?_) (fun hc5 => ?_)
      · (try replace hc5 := of_decide_eq_true hc5)
        have hj8 : j < (vs.getD i vc0).nu.length := by omega
        refine vc_skip ?_
        refine vc_seq ?_
        refine vc_block ?_
        refine vc_seq ?_
        refine vc_region ?_
        refine vl_val rfl (.some rfl) (val_move rfl) ?_
        refine vl_val rfl (.some rfl) (val_assign rfl) ?_
        refine vl_nil ?_
        refine vc_seq ?_
        refine vc_draws [0, 1, 2, 3, 4, 5, 6, 7, 8, 9, 10] [] [0, 1, 2, 3, 4, 5, 6, 7, 8, 9, 10] rfl (by kernel_rfl) (fun _ _ _ h => h) ?_
        refine vd_val rfl rfl rfl (.some rfl) (by first | exact val_fieldAddr Try.runUnderlying87 rfl Try.sizeOf79 rfl | exact val_fieldAddrR Try.runUnderlying87 rfl Try.sizeOf79 rfl) ?_
        refine vd_val rfl rfl rfl (.some rfl) (val_load Try.isAgg79 rfl (cell_cells (v := .slice (vs.getD i vc0).A (vs.getD i vc0).nu.length (vs.getD i vc0).c) (by repeat constructor) rfl)) ?_
        refine vd_val rfl rfl rfl (.some rfl) (val_move rfl) ?_
        refine vd_val rfl rfl rfl (.some rfl) (val_indexAddr Try.runUnderlying79 Try.sizeOf4 rfl rfl (rd_old hc1.nu rfl) (by omega) (by omega) (by rw [Int.toNat_natCast, tcells_length]; omega)) ?_
        refine vd_val rfl rfl rfl (.some rfl) (val_load Try.isAgg4 rfl (cell_rd (rd_old hc1.nu rfl) (tcells_at (by omega)))) ?_
        refine vd_val rfl rfl rfl (.some rfl) (by first | exact val_fieldAddr Try.runUnderlying87 rfl Try.sizeOf79 rfl | exact val_fieldAddrR Try.runUnderlying87 rfl Try.sizeOf79 rfl) ?_
        refine vd_val rfl rfl rfl (.some rfl) (val_load Try.isAgg79 rfl (cell_cells (v := .slice (us.getD i vc0).A (us.getD i vc0).nu.length (us.getD i vc0).c) (by repeat constructor) rfl)) ?_
        refine vd_val rfl rfl rfl (.some rfl) (val_move rfl) ?_
        refine vd_val rfl rfl rfl (.some rfl) (val_indexAddr Try.runUnderlying79 Try.sizeOf4 rfl rfl (rd_old hc2.nu rfl) (by omega) (by omega) (by rw [Int.toNat_natCast, tcells_length]; omega)) ?_
        refine vd_val rfl rfl rfl (.some rfl) (val_load Try.isAgg4 rfl (cell_rd (rd_old hc2.nu rfl) (tcells_at (by omega)))) ?_
        refine vd_val rfl rfl rfl (.some rfl) (val_eqv (v' := .bool false) (v := .bool ((vs.getD i vc0).nu.getD j false != (us.getD i vc0).nu.getD j false)) (congrArg Value.bool (by rw [hvi.1]; simp)) (val_bne Try.underlying4 rfl rfl)) ?_
        refine vd_nil ?_
        refine vc_cond rfl (fun h => by cases h) (fun _ => ?_)
        refine vc_skip ?_
        refine vc_region ?_
        refine vl_val rfl (.some rfl) (val_add rfl rfl (by first | exact w_i64 (by omega) (by omega) | rfl)) ?_
        refine vl_val rfl (.some rfl) (val_move rfl) ?_
        refine vl_nil ?_
        exact ⟨(vs.getD i vc0).nu.length - (j + 1), _, _, _, by omega, (by repeat (first | exact trivial | refine ⟨rfl, ?_⟩ | refine ⟨le_item rfl (by first | rfl | (congr 1; omega) | (simp; done) | (simp; omega)), ?_⟩)), (by repeat constructor), ⟨j + 1, by omega, rfl, rfl, rfl⟩⟩
      · (try replace hc5 := of_decide_eq_false hc5)
        refine vc_exit ?_
        refine vc_region ?_
        refine vl_val rfl (.some rfl) (val_add rfl rfl (by first | exact w_i64 (by omega) (by omega) | rfl)) ?_
        refine vl_val rfl (.some rfl) (val_move rfl) ?_
        refine vl_nil ?_
        exact ⟨vs.length - (i + 1), _, _, _, by omega, (by repeat (first | exact trivial | refine ⟨rfl, ?_⟩ | refine ⟨le_item rfl (by first | rfl | (congr 1; omega) | (simp; done) | (simp; omega)), ?_⟩)), (by repeat constructor), ⟨i + 1, by omega, rfl, rfl, rfl⟩⟩
    · (try replace hc3 := of_decide_eq_false hc3)
      refine vc_exit ?_
      refine vc_seq ?_
      refine vc_region ?_
      refine vl_val rfl (.some rfl) (val_assign rfl) ?_
      refine vl_nil ?_
      refine vc_ret ?_
      refine ⟨_, [], _, res1 Try.results11 rfl, .nil, ?_⟩
      rfl
set_option maxRecDepth 20000 in
set_option maxHeartbeats 1000000 in
theorem gRowsSame (Ao : Option Addr) (co : Nat) (rs : List Rw) (Bo : Option Addr) (bo : Nat) (qs : List Rw) (hrl : rs.length ≤ 1000000) (hll : ∀ i, (rs.getD i rw0).2.2.length ≤ 1000000) (hq : rs.map (·.2.2) = qs.map (·.2.2)) (w : World) (hr1 : RwR w Ao rs) (hr2 : RwR w Bo qs) : FnV Try.prog 14 [.slice Ao rs.length co, .slice Bo qs.length bo] (.bool true) w := by
  have hql : rs.length = qs.length := by have h := congrArg List.length hq; rwa [List.length_map, List.length_map] at h
  refine fn_enter Try.func14 rfl Try.ntmps14 rfl ?_
  refine vc_seq ?_
  refine vc_region ?_
  refine vl_val rfl (.some rfl) (val_assign rfl) ?_
  refine vl_nil ?_
  refine vc_seq ?_
  refine vc_seq ?_
  refine vc_region ?_
  refine vl_val rfl (.some rfl) (val_move rfl) ?_
  refine vl_val rfl (.some rfl) (val_lenSl Try.runUnderlying23 rfl) ?_
  refine vl_val rfl (.some rfl) (val_move rfl) ?_
  refine vl_val rfl (.some rfl) (val_lenSl Try.runUnderlying23 rfl) ?_
  refine vl_val rfl (.some rfl) (val_eqv (v' := .bool false) (congrArg Value.bool (decide_eq_false (fun h => h (by first | rfl | omega)))) (val_ne rfl rfl)) ?_
  refine vl_nil ?_
  refine vc_cond rfl (fun h => by cases h) (fun _ => ?_)
  refine vc_skip ?_
  refine vc_seq ?_
  refine vc_seq ?_
  refine vc_region ?_
  refine vl_val rfl (.some rfl) (val_move rfl) ?_
  refine vl_val rfl (.some rfl) (val_lenSl Try.runUnderlying23 rfl) ?_
  refine vl_val rfl (.some rfl) (val_move rfl) ?_
  refine vl_nil ?_
  refine vc_block ?_
  refine vc_loopw (fun k E H => ∃ i : Nat, i ≤ rs.length ∧ k = rs.length - i ∧ E = [(0, .slice Ao rs.length co), (1, .slice Bo qs.length bo), (12, .slice Ao rs.length co), (13, .int .i64 rs.length), (14, .int .i64 i)] ∧ H = []) (rs.length) ⟨_, _, _, ⟨0, by omega, rfl, rfl, rfl⟩, (by repeat (first | exact trivial | refine ⟨rfl, ?_⟩ | refine ⟨le_item rfl (by first | rfl | (congr 1; omega) | (simp; done) | (simp; omega)), ?_⟩)), (by repeat constructor)⟩ ?_
  intro k E H hI
  obtain ⟨i, hi, rfl, rfl, rfl⟩ := hI
  refine vc_seq ?_
  refine vc_region ?_
  refine vl_val rfl (.some rfl) (val_lt rfl rfl) ?_
  refine vl_nil ?_
  refine vc_seq ?_
  refine vc_cond rfl (fun hc1 => ?_) (fun hc1 => ?_)
  · (try replace hc1 := of_decide_eq_true hc1)
    have hi8 : i < rs.length := by omega
    have hc1 := hr1.row _ (mem_getD rw0 hi8)
    have hc2 := hr2.row _ (mem_getD rw0 (show i < qs.length by omega))
    have hri := rw_at (i := i) hq
    have hrn : (rs.getD i rw0).2.2.length = (qs.getD i rw0).2.2.length := by rw [hri]
    have hl1 := hll i
    refine vc_skip ?_
    refine vc_seq ?_
    refine vc_block ?_
    refine vc_seq ?_
    refine vc_region ?_
    refine vl_val rfl (.some rfl) (val_move rfl) ?_
    refine vl_val rfl (.some rfl) (val_assign rfl) ?_
    refine vl_nil ?_
    refine vc_seq ?_
    refine vc_seq ?_
    refine vc_draws [0, 1, 2, 3, 4, 5, 6, 7, 8, 9, 10] [] [0, 1, 2, 3, 4, 5, 6, 7, 8, 9, 10] rfl (by kernel_rfl) (fun _ _ _ h => h) ?_
    refine vd_val rfl rfl rfl (.some rfl) (val_move rfl) ?_
    refine vd_val rfl rfl rfl (.some rfl) (val_move rfl) ?_
    refine vd_val rfl rfl rfl (.some rfl) (val_indexAddr Try.runUnderlying23 Try.sizeOf53 rfl rfl (rd_old hr1.hd rfl) (by omega) (by omega) (by rw [rowC_len]; omega)) ?_
    refine vd_val rfl rfl rfl (.some rfl) (val_load Try.isAgg53 rfl (cell_rd (rd_old hr1.hd rfl) (rowC_at (by omega)))) ?_
    refine vd_val rfl rfl rfl (.some rfl) (val_lenSl Try.runUnderlying53 rfl) ?_
    refine vd_val rfl rfl rfl (.some rfl) (val_move rfl) ?_
    refine vd_val rfl rfl rfl (.some rfl) (val_move rfl) ?_
    refine vd_val rfl rfl rfl (.some rfl) (val_indexAddr Try.runUnderlying23 Try.sizeOf53 rfl rfl (rd_old hr2.hd rfl) (by omega) (by omega) (by rw [rowC_len]; omega)) ?_
    refine vd_val rfl rfl rfl (.some rfl) (val_load Try.isAgg53 rfl (cell_rd (rd_old hr2.hd rfl) (rowC_at (by omega)))) ?_
    refine vd_val rfl rfl rfl (.some rfl) (val_lenSl Try.runUnderlying53 rfl) ?_
    refine vd_val rfl rfl rfl (.some rfl) (val_eqv (v' := .bool false) (congrArg Value.bool (decide_eq_false (fun h => h (by first | rfl | omega)))) (val_ne rfl rfl)) ?_
    refine vd_nil ?_
    refine vc_cond rfl (fun h => by cases h) (fun _ => ?_)
    refine vc_skip ?_
    refine vc_seq ?_
    refine vc_region ?_
    refine vl_val rfl (.some rfl) (val_move rfl) ?_
    refine vl_val rfl (.some rfl) (val_move rfl) ?_
    refine vl_val rfl (.some rfl) (val_indexAddr Try.runUnderlying23 Try.sizeOf53 rfl rfl (rd_old hr1.hd rfl) (by omega) (by omega) (by rw [rowC_len]; omega)) ?_
    refine vl_val rfl (.some rfl) (val_load Try.isAgg53 rfl (cell_rd (rd_old hr1.hd rfl) (rowC_at (by omega)))) ?_
    refine vl_val rfl (.some rfl) (val_lenSl Try.runUnderlying53 rfl) ?_
    refine vl_val rfl (.some rfl) (val_move rfl) ?_
    refine vl_nil ?_
    refine vc_block ?_
    refine vc_loopw (fun k E H => ∃ j : Nat, j ≤ (rs.getD i rw0).2.2.length ∧ k = (rs.getD i rw0).2.2.length - j ∧ E = [(0, .slice Ao rs.length co), (1, .slice Bo qs.length bo), (12, .slice Ao rs.length co), (13, .int .i64 rs.length), (14, .int .i64 i), (5, .int .i64 i), (31, .slice (rs.getD i rw0).1 (rs.getD i rw0).2.2.length (rs.getD i rw0).2.1), (32, .int .i64 (rs.getD i rw0).2.2.length), (33, .int .i64 j)] ∧ H = []) ((rs.getD i rw0).2.2.length) ⟨_, _, _, ⟨0, by omega, rfl, rfl, rfl⟩, (by repeat (first | exact trivial | refine ⟨rfl, ?_⟩ | refine ⟨le_item rfl (by first | rfl | (congr 1; omega) | (simp; done) | (simp; omega)), ?_⟩)), (by repeat constructor)⟩ ?_
    intro k E H hI
    obtain ⟨j, hj, rfl, rfl, rfl⟩ := hI
    refine vc_seq ?_
    refine vc_region ?_
    refine vl_val rfl (.some rfl) (val_lt rfl rfl) ?_
    refine vl_nil ?_
    refine vc_seq ?_
    refine vc_cond rfl (fun hc3 => ?_) (fun hc3 => ?_)
    · (try replace hc3 := of_decide_eq_true hc3)
      have hj8 : j < (rs.getD i rw0).2.2.length := by omega
      refine vc_skip ?_
      refine vc_seq ?_
      refine vc_block ?_
      refine vc_seq ?_
      refine vc_region ?_
      refine vl_val rfl (.some rfl) (val_move rfl) ?_
      refine vl_val rfl (.some rfl) (val_assign rfl) ?_
      refine vl_nil ?_
      refine vc_seq ?_
      refine vc_draws [0, 1, 2, 3, 4, 5, 6, 7, 8, 9, 10, 11, 12, 13, 14] [] [0, 1, 2, 3, 4, 5, 6, 7, 8, 9, 10, 11, 12, 13, 14] rfl (by kernel_rfl) (fun _ _ _ h => h) ?_
      refine vd_val rfl rfl rfl (.some rfl) (val_move rfl) ?_
      refine vd_val rfl rfl rfl (.some rfl) (val_move rfl) ?_
      refine vd_val rfl rfl rfl (.some rfl) (val_indexAddr Try.runUnderlying23 Try.sizeOf53 rfl rfl (rd_old hr1.hd rfl) (by omega) (by omega) (by rw [rowC_len]; omega)) ?_
      refine vd_val rfl rfl rfl (.some rfl) (val_load Try.isAgg53 rfl (cell_rd (rd_old hr1.hd rfl) (rowC_at (by omega)))) ?_
      refine vd_val rfl rfl rfl (.some rfl) (val_move rfl) ?_
      refine vd_val rfl rfl rfl (.some rfl) (val_indexAddr Try.runUnderlying53 Try.sizeOf62 rfl rfl (rd_old hc1 rfl) (by omega) (by omega) (by rw [vflat_len]; omega)) ?_
      refine vd_val rfl rfl rfl (.some rfl) (val_loadAgg Try.isAgg62 Try.sizeOf62 rfl (cells_rd (us := [.int .i64 ((rs.getD i rw0).2.2.getD j z3).k, .int .i64 ((rs.getD i rw0).2.2.getD j z3).n, .string ((rs.getD i rw0).2.2.getD j z3).s]) (rd_old hc1 rfl) (by rw [Int.toNat_natCast]; exact flat_at _ _ (by omega))) rfl) ?_
      refine vd_val rfl rfl rfl (.some rfl) (val_move rfl) ?_
      refine vd_val rfl rfl rfl (.some rfl) (val_move rfl) ?_
      refine vd_val rfl rfl rfl (.some rfl) (val_indexAddr Try.runUnderlying23 Try.sizeOf53 rfl rfl (rd_old hr2.hd rfl) (by omega) (by omega) (by rw [rowC_len]; omega)) ?_
      refine vd_val rfl rfl rfl (.some rfl) (val_load Try.isAgg53 rfl (cell_rd (rd_old hr2.hd rfl) (rowC_at (by omega)))) ?_
      refine vd_val rfl rfl rfl (.some rfl) (val_move rfl) ?_
      refine vd_val rfl rfl rfl (.some rfl) (val_indexAddr Try.runUnderlying53 Try.sizeOf62 rfl rfl (rd_old hc2 rfl) (by omega) (by omega) (by rw [vflat_len]; omega)) ?_
      refine vd_val rfl rfl rfl (.some rfl) (val_loadAgg Try.isAgg62 Try.sizeOf62 rfl (cells_rd (us := [.int .i64 ((qs.getD i rw0).2.2.getD j z3).k, .int .i64 ((qs.getD i rw0).2.2.getD j z3).n, .string ((qs.getD i rw0).2.2.getD j z3).s]) (rd_old hc2 rfl) (by rw [Int.toNat_natCast]; exact flat_at _ _ (by omega))) rfl) ?_
      refine vd_val rfl rfl rfl (.some rfl) (val_eqv (v' := .bool false) (v := .bool (!decide ((rs.getD i rw0).2.2.getD j z3 = (qs.getD i rw0).2.2.getD j z3))) (congrArg Value.bool (by rw [hri]; simp)) (val_opO rfl rfl (fun w => run_eqGuard_agg w _ _ _ _ _ _ (by kernel_rfl)) (bin_agg_ne (vk_equal ((rs.getD i rw0).2.2.getD j z3) ((qs.getD i rw0).2.2.getD j z3))))) ?_
      refine vd_nil ?_
      refine vc_cond rfl (fun h => by cases h) (fun _ => ?_)
      refine vc_skip ?_
      refine vc_region ?_
      refine vl_val rfl (.some rfl) (val_add rfl rfl (by first | exact w_i64 (by omega) (by omega) | rfl)) ?_
      refine vl_val rfl (.some rfl) (val_move rfl) ?_
      refine vl_nil ?_
      exact ⟨(rs.getD i rw0).2.2.length - (j + 1), _, _, _, by omega, (by repeat (first | exact trivial | refine ⟨rfl, ?_⟩ | refine ⟨le_item rfl (by first | rfl | (congr 1; omega) | (simp; done) | (simp; omega)), ?_⟩)), (by repeat constructor), ⟨j + 1, by omega, rfl, rfl, rfl⟩⟩
    · (try replace hc3 := of_decide_eq_false hc3)
      refine vc_exit ?_
      refine vc_region ?_
      refine vl_val rfl (.some rfl) (val_add rfl rfl (by first | exact w_i64 (by omega) (by omega) | rfl)) ?_
      refine vl_val rfl (.some rfl) (val_move rfl) ?_
      refine vl_nil ?_
      exact ⟨rs.length - (i + 1), _, _, _, by omega, (by repeat (first | exact trivial | refine ⟨rfl, ?_⟩ | refine ⟨le_item rfl (by first | rfl | (congr 1; omega) | (simp; done) | (simp; omega)), ?_⟩)), (by repeat constructor), ⟨i + 1, by omega, rfl, rfl, rfl⟩⟩
  · (try replace hc1 := of_decide_eq_false hc1)
    refine vc_exit ?_
    refine vc_seq ?_
    refine vc_region ?_
    refine vl_val rfl (.some rfl) (val_assign rfl) ?_
    refine vl_nil ?_
    refine vc_ret ?_
    refine ⟨_, [], _, res1 Try.results14 rfl, .nil, ?_⟩
    rfl




theorem vl_dropL {X : Cx} {Q : Post} {E : Env} {H H9 : List Chunk} {ops : Array Oper} {rest : List Oper} (h : VL X ops rest Q E H) : VL X ops rest Q E (H9 ++ H) := fun a w ha hw => h a w ha hw.right
theorem madeS_ok {ks : List Int} {Ds : List (List Vk)} {RS : Rws} {n : Int} {vs : List Vc} {zs : List Zn} {e : Int} {Ds2 : List (List Vk)} (h : MadeS ks Ds RS n vs zs e Ds2) (hg : goodSg ⟨n, vs.map vcP, zs⟩) : ∀ i, i < ks.length → okK (ks.getD i 0) := by
  unfold MadeS makeP at h
  split at h
  · simp only [Prod.mk.injEq, Sg.mk.injEq] at h
    obtain ⟨⟨_, rfl, _, _⟩, _⟩ := h
    exact absurd hg.1.1 (show ¬ (1 : Int) ≤ 0 by decide)
  · rename_i h0
    exact (mayE_zero (show mayE ks Ds RS = 0 by simpa using h0)).2.1
theorem madeS_wv {ks : List Int} {Ds : List (List Vk)} {RS : Rws} {n : Int} {vs : List Vc} {zs : List Zn} {e : Int} {Ds2 : List (List Vk)} (h : MadeS ks Ds RS n vs zs e Ds2) (hw : ∀ r ∈ RS, ∀ p ∈ r, WV p) : ∀ z ∈ zs, WV z.lo ∧ WV z.hi := by
  unfold MadeS makeP at h
  split at h
  · simp only [Prod.mk.injEq, Sg.mk.injEq] at h
    obtain ⟨⟨_, _, _, rfl⟩, _⟩ := h
    intro z hz; cases hz
  · simp only [Prod.mk.injEq, Sg.mk.injEq] at h
    obtain ⟨⟨_, _, _, rfl⟩, _⟩ := h
    intro z hz
    obtain ⟨c, hc, rfl⟩ := List.mem_map.1 hz
    unfold colsP at hc
    obtain ⟨i, _, rfl⟩ := List.mem_map.1 hc
    exact colF_wv (colR_wv hw)
theorem madeS_512 {ks : List Int} {Ds : List (List Vk)} {RS : Rws} {n : Int} {vs : List Vc} {zs : List Zn} {e : Int} {Ds2 : List (List Vk)} (h : MadeS ks Ds RS n vs zs e Ds2) (hD : ∀ i, (Ds.getD i []).length ≤ 512) : ∀ i, (Ds2.getD i []).length ≤ 512 := by
  unfold MadeS makeP at h
  split at h
  · simp only [Prod.mk.injEq] at h
    rw [← h.2]; exact hD
  · simp only [Prod.mk.injEq] at h
    rw [← h.2]
    intro i
    by_cases hi : i < ks.length
    · have : ((colsP ks Ds RS).map (·.2)).getD i [] = (colF (ks.getD i 0) (Ds.getD i []) (colR RS i)).2 := by
        unfold colsP; simp [List.getD, hi]
      rw [this]; exact colF_le (hD i)
    · have : ((colsP ks Ds RS).map (·.2)).getD i [] = [] := by
        unfold colsP; simp [List.getD, hi]
      rw [this]; simp
theorem madeS_eq {ks : List Int} {Ds : List (List Vk)} {RS : Rws} {n n2 : Int} {vs us : List Vc} {zs zs2 : List Zn} {e e2 : Int} {Ds2 Ds3 : List (List Vk)} (h : MadeS ks Ds RS n vs zs e Ds2) (h2 : MadeS ks Ds RS n2 us zs2 e2 Ds3) : n = n2 ∧ vs.map vcP = us.map vcP ∧ zs = zs2 ∧ e = e2 ∧ Ds2 = Ds3 := by
  unfold MadeS at h h2
  rw [h] at h2
  simp only [Prod.mk.injEq, Sg.mk.injEq] at h2
  obtain ⟨⟨a, b, c, d⟩, e⟩ := h2
  exact ⟨b, c, d, a, e⟩
theorem rowsP_len {s : Sg} {Ds : List (List Vk)} {e : Int} {l : List (List Vk)} (h : rowsP s Ds = (e, l)) : l.length ≤ 1000 ∧ ∀ i, (l.getD i []).length ≤ 8 := by
  unfold rowsP at h
  split at h
  · simp only [Prod.mk.injEq] at h
    rw [← h.2]; simp
  · rename_i hg
    have hg2 : goodSg s := Decidable.byContradiction fun h => hg (.inl h)
    split at h
    · simp only [Prod.mk.injEq] at h
      rw [← h.2]; simp
    · simp only [Prod.mk.injEq] at h
      rw [← h.2]
      refine ⟨by rw [List.length_map, List.length_range]; have := hg2.1; omega, fun i => ?_⟩
      by_cases hi : i < s.n.toNat
      · simp [List.getD, hi]; exact hg2.2.1.2
      · simp [List.getD, hi]
theorem sgRM_of {X : Cx} {H C F : List Chunk} {vs : List Vc} {zs : List Zn} {Ac Az : Option Addr} {nc nz cc cz : Nat} {w : World} {T1 T2 : TypeId} (hs : Sub C H F) (hl : ∀ v ∈ vs, v.nu.length ≤ 1000 ∧ v.ids.length ≤ 1000) (h1 : In (big (vs.flatMap vcH)) F) (h2 : In (sl Ac nc cc T1 2 (vs.flatMap vcC)) F) (h3 : In (sl Az nz cz T2 7 (zs.flatMap znC)) F) (hw : Holds X.w0 X.M H w) : SgRM w (fps C) Ac vs Az zs :=
  ⟨readsM_sl hs h2 hw, readsM_sl hs h3 hw, fun v hv => ⟨readsM_big (n := v.nu.length) (c := v.c) (e := 4) (sz := 1) hs h1 (List.mem_flatMap.2 ⟨v, hv, by simp⟩) hw, readsM_big (n := v.ids.length) (c := v.d) (e := 3) (sz := 1) hs h1 (List.mem_flatMap.2 ⟨v, hv, by simp⟩) hw, by have := hl v hv; omega, by have := hl v hv; omega⟩⟩
theorem rwR_of {X : Cx} {H : List Chunk} {rs : List Rw} {Ao : Option Addr} {n c : Nat} {w : World} {T : TypeId} (h1 : In (big (rs.flatMap rwH)) H) (h2 : In (sl Ao n c T 1 (rs.flatMap rowV)) H) (hw : Holds X.w0 X.M H w) : RwR w Ao rs :=
  ⟨rd_sl h2 w hw, fun q hq => rd_big (n := q.2.2.length) (c := q.2.1) (e := 62) (sz := 3) h1 (List.mem_flatMap.2 ⟨q, hq, List.mem_cons_self ..⟩) w hw⟩
theorem ddP_keep {ds ds2 : List Dd} (h : DKeep ds ds2) : ds.map ddP = ds2.map ddP := by
  refine ext_getD (.bool false) (by rw [List.length_map, List.length_map, h.1]) fun j hj => ?_
  rw [List.length_map] at hj
  have hj2 : j < ds2.length := by rw [h.1]; exact hj
  have e1 : (ds.map ddP).getD j (.bool false) = ddP (ds.getD j dd0) := by simp [List.getD, List.getElem?_eq_getElem hj]
  have e2 : (ds2.map ddP).getD j (.bool false) = ddP (ds2.getD j dd0) := by simp [List.getD, List.getElem?_eq_getElem hj2]
  rw [e1, e2]; unfold ddP; rw [(h.2 j).1, (h.2 j).2]
theorem xdP_keep {ds ds2 : List Xd} (h : XKeep ds ds2) : ds.map xdP = ds2.map xdP := by
  refine ext_getD (.bool false) (by rw [List.length_map, List.length_map, h.1]) fun j hj => ?_
  rw [List.length_map] at hj
  have hj2 : j < ds2.length := by rw [h.1]; exact hj
  have e1 : (ds.map xdP).getD j (.bool false) = xdP (ds.getD j xd0) := by simp [List.getD, List.getElem?_eq_getElem hj]
  have e2 : (ds2.map xdP).getD j (.bool false) = xdP (ds2.getD j xd0) := by simp [List.getD, List.getElem?_eq_getElem hj2]
  rw [e1, e2]; unfold xdP; rw [(h.2 j).1, (h.2 j).2]
theorem kd_keep {ds ds2 : List Dd} (h : DKeep ds ds2) : ds2.map (·.kd) = ds.map (·.kd) := by
  refine ext_getD 0 (by rw [List.length_map, List.length_map, h.1]) fun j hj => ?_
  rw [map_getDs dd0 0 rfl, map_getDs dd0 0 rfl, (h.2 j).1]
theorem kx_keep {ds ds2 : List Xd} (h : XKeep ds ds2) : ds2.map (·.kd) = ds.map (·.kd) := by
  refine ext_getD 0 (by rw [List.length_map, List.length_map, h.1]) fun j hj => ?_
  rw [map_getDs xd0 0 rfl, map_getDs xd0 0 rfl, (h.2 j).1]
/-- Both sides' dictionaries: of the kinds, with the same values. -/
structure DX (ks : List Int) (ds : List Dd) (xs : List Xd) : Prop where
  kd : ds.map (·.kd) = ks
  kx : xs.map (·.kd) = ks
  vs : ds.map (·.vs) = xs.map (·.vs)
  le : ∀ i, (ds.getD i dd0).vs.length ≤ 512
theorem DX.ld {ks : List Int} {ds : List Dd} {xs : List Xd} (h : DX ks ds xs) : ds.length = ks.length := by rw [← h.kd, List.length_map]
theorem DX.lx {ks : List Int} {ds : List Dd} {xs : List Xd} (h : DX ks ds xs) : xs.length = ks.length := by rw [← h.kx, List.length_map]
theorem DX.at {ks : List Int} {ds : List Dd} {xs : List Xd} (h : DX ks ds xs) (i : Nat) : (ds.getD i dd0).kd = ks.getD i 0 ∧ (xs.getD i xd0).kd = ks.getD i 0 ∧ (ds.getD i dd0).vs = (xs.getD i xd0).vs := by
  refine ⟨?_, ?_, ?_⟩
  · rw [← h.kd, map_getDs dd0 0 rfl]
  · rw [← h.kx, map_getDs xd0 0 rfl]
  · rw [← map_getDs (f := fun d : Dd => d.vs) dd0 [] rfl, h.vs, map_getDs xd0 [] rfl]
theorem DX.lex {ks : List Int} {ds : List Dd} {xs : List Xd} (h : DX ks ds xs) (i : Nat) : (xs.getD i xd0).vs.length ≤ 512 := by rw [← (h.at i).2.2]; exact h.le i
theorem fresh_DX {ks : List Int} {ds : List Dd} {xs : List Xd} (h1 : FreshD ks ds) (h2 : FreshX ks xs) : DX ks ds xs := by
  have e1 : ∀ i, (ds.getD i dd0).vs = [] := fun i => by
    by_cases hi : i < ds.length
    · exact h1.2 _ (mem_getD dd0 hi)
    · rw [show ds.getD i dd0 = dd0 by rw [List.getD_eq_getElem?_getD, List.getElem?_eq_none (Nat.not_lt.1 hi)]; rfl]
  have e2 : ∀ i, (xs.getD i xd0).vs = [] := fun i => by
    by_cases hi : i < xs.length
    · exact h2.2 _ (mem_getD xd0 hi)
    · rw [show xs.getD i xd0 = xd0 by rw [List.getD_eq_getElem?_getD, List.getElem?_eq_none (Nat.not_lt.1 hi)]; rfl]
  refine ⟨h1.1, h2.1, ?_, fun i => by rw [e1]; simp⟩
  refine ext_getD [] (by rw [List.length_map, List.length_map, freshD_len h1, freshX_len h2]) fun j _ => ?_
  rw [map_getDs dd0 [] rfl, map_getDs xd0 [] rfl, e1, e2]
structure RowsOk (w : World) (A : Option Addr) (rows : List Rw) : Prop where
  rl : rows.length ≤ 6000
  hd : Reads w A (rows.flatMap rowV)
  row : ∀ q ∈ rows, Reads w q.1 (flat q.2.2) ∧ q.2.2.length ≤ 6000 ∧ ∀ p ∈ q.2.2, WV p
theorem gr_len {rows : List Rw} (h : ∀ i, i < rows.length → (rows.getD i rw0).2.2.length ≤ 6000) : ∀ q ∈ rows, q.2.2.length ≤ 6000 := by
  intro q hq
  obtain ⟨i, hi, rfl⟩ := List.mem_iff_getElem.1 hq
  have := h i hi
  simpa [List.getD, List.getElem?_eq_getElem hi] using this
theorem xd_neqE {X : Cx} {E : Env} {H : List Chunk} {T e yT ty : TypeId} {x y : Operand} {d : Xd} (hu : ∀ w, (underlying T).run X.P w = .ok (.pointer e) w) (hx : E.ev x = some (xdP d)) (hy : E.ev y = some (.pointer none)) : Val X E H (.binOp .neq T x y yT) ty (.bool (decide (okK d.kd))) := by
  by_cases hk : okK d.kd
  · rw [xdP_ok hk] at hx
    rw [decide_eq_true hk]
    exact val_opO hx hy guard_ptr (bin_ptr_ne hu)
  · rw [xdP_no hk] at hx
    rw [decide_eq_false hk]
    exact val_opO hx hy guard_ptr (bin_nil_ne hu)
abbrev QR := Option Addr × Nat × List Rw
def selQ (a b : QR) (i : Nat) : QR := if i = 0 then a else b
theorem arr2 {a b q : QR} {i : Nat} (h : selQ a b i = q) (hi : i < 2) : (#[Value.slice a.1 a.2.2.length a.2.1, Value.slice b.1 b.2.2.length b.2.1] : Array Value)[Int.toNat (i : Int)]? = some (.slice q.1 q.2.2.length q.2.1) := by
  rw [← h, Int.toNat_natCast]
  unfold selQ
  have : i = 0 ∨ i = 1 := by omega
  rcases this with rfl | rfl <;> rfl
theorem selQ_ok {a b : QR} {i : Nat} {w : World} (h1 : RowsOk w a.1 a.2.2) (h2 : RowsOk w b.1 b.2.2) : RowsOk w (selQ a b i).1 (selQ a b i).2.2 := by
  unfold selQ; split
  · exact h1
  · exact h2

set_option maxRecDepth 20000 in
set_option maxHeartbeats 4000000 in
theorem law_SegmentMakes0 (Ak : Option Addr) (ck : Nat) (ks : List Int) (A1 : Option Addr) (c1 : Nat) (R1 : List Rw) (A2 : Option Addr) (c2 : Nat) (R2 : List Rw) (hb1 : R1.length ≤ 4611686018427387904) (hb2 : R2.length ≤ 4611686018427387904) (hbb1 : ∀ q ∈ R1, q.2.2.length ≤ 4611686018427387904) (hbb2 : ∀ q ∈ R2, q.2.2.length ≤ 4611686018427387904) (w : World) (hk : Reads w Ak (icells .i64 ks)) (hd1 : Reads w A1 (R1.flatMap rowV)) (hrw1 : ∀ q ∈ R1, Reads w q.1 (flat q.2.2) ∧ ∀ p ∈ q.2.2, WV p) (hd2 : Reads w A2 (R2.flatMap rowV)) (hrw2 : ∀ q ∈ R2, Reads w q.1 (flat q.2.2) ∧ ∀ p ∈ q.2.2, WV p) : FnV Try.prog 3 [.slice Ak ks.length ck, .slice A1 R1.length c1, .slice A2 R2.length c2] (.bool true) w := by
  refine fn_enter Try.func3 rfl Try.ntmps3 rfl ?_
  refine vc_seq ?_
  refine vc_region ?_
  refine vl_val rfl (.some rfl) (val_assign rfl) ?_
  refine vl_nil ?_
  refine vc_seq ?_
  refine vc_seq ?_
  refine vc_region ?_
  refine vl_val rfl (.some rfl) (val_move rfl) ?_
  refine vl_call (C := []) rfl rfl (.some rfl) Try.call6 rfl .nil (fun w hw => gGreat A1 c1 R1 hb1 hbb1 w (rdw (rd_old hd1 rfl) hw)) (fun v9 H9 h => ?_)
  obtain ⟨b1, rfl, hg1⟩ := h
  refine vl_dropL ?_
  refine vl_val rfl (.some rfl) (val_move rfl) ?_
  refine vl_split (t := 22) rfl (fun hg22 => ?_) (fun hg22 => ?_)
  · (try replace hg22 := of_decide_eq_true hg22)
    refine vl_off rfl rfl rfl rfl (.some rfl) ?_
    refine vl_off rfl rfl rfl rfl (.some rfl) ?_
    refine vl_val rfl (.some rfl) (val_pick rfl rfl) ?_
    refine vl_val rfl (.some rfl) (val_move rfl) ?_
    refine vl_off rfl rfl rfl rfl (.some rfl) ?_
    refine vl_off rfl rfl rfl rfl (.some rfl) ?_
    refine vl_off rfl rfl rfl rfl (.some rfl) ?_
    refine vl_val rfl (.some rfl) (val_pick rfl rfl) ?_
    refine vl_nil ?_
    refine vc_cond rfl (fun _ => ?_) (fun h => by cases h)
    refine vc_seq ?_
    refine vc_region ?_
    refine vl_callV rfl rfl (.some rfl) Try.call7 rfl (fun w hw => gLives w) ?_
    refine vl_val rfl (.some rfl) (val_assign rfl) ?_
    refine vl_nil ?_
    refine vc_ret ?_
    refine ⟨_, [], _, res1 Try.results3 rfl, .nil, ?_⟩
    rfl
  · (try replace hg22 := of_decide_eq_false hg22)
    have hr1 := hg1 hg22
    refine vl_on rfl rfl rfl rfl ?_
    refine vl_val rfl (.some rfl) (val_move rfl) ?_
    refine vl_on rfl rfl rfl rfl ?_
    refine vl_call (C := []) rfl rfl (.some rfl) Try.call6 rfl .nil (fun w hw => gGreat A2 c2 R2 hb2 hbb2 w (rdw (rd_old hd2 rfl) hw)) (fun v9 H9 h => ?_)
    obtain ⟨b2, rfl, hg2⟩ := h
    refine vl_dropL ?_
    refine vl_val rfl (.some rfl) (val_pick rfl rfl) ?_
    refine vl_val rfl (.some rfl) (val_move rfl) ?_
    refine vl_split (t := 26) rfl (fun hg26 => ?_) (fun hg26 => ?_)
    · (try replace hg26 := of_decide_eq_true hg26)
      refine vl_off rfl rfl rfl rfl (.some rfl) ?_
      refine vl_off rfl rfl rfl rfl (.some rfl) ?_
      refine vl_off rfl rfl rfl rfl (.some rfl) ?_
      refine vl_val rfl (.some rfl) (val_pick rfl rfl) ?_
      refine vl_nil ?_
      refine vc_cond rfl (fun _ => ?_) (fun h => by cases h)
      refine vc_seq ?_
      refine vc_region ?_
      refine vl_callV rfl rfl (.some rfl) Try.call7 rfl (fun w hw => gLives w) ?_
      refine vl_val rfl (.some rfl) (val_assign rfl) ?_
      refine vl_nil ?_
      refine vc_ret ?_
      refine ⟨_, [], _, res1 Try.results3 rfl, .nil, ?_⟩
      rfl
    · (try replace hg26 := of_decide_eq_false hg26)
      have hr2 := hg2 hg26
      refine vl_on rfl rfl rfl rfl ?_
      refine vl_val rfl (.some rfl) (val_move rfl) ?_
      refine vl_on rfl rfl rfl rfl ?_
      refine vl_val rfl (.some rfl) (val_lenSl Try.runUnderlying22 rfl) ?_
      refine vl_on rfl rfl rfl rfl ?_
      refine vl_val rfl (.some rfl) (val_gt rfl rfl) ?_
      refine vl_val rfl (.some rfl) (val_pick rfl rfl) ?_
      refine vl_nil ?_
      refine vc_cond rfl (fun hc0 => ?_) (fun hc0 => ?_)
      · (try replace hc0 := of_decide_eq_true hc0)
        refine vc_seq ?_
        refine vc_region ?_
        refine vl_callV rfl rfl (.some rfl) Try.call7 rfl (fun w hw => gLives w) ?_
        refine vl_val rfl (.some rfl) (val_assign rfl) ?_
        refine vl_nil ?_
        refine vc_ret ?_
        refine ⟨_, [], _, res1 Try.results3 rfl, .nil, ?_⟩
        rfl
      · (try replace hc0 := of_decide_eq_false hc0)
        have hq1 : RowsOk w A1 R1 := ⟨hr1.1, hd1, fun q hq => ⟨(hrw1 q hq).1, gr_len hr1.2 q hq, (hrw1 q hq).2⟩⟩
        have hq2 : RowsOk w A2 R2 := ⟨hr2.1, hd2, fun q hq => ⟨(hrw2 q hq).1, gr_len hr2.2 q hq, (hrw2 q hq).2⟩⟩
        have hkl : ks.length ≤ 100 := by omega
        refine vc_skip ?_
        refine vc_seq ?_
        refine vc_region ?_
        refine vl_val rfl (.some rfl) (val_move rfl) ?_
        refine vl_call (C := []) rfl rfl (.some rfl) Try.call8 rfl .nil (fun w hw => gDicts Ak ck ks (by omega) w (rdw (rd_old hk rfl) hw)) (fun v9 H9 h => ?_)
        obtain ⟨Aa, ca, ds, Ab, cb, xs, rfl, rfl, hfd, hfx⟩ := h
        show VL _ _ _ _ _ (_ :: _ :: _ :: _ :: _)
        rw [freshD_len hfd, freshX_len hfx]
        have hdx := fresh_DX hfd hfx
        refine vl_val rfl (.some rfl) (val_move rfl) ?_
        refine vl_val rfl (.some rfl) (val_extract rfl rfl) ?_
        refine vl_val rfl (.some rfl) (val_extract rfl rfl) ?_
        refine vl_val rfl (.some rfl) (val_assign rfl) ?_
        refine vl_val rfl (.some rfl) (val_assign rfl) ?_
        refine vl_nil ?_
        refine vc_seq ?_
        refine vc_seq ?_
        refine vc_region ?_
        refine vl_val rfl (.some rfl) (val_move rfl) ?_
        refine vl_val rfl (.some rfl) (val_move rfl) ?_
        refine vl_val rfl (.some rfl) (val_buildArr Try.runUnderlying30 Try.zeroValue30 Try.sizeOf23 rfl rfl) ?_
        refine vl_val rfl (.some rfl) (val_move rfl) ?_
        refine vl_nil ?_
        refine vc_block ?_
        refine vc_loopw (fun k E H => ∃ (i : Nat) (ds : List Dd) (xs : List Xd), i ≤ 2 ∧ k = 2 - i ∧ DX ks ds xs ∧ E = [(0, .slice Ak ks.length ck), (7, .slice Aa ks.length ca), (8, .slice Ab ks.length cb), (39, .agg #[.slice A1 R1.length c1, .slice A2 R2.length c2]), (40, .int .i64 (i : Int))] ∧ H = [DB ds, XB xs, sl Aa ks.length ca 51 1 (ds.map ddP), sl Ab ks.length cb 50 1 (xs.map xdP)]) (2) ⟨_, _, _, ⟨0, ds, xs, by omega, rfl, hdx, rfl, rfl⟩, (by repeat (first | exact trivial | refine ⟨rfl, ?_⟩ | refine ⟨le_item rfl (by first | rfl | (congr 1; omega) | (simp; done) | (simp; omega)), ?_⟩)), (by repeat constructor)⟩ ?_
        intro k E H hI
        obtain ⟨i, ds, xs, hi, rfl, hdx, rfl, rfl⟩ := hI
        refine vc_seq ?_
        refine vc_region ?_
        refine vl_val rfl (.some rfl) (val_lt rfl rfl) ?_
        refine vl_nil ?_
        refine vc_seq ?_
        refine vc_cond rfl (fun hc1 => ?_) (fun hc1 => ?_)
        · (try replace hc1 := of_decide_eq_true hc1)
          have hi2 : i < 2 := by omega
          obtain ⟨q, hsq⟩ : ∃ q, selQ (A1, c1, R1) (A2, c2, R2) i = q := ⟨_, rfl⟩
          have hR := selQ_ok (a := (A1, c1, R1)) (b := (A2, c2, R2)) (i := i) hq1 hq2
          rw [hsq] at hR
          have har := arr2 hsq hi2
          obtain ⟨Ar, cr, rows⟩ := q
          have hR : RowsOk w Ar rows := hR
          have hld := hdx.ld
          have hlx := hdx.lx
          refine vc_skip ?_
          refine vc_seq ?_
          refine vc_block ?_
          refine vc_seq ?_
          refine vc_region ?_
          refine vl_val rfl (.some rfl) (val_indexArr Try.runUnderlying30 Try.isAgg23 Try.sizeOf23 rfl rfl (by omega) (by omega) har) ?_
          refine vl_val rfl (.some rfl) (val_assign rfl) ?_
          refine vl_nil ?_
          refine vc_seq ?_
          refine vc_region ?_
          refine vl_val rfl (.some rfl) (val_move rfl) ?_
          refine vl_val rfl (.some rfl) (val_move rfl) ?_
          refine vl_val rfl (.some rfl) (val_move rfl) ?_
          refine vl_call (C := [DB ds]) rfl rfl (.some rfl) Try.call9 rfl (by repeat constructor) (fun w hw => by have h := gMake Ak ck ds Ar cr rows Aa ca (by omega) (by have := hR.rl; omega) (fun q hq => by have := (hR.row q hq).2.1; omega) hdx.le w (by rw [hdx.kd]; exact readsM_old hk.m (by repeat constructor) hw) (readsM_old hR.hd.m (by repeat constructor) hw) (fun q hq => readsM_old (hR.row q hq).1.m (by repeat constructor) hw) (readsM_sl (A := Aa) (n := ks.length) (c := ca) (sz := 1) (e := 51) (vs := ds.map ddP) (by repeat constructor) (by repeat constructor) hw); rw [hdx.ld] at h; exact h) (fun v9 H9 h => ?_)
          obtain ⟨n, Ac, cc, vs, Az, cz, zs, e, ds2, rfl, rfl, hms, hdk⟩ := h
          show VL _ _ _ _ _ (_ :: _ :: _ :: _ :: _)
          rw [hdx.kd] at hms
          refine vl_val rfl (.some rfl) (val_move rfl) ?_
          refine vl_val rfl (.some rfl) (val_extract rfl rfl) ?_
          refine vl_val rfl (.some rfl) (val_extract rfl rfl) ?_
          refine vl_alloc rfl rfl (.some rfl) Try.zeroValue34 (fun r11 => ?_)
          first | refine vl_store rfl rfl .none rfl rfl Try.sizeOf34 rfl (by repeat constructor) (by first | decide | exact Nat.le_refl _ | exact Nat.le_of_ble_eq_true rfl | (simp; omega)) ?_ | refine vl_storeSl rfl rfl .none rfl rfl Try.sizeOf34 rfl (by simp [Value.cells]) (by repeat constructor) (by first | decide | (simp [Value.cells]; omega)) ?_
          refine vl_val rfl (.some rfl) (val_assign rfl) ?_
          refine vl_nil ?_
          refine vc_seq ?_
          refine vc_region ?_
          refine vl_val rfl (.some rfl) (val_move rfl) ?_
          refine vl_val rfl (.some rfl) (val_move rfl) ?_
          refine vl_val rfl (.some rfl) (val_move rfl) ?_
          refine vl_call (C := [XB xs]) rfl rfl (.some rfl) Try.call10 rfl (by repeat constructor) (fun w hw => by have h := xMake Ak ck xs Ar cr rows Ab cb (by omega) (by have := hR.rl; omega) (fun q hq => by have := (hR.row q hq).2.1; omega) hdx.lex (fun q hq => (hR.row q hq).2.2) w (by rw [hdx.kx]; exact readsM_old hk.m (by repeat constructor) hw) (readsM_old hR.hd.m (by repeat constructor) hw) (fun q hq => readsM_old (hR.row q hq).1.m (by repeat constructor) hw) (readsM_sl (A := Ab) (n := ks.length) (c := cb) (sz := 1) (e := 50) (vs := xs.map xdP) (by repeat constructor) (by repeat constructor) hw); rw [hdx.lx] at h; exact h) (fun v9 H9 h => ?_)
          obtain ⟨n2, Bc, bc, us, Bz, bz, zs2, e2, xs2, rfl, rfl, hms2, hxk⟩ := h
          show VL _ _ _ _ _ (_ :: _ :: _ :: _ :: _)
          rw [hdx.kx, ← hdx.vs] at hms2
          obtain ⟨rfl, hvu, rfl, rfl, hD2⟩ := madeS_eq hms hms2
          rw [ddP_keep hdk, xdP_keep hxk]
          have hlv := madeS_len hms
          have hlu := madeS_len hms2
          have hdx2 : DX ks ds2 xs2 := ⟨by rw [kd_keep hdk]; exact hdx.kd, by rw [kx_keep hxk]; exact hdx.kx, hD2, fun i => by have h := madeS_512 hms (fun i => by rw [map_getDs dd0 [] rfl]; exact hdx.le i) i; rw [map_getDs dd0 [] rfl] at h; exact h⟩
          have hwz := madeS_wv hms (fun r hr p hp => by obtain ⟨q, hq, rfl⟩ := List.mem_map.1 hr; exact (hR.row q hq).2.2 p hp)
          refine vl_val rfl (.some rfl) (val_move rfl) ?_
          refine vl_val rfl (.some rfl) (val_extract rfl rfl) ?_
          refine vl_val rfl (.some rfl) (val_extract rfl rfl) ?_
          refine vl_alloc rfl rfl (.some rfl) Try.zeroValue41 (fun r13 => ?_)
          first | refine vl_store rfl rfl .none rfl rfl Try.sizeOf41 rfl (by repeat constructor) (by first | decide | exact Nat.le_refl _ | exact Nat.le_of_ble_eq_true rfl | (simp; omega)) ?_ | refine vl_storeSl rfl rfl .none rfl rfl Try.sizeOf41 rfl (by simp [Value.cells]) (by repeat constructor) (by first | decide | (simp [Value.cells]; omega)) ?_
          refine vl_val rfl (.some rfl) (val_assign rfl) ?_
          refine vl_nil ?_
          refine vc_seq ?_
          refine vc_seq ?_
          refine vc_region ?_
          refine vl_val rfl (.some rfl) (val_loadAgg Try.isAgg34 Try.sizeOf34 rfl (cells_part (us := [.int .i64 n, .slice Ac vs.length cc, .slice Az zs.length cz]) (by repeat constructor) rfl) rfl) ?_
          refine vl_val rfl (.some rfl) (val_loadAgg Try.isAgg41 Try.sizeOf41 rfl (cells_part (us := [.int .i64 n, .slice Bc us.length bc, .slice Bz zs.length bz]) (by repeat constructor) rfl) rfl) ?_
          refine vl_callV rfl rfl (.some rfl) Try.call11 rfl (fun w hw => gSame n Ac cc vs Az cz zs (by omega) (by omega) (by omega) (by omega) Bc bc us Bz bz (fun v hv => by have := (hlv.1 v hv).2; omega) hvu w (sgR_of hlv.1 (by repeat constructor) (by repeat constructor) (by repeat constructor) hw) (sgR_of hlu.1 (by repeat constructor) (by repeat constructor) (by repeat constructor) hw)) ?_
          refine vl_val rfl (.some rfl) (val_not rfl) ?_
          refine vl_val rfl (.some rfl) (val_move rfl) ?_
          refine vl_on rfl rfl rfl rfl ?_
          refine vl_val rfl (.some rfl) (val_move rfl) ?_
          refine vl_on rfl rfl rfl rfl ?_
          refine vl_val rfl (.some rfl) (val_move rfl) ?_
          refine vl_on rfl rfl rfl rfl ?_
          refine vl_val rfl (.some rfl) (val_eqv (v' := .bool false) (congrArg Value.bool (decide_eq_false (fun h => h (by first | rfl | omega)))) (val_ne rfl rfl)) ?_
          refine vl_val rfl (.some rfl) (val_pick rfl rfl) ?_
          refine vl_nil ?_
          refine vc_cond rfl (fun h => by cases h) (fun _ => ?_)
          refine vc_skip ?_
          refine vc_seq ?_
          refine vc_region ?_
          refine vl_val rfl (.some rfl) (val_loadAgg Try.isAgg34 Try.sizeOf34 rfl (cells_part (us := [.int .i64 n, .slice Ac vs.length cc, .slice Az zs.length cz]) (by repeat constructor) rfl) rfl) ?_
          refine vl_val rfl (.some rfl) (val_move rfl) ?_
          refine vl_call (C := [DB ds2]) rfl rfl (.some rfl) Try.call12 rfl (by repeat constructor) (fun w hw => by have h := gRows n Ac cc vs Az cz zs (by omega) (by omega) ds2 Aa ca (by rw [hdx2.ld]; omega) (fun hg i hi => by rw [(hdx2.at i).1]; exact madeS_ok hms hg i (by rw [← hdx2.ld]; exact hi)) w (sgRM_of (by repeat constructor) hlv.1 (by repeat constructor) (by repeat constructor) (by repeat constructor) hw) (readsM_sl (A := Aa) (n := ks.length) (c := ca) (sz := 1) (e := 51) (vs := ds2.map ddP) (by repeat constructor) (by repeat constructor) hw); rw [hdx2.ld] at h; exact h) (fun v9 H9 h => ?_)
          obtain ⟨Ao, co, rs, e3, rfl, rfl, hrp⟩ := h
          show VL _ _ _ _ _ (_ :: _ :: _ :: _)
          refine vl_val rfl (.some rfl) (val_move rfl) ?_
          refine vl_val rfl (.some rfl) (val_extract rfl rfl) ?_
          refine vl_val rfl (.some rfl) (val_extract rfl rfl) ?_
          refine vl_val rfl (.some rfl) (val_assign rfl) ?_
          refine vl_val rfl (.some rfl) (val_assign rfl) ?_
          refine vl_nil ?_
          refine vc_seq ?_
          refine vc_region ?_
          refine vl_val rfl (.some rfl) (val_loadAgg Try.isAgg41 Try.sizeOf41 rfl (cells_part (us := [.int .i64 n, .slice Bc us.length bc, .slice Bz zs.length bz]) (by repeat constructor) rfl) rfl) ?_
          refine vl_val rfl (.some rfl) (val_move rfl) ?_
          refine vl_call (C := [XB xs2]) rfl rfl (.some rfl) Try.call13 rfl (by repeat constructor) (fun w hw => by have h := xRows n Bc bc us Bz bz zs (by omega) (by omega) hwz xs2 Ab cb (by rw [hdx2.lx]; omega) (fun hg i hi => by rw [(hdx2.at i).2.1]; exact madeS_ok hms2 hg i (by rw [← hdx2.lx]; exact hi)) w (sgRM_of (by repeat constructor) hlu.1 (by repeat constructor) (by repeat constructor) (by repeat constructor) hw) (readsM_sl (A := Ab) (n := ks.length) (c := cb) (sz := 1) (e := 50) (vs := xs2.map xdP) (by repeat constructor) (by repeat constructor) hw); rw [hdx2.lx] at h; exact h) (fun v9 H9 h => ?_)
          obtain ⟨Bo, bo, qs, e4, rfl, rfl, hrp2⟩ := h
          show VL _ _ _ _ _ (_ :: _ :: _ :: _)
          rw [← hvu, ← hD2, hrp] at hrp2
          obtain ⟨he34, hrq⟩ := Prod.mk.inj hrp2
          subst he34
          have hrl := rowsP_len hrp
          rw [List.length_map] at hrl
          refine vl_val rfl (.some rfl) (val_move rfl) ?_
          refine vl_val rfl (.some rfl) (val_extract rfl rfl) ?_
          refine vl_val rfl (.some rfl) (val_extract rfl rfl) ?_
          refine vl_val rfl (.some rfl) (val_assign rfl) ?_
          refine vl_val rfl (.some rfl) (val_assign rfl) ?_
          refine vl_nil ?_
          refine vc_seq ?_
          refine vc_seq ?_
          refine vc_region ?_
          refine vl_val rfl (.some rfl) (val_move rfl) ?_
          refine vl_val rfl (.some rfl) (val_move rfl) ?_
          refine vl_callV rfl rfl (.some rfl) Try.call14 rfl (fun w hw => gRowsSame Ao co rs Bo bo qs (by omega) (fun i => by have h := hrl.2 i; rw [map_getDs rw0 [] rfl] at h; omega) hrq w (rwR_of (by repeat constructor) (by repeat constructor) hw) (rwR_of (by repeat constructor) (by repeat constructor) hw)) ?_
          refine vl_val rfl (.some rfl) (val_not rfl) ?_
          refine vl_val rfl (.some rfl) (val_move rfl) ?_
          refine vl_on rfl rfl rfl rfl ?_
          refine vl_val rfl (.some rfl) (val_move rfl) ?_
          refine vl_on rfl rfl rfl rfl ?_
          refine vl_val rfl (.some rfl) (val_move rfl) ?_
          refine vl_on rfl rfl rfl rfl ?_
          refine vl_val rfl (.some rfl) (val_eqv (v' := .bool false) (congrArg Value.bool (decide_eq_false (fun h => h (by first | rfl | omega)))) (val_ne rfl rfl)) ?_
          refine vl_val rfl (.some rfl) (val_pick rfl rfl) ?_
          refine vl_nil ?_
          refine vc_cond rfl (fun h => by cases h) (fun _ => ?_)
          refine vc_skip ?_
          refine vc_seq ?_
          refine vc_region ?_
          refine vl_val rfl (.some rfl) (val_move rfl) ?_
          refine vl_val rfl (.some rfl) (val_lenSl Try.runUnderlying26 rfl) ?_
          refine vl_val rfl (.some rfl) (val_move rfl) ?_
          refine vl_nil ?_
          refine vc_block ?_
          refine vc_loopw (fun k E H => ∃ j : Nat, j ≤ ks.length ∧ k = ks.length - j ∧ E = [(0, .slice Ak ks.length ck), (7, .slice Aa ks.length ca), (8, .slice Ab ks.length cb), (39, .agg #[.slice A1 R1.length c1, .slice A2 R2.length c2]), (40, .int .i64 (i : Int)), (88, .int .i64 ks.length), (89, .int .i64 (j : Int))] ∧ H = [DB ds2, XB xs2, sl Aa ks.length ca 51 1 (ds2.map ddP), sl Ab ks.length cb 50 1 (xs2.map xdP)]) (ks.length) ⟨_, _, _, ⟨0, by omega, rfl, rfl, rfl⟩, (by repeat (first | exact trivial | refine ⟨rfl, ?_⟩ | refine ⟨le_item rfl (by first | rfl | (congr 1; omega) | (simp; done) | (simp; omega)), ?_⟩)), (by repeat constructor)⟩ ?_
          intro k E H hI
          obtain ⟨j, hj, rfl, rfl, rfl⟩ := hI
          refine vc_seq ?_
          refine vc_region ?_
          refine vl_val rfl (.some rfl) (val_lt rfl rfl) ?_
          refine vl_nil ?_
          refine vc_seq ?_
          refine vc_cond rfl (fun hc4 => ?_) (fun hc4 => ?_)
          · (try replace hc4 := of_decide_eq_true hc4)
            have hj8 : j < ks.length := by omega
            have hld2 := hdx2.ld
            have hlx2 := hdx2.lx
            refine vc_skip ?_
            refine vc_seq ?_
            refine vc_block ?_
            refine vc_seq ?_
            refine vc_region ?_
            refine vl_val rfl (.some rfl) (val_move rfl) ?_
            refine vl_val rfl (.some rfl) (val_assign rfl) ?_
            refine vl_nil ?_
            refine vc_seq ?_
            refine vc_draws [0, 1, 2, 3, 4, 5, 6, 7, 8, 9, 11, 12, 13, 14, 15, 16, 17, 18, 19, 20] [] [0, 1, 2, 3, 4, 5, 6, 7, 8, 9, 11, 12, 13, 14, 15, 16, 17, 18, 10, 19, 20] rfl (by kernel_rfl) (fun _ _ _ h => h) ?_
            refine vd_val rfl rfl rfl (.some rfl) (val_move rfl) ?_
            refine vd_val rfl rfl rfl (.some rfl) (val_move rfl) ?_
            refine vd_val rfl rfl rfl (.some rfl) (val_indexAddr Try.runUnderlying27 Try.sizeOf50 rfl rfl (rd_sl (A := Ab) (by repeat constructor)) (by omega) (by omega) (by rw [List.length_map]; omega)) ?_
            refine vd_val rfl rfl rfl (.some rfl) (val_load Try.isAgg50 rfl (cell_rd (rd_sl (A := Ab) (by repeat constructor)) (map_at xd0 (by omega)))) ?_
            refine vd_val rfl rfl rfl (.some rfl) (xd_neqE Try.runUnderlying50 rfl rfl) ?_
            refine vd_val rfl rfl rfl (.some rfl) (val_move rfl) ?_
            refine vd_split (t := 97) rfl (fun hg97 => ?_) (fun hg97 => ?_)
            · (try replace hg97 := of_decide_eq_true hg97)
              have hokx : okK (xs2.getD j xd0).kd := hg97
              have hokj : okK (ks.getD j 0) := by rw [← (hdx2.at j).2.1]; exact hokx
              refine vd_on rfl rfl rfl rfl rfl rfl (.some rfl) (val_move rfl) ?_
              refine vd_on rfl rfl rfl rfl rfl rfl (.some rfl) (val_move rfl) ?_
              refine vd_on rfl rfl rfl rfl rfl rfl (.some rfl) (val_indexAddr Try.runUnderlying26 Try.sizeOf51 rfl rfl (rd_sl (A := Aa) (by repeat constructor)) (by omega) (by omega) (by rw [List.length_map]; omega)) ?_
              refine vd_on rfl rfl rfl rfl rfl rfl (.some rfl) (val_load Try.isAgg51 rfl (cell_rd (rd_sl (A := Aa) (by repeat constructor)) (map_at dd0 (by omega)))) ?_
              refine vd_on rfl rfl rfl rfl rfl rfl (.some rfl) (val_move rfl) ?_
              refine vd_on rfl rfl rfl rfl rfl rfl (.some rfl) (val_move rfl) ?_
              refine vd_on rfl rfl rfl rfl rfl rfl (.some rfl) (val_indexAddr Try.runUnderlying27 Try.sizeOf50 rfl rfl (rd_sl (A := Ab) (by repeat constructor)) (by omega) (by omega) (by rw [List.length_map]; omega)) ?_
              refine vd_on rfl rfl rfl rfl rfl rfl (.some rfl) (val_eqv (xdP_ok hokx) (val_load Try.isAgg50 rfl (cell_rd (rd_sl (A := Ab) (by repeat constructor)) (map_at xd0 (by omega))))) ?_
              refine vd_on rfl rfl rfl rfl rfl rfl (.some rfl) (val_nil rfl rfl) ?_
              refine vd_on rfl rfl rfl rfl rfl rfl (.some rfl) (by first | exact val_fieldAddr Try.runUnderlying55 rfl Try.sizeOf53 rfl | exact val_fieldAddrR Try.runUnderlying55 rfl Try.sizeOf53 rfl) ?_
              refine vd_on rfl rfl rfl rfl rfl rfl (.some rfl) (val_load Try.isAgg53 rfl (cell_big (by repeat constructor) (xd_in (show j < xs2.length by omega) hokx) rfl)) ?_
              refine vd_on rfl rfl rfl rfl rfl rfl (.some rfl) (val_lenSl Try.runUnderlying53 rfl) ?_
              refine vd_op rfl rfl ?_
              refine vl_on rfl rfl rfl rfl ?_
              refine vl_callR [DB ds2] rfl rfl (.some rfl) Try.call15 rfl (by repeat constructor) (fun w hw => dbLen (show j < ds2.length by rw [hdx2.ld]; omega) (by rw [(hdx2.at j).1]; exact hokj) w) ?_
              refine vl_nil ?_
              refine ⟨fun _ => ⟨_, (by repeat (first | exact .nil | exact sub_self _ | exact sub_skip (sub_self _) | exact sub_skip (sub_skip (sub_self _)) | exact sub_skip (sub_skip (sub_skip (sub_self _))) | (apply Sub.cons; · repeat (first | exact .head | apply Take.tail))))⟩, ?_⟩
              refine vd_on rfl rfl rfl rfl rfl rfl (.some rfl) (val_eqv (v' := .bool false) (v := .bool (decide ((((ds2.getD j dd0).vs.length : Nat) : Int) ≠ (((xs2.getD j xd0).vs.length : Nat) : Int)))) (congrArg Value.bool (decide_eq_false (fun h => h (by rw [(hdx2.at j).2.2])))) (val_ne rfl rfl)) ?_
              refine vd_val rfl rfl rfl (.some rfl) (val_pick rfl rfl) ?_
              refine vd_nil ?_
              refine vc_cond rfl (fun h => by cases h) (fun _ => ?_)
              refine vc_skip ?_
              refine vc_region ?_
              refine vl_val rfl (.some rfl) (val_add rfl rfl (by first | exact w_i64 (by omega) (by omega) | rfl)) ?_
              refine vl_val rfl (.some rfl) (val_move rfl) ?_
              refine vl_nil ?_
              exact ⟨ks.length - (j + 1), _, _, _, by omega, (by repeat (first | exact trivial | refine ⟨rfl, ?_⟩ | refine ⟨le_item rfl (by first | rfl | (congr 1; omega) | (simp; done) | (simp; omega)), ?_⟩)), (by repeat constructor), ⟨j + 1, by omega, rfl, rfl, rfl⟩⟩
            · (try replace hg97 := of_decide_eq_false hg97)
              refine vd_off rfl rfl rfl rfl rfl rfl (.some rfl) ?_
              refine vd_off rfl rfl rfl rfl rfl rfl (.some rfl) ?_
              refine vd_off rfl rfl rfl rfl rfl rfl (.some rfl) ?_
              refine vd_off rfl rfl rfl rfl rfl rfl (.some rfl) ?_
              refine vd_off rfl rfl rfl rfl rfl rfl (.some rfl) ?_
              refine vd_off rfl rfl rfl rfl rfl rfl (.some rfl) ?_
              refine vd_off rfl rfl rfl rfl rfl rfl (.some rfl) ?_
              refine vd_off rfl rfl rfl rfl rfl rfl (.some rfl) ?_
              refine vd_off rfl rfl rfl rfl rfl rfl (.some rfl) ?_
              refine vd_off rfl rfl rfl rfl rfl rfl (.some rfl) ?_
              refine vd_off rfl rfl rfl rfl rfl rfl (.some rfl) ?_
              refine vd_off rfl rfl rfl rfl rfl rfl (.some rfl) ?_
              refine vd_op rfl rfl ?_
              refine vl_off rfl rfl rfl rfl (.some rfl) ?_
              refine vl_nil ?_
              refine ⟨fun _ => ⟨_, (by repeat (first | exact .nil | exact sub_self _ | exact sub_skip (sub_self _) | exact sub_skip (sub_skip (sub_self _)) | exact sub_skip (sub_skip (sub_skip (sub_self _))) | (apply Sub.cons; · repeat (first | exact .head | apply Take.tail))))⟩, ?_⟩
              refine vd_off rfl rfl rfl rfl rfl rfl (.some rfl) ?_
              refine vd_val rfl rfl rfl (.some rfl) (val_pick rfl rfl) ?_
              refine vd_nil ?_
              refine vc_cond rfl (fun h => by cases h) (fun _ => ?_)
              refine vc_skip ?_
              refine vc_region ?_
              refine vl_val rfl (.some rfl) (val_add rfl rfl (by first | exact w_i64 (by omega) (by omega) | rfl)) ?_
              refine vl_val rfl (.some rfl) (val_move rfl) ?_
              refine vl_nil ?_
              exact ⟨ks.length - (j + 1), _, _, _, by omega, (by repeat (first | exact trivial | refine ⟨rfl, ?_⟩ | refine ⟨le_item rfl (by first | rfl | (congr 1; omega) | (simp; done) | (simp; omega)), ?_⟩)), (by repeat constructor), ⟨j + 1, by omega, rfl, rfl, rfl⟩⟩
          · (try replace hc4 := of_decide_eq_false hc4)
            refine vc_exit ?_
            refine vc_region ?_
            refine vl_val rfl (.some rfl) (val_add rfl rfl (by first | exact w_i64 (by omega) (by omega) | rfl)) ?_
            refine vl_val rfl (.some rfl) (val_move rfl) ?_
            refine vl_nil ?_
            exact ⟨2 - (i + 1), _, _, _, by omega, (by repeat (first | exact trivial | refine ⟨rfl, ?_⟩ | refine ⟨le_item rfl (by first | rfl | (congr 1; omega) | (simp; done) | (simp; omega)), ?_⟩)), (by repeat constructor), ⟨i + 1, ds2, xs2, by omega, rfl, hdx2, rfl, rfl⟩⟩
        · (try replace hc1 := of_decide_eq_false hc1)
          refine vc_exit ?_
          refine vc_seq ?_
          refine vc_region ?_
          refine vl_callV rfl rfl (.some rfl) Try.call7 rfl (fun w hw => gLives w) ?_
          refine vl_val rfl (.some rfl) (val_assign rfl) ?_
          refine vl_nil ?_
          refine vc_ret ?_
          refine ⟨_, [], _, res1 Try.results3 rfl, .nil, ?_⟩
          rfl


end Go.Proofs.Ytdehjgpdcdjhjaa.K
