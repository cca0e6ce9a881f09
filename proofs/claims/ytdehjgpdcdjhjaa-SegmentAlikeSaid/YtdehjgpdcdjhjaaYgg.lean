/- Walks of the program's functions, printed by a program of this session; Lean checks them. -/
import Derived.Test.YtdehjgpdcdjhjaaCg
import Derived.Test.YtdehjgpdcdjhjaaYgd
namespace Go.Proofs.Ytdehjgpdcdjhjaa.K
open Go Go.RowKit Go.Proofs
set_option linter.unusedVariables false
set_option linter.unusedSimpArgs false
set_option maxRecDepth 20000 in
theorem sT31 : SlT Try.prog 31 81 2 48 (.agg #[.slice none 0 0, .slice none 0 0]) := ⟨Try.underlying31, ⟨Try.t81, Try.type81, rfl, rfl, rfl⟩, rfl, Nat.lt_of_sub_eq_succ rfl⟩
set_option maxRecDepth 20000 in
theorem sT32 : SlT Try.prog 32 64 7 72 (.agg #[.int .i64 0, .int .i64 0, .int .i64 0, .string .empty, .int .i64 0, .int .i64 0, .string .empty]) := ⟨Try.underlying32, ⟨Try.t64, Try.type64, rfl, rfl, rfl⟩, rfl, Nat.lt_of_sub_eq_succ rfl⟩
set_option maxRecDepth 20000 in
theorem sT78 : SlT Try.prog 78 83 9 120 (.agg #[.int .i64 0, .int .i64 0, .int .i64 0, .string .empty, .int .i64 0, .int .i64 0, .string .empty, .slice none 0 0, .slice none 0 0]) := ⟨Try.underlying78, ⟨Try.t83, Try.type83, rfl, rfl, rfl⟩, rfl, Nat.lt_of_sub_eq_succ rfl⟩

theorem flatS_len {α : Type} {f : α → List Value} {m : Nat} (hm : ∀ a, (f a).length = m) : ∀ l : List α, (l.flatMap f).length = l.length * m
  | [] => by simp
  | a :: l => by rw [List.flatMap_cons, List.length_append, hm, flatS_len hm l, List.length_cons, Nat.add_mul]; omega
theorem tyC_len (t : Ty) : (tyC t).length = 9 := rfl
theorem takeC_one {ts : List Ty} {i : Nat} (h : i < ts.length) : ts.flatMap tyC = (ts.take i).flatMap tyC ++ ((znC (ts.getD i ty0).z ++ vcC (ts.getD i ty0).v) ++ (ts.drop (i + 1)).flatMap tyC) := by
  conv => lhs; rw [split_at ty0 h]
  rw [List.flatMap_append, List.flatMap_cons]
theorem takeC_set {ts : List Ty} {i : Nat} (h : i < ts.length) (t : Ty) : (ts.set i t).flatMap tyC = (ts.take i).flatMap tyC ++ ((znC t.z ++ vcC t.v) ++ (ts.drop (i + 1)).flatMap tyC) := by
  have h2 : i < (ts.set i t).length := by simpa using h
  rw [takeC_one h2, List.take_set_of_le (Nat.le_refl _), List.drop_set_of_lt (Nat.lt_succ_self _), show (ts.set i t).getD i ty0 = t by simp [List.getD, List.getElem?_set_self h]]
theorem gTakeB (A : Option Addr) (c : Nat) (ts : List Ty) (i : Nat) (hit : i < ts.length) (hz : 0 ≤ (ts.getD i ty0).z.n ∧ (ts.getD i ty0).z.n ≤ 1000000) (hv1 : (ts.getD i ty0).v.nu.length ≤ 1000000) (hv2 : (ts.getD i ty0).v.ids.length ≤ 1000000) (p : Vk) (ds : List Dd) (hi : i < ds.length) (hk : okK (ds.getD i dd0).kd) (w : World) :
    Fn Try.prog 27 [.pointer (some ((adr A).add (i * 9))), vk p, ddP (ds.getD i dd0)] [sl A ts.length c 83 9 (ts.flatMap tyC), big (ts.flatMap tyH), DB ds] (ret fun u H' => ∃ (t2 : Ty) (ds2 : List Dd), (coOf t2 = (takeC (ds.getD i dd0).kd (coOf (ts.getD i ty0), (ds.getD i dd0).vs) p).1 ∧ updD ds i (takeC (ds.getD i dd0).kd (coOf (ts.getD i ty0), (ds.getD i dd0).vs) p).2 ds2) ∧ H' = [sl A ts.length c 83 9 ((ts.set i t2).flatMap tyC), big ((ts.set i t2).flatMap tyH), DB ds2]) w := by
  have h0 := gTake A ts.length c (i * 9) ((ts.take i).flatMap tyC) ((ts.drop (i + 1)).flatMap tyC) (by rw [flatS_len tyC_len, List.length_take]; rw [Nat.min_eq_left (by omega)]) (ts.getD i ty0).z (ts.getD i ty0).v hz hv1 hv2 p ds i hi hk w
  rw [← takeC_one hit] at h0
  have e : Eqv [sl A ts.length c 83 9 (ts.flatMap tyC), big (ts.flatMap tyH), DB ds] ([sl A ts.length c 83 9 (ts.flatMap tyC), BL (ts.getD i ty0).v.A (ts.getD i ty0).v.nu.length (ts.getD i ty0).v.c (ts.getD i ty0).v.nu, IL (ts.getD i ty0).v.B (ts.getD i ty0).v.ids.length (ts.getD i ty0).v.d (ts.getD i ty0).v.ids, DB ds] ++ [big (restL tyH ts i)]) := by
    refine Eqv.cons _ ((eqv_open tyH ty0 hit [DB ds]).trans ?_)
    exact Eqv.cons _ (Eqv.cons _ (Eqv.perm (.swap _ _ _)))
  refine Fn.eqv ?_ e
  refine (Fn.frame (F := [big (restL tyH ts i)]) h0).out fun u H ⟨H2, ⟨z2, v2, ds2, g1, g2, e1⟩, e2⟩ => ?_
  subst e1 e2
  refine ⟨[sl A ts.length c 83 9 ((ts.set i ⟨z2, v2⟩).flatMap tyC), big ((ts.set i ⟨z2, v2⟩).flatMap tyH), DB ds2], [], ?_, ⟨z2, v2⟩, ds2, ⟨g1, g2⟩, rfl⟩
  rw [List.append_nil, takeC_set hit]
  refine Eqv.cons _ (Eqv.trans ?_ (eqv_close tyH hit ⟨z2, v2⟩ [DB ds2]))
  exact Eqv.cons _ (Eqv.cons _ (Eqv.perm (.swap _ _ _)))
theorem eqv_tys (n : Nat) (F : List Chunk) : Eqv F (big ((List.replicate n ty0).flatMap tyH) :: F) := by
  refine eqv_triv ?_ (fun c hc w => ?_) F
  · induction n with
    | zero => rfl
    | succ n ih => rw [List.replicate_succ, List.flatMap_cons, fps_append, ih]; rfl
  · obtain ⟨t, ht, hc⟩ := List.mem_flatMap.1 hc
    rw [List.eq_of_mem_replicate ht] at hc
    simp only [List.mem_cons, List.not_mem_nil, or_false] at hc
    rcases hc with rfl | rfl <;> exact sl_none _ _ w
/-- How far the tallies are: the rows ahead of r, and of row r the columns ahead of i. -/
def StM (ds : List Dd) (KS : List Int) (DV : List (List Vk)) (RS : Rws) (ts : List Ty) (ds2 : List Dd) (r i : Nat) : Prop := ts.length = ds.length ∧ ds2.length = ds.length ∧ ∀ j, j < ds.length → (coOf (ts.getD j ty0), (ds2.getD j dd0).vs) = colF (KS.getD j 0) (DV.getD j []) ((colR RS j).take (if j < i then r + 1 else r)) ∧ (ds2.getD j dd0).kd = (ds.getD j dd0).kd ∧ (ds2.getD j dd0).r = (ds.getD j dd0).r
theorem getDS_rep {α : Type} {n j : Nat} (x : α) : (List.replicate n x).getD j x = x := by
  by_cases h : j < n
  · simp [List.getD, h]
  · simp [List.getD, h]
theorem stM_start {ds : List Dd} {KS : List Int} {DV : List (List Vk)} {RS : Rws} (hD : ∀ i, DV.getD i [] = (ds.getD i dd0).vs) : StM ds KS DV RS (List.replicate ds.length ty0) ds 0 0 := by
  refine ⟨List.length_replicate, rfl, fun j hj => ⟨?_, rfl, rfl⟩⟩
  rw [if_neg (Nat.not_lt_zero _), List.take_zero, colF_nil, getDS_rep, hD]
theorem stM_row {ds : List Dd} {KS : List Int} {DV : List (List Vk)} {RS : Rws} {ts : List Ty} {ds2 : List Dd} {r : Nat} (h : StM ds KS DV RS ts ds2 r ds.length) : StM ds KS DV RS ts ds2 (r + 1) 0 := by
  refine ⟨h.1, h.2.1, fun j hj => ?_⟩
  have := h.2.2 j hj
  rw [if_pos hj] at this
  rw [if_neg (Nat.not_lt_zero _)]
  exact this
theorem stM_step {ds : List Dd} {KS : List Int} {DV : List (List Vk)} {RS : Rws} {ts : List Ty} {ds2 ds3 : List Dd} {r i : Nat} {t2 : Ty} (hK : ∀ i, KS.getD i 0 = (ds.getD i dd0).kd) (h : StM ds KS DV RS ts ds2 r i) (hi : i < ds.length) (hr : r < RS.length) (h1 : coOf t2 = (takeC (ds2.getD i dd0).kd (coOf (ts.getD i ty0), (ds2.getD i dd0).vs) ((RS.getD r []).getD i z3)).1) (h2 : updD ds2 i (takeC (ds2.getD i dd0).kd (coOf (ts.getD i ty0), (ds2.getD i dd0).vs) ((RS.getD r []).getD i z3)).2 ds3) : StM ds KS DV RS (ts.set i t2) ds3 r (i + 1) := by
  obtain ⟨l1, l2, hh⟩ := h
  obtain ⟨u1, u2, u3, u4⟩ := h2
  refine ⟨by rw [List.length_set, l1], by rw [u1, l2], fun j hj => ?_⟩
  by_cases hji : j = i
  · subst hji
    have hc := hh j hj
    rw [if_neg (Nat.lt_irrefl _)] at hc
    rw [if_pos (Nat.lt_succ_self _), colR_take hr, colF_snoc, ← hc.1]
    have e : (ts.set j t2).getD j ty0 = t2 := by simp [List.getD, List.getElem?_set_self (show j < ts.length by omega)]
    rw [e, u4, h1, hK, ← hc.2.1]
    exact ⟨rfl, u3.2.2, u3.1.trans hc.2.2⟩
  · have hc := hh j hj
    have e : (ts.set i t2).getD j ty0 = ts.getD j ty0 := by simp [List.getD, List.getElem?_set_ne (Ne.symm hji)]
    rw [e, u2 j hji]
    have e2 : (if j < i + 1 then r + 1 else r) = if j < i then r + 1 else r := by
      by_cases hl : j < i
      · rw [if_pos hl, if_pos (by omega)]
      · rw [if_neg hl, if_neg (by omega)]
    rw [e2]
    exact hc
theorem stM_bd {ds : List Dd} {KS : List Int} {DV : List (List Vk)} {RS : Rws} {ts : List Ty} {ds2 : List Dd} {r i j : Nat} (h : StM ds KS DV RS ts ds2 r i) (hj : j < ds.length) (hR : RS.length ≤ 1000) : (0 ≤ (ts.getD j ty0).z.n ∧ (ts.getD j ty0).z.n ≤ 1000000) ∧ (ts.getD j ty0).v.nu.length ≤ 1000000 ∧ (ts.getD j ty0).v.ids.length ≤ 1000000 := by
  have hc := (h.2.2 j hj).1
  have a := colF_n (KS.getD j 0) (DV.getD j []) ((colR RS j).take (if j < i then r + 1 else r))
  have b := colF_len (KS.getD j 0) (DV.getD j []) ((colR RS j).take (if j < i then r + 1 else r))
  have l : ((colR RS j).take (if j < i then r + 1 else r)).length ≤ 1000 := by rw [List.length_take, colR_len]; omega
  rw [← hc] at a b
  simp only at a b
  omega
def DKeep (ds ds2 : List Dd) : Prop := ds2.length = ds.length ∧ ∀ j, (ds2.getD j dd0).kd = (ds.getD j dd0).kd ∧ (ds2.getD j dd0).r = (ds.getD j dd0).r
theorem DKeep.rfl (ds : List Dd) : DKeep ds ds := ⟨Eq.refl _, fun _ => ⟨Eq.refl _, Eq.refl _⟩⟩
def MadeS (ks : List Int) (Ds : List (List Vk)) (RS : Rws) (n : Int) (vs : List Vc) (zs : List Zn) (e : Int) (Ds2 : List (List Vk)) : Prop := makeP ks Ds RS = ((e, ⟨n, vs.map vcP, zs⟩), Ds2)
theorem ext_getD {α : Type} {a b : List α} (d : α) (hl : a.length = b.length) (h : ∀ j, j < a.length → a.getD j d = b.getD j d) : a = b := by
  refine List.ext_getElem hl fun j h1 h2 => ?_
  have := h j h1
  simpa [List.getD, List.getElem?_eq_getElem h1, List.getElem?_eq_getElem h2] using this
theorem stM_end {ds : List Dd} {KS : List Int} {DV : List (List Vk)} {RS : Rws} {ts : List Ty} {ds2 : List Dd} (hKl : KS.length = ds.length) (h : StM ds KS DV RS ts ds2 RS.length 0) (h0 : mayE KS DV RS = 0) : MadeS KS DV RS RS.length (ts.map (·.v)) (ts.map (·.z)) 0 (ds2.map (·.vs)) ∧ DKeep ds ds2 := by
  obtain ⟨l1, l2, hh⟩ := h
  have hc : ∀ j, j < ds.length → (coOf (ts.getD j ty0), (ds2.getD j dd0).vs) = (colsP KS DV RS).getD j (co0, []) := fun j hj => by
    rw [(hh j hj).1, if_neg (Nat.not_lt_zero _), show (colR RS j).take RS.length = colR RS j by rw [← colR_len RS j]; exact List.take_length]
    unfold colsP
    simp [List.getD, List.getElem?_map, hKl, hj]
  have hl : (colsP KS DV RS).length = ds.length := by unfold colsP; rw [List.length_map, List.length_range, hKl]
  refine ⟨?_, l2, fun j => ?_⟩
  · unfold MadeS makeP
    rw [if_neg (by rw [h0]; simp)]
    have e1 : (colsP KS DV RS).map (fun c => (c.1.nu, c.1.ids)) = (ts.map (·.v)).map vcP := by
      rw [List.map_map]
      refine ext_getD ([], []) (by rw [List.length_map, List.length_map, hl, l1]) fun j hj => ?_
      rw [List.length_map, hl] at hj
      rw [map_getDs (co0, []) ([], []) rfl, ← hc j hj, map_getDs ty0 ([], []) rfl]
      rfl
    have e2 : (colsP KS DV RS).map (·.1.z) = ts.map (·.z) := by
      refine ext_getD zn0 (by rw [List.length_map, List.length_map, hl, l1]) fun j hj => ?_
      rw [List.length_map, hl] at hj
      rw [map_getDs (co0, []) zn0 rfl, ← hc j hj, map_getDs ty0 zn0 rfl]
    have e3 : (colsP KS DV RS).map (·.2) = ds2.map (·.vs) := by
      refine ext_getD [] (by rw [List.length_map, List.length_map, hl, l2]) fun j hj => ?_
      rw [List.length_map, hl] at hj
      rw [map_getDs (co0, []) [] rfl, ← hc j hj, map_getDs dd0 [] rfl]
    rw [e1, e2, e3]
  · by_cases hj : j < ds.length
    · exact (hh j hj).2
    · simp [List.getD, List.getElem?_eq_none (show ds.length ≤ j by omega), List.getElem?_eq_none (show ds2.length ≤ j by omega)]
theorem made_fail {KS : List Int} {DV : List (List Vk)} {RS : Rws} (h : mayE KS DV RS ≠ 0) : MadeS KS DV RS 0 [] [] (mayE KS DV RS) DV := by
  unfold MadeS makeP
  rw [if_pos h]
  rfl
theorem take_map1 {α β : Type} (g : α → β) (f : β → List Value) (d : α) {l : List α} {i : Nat} (h : i < l.length) : ((l.take i).map g).flatMap f ++ f (g (l.getD i d)) = ((l.take (i + 1)).map g).flatMap f := by
  have e : l.take (i + 1) = l.take i ++ [l.getD i d] := by rw [List.take_add_one]; simp [List.getD, List.getElem?_eq_getElem h]
  rw [e, List.map_append, List.flatMap_append]
  simp
theorem tyH_v (ts : List Ty) : big (ts.flatMap tyH) = big ((ts.map (·.v)).flatMap vcH) := by rw [List.flatMap_map]

set_option maxRecDepth 20000 in
set_option maxHeartbeats 2000000 in
theorem gMake (Ak : Option Addr) (ck : Nat) (ds : List Dd) (Ar : Option Addr) (cr : Nat) (rows : List Rw) (Ad : Option Addr) (cd : Nat) (hnl : ds.length ≤ 1000000) (hrl : rows.length ≤ 4611686018427387904) (hll : ∀ q ∈ rows, q.2.2.length ≤ 4611686018427387904) (h512 : ∀ i, (ds.getD i dd0).vs.length ≤ 512) (w : World) (hk : ReadsM w (fps [DB ds]) Ak (icells .i64 (ds.map (·.kd)))) (hrd : ReadsM w (fps [DB ds]) Ar (rows.flatMap rowV)) (hrow : ∀ q ∈ rows, ReadsM w (fps [DB ds]) q.1 (flat q.2.2)) (hdp : ReadsM w (fps [DB ds]) Ad (ds.map ddP)) : Fn Try.prog 9 [.slice Ak ds.length ck, .slice Ar rows.length cr, .slice Ad ds.length cd] [DB ds] (ret fun v H' => ∃ (n : Int) (Ac : Option Addr) (cc : Nat) (vs : List Vc) (Az : Option Addr) (cz : Nat) (zs : List Zn) (e : Int) (ds2 : List Dd), v = .tuple #[.agg #[.int .i64 n, .slice Ac vs.length cc, .slice Az zs.length cz], .int .i64 e] ∧ H' = [DB ds2, big (vs.flatMap vcH), sl Ac vs.length cc 81 2 (vs.flatMap vcC), sl Az zs.length cz 64 7 (zs.flatMap znC)] ∧ MadeS (ds.map (·.kd)) (ds.map (·.vs)) (rows.map (·.2.2)) n vs zs e (ds2.map (·.vs)) ∧ DKeep ds ds2) w := by
  obtain ⟨KS, hKS⟩ : ∃ KS, ds.map (·.kd) = KS := ⟨_, rfl⟩
  obtain ⟨DV, hDV⟩ : ∃ DV, ds.map (·.vs) = DV := ⟨_, rfl⟩
  obtain ⟨RS, hRS⟩ : ∃ RS, rows.map (·.2.2) = RS := ⟨_, rfl⟩
  have hKl : KS.length = ds.length := by rw [← hKS]; exact List.length_map _
  have hRl : RS.length = rows.length := by rw [← hRS]; exact List.length_map _
  have hKg : ∀ i, KS.getD i 0 = (ds.getD i dd0).kd := fun i => by rw [← hKS]; exact map_getDs dd0 0 rfl
  have hDg : ∀ i, DV.getD i [] = (ds.getD i dd0).vs := fun i => by rw [← hDV]; exact map_getDs dd0 [] rfl
  have hRg : ∀ i, RS.getD i [] = (rows.getD i rw0).2.2 := fun i => by rw [← hRS]; exact map_getDs rw0 [] rfl
  rw [hKS] at hk
  have hka := hk
  rw [← hKS] at hka
  rw [hKS, hDV, hRS]
  refine fn_enter Try.func9 rfl Try.ntmps9 rfl ?_
  refine vc_seq ?_
  refine vc_region ?_
  refine vl_alloc rfl rfl (.some rfl) Try.zeroValue34 (fun r6 => ?_)
  refine vl_val rfl (.some rfl) (val_assign rfl) ?_
  refine vl_nil ?_
  refine vc_seq ?_
  refine vc_seq ?_
  refine vc_region ?_
  refine vl_val rfl (.some rfl) (val_move rfl) ?_
  refine vl_val rfl (.some rfl) (val_move rfl) ?_
  refine vl_val rfl (.some rfl) (val_move rfl) ?_
  refine vl_callR [DB ds] rfl rfl (.some rfl) Try.call26 rfl (by repeat constructor) (fun w hw => gMay Ak ck ds Ar cr rows Ad cd hnl hrl hll h512 w (readsM_old hka (by repeat constructor) hw) (readsM_old hrd (by repeat constructor) hw) (fun q hq => (readsM_old (hrow q hq) (by repeat constructor) hw)) (readsM_old hdp (by repeat constructor) hw)) ?_
  rw [hKS, hDV, hRS]
  refine vl_val rfl (.some rfl) (val_assign rfl) ?_
  refine vl_nil ?_
  refine vc_seq ?_
  refine vc_region ?_
  refine vl_val rfl (.some rfl) (val_move rfl) ?_
  refine vl_val rfl (.some rfl) (val_ne rfl rfl) ?_
  refine vl_nil ?_
  refine vc_cond rfl (fun hc0 => ?_) (fun hc0 => ?_)
  · (try replace hc0 := of_decide_eq_true hc0)
    have hme : mayE KS DV RS ≠ 0 := by simpa using hc0
    refine vc_seq ?_
    refine vc_region ?_
    refine vl_val rfl (.some rfl) (val_buildSt (pl := #[(0, 1), (1, 1), (2, 1)]) (cs := #[.int .i64 (0), .slice none 0 0, .slice none 0 0]) Try.runUnderlying34 Try.zeroValue34 (fun w => by kernel_rfl) rfl rfl) ?_
    refine vl_nilSl 81 2 ?_
    refine vl_nilSl 64 7 ?_
    refine vl_eqv (eqv_nil _) ?_
    refine vl_val rfl (.some rfl) (val_move rfl) ?_
    first | refine vl_store rfl rfl .none rfl rfl Try.sizeOf34 rfl (by repeat constructor) (by first | decide | exact Nat.le_refl _ | exact Nat.le_of_ble_eq_true rfl | (simp; omega)) ?_ | refine vl_storeSl rfl rfl .none rfl rfl Try.sizeOf34 rfl (by simp [Value.cells]) (by repeat constructor) (by first | decide | (simp [Value.cells]; omega)) ?_
    refine vl_val rfl (.some rfl) (val_assign rfl) ?_
    refine vl_nil ?_
    refine vc_ret ?_
    refine ⟨_, [DB ds, big [], sl none 0 0 81 2 [], sl none 0 0 64 7 []], _, resC2 Try.results9 rfl (whole_agg Try.isAgg34 Try.sizeOf34 (cells_whole (by repeat constructor)) rfl) rfl, (by repeat constructor), ?_⟩
    exact ⟨0, none, 0, [], none, 0, [], _, ds, rfl, rfl, by rw [hDV]; exact made_fail hme, DKeep.rfl ds⟩
  · (try replace hc0 := of_decide_eq_false hc0)
    have hme : mayE KS DV RS = 0 := by simpa using hc0
    obtain ⟨hns, hok, hgr⟩ := mayE_zero hme
    refine vc_skip ?_
    refine vc_seq ?_
    refine vc_region ?_
    refine vl_val rfl (.some rfl) (val_move rfl) ?_
    refine vl_val rfl (.some rfl) (val_lenSl Try.runUnderlying22 rfl) ?_
    refine vl_makeSlice sT78 rfl rfl (.some rfl) rfl rfl (by omega) (by omega) (by omega) (vs := (List.replicate ds.length ty0).flatMap tyC) (made_flat tyC_len ty0 rfl (by decide) _) (fun r27 => ?_)
    refine vl_eqv (show Eqv _ (_ :: big ((List.replicate ds.length ty0).flatMap tyH) :: _) from Eqv.cons _ (eqv_tys _ _)) ?_
    refine vl_val rfl (.some rfl) (val_assign rfl) ?_
    refine vl_nil ?_
    refine vc_seq ?_
    refine vc_seq ?_
    refine vc_region ?_
    refine vl_val rfl (.some rfl) (val_move rfl) ?_
    refine vl_val rfl (.some rfl) (val_lenSl Try.runUnderlying23 rfl) ?_
    refine vl_val rfl (.some rfl) (val_move rfl) ?_
    refine vl_nil ?_
    refine vc_block ?_
    refine vc_loopw (fun k E H => ∃ (r : Nat) (ts : List Ty) (ds2 : List Dd), r ≤ rows.length ∧ k = rows.length - r ∧ StM ds KS DV RS ts ds2 r 0 ∧ E = [(0, .slice Ak ds.length ck), (1, .slice Ar rows.length cr), (2, .slice Ad ds.length cd), (6, .pointer (some ⟨r6, 0, none⟩)), (9, .slice (some ⟨r27, 0, none⟩) ds.length ds.length), (28, .slice Ar rows.length cr), (29, .int .i64 rows.length), (30, .int .i64 r)] ∧ H = [cells r6 [.int .i64 0, .slice none 0 0, .slice none 0 0] 34, sl (some ⟨r27, 0, none⟩) ds.length ds.length 83 9 (ts.flatMap tyC), big (ts.flatMap tyH), DB ds2]) (rows.length) ⟨_, _, _, ⟨0, List.replicate ds.length ty0, ds, by omega, rfl, stM_start hDg, rfl, rfl⟩, (by repeat (first | exact trivial | refine ⟨rfl, ?_⟩ | refine ⟨le_item rfl (by first | rfl | (congr 1; omega) | (simp; done) | (simp; omega)), ?_⟩)), (by repeat constructor)⟩ ?_
    intro k E H hI
    obtain ⟨r, ts, ds2, hr, rfl, hst, rfl, rfl⟩ := hI
    refine vc_seq ?_
    refine vc_region ?_
    refine vl_val rfl (.some rfl) (val_lt rfl rfl) ?_
    refine vl_nil ?_
    refine vc_seq ?_
    refine vc_cond rfl (fun hc1 => ?_) (fun hc1 => ?_)
    · (try replace hc1 := of_decide_eq_true hc1)
      have hr8 : r < rows.length := by omega
      have hq := hrow _ (mem_getD rw0 hr8)
      have hlen := rowBad_len (hgr r (by omega))
      rw [hRg] at hlen
      refine vc_skip ?_
      refine vc_seq ?_
      refine vc_block ?_
      refine vc_seq ?_
      refine vc_region ?_
      refine vl_val rfl (.some rfl) (val_indexAddr Try.runUnderlying23 Try.sizeOf53 rfl rfl (rd_oldM hrd) (by omega) (by omega) (by rw [rowC_len]; omega)) ?_
      refine vl_val rfl (.some rfl) (val_load Try.isAgg53 rfl (cell_rd (rd_oldM hrd) (rowC_at (by omega)))) ?_
      refine vl_val rfl (.some rfl) (val_assign rfl) ?_
      refine vl_nil ?_
      refine vc_seq ?_
      refine vc_region ?_
      refine vl_val rfl (.some rfl) (val_move rfl) ?_
      refine vl_val rfl (.some rfl) (val_lenSl Try.runUnderlying53 rfl) ?_
      refine vl_val rfl (.some rfl) (val_move rfl) ?_
      refine vl_nil ?_
      refine vc_block ?_
      refine vc_loopw (fun k E H => ∃ (i : Nat) (ts : List Ty) (ds2 : List Dd), i ≤ ds.length ∧ k = ds.length - i ∧ StM ds KS DV RS ts ds2 r i ∧ E = [(0, .slice Ak ds.length ck), (1, .slice Ar rows.length cr), (2, .slice Ad ds.length cd), (6, .pointer (some ⟨r6, 0, none⟩)), (9, .slice (some ⟨r27, 0, none⟩) ds.length ds.length), (28, .slice Ar rows.length cr), (29, .int .i64 rows.length), (30, .int .i64 r), (34, .slice (rows.getD r rw0).1 (rows.getD r rw0).2.2.length (rows.getD r rw0).2.1), (35, .int .i64 ds.length), (36, .int .i64 i)] ∧ H = [cells r6 [.int .i64 0, .slice none 0 0, .slice none 0 0] 34, sl (some ⟨r27, 0, none⟩) ds.length ds.length 83 9 (ts.flatMap tyC), big (ts.flatMap tyH), DB ds2]) (ds.length) ⟨_, _, _, ⟨0, ts, ds2, by omega, by omega, hst, rfl, rfl⟩, (by repeat (first | exact trivial | refine ⟨rfl, ?_⟩ | refine ⟨le_item rfl (by first | rfl | (congr 1; omega) | (simp; done) | (simp; omega)), ?_⟩)), (by repeat constructor)⟩ ?_
      intro k E H hI
      obtain ⟨i, ts, ds2, hi, rfl, hst, rfl, rfl⟩ := hI
      refine vc_seq ?_
      refine vc_region ?_
      refine vl_val rfl (.some rfl) (val_lt rfl rfl) ?_
      refine vl_nil ?_
      refine vc_seq ?_
      refine vc_cond rfl (fun hc2 => ?_) (fun hc2 => ?_)
      · (try replace hc2 := of_decide_eq_true hc2)
        have hl1 := hst.1
        have hi8 : i < ds.length := by omega
        have hbd := stM_bd hst hi8 (by omega)
        have hks := (hst.2.2 i hi8).2
        have hpe : ddP (ds.getD i dd0) = ddP (ds2.getD i dd0) := by unfold ddP; rw [hks.1, hks.2]
        refine vc_skip ?_
        refine vc_seq ?_
        refine vc_block ?_
        refine vc_seq ?_
        refine vc_region ?_
        refine vl_val rfl (.some rfl) (val_move rfl) ?_
        refine vl_val rfl (.some rfl) (val_indexAddr Try.runUnderlying53 Try.sizeOf62 rfl rfl (rd_oldM hq) (by omega) (by omega) (by rw [vflat_len]; omega)) ?_
        refine vl_val rfl (.some rfl) (val_loadAgg Try.isAgg62 Try.sizeOf62 rfl (cells_rd (us := [.int .i64 ((rows.getD r rw0).2.2.getD i z3).k, .int .i64 ((rows.getD r rw0).2.2.getD i z3).n, .string ((rows.getD r rw0).2.2.getD i z3).s]) (rd_oldM hq) (by rw [Int.toNat_natCast]; exact flat_at _ _ (by omega))) rfl) ?_
        refine vl_alloc rfl rfl (.some rfl) Try.zeroValue62 (fun r13 => ?_)
        refine vl_val rfl (.some rfl) (val_assign rfl) ?_
        first | refine vl_store rfl rfl .none rfl rfl Try.sizeOf62 rfl (by repeat constructor) (by first | decide | exact Nat.le_refl _ | exact Nat.le_of_ble_eq_true rfl | (simp; omega)) ?_ | refine vl_storeSl rfl rfl .none rfl rfl Try.sizeOf62 rfl (by simp [Value.cells]) (by repeat constructor) (by first | decide | (simp [Value.cells]; omega)) ?_
        refine vl_nil ?_
        refine vc_drawsS [0, 1, 2, 3, 4, 5, 6, 7] [] [0, 1, 2, 3, 4, 5, 6, 7, 8] [cells r13 [.int .i64 ((rows.getD r rw0).2.2.getD i z3).k, .int .i64 ((rows.getD r rw0).2.2.getD i z3).n, .string ((rows.getD r rw0).2.2.getD i z3).s] 62] (by repeat constructor) rfl (by kernel_rfl) (fun _ _ _ h => h) ?_
        refine vd_val rfl rfl rfl (.some rfl) (val_move rfl) ?_
        refine vd_val rfl rfl rfl (.some rfl) (val_move rfl) ?_
        refine vd_val rfl rfl rfl (.some rfl) (val_indexAddrA Try.runUnderlying78 Try.sizeOf83 rfl rfl (by omega) (by omega)) ?_
        refine vd_val rfl rfl rfl (.some rfl) (val_loadAgg Try.isAgg62 Try.sizeOf62 rfl (by first | exact cells_whole (by repeat constructor) | exact cells_part (by repeat constructor) rfl) rfl) ?_
        refine vd_val rfl rfl rfl (.some rfl) (val_move rfl) ?_
        refine vd_val rfl rfl rfl (.some rfl) (val_move rfl) ?_
        refine vd_val rfl rfl rfl (.some rfl) (val_indexAddr Try.runUnderlying26 Try.sizeOf51 rfl rfl (rd_oldM hdp) (by omega) (by omega) (by rw [List.length_map]; omega)) ?_
        refine vd_val rfl rfl rfl (.some rfl) (val_eqv hpe (val_load Try.isAgg51 rfl (cell_rd (rd_oldM hdp) (map_at dd0 (by omega))))) ?_
        refine vd_op rfl rfl ?_
        refine vl_call (C := [sl (some ⟨r27, 0, none⟩) ds.length ds.length 83 9 (ts.flatMap tyC), big (ts.flatMap tyH), DB ds2]) rfl rfl (.some rfl) Try.call27 rfl (by repeat constructor) (fun w hw => by have h := gTakeB (some ⟨r27, 0, none⟩) ds.length ts i (by rw [hst.1]; exact hi8) hbd.1 hbd.2.1 hbd.2.2 ((rows.getD r rw0).2.2.getD i z3) ds2 (by rw [hst.2.1]; exact hi8) (by rw [hks.1, ← hKg]; exact hok i (by omega)) w; rw [hst.1] at h; exact h) (fun v9 H9 h => ?_)
        obtain ⟨t2, ds3, ⟨ht2, hup⟩, rfl⟩ := h
        show VL _ _ _ _ _ (_ :: _ :: _ :: _)
        have hst3 := stM_step hKg hst hi8 (show r < RS.length by omega) (by rw [hRg]; exact ht2) (by rw [hRg]; exact hup)
        refine vl_nil ?_
        refine ⟨fun _ => ⟨_, (by repeat (first | exact .nil | exact sub_self _ | exact sub_skip (sub_self _) | exact sub_skip (sub_skip (sub_self _)) | exact sub_skip (sub_skip (sub_skip (sub_self _))) | (apply Sub.cons; · repeat (first | exact .head | apply Take.tail))))⟩, ?_⟩
        refine vd_nil ?_
        refine vc_region ?_
        refine vl_val rfl (.some rfl) (val_add rfl rfl (by first | exact w_i64 (by omega) (by omega) | rfl)) ?_
        refine vl_val rfl (.some rfl) (val_move rfl) ?_
        refine vl_nil ?_
        exact ⟨ds.length - (i + 1), _, _, _, by omega, (by repeat (first | exact trivial | refine ⟨rfl, ?_⟩ | refine ⟨le_item rfl (by first | rfl | (congr 1; omega) | (simp; done) | (simp; omega)), ?_⟩)), (by repeat constructor), ⟨i + 1, ts.set i t2, ds3, by omega, rfl, hst3, rfl, rfl⟩⟩
      · (try replace hc2 := of_decide_eq_false hc2)
        obtain rfl : i = ds.length := by omega
        have hst4 := stM_row hst
        refine vc_exit ?_
        refine vc_region ?_
        refine vl_val rfl (.some rfl) (val_add rfl rfl (by first | exact w_i64 (by omega) (by omega) | rfl)) ?_
        refine vl_val rfl (.some rfl) (val_move rfl) ?_
        refine vl_nil ?_
        exact ⟨rows.length - (r + 1), _, _, _, by omega, (by repeat (first | exact trivial | refine ⟨rfl, ?_⟩ | refine ⟨le_item rfl (by first | rfl | (congr 1; omega) | (simp; done) | (simp; omega)), ?_⟩)), (by repeat constructor), ⟨r + 1, ts, ds2, by omega, rfl, hst4, rfl, rfl⟩⟩
    · (try replace hc1 := of_decide_eq_false hc1)
      obtain rfl : r = rows.length := by omega
      have hl1 := hst.1
      refine vc_exit ?_
      refine vc_seq ?_
      refine vc_region ?_
      refine vl_val rfl (.some rfl) (val_move rfl) ?_
      refine vl_val rfl (.some rfl) (val_lenSl Try.runUnderlying23 rfl) ?_
      refine vl_val rfl (.some rfl) (val_buildSt (pl := #[(0, 1), (1, 1), (2, 1)]) (cs := #[.int .i64 (rows.length), .slice none 0 0, .slice none 0 0]) Try.runUnderlying34 Try.zeroValue34 (fun w => by kernel_rfl) rfl rfl) ?_
      refine vl_nilSl 81 2 ?_
      refine vl_nilSl 64 7 ?_
      refine vl_alloc rfl rfl (.some rfl) Try.zeroValue34 (fun r14 => ?_)
      first | refine vl_store rfl rfl .none rfl rfl Try.sizeOf34 rfl (by repeat constructor) (by first | decide | exact Nat.le_refl _ | exact Nat.le_of_ble_eq_true rfl | (simp; omega)) ?_ | refine vl_storeSl rfl rfl .none rfl rfl Try.sizeOf34 rfl (by simp [Value.cells]) (by repeat constructor) (by first | decide | (simp [Value.cells]; omega)) ?_
      refine vl_nil ?_
      refine vc_seq ?_
      refine vc_seq ?_
      refine vc_region ?_
      refine vl_val rfl (.some rfl) (val_move rfl) ?_
      refine vl_val rfl (.some rfl) (val_lenSl Try.runUnderlying78 rfl) ?_
      refine vl_val rfl (.some rfl) (val_move rfl) ?_
      refine vl_nil ?_
      refine vc_block ?_
      refine vc_loopw (fun k E H => ∃ (i : Nat) (Ac : Option Addr) (cc : Nat) (Az : Option Addr) (cz : Nat), i ≤ ts.length ∧ k = ts.length - i ∧ E = [(6, .pointer (some ⟨r6, 0, none⟩)), (14, .pointer (some ⟨r14, 0, none⟩)), (55, .slice (some ⟨r27, 0, none⟩) ds.length ds.length), (56, .int .i64 ts.length), (57, .int .i64 i)] ∧ H = [cells r6 [.int .i64 0, .slice none 0 0, .slice none 0 0] 34, cells r14 [.int .i64 rows.length, .slice Ac i cc, .slice Az i cz] 34, sl (some ⟨r27, 0, none⟩) ds.length ds.length 83 9 (ts.flatMap tyC), big (ts.flatMap tyH), DB ds2, sl Ac i cc 81 2 (((ts.take i).map (·.v)).flatMap vcC), sl Az i cz 64 7 (((ts.take i).map (·.z)).flatMap znC)]) (ts.length) ⟨_, _, _, ⟨0, none, 0, none, 0, by omega, rfl, rfl, rfl⟩, (by repeat (first | exact trivial | refine ⟨rfl, ?_⟩ | refine ⟨le_item rfl (by first | rfl | (congr 1; omega) | (simp; done) | (simp; omega)), ?_⟩)), (by repeat constructor)⟩ ?_
      intro k E H hI
      obtain ⟨i, Ac, cc, Az, cz, hi, rfl, rfl, rfl⟩ := hI
      refine vc_seq ?_
      refine vc_region ?_
      refine vl_val rfl (.some rfl) (val_lt rfl rfl) ?_
      refine vl_nil ?_
      refine vc_seq ?_
      refine vc_cond rfl (fun hc3 => ?_) (fun hc3 => ?_)
      · (try replace hc3 := of_decide_eq_true hc3)
        have hi8 : i < ts.length := by omega
        refine vc_skip ?_
        refine vc_seq ?_
        refine vc_block ?_
        refine vc_seq ?_
        refine vc_region ?_
        refine vl_val rfl (.some rfl) (val_indexAddr Try.runUnderlying78 Try.sizeOf83 rfl rfl (rd_sl (by repeat constructor)) (by omega) (by omega) (by rw [flatS_len tyC_len]; omega)) ?_
        refine vl_val rfl (.some rfl) (val_loadAgg Try.isAgg83 Try.sizeOf83 rfl (cells_rd (us := tyC (ts.getD i ty0)) (rd_sl (by repeat constructor)) (by rw [Int.toNat_natCast]; exact flat_atM tyC_len ty0 _ _ (by omega))) rfl) ?_
        refine vl_alloc rfl rfl (.some rfl) Try.zeroValue83 (fun r16 => ?_)
        first | refine vl_store rfl rfl .none rfl rfl Try.sizeOf83 rfl (by repeat constructor) (by first | decide | exact Nat.le_refl _ | exact Nat.le_of_ble_eq_true rfl | (simp; omega)) ?_ | refine vl_storeSl rfl rfl .none rfl rfl Try.sizeOf83 rfl (by simp [Value.cells]) (by repeat constructor) (by first | decide | (simp [Value.cells]; omega)) ?_
        refine vl_nil ?_
        refine vc_seq ?_
        refine vc_region ?_
        refine vl_val rfl (.some rfl) (by first | exact val_fieldAddr Try.runUnderlying34 rfl Try.sizeOf31 rfl | exact val_fieldAddrR Try.runUnderlying34 rfl Try.sizeOf31 rfl) ?_
        refine vl_val rfl (.some rfl) (val_load Try.isAgg31 rfl (by first | exact cell_cells (by repeat constructor) rfl | exact cell_rd (by first | exact rd_sl (by repeat constructor) | exact rd_old (by assumption) rfl) (by first | exact bcells_at (by omega) | exact ucells_at (by omega) | exact icells_at (by omega) | exact tcells_at (by omega) | exact bcells_get (by omega) | exact icells_get (by omega) | exact tcells_get (by omega) | exact ucells_get (by omega)) | exact cell_old (by assumption) (by simp [fps]))) ?_
        refine vl_val rfl (.some rfl) (by first | exact val_fieldAddr Try.runUnderlying83 rfl Try.sizeOf81 rfl | exact val_fieldAddrR Try.runUnderlying83 rfl Try.sizeOf81 rfl) ?_
        refine vl_val rfl (.some rfl) (val_loadAgg Try.isAgg81 Try.sizeOf81 rfl (cells_part (us := vcC (ts.getD i ty0).v) (by repeat constructor) rfl) rfl) ?_
        refine vl_lit sT31 rfl rfl (.some rfl) rfl rfl rfl (by decide) (by decide) rfl rfl (fun r65 => ?_)
        refine vl_append (us := vcC ((ts.getD i ty0)).v) sT31 rfl rfl (.some rfl) rfl rfl (rd_sl (by repeat constructor)) rfl rfl (by omega) (by omega) (by repeat constructor) (fun A66 k66 => ?_)
        rw [take_map1 (·.v) vcC ty0 hi8]
        refine vl_val rfl (.some rfl) (by first | exact val_fieldAddr Try.runUnderlying34 rfl Try.sizeOf31 rfl | exact val_fieldAddrR Try.runUnderlying34 rfl Try.sizeOf31 rfl) ?_
        first | refine vl_store rfl rfl .none rfl rfl Try.sizeOf31 rfl (by repeat constructor) (by first | decide | exact Nat.le_refl _ | exact Nat.le_of_ble_eq_true rfl | (simp; omega)) ?_ | refine vl_storeSl rfl rfl .none rfl rfl Try.sizeOf31 rfl (by simp [Value.cells]) (by repeat constructor) (by first | decide | (simp [Value.cells]; omega)) ?_
        refine vl_nil ?_
        refine vc_region ?_
        refine vl_val rfl (.some rfl) (by first | exact val_fieldAddr Try.runUnderlying34 rfl Try.sizeOf32 rfl | exact val_fieldAddrR Try.runUnderlying34 rfl Try.sizeOf32 rfl) ?_
        refine vl_val rfl (.some rfl) (val_load Try.isAgg32 rfl (by first | exact cell_cells (by repeat constructor) rfl | exact cell_rd (by first | exact rd_sl (by repeat constructor) | exact rd_old (by assumption) rfl) (by first | exact bcells_at (by omega) | exact ucells_at (by omega) | exact icells_at (by omega) | exact tcells_at (by omega) | exact bcells_get (by omega) | exact icells_get (by omega) | exact tcells_get (by omega) | exact ucells_get (by omega)) | exact cell_old (by assumption) (by simp [fps]))) ?_
        refine vl_val rfl (.some rfl) (by first | exact val_fieldAddr Try.runUnderlying83 rfl Try.sizeOf64 rfl | exact val_fieldAddrR Try.runUnderlying83 rfl Try.sizeOf64 rfl) ?_
        refine vl_val rfl (.some rfl) (val_loadAgg Try.isAgg64 Try.sizeOf64 rfl (cells_part (us := znC (ts.getD i ty0).z) (by repeat constructor) rfl) rfl) ?_
        refine vl_lit sT32 rfl rfl (.some rfl) rfl rfl rfl (by decide) (by decide) rfl rfl (fun r72 => ?_)
        refine vl_append (us := znC ((ts.getD i ty0)).z) sT32 rfl rfl (.some rfl) rfl rfl (rd_sl (by repeat constructor)) rfl rfl (by omega) (by omega) (by repeat constructor) (fun A73 k73 => ?_)
        rw [take_map1 (·.z) znC ty0 hi8]
        refine vl_val rfl (.some rfl) (by first | exact val_fieldAddr Try.runUnderlying34 rfl Try.sizeOf32 rfl | exact val_fieldAddrR Try.runUnderlying34 rfl Try.sizeOf32 rfl) ?_
        first | refine vl_store rfl rfl .none rfl rfl Try.sizeOf32 rfl (by repeat constructor) (by first | decide | exact Nat.le_refl _ | exact Nat.le_of_ble_eq_true rfl | (simp; omega)) ?_ | refine vl_storeSl rfl rfl .none rfl rfl Try.sizeOf32 rfl (by simp [Value.cells]) (by repeat constructor) (by first | decide | (simp [Value.cells]; omega)) ?_
        refine vl_nil ?_
        refine vc_region ?_
        refine vl_val rfl (.some rfl) (val_add rfl rfl (by first | exact w_i64 (by omega) (by omega) | rfl)) ?_
        refine vl_val rfl (.some rfl) (val_move rfl) ?_
        refine vl_nil ?_
        exact ⟨ts.length - (i + 1), _, _, _, by omega, (by repeat (first | exact trivial | refine ⟨rfl, ?_⟩ | refine ⟨le_item rfl (by first | rfl | (congr 1; omega) | (simp; done) | (simp; omega)), ?_⟩)), (by repeat constructor), ⟨i + 1, A66, k66, A73, k73, by omega, rfl, rfl, rfl⟩⟩
      · (try replace hc3 := of_decide_eq_false hc3)
        obtain rfl : i = ts.length := by omega
        rw [List.take_length]
        refine vc_exit ?_
        refine vc_seq ?_
        refine vc_region ?_
        refine vl_val rfl (.some rfl) (val_loadAgg Try.isAgg34 Try.sizeOf34 rfl (by first | exact cells_whole (by repeat constructor) | exact cells_part (by repeat constructor) rfl) rfl) ?_
        first | refine vl_store rfl rfl .none rfl rfl Try.sizeOf34 rfl (by repeat constructor) (by first | decide | exact Nat.le_refl _ | exact Nat.le_of_ble_eq_true rfl | (simp; omega)) ?_ | refine vl_storeSl rfl rfl .none rfl rfl Try.sizeOf34 rfl (by simp [Value.cells]) (by repeat constructor) (by first | decide | (simp [Value.cells]; omega)) ?_
        refine vl_val rfl (.some rfl) (val_assign rfl) ?_
        refine vl_nil ?_
        refine vc_ret ?_
        refine ⟨_, [DB ds2, big (ts.flatMap tyH), sl Ac ts.length cc 81 2 ((ts.map (·.v)).flatMap vcC), sl Az ts.length cz 64 7 ((ts.map (·.z)).flatMap znC)], _, resC2 Try.results9 rfl (whole_agg Try.isAgg34 Try.sizeOf34 (cells_whole (by repeat constructor)) rfl) rfl, (by repeat constructor), ?_⟩
        obtain ⟨he1, he2⟩ := stM_end hKl (by rw [hRl]; exact hst) hme
        refine ⟨rows.length, Ac, cc, ts.map (·.v), Az, cz, ts.map (·.z), 0, ds2, ?_, ?_, ?_, he2⟩
        · rw [List.length_map, List.length_map]; rfl
        · rw [List.length_map, List.length_map, tyH_v]
        · rw [← hRl]; exact he1



abbrev VA (An : Option Addr) (cn : Nat) (nl : List Bool) (Ai : Option Addr) (ci : Nat) (il : List Int) : Value := .agg #[.slice An nl.length cn, .slice Ai il.length ci]

abbrev znV (z : Zn) : Value := .agg #[.int .i64 z.n, .int .i64 z.lo.k, .int .i64 z.lo.n, .string z.lo.s, .int .i64 z.hi.k, .int .i64 z.hi.n, .string z.hi.s]
theorem vk_eqD (p q : Vk) (w : World) : (Op.equalIn 9999 62 (vk p) (vk q)).run Try.prog w = .ok (decide (p = q)) w := by
  obtain ⟨k, n, s⟩ := p
  obtain ⟨k', n', s'⟩ := q
  unfold vk
  rw [show (9999 : Nat) = 9998 + 1 from rfl, run_equalIn_agg w 9998 62 _ _ (by kernel_rfl) (by kernel_rfl), fsV]
  have e3 : ∀ a b : Int, (Op.equalIn 9998 3 (.int .i64 a) (.int .i64 b)).run Try.prog w = .ok (decide (a = b)) w := fun a b => by
    rw [show (9998 : Nat) = 9997 + 1 from rfl, run_equalIn_int w 9997 3 .i64 .i64 a b Try.underlying3, int_beq]
  have e9 : ∀ a b : ByteArray, (Op.equalIn 9998 9 (.string a) (.string b)).run Try.prog w = .ok (decide (a = b)) w := fun a b => by
    rw [show (9998 : Nat) = 9997 + 1 from rfl, run_equalIn_string w 9997 9 a b Try.underlying9, bytes_beq]
  simp only [Op.eqFields, part, Sem.run_bind, Try.isAgg3, Try.isAgg9, Result.andThen_ok]
  simp [e3, e9]
  by_cases h1 : k = k' <;> by_cases h2 : n = n' <;> simp [h1, h2, e3, e9]
  by_cases h3 : s = s' <;> simp [h3]

theorem fszn : (Try.prog.fieldsOf 64).toList = [⟨"Nulls", 3, 0, false, "", "", 0⟩, ⟨"Min", 62, 1, false, "", "", 8⟩, ⟨"Max", 62, 4, false, "", "", 40⟩] := by kernel_rfl
theorem zn_equal (p q : Zn) (w : World) : (Op.equal 64 (znV p) (znV q)).run Try.prog w = .ok (decide (p = q)) w := by
  obtain ⟨n, a, b⟩ := p
  obtain ⟨n', a', b'⟩ := q
  unfold Op.equal znV
  rw [show Op.maxDepth = 9999 + 1 from rfl, run_equalIn_agg w 9999 64 _ _ (by kernel_rfl) (by kernel_rfl), fszn]
  have e3 : ∀ a b : Int, (Op.equalIn 9999 3 (.int .i64 a) (.int .i64 b)).run Try.prog w = .ok (decide (a = b)) w := fun a b => by
    rw [show (9999 : Nat) = 9998 + 1 from rfl, run_equalIn_int w 9998 3 .i64 .i64 a b Try.underlying3, int_beq]
  have ev := vk_eqD
  simp only [Op.eqFields, part, Sem.run_bind, Try.isAgg3, Try.isAgg62, Try.sizeOf62, Result.andThen_ok]
  simp [e3]
  by_cases h1 : n = n'
  · simp [h1]
    have h2 := ev a a' w
    have h3 := ev b b' w
    simp only [vk] at h2 h3
    rw [h2]
    by_cases h4 : a = a'
    · simp [h4, h3]
      by_cases h5 : b = b'
      · rw [if_pos h5, decide_eq_true h5]
      · rw [if_neg h5, decide_eq_false h5]
    · simp [h4]
  · simp [h1]

def soundZ (z : Zn) (nu : List Bool) (rows : Int) : Bool := if z.n ≠ ((nu.count true : Nat) : Int) then false else if z.n = rows then decide ((⟨0, z.lo, z.hi⟩ : Zn) = zn0) else decide (z.lo.k ≠ 0) && decide (z.lo.k = z.hi.k) && goodV z.lo && goodV z.hi && decide (cmpV z.lo z.hi ≤ 0)
def colOk (n : Int) (c : List Bool × List Int) (z : Zn) : Prop := okV c.1 c.2 ∧ (c.2.length : Int) = n ∧ soundZ z c.1 n = true
instance (n : Int) (c : List Bool × List Int) (z : Zn) : Decidable (colOk n c z) := by unfold colOk; infer_instance
def goodSg (s : Sg) : Prop := (1 ≤ s.n ∧ s.n ≤ 1000) ∧ (1 ≤ s.cs.length ∧ s.cs.length ≤ 8) ∧ s.zs.length = s.cs.length ∧ ∀ i, i < s.cs.length → colOk s.n (s.cs.getD i ([], [])) (s.zs.getD i zn0)
instance (s : Sg) : Decidable (goodSg s) := by unfold goodSg; infer_instance
theorem count_take {l : List Bool} {i : Nat} (h : i < l.length) : (l.take (i + 1)).count true = (l.take i).count true + (if l.getD i false = true then 1 else 0) := by
  rw [List.take_add_one, List.count_append]
  simp [List.getD, List.getElem?_eq_getElem h]
  cases l[i] <;> simp

theorem vcC_len (v : Vc) : (vcC v).length = 2 := rfl
theorem znC_len (v : Zn) : (znC v).length = 7 := rfl
/-- What the parts of a segment lead to. -/
structure VcR (w : World) (v : Vc) : Prop where
  nu : Reads w v.A (tcells v.nu)
  ids : Reads w v.B (icells .i64 v.ids)
  ln : v.nu.length < 4611686018427387904
  li : v.ids.length < 4611686018427387904
abbrev sgV (n : Int) (Ac : Option Addr) (cc : Nat) (vs : List Vc) (Az : Option Addr) (cz : Nat) (zs : List Zn) : Value := .agg #[.int .i64 n, .slice Ac vs.length cc, .slice Az zs.length cz]
structure SgR (w : World) (Ac : Option Addr) (vs : List Vc) (Az : Option Addr) (zs : List Zn) : Prop where
  cs : Reads w Ac (vs.flatMap vcC)
  zs : Reads w Az (zs.flatMap znC)
  col : ∀ v ∈ vs, VcR w v

set_option maxRecDepth 20000 in
theorem cGood (An Ai : Option Addr) (cn ci : Nat) (nl : List Bool) (il : List Int) (hn : nl.length < 9223372036854775808) (hi : il.length < 9223372036854775808) (w : World) (hrn : Reads w An (tcells nl)) (hri : Reads w Ai (icells .i64 il)) : FnV Try.prog 55 [(VA An cn nl Ai ci il)] (.bool (decide (okV nl il))) w := by
  refine fn_enter Try.func55 rfl Try.ntmps55 rfl ?_
  refine vc_seq ?_
  refine vc_region ?_
  refine vl_box rfl rfl (.some rfl) rfl (fun r1 => ?_)
  refine vl_val rfl (.some rfl) (val_assign rfl) ?_
  refine vl_nil ?_
  refine vc_seq ?_
  refine vc_seq ?_
  refine vc_region ?_
  refine vl_val rfl (.some rfl) (by first | exact val_fieldAddr Try.runUnderlying81 rfl Try.sizeOf79 rfl | exact val_fieldAddrR Try.runUnderlying81 rfl Try.sizeOf79 rfl) ?_
  refine vl_val rfl (.some rfl) (val_load Try.isAgg79 rfl (by first | exact cell_cells (by repeat constructor) rfl | exact cell_rd (by first | exact rd_sl (by repeat constructor) | exact rd_old (by assumption) rfl) (by first | exact bcells_at (by omega) | exact ucells_at (by omega) | exact icells_at (by omega) | exact tcells_at (by omega) | exact bcells_get (by omega) | exact icells_get (by omega) | exact tcells_get (by omega) | exact ucells_get (by omega)) | exact cell_old (by assumption) (by simp [fps]))) ?_
  refine vl_val rfl (.some rfl) (val_lenSl Try.runUnderlying79 rfl) ?_
  refine vl_val rfl (.some rfl) (by first | exact val_fieldAddr Try.runUnderlying81 rfl Try.sizeOf22 rfl | exact val_fieldAddrR Try.runUnderlying81 rfl Try.sizeOf22 rfl) ?_
  refine vl_val rfl (.some rfl) (val_load Try.isAgg22 rfl (by first | exact cell_cells (by repeat constructor) rfl | exact cell_rd (by first | exact rd_sl (by repeat constructor) | exact rd_old (by assumption) rfl) (by first | exact bcells_at (by omega) | exact ucells_at (by omega) | exact icells_at (by omega) | exact tcells_at (by omega) | exact bcells_get (by omega) | exact icells_get (by omega) | exact tcells_get (by omega) | exact ucells_get (by omega)) | exact cell_old (by assumption) (by simp [fps]))) ?_
  refine vl_val rfl (.some rfl) (val_lenSl Try.runUnderlying22 rfl) ?_
  refine vl_val rfl (.some rfl) (val_ne rfl rfl) ?_
  refine vl_val rfl (.some rfl) (val_move rfl) ?_
  refine vl_split (t := 12) rfl (fun hg12 => ?_) (fun hg12 => ?_)
  · (try replace hg12 := of_decide_eq_true hg12)
    refine vl_off rfl rfl rfl rfl (.some rfl) ?_
    refine vl_off rfl rfl rfl rfl (.some rfl) ?_
    refine vl_off rfl rfl rfl rfl (.some rfl) ?_
    refine vl_off rfl rfl rfl rfl (.some rfl) ?_
    refine vl_val rfl (.some rfl) (val_pick rfl rfl) ?_
    refine vl_nil ?_
    refine vc_cond rfl (fun _ => ?_) (fun h => by cases h)
    refine vc_seq ?_
    refine vc_region ?_
    refine vl_val rfl (.some rfl) (val_assign rfl) ?_
    refine vl_nil ?_
    refine vc_ret ?_
    refine ⟨_, [], _, res1 Try.results55 rfl, .nil, ?_⟩
    show _ = _; rw [decide_eq_false (fun h => by have h1 := h.1; have h2 := h.2.1; omega)]
  · (try replace hg12 := of_decide_eq_false hg12)
    refine vl_on rfl rfl rfl rfl ?_
    refine vl_val rfl (.some rfl) (by first | exact val_fieldAddr Try.runUnderlying81 rfl Try.sizeOf22 rfl | exact val_fieldAddrR Try.runUnderlying81 rfl Try.sizeOf22 rfl) ?_
    refine vl_on rfl rfl rfl rfl ?_
    refine vl_val rfl (.some rfl) (val_load Try.isAgg22 rfl (by first | exact cell_cells (by repeat constructor) rfl | exact cell_rd (by first | exact rd_sl (by repeat constructor) | exact rd_old (by assumption) rfl) (by first | exact bcells_at (by omega) | exact ucells_at (by omega) | exact icells_at (by omega) | exact tcells_at (by omega) | exact bcells_get (by omega) | exact icells_get (by omega) | exact tcells_get (by omega) | exact ucells_get (by omega)) | exact cell_old (by assumption) (by simp [fps]))) ?_
    refine vl_on rfl rfl rfl rfl ?_
    refine vl_val rfl (.some rfl) (val_lenSl Try.runUnderlying22 rfl) ?_
    refine vl_on rfl rfl rfl rfl ?_
    refine vl_val rfl (.some rfl) (val_gt rfl rfl) ?_
    refine vl_val rfl (.some rfl) (val_pick rfl rfl) ?_
    refine vl_nil ?_
    refine vc_cond rfl (fun hc0 => ?_) (fun hc0 => ?_)
    · (try replace hc0 := of_decide_eq_true hc0)
      refine vc_seq ?_
      refine vc_region ?_
      refine vl_val rfl (.some rfl) (val_assign rfl) ?_
      refine vl_nil ?_
      refine vc_ret ?_
      refine ⟨_, [], _, res1 Try.results55 rfl, .nil, ?_⟩
      show _ = _; rw [decide_eq_false (fun h => by have h1 := h.1; have h2 := h.2.1; omega)]
    · (try replace hc0 := of_decide_eq_false hc0)
      refine vc_skip ?_
      refine vc_seq ?_
      refine vc_seq ?_
      refine vc_region ?_
      refine vl_val rfl (.some rfl) (by first | exact val_fieldAddr Try.runUnderlying81 rfl Try.sizeOf22 rfl | exact val_fieldAddrR Try.runUnderlying81 rfl Try.sizeOf22 rfl) ?_
      refine vl_val rfl (.some rfl) (val_load Try.isAgg22 rfl (by first | exact cell_cells (by repeat constructor) rfl | exact cell_rd (by first | exact rd_sl (by repeat constructor) | exact rd_old (by assumption) rfl) (by first | exact bcells_at (by omega) | exact ucells_at (by omega) | exact icells_at (by omega) | exact tcells_at (by omega) | exact bcells_get (by omega) | exact icells_get (by omega) | exact tcells_get (by omega) | exact ucells_get (by omega)) | exact cell_old (by assumption) (by simp [fps]))) ?_
      refine vl_val rfl (.some rfl) (val_lenSl Try.runUnderlying22 rfl) ?_
      refine vl_val rfl (.some rfl) (val_move rfl) ?_
      refine vl_nil ?_
      refine vc_block ?_
      refine vc_loopw (fun k E H => ∃ i : Nat, i ≤ il.length ∧ k = il.length - i ∧ (∀ j, j < i → 0 ≤ il.getD j 0 ∧ il.getD j 0 < 512 ∧ (nl.getD j false = true → il.getD j 0 = 0)) ∧ E = [(1, .pointer (some ⟨r1, 0, none⟩)), (19, .slice Ai il.length ci), (20, .int .i64 il.length), (21, .int .i64 i)] ∧ H = [cells r1 [.slice An nl.length cn, .slice Ai il.length ci] 81]) (il.length) ⟨_, _, _, ⟨0, by omega, rfl, fun j hj => absurd hj (by omega), rfl, rfl⟩, (by repeat (first | exact trivial | refine ⟨rfl, ?_⟩ | refine ⟨le_item rfl (by first | rfl | (congr 1; omega) | (simp; done) | (simp; omega)), ?_⟩)), (by repeat constructor)⟩ ?_
      intro k E H hI
      obtain ⟨i, hil, rfl, hall, rfl, rfl⟩ := hI
      refine vc_seq ?_
      refine vc_region ?_
      refine vl_val rfl (.some rfl) (val_lt rfl rfl) ?_
      refine vl_nil ?_
      refine vc_seq ?_
      refine vc_cond rfl (fun hc1 => ?_) (fun hc1 => ?_)
      · (try replace hc1 := of_decide_eq_true hc1)
        refine vc_skip ?_
        refine vc_seq ?_
        refine vc_block ?_
        refine vc_seq ?_
        refine vc_region ?_
        refine vl_val rfl (.some rfl) (val_move rfl) ?_
        refine vl_val rfl (.some rfl) (val_indexAddr Try.runUnderlying22 Try.sizeOf3 rfl rfl (by first | exact rd_sl (by repeat constructor) | exact rd_slr (by repeat constructor) | exact rd_old (by assumption) rfl) (by omega) (by omega) (by first | omega | (simp only [bcells_length, icells_length, ucells_length, tcells_length]; omega) | (simp only [bcells_length, icells_length, ucells_length, tcells_length, fillG_length]; omega) | (simp; omega))) ?_
        refine vl_val rfl (.some rfl) (val_load Try.isAgg3 rfl (by first | exact cell_cells (by repeat constructor) rfl | exact cell_rd (by first | exact rd_sl (by repeat constructor) | exact rd_old (by assumption) rfl) (by first | exact bcells_at (by omega) | exact ucells_at (by omega) | exact icells_at (by omega) | exact tcells_at (by omega) | exact bcells_get (by omega) | exact icells_get (by omega) | exact tcells_get (by omega) | exact ucells_get (by omega)) | exact cell_old (by assumption) (by simp [fps]))) ?_
        refine vl_val rfl (.some rfl) (val_assign rfl) ?_
        refine vl_val rfl (.some rfl) (val_assign rfl) ?_
        refine vl_nil ?_
        refine vc_seq ?_
        refine vc_region ?_
        refine vl_val rfl (.some rfl) (val_move rfl) ?_
        refine vl_val rfl (.some rfl) (val_lt rfl rfl) ?_
        refine vl_val rfl (.some rfl) (val_move rfl) ?_
        refine vl_split (t := 28) rfl (fun hg28 => ?_) (fun hg28 => ?_)
        · (try replace hg28 := of_decide_eq_true hg28)
          refine vl_off rfl rfl rfl rfl (.some rfl) ?_
          refine vl_off rfl rfl rfl rfl (.some rfl) ?_
          refine vl_val rfl (.some rfl) (val_pick rfl rfl) ?_
          refine vl_val rfl (.some rfl) (val_move rfl) ?_
          refine vl_off rfl rfl rfl rfl (.some rfl) ?_
          refine vl_off rfl rfl rfl rfl (.some rfl) ?_
          refine vl_off rfl rfl rfl rfl (.some rfl) ?_
          refine vl_off rfl rfl rfl rfl (.some rfl) ?_
          refine vl_off rfl rfl rfl rfl (.some rfl) ?_
          refine vl_off rfl rfl rfl rfl (.some rfl) ?_
          refine vl_offU rfl rfl rfl rfl (.some rfl) ?_
          refine vl_offU rfl rfl rfl rfl (.some rfl) ?_
          refine vl_off rfl rfl rfl rfl (.some rfl) ?_
          refine vl_val rfl (.some rfl) (val_pick rfl rfl) ?_
          refine vl_nil ?_
          refine vc_cond rfl (fun _ => ?_) (fun h => by cases h)
          refine vc_seq ?_
          refine vc_region ?_
          refine vl_val rfl (.some rfl) (val_assign rfl) ?_
          refine vl_nil ?_
          refine vc_ret ?_
          refine ⟨_, [], _, res1 Try.results55 rfl, .nil, ?_⟩
          show _ = _; rw [decide_eq_false (fun h => by
            obtain ⟨h4, h5, h6⟩ := h.2.2 i (by omega)
            first | omega | (have := h6 (by assumption); omega))]
        · (try replace hg28 := of_decide_eq_false hg28)
          refine vl_on rfl rfl rfl rfl ?_
          refine vl_val rfl (.some rfl) (val_move rfl) ?_
          refine vl_on rfl rfl rfl rfl ?_
          refine vl_val rfl (.some rfl) (val_ge rfl rfl) ?_
          refine vl_val rfl (.some rfl) (val_pick rfl rfl) ?_
          refine vl_val rfl (.some rfl) (val_move rfl) ?_
          refine vl_split (t := 32) rfl (fun hg32 => ?_) (fun hg32 => ?_)
          · (try replace hg32 := of_decide_eq_true hg32)
            refine vl_off rfl rfl rfl rfl (.some rfl) ?_
            refine vl_off rfl rfl rfl rfl (.some rfl) ?_
            refine vl_off rfl rfl rfl rfl (.some rfl) ?_
            refine vl_off rfl rfl rfl rfl (.some rfl) ?_
            refine vl_off rfl rfl rfl rfl (.some rfl) ?_
            refine vl_off rfl rfl rfl rfl (.some rfl) ?_
            refine vl_offU rfl rfl rfl rfl (.some rfl) ?_
            refine vl_offU rfl rfl rfl rfl (.some rfl) ?_
            refine vl_off rfl rfl rfl rfl (.some rfl) ?_
            refine vl_val rfl (.some rfl) (val_pick rfl rfl) ?_
            refine vl_nil ?_
            refine vc_cond rfl (fun _ => ?_) (fun h => by cases h)
            refine vc_seq ?_
            refine vc_region ?_
            refine vl_val rfl (.some rfl) (val_assign rfl) ?_
            refine vl_nil ?_
            refine vc_ret ?_
            refine ⟨_, [], _, res1 Try.results55 rfl, .nil, ?_⟩
            show _ = _; rw [decide_eq_false (fun h => by
              obtain ⟨h4, h5, h6⟩ := h.2.2 i (by omega)
              first | omega | (have := h6 (by assumption); omega))]
          · (try replace hg32 := of_decide_eq_false hg32)
            refine vl_on rfl rfl rfl rfl ?_
            refine vl_val rfl (.some rfl) (by first | exact val_fieldAddr Try.runUnderlying81 rfl Try.sizeOf79 rfl | exact val_fieldAddrR Try.runUnderlying81 rfl Try.sizeOf79 rfl) ?_
            refine vl_on rfl rfl rfl rfl ?_
            refine vl_val rfl (.some rfl) (val_load Try.isAgg79 rfl (by first | exact cell_cells (by repeat constructor) rfl | exact cell_rd (by first | exact rd_sl (by repeat constructor) | exact rd_old (by assumption) rfl) (by first | exact bcells_at (by omega) | exact ucells_at (by omega) | exact icells_at (by omega) | exact tcells_at (by omega) | exact bcells_get (by omega) | exact icells_get (by omega) | exact tcells_get (by omega) | exact ucells_get (by omega)) | exact cell_old (by assumption) (by simp [fps]))) ?_
            refine vl_on rfl rfl rfl rfl ?_
            refine vl_val rfl (.some rfl) (val_move rfl) ?_
            refine vl_on rfl rfl rfl rfl ?_
            refine vl_val rfl (.some rfl) (val_indexAddr Try.runUnderlying79 Try.sizeOf4 rfl rfl (by first | exact rd_sl (by repeat constructor) | exact rd_slr (by repeat constructor) | exact rd_old (by assumption) rfl) (by omega) (by omega) (by first | omega | (simp only [bcells_length, icells_length, ucells_length, tcells_length]; omega) | (simp only [bcells_length, icells_length, ucells_length, tcells_length, fillG_length]; omega) | (simp; omega))) ?_
            refine vl_on rfl rfl rfl rfl ?_
            refine vl_val rfl (.some rfl) (val_load Try.isAgg4 rfl (by first | exact cell_cells (by repeat constructor) rfl | exact cell_rd (by first | exact rd_sl (by repeat constructor) | exact rd_old (by assumption) rfl) (by first | exact bcells_at (by omega) | exact ucells_at (by omega) | exact icells_at (by omega) | exact tcells_at (by omega) | exact bcells_get (by omega) | exact icells_get (by omega) | exact tcells_get (by omega) | exact ucells_get (by omega)) | exact cell_old (by assumption) (by simp [fps]))) ?_
            refine vl_on rfl rfl rfl rfl ?_
            refine vl_val rfl (.some rfl) (val_move rfl) ?_
            refine vl_split (t := 38) rfl (fun hg38 => ?_) (fun hg38 => ?_)
            · (try replace hg38 := of_decide_eq_true hg38)
              refine vl_on rfl rfl rfl rfl ?_
              refine vl_val rfl (.some rfl) (val_move rfl) ?_
              refine vl_on rfl rfl rfl rfl ?_
              refine vl_val rfl (.some rfl) (val_gt rfl rfl) ?_
              refine vl_on rfl rfl rfl rfl ?_
              refine vl_val rfl (.some rfl) (val_pick rfl rfl) ?_
              refine vl_val rfl (.some rfl) (val_pick rfl rfl) ?_
              refine vl_nil ?_
              refine vc_cond rfl (fun hc2 => ?_) (fun hc2 => ?_)
              · (try replace hc2 := of_decide_eq_true hc2)
                refine vc_seq ?_
                refine vc_region ?_
                refine vl_val rfl (.some rfl) (val_assign rfl) ?_
                refine vl_nil ?_
                refine vc_ret ?_
                refine ⟨_, [], _, res1 Try.results55 rfl, .nil, ?_⟩
                show _ = _; rw [decide_eq_false (fun h => by
                  obtain ⟨h4, h5, h6⟩ := h.2.2 i (by omega)
                  first | omega | (have := h6 (by assumption); omega))]
              · (try replace hc2 := of_decide_eq_false hc2)
                refine vc_skip ?_
                refine vc_region ?_
                refine vl_val rfl (.some rfl) (val_add rfl rfl (by first | exact w_i64 (by omega) (by omega) | rfl)) ?_
                refine vl_val rfl (.some rfl) (val_move rfl) ?_
                refine vl_nil ?_
                exact ⟨il.length - (i + 1), _, _, _, by omega, (by repeat (first | exact trivial | refine ⟨rfl, ?_⟩ | refine ⟨le_item rfl (by first | rfl | (congr 1; omega) | (simp; done) | (simp; omega)), ?_⟩)), (by repeat constructor), ⟨i + 1, by omega, rfl, fun j hj => by
                  rcases Nat.lt_or_ge j i with h | h
                  · exact hall j h
                  · obtain rfl : j = i := by omega
                    refine ⟨by omega, by omega, fun hb => ?_⟩
                    first | omega | (rw [hb] at hg38; cases hg38), rfl, rfl⟩⟩
            · (try replace hg38 := of_decide_eq_false hg38)
              refine vl_off rfl rfl rfl rfl (.some rfl) ?_
              refine vl_off rfl rfl rfl rfl (.some rfl) ?_
              refine vl_on rfl rfl rfl rfl ?_
              refine vl_val rfl (.some rfl) (val_pick rfl rfl) ?_
              refine vl_val rfl (.some rfl) (val_pick rfl rfl) ?_
              refine vl_nil ?_
              refine vc_cond rfl (fun h => by cases h) (fun _ => ?_)
              refine vc_skip ?_
              refine vc_region ?_
              refine vl_val rfl (.some rfl) (val_add rfl rfl (by first | exact w_i64 (by omega) (by omega) | rfl)) ?_
              refine vl_val rfl (.some rfl) (val_move rfl) ?_
              refine vl_nil ?_
              exact ⟨il.length - (i + 1), _, _, _, by omega, (by repeat (first | exact trivial | refine ⟨rfl, ?_⟩ | refine ⟨le_item rfl (by first | rfl | (congr 1; omega) | (simp; done) | (simp; omega)), ?_⟩)), (by repeat constructor), ⟨i + 1, by omega, rfl, fun j hj => by
                rcases Nat.lt_or_ge j i with h | h
                · exact hall j h
                · obtain rfl : j = i := by omega
                  refine ⟨by omega, by omega, fun hb => ?_⟩
                  first | omega | (rw [hb] at hg38; cases hg38), rfl, rfl⟩⟩
      · (try replace hc1 := of_decide_eq_false hc1)
        refine vc_exit ?_
        refine vc_seq ?_
        refine vc_region ?_
        refine vl_val rfl (.some rfl) (val_assign rfl) ?_
        refine vl_nil ?_
        refine vc_ret ?_
        refine ⟨_, [], _, res1 Try.results55 rfl, .nil, ?_⟩
        show _ = _; rw [decide_eq_true ⟨by omega, by omega, fun j hj => hall j (by omega)⟩]
set_option maxRecDepth 20000 in
theorem gNulls (An Ai : Option Addr) (cn ci : Nat) (nl : List Bool) (il : List Int) (hn : nl.length < 9223372036854775808) (w : World) (hrn : Reads w An (tcells nl)) : FnV Try.prog 54 [VA An cn nl Ai ci il] (.int .i64 ((nl.count true : Nat) : Int)) w := by
  have hcl : nl.count true ≤ nl.length := List.count_le_length
  refine fn_enter Try.func54 rfl Try.ntmps54 rfl ?_
  refine vc_seq ?_
  refine vc_region ?_
  refine vl_box rfl rfl (.some rfl) rfl (fun r1 => ?_)
  refine vl_val rfl (.some rfl) (val_assign rfl) ?_
  refine vl_nil ?_
  refine vc_seq ?_
  refine vc_region ?_
  refine vl_val rfl (.some rfl) (val_assign rfl) ?_
  refine vl_nil ?_
  refine vc_seq ?_
  refine vc_seq ?_
  refine vc_region ?_
  refine vl_val rfl (.some rfl) (by first | exact val_fieldAddr Try.runUnderlying81 rfl Try.sizeOf79 rfl | exact val_fieldAddrR Try.runUnderlying81 rfl Try.sizeOf79 rfl) ?_
  refine vl_val rfl (.some rfl) (val_load Try.isAgg79 rfl (by first | exact cell_cells (by repeat constructor) rfl | exact cell_rd (by first | exact rd_sl (by repeat constructor) | exact rd_old (by assumption) rfl) (by first | exact bcells_at (by omega) | exact ucells_at (by omega) | exact icells_at (by omega) | exact tcells_at (by omega) | exact bcells_get (by omega) | exact icells_get (by omega) | exact tcells_get (by omega) | exact ucells_get (by omega)) | exact cell_old (by assumption) (by simp [fps]))) ?_
  refine vl_val rfl (.some rfl) (val_lenSl Try.runUnderlying79 rfl) ?_
  refine vl_val rfl (.some rfl) (val_move rfl) ?_
  refine vl_nil ?_
  refine vc_block ?_
  refine vc_loopw (fun k E H => ∃ i : Nat, i ≤ nl.length ∧ k = nl.length - i ∧ E = [(3, .int .i64 (((nl.take i).count true : Nat) : Int)), (7, .slice An nl.length cn), (8, .int .i64 nl.length), (9, .int .i64 i)] ∧ H = []) (nl.length) ⟨_, _, _, ⟨0, by omega, rfl, rfl, rfl⟩, (by repeat (first | exact trivial | refine ⟨rfl, ?_⟩ | refine ⟨le_item rfl (by first | rfl | (congr 1; omega) | (simp; done) | (simp; omega)), ?_⟩)), (by repeat constructor)⟩ ?_
  intro k E H hI
  obtain ⟨i, hi, rfl, rfl, rfl⟩ := hI
  refine vc_seq ?_
  refine vc_region ?_
  refine vl_val rfl (.some rfl) (val_lt rfl rfl) ?_
  refine vl_nil ?_
  refine vc_seq ?_
  refine vc_cond rfl (fun hc0 => ?_) (fun hc0 => ?_)
  · (try replace hc0 := of_decide_eq_true hc0)
    have hct := count_take (l := nl) (i := i) (by omega)
    have hcm : (nl.take i).count true ≤ i := Nat.le_trans List.count_le_length (by rw [List.length_take]; omega)
    refine vc_skip ?_
    refine vc_seq ?_
    refine vc_block ?_
    refine vc_seq ?_
    refine vc_region ?_
    refine vl_val rfl (.some rfl) (val_indexAddr Try.runUnderlying79 Try.sizeOf4 rfl rfl (by first | exact rd_sl (by repeat constructor) | exact rd_slr (by repeat constructor) | exact rd_old (by assumption) rfl) (by omega) (by omega) (by first | omega | (simp only [bcells_length, icells_length, ucells_length, tcells_length]; omega) | (simp only [bcells_length, icells_length, ucells_length, tcells_length, fillG_length]; omega) | (simp; omega))) ?_
    refine vl_val rfl (.some rfl) (val_load Try.isAgg4 rfl (by first | exact cell_cells (by repeat constructor) rfl | exact cell_rd (by first | exact rd_sl (by repeat constructor) | exact rd_old (by assumption) rfl) (by first | exact bcells_at (by omega) | exact ucells_at (by omega) | exact icells_at (by omega) | exact tcells_at (by omega) | exact bcells_get (by omega) | exact icells_get (by omega) | exact tcells_get (by omega) | exact ucells_get (by omega)) | exact cell_old (by assumption) (by simp [fps]))) ?_
    refine vl_val rfl (.some rfl) (val_assign rfl) ?_
    refine vl_nil ?_
    refine vc_seq ?_
    refine vc_region ?_
    refine vl_val rfl (.some rfl) (val_move rfl) ?_
    refine vl_nil ?_
    refine vc_cond rfl (fun hc1 => ?_) (fun hc1 => ?_)
    · (try replace hc1 := of_decide_eq_true hc1)
      rw [hc1, if_pos rfl] at hct
      refine vc_region ?_
      refine vl_val rfl (.some rfl) (val_move rfl) ?_
      refine vl_val rfl (.some rfl) (val_add rfl rfl (by first | exact w_i64 (by omega) (by omega) | rfl)) ?_
      refine vl_val rfl (.some rfl) (val_assign rfl) ?_
      refine vl_nil ?_
      refine vc_region ?_
      refine vl_val rfl (.some rfl) (val_add rfl rfl (by first | exact w_i64 (by omega) (by omega) | rfl)) ?_
      refine vl_val rfl (.some rfl) (val_move rfl) ?_
      refine vl_nil ?_
      exact ⟨nl.length - (i + 1), _, _, _, by omega, (by repeat (first | exact trivial | refine ⟨rfl, ?_⟩ | refine ⟨le_item rfl (by first | rfl | (congr 1; omega) | (simp; done) | (simp; omega)), ?_⟩)), (by repeat constructor), ⟨i + 1, by omega, rfl, rfl, rfl⟩⟩
    · (try replace hc1 := of_decide_eq_false hc1)
      rw [hc1, if_neg (by decide)] at hct
      refine vc_skip ?_
      refine vc_region ?_
      refine vl_val rfl (.some rfl) (val_add rfl rfl (by first | exact w_i64 (by omega) (by omega) | rfl)) ?_
      refine vl_val rfl (.some rfl) (val_move rfl) ?_
      refine vl_nil ?_
      exact ⟨nl.length - (i + 1), _, _, _, by omega, (by repeat (first | exact trivial | refine ⟨rfl, ?_⟩ | refine ⟨le_item rfl (by first | rfl | (congr 1; omega) | (simp; done) | (simp; omega)), ?_⟩)), (by repeat constructor), ⟨i + 1, by omega, rfl, rfl, rfl⟩⟩
  · (try replace hc0 := of_decide_eq_false hc0)
    obtain rfl : i = nl.length := by omega
    rw [List.take_length]
    refine vc_exit ?_
    refine vc_seq ?_
    refine vc_region ?_
    refine vl_val rfl (.some rfl) (val_move rfl) ?_
    refine vl_val rfl (.some rfl) (val_assign rfl) ?_
    refine vl_nil ?_
    refine vc_ret ?_
    refine ⟨_, [], _, res1 Try.results54 rfl, .nil, ?_⟩
    rfl
set_option maxRecDepth 20000 in
set_option maxHeartbeats 1000000 in
theorem gSound (z : Zn) (An Ai : Option Addr) (cn ci : Nat) (nl : List Bool) (il : List Int) (rows : Int) (hn : nl.length < 9223372036854775808) (w : World) (hrn : Reads w An (tcells nl)) : FnV Try.prog 56 [znV z, VA An cn nl Ai ci il, .int .i64 rows] (.bool (soundZ z nl rows)) w := by
  refine fn_enter Try.func56 rfl Try.ntmps56 rfl ?_
  refine vc_seq ?_
  refine vc_region ?_
  refine vl_box rfl rfl (.some rfl) rfl (fun r3 => ?_)
  refine vl_box rfl rfl (.some rfl) rfl (fun r4 => ?_)
  refine vl_val rfl (.some rfl) (val_assign rfl) ?_
  refine vl_nil ?_
  refine vc_seq ?_
  refine vc_region ?_
  refine vl_val rfl (.some rfl) (val_loadAgg Try.isAgg64 Try.sizeOf64 rfl (by first | exact cells_whole (by repeat constructor) | exact cells_part (by repeat constructor) rfl) rfl) ?_
  refine vl_alloc rfl rfl (.some rfl) Try.zeroValue64 (fun r7 => ?_)
  first | refine vl_store rfl rfl .none rfl rfl Try.sizeOf64 rfl (by repeat constructor) (by first | decide | exact Nat.le_refl _ | exact Nat.le_of_ble_eq_true rfl | (simp; omega)) ?_ | refine vl_storeSl rfl rfl .none rfl rfl Try.sizeOf64 rfl (by simp [Value.cells]) (by repeat constructor) (by first | decide | (simp [Value.cells]; omega)) ?_
  refine vl_nil ?_
  refine vc_seq ?_
  refine vc_region ?_
  refine vl_val rfl (.some rfl) (by first | exact val_fieldAddr Try.runUnderlying64 rfl Try.sizeOf3 rfl | exact val_fieldAddrR Try.runUnderlying64 rfl Try.sizeOf3 rfl) ?_
  first | refine vl_store rfl rfl .none rfl rfl Try.sizeOf3 rfl (by repeat constructor) (by first | decide | exact Nat.le_refl _ | exact Nat.le_of_ble_eq_true rfl | (simp; omega)) ?_ | refine vl_storeSl rfl rfl .none rfl rfl Try.sizeOf3 rfl (by simp [Value.cells]) (by repeat constructor) (by first | decide | (simp [Value.cells]; omega)) ?_
  refine vl_nil ?_
  refine vc_seq ?_
  refine vc_block ?_
  refine vc_seq ?_
  refine vc_draws [0, 1, 2, 4, 5] [] [0, 1, 2, 3, 4, 5] rfl (by kernel_rfl) (fun _ _ _ h => h) ?_
  refine vd_val rfl rfl rfl (.some rfl) (by first | exact val_fieldAddr Try.runUnderlying64 rfl Try.sizeOf3 rfl | exact val_fieldAddrR Try.runUnderlying64 rfl Try.sizeOf3 rfl) ?_
  refine vd_val rfl rfl rfl (.some rfl) (val_load Try.isAgg3 rfl (by first | exact cell_cells (by repeat constructor) rfl | exact cell_rd (by first | exact rd_sl (by repeat constructor) | exact rd_old (by assumption) rfl) (by first | exact bcells_at (by omega) | exact ucells_at (by omega) | exact icells_at (by omega) | exact tcells_at (by omega) | exact bcells_get (by omega) | exact icells_get (by omega) | exact tcells_get (by omega) | exact ucells_get (by omega)) | exact cell_old (by assumption) (by simp [fps]))) ?_
  refine vd_val rfl rfl rfl (.some rfl) (val_loadAgg Try.isAgg81 Try.sizeOf81 rfl (by first | exact cells_whole (by repeat constructor) | exact cells_part (by repeat constructor) rfl) rfl) ?_
  refine vd_op rfl rfl ?_
  refine vl_callV rfl rfl (.some rfl) Try.call54 rfl (fun w hw => gNulls An Ai cn ci nl il hn w (rdw (rd_old hrn rfl) hw)) ?_
  refine vl_nil ?_
  refine ⟨fun _ => ⟨_, (by repeat (first | exact .nil | exact sub_self _ | exact sub_skip (sub_self _) | exact sub_skip (sub_skip (sub_self _)) | exact sub_skip (sub_skip (sub_skip (sub_self _))) | (apply Sub.cons; · repeat (first | exact .head | apply Take.tail))))⟩, ?_⟩
  refine vd_val rfl rfl rfl (.some rfl) (val_ne rfl rfl) ?_
  refine vd_val rfl rfl rfl (.some rfl) (val_assign rfl) ?_
  refine vd_nil ?_
  refine vc_cond rfl (fun hc0 => ?_) (fun hc0 => ?_)
  · (try replace hc0 := of_decide_eq_true hc0)
    refine vc_seq ?_
    refine vc_region ?_
    refine vl_val rfl (.some rfl) (val_assign rfl) ?_
    refine vl_nil ?_
    refine vc_ret ?_
    refine ⟨_, [], _, res1 Try.results56 rfl, .nil, ?_⟩
    show _ = _
    rw [soundZ, if_pos hc0]
  · (try replace hc0 := of_decide_eq_false hc0)
    refine vc_seq ?_
    refine vc_region ?_
    refine vl_val rfl (.some rfl) (by first | exact val_fieldAddr Try.runUnderlying64 rfl Try.sizeOf3 rfl | exact val_fieldAddrR Try.runUnderlying64 rfl Try.sizeOf3 rfl) ?_
    refine vl_val rfl (.some rfl) (val_load Try.isAgg3 rfl (by first | exact cell_cells (by repeat constructor) rfl | exact cell_rd (by first | exact rd_sl (by repeat constructor) | exact rd_old (by assumption) rfl) (by first | exact bcells_at (by omega) | exact ucells_at (by omega) | exact icells_at (by omega) | exact tcells_at (by omega) | exact bcells_get (by omega) | exact icells_get (by omega) | exact tcells_get (by omega) | exact ucells_get (by omega)) | exact cell_old (by assumption) (by simp [fps]))) ?_
    refine vl_val rfl (.some rfl) (val_move rfl) ?_
    refine vl_val rfl (.some rfl) (val_eq rfl rfl) ?_
    refine vl_val rfl (.some rfl) (val_assign rfl) ?_
    refine vl_nil ?_
    refine vc_cond rfl (fun hc1 => ?_) (fun hc1 => ?_)
    · (try replace hc1 := of_decide_eq_true hc1)
      refine vc_seq ?_
      refine vc_region ?_
      refine vl_val rfl (.some rfl) (val_loadAgg Try.isAgg64 Try.sizeOf64 rfl (cells_part (us := [.int .i64 0, .int .i64 z.lo.k, .int .i64 z.lo.n, .string z.lo.s, .int .i64 z.hi.k, .int .i64 z.hi.n, .string z.hi.s]) (by repeat constructor) rfl) rfl) ?_
      refine vl_val rfl (.some rfl) (val_buildSt (pl := #[(0, 1), (1, 3), (4, 3)]) (cs := #[.int .i64 0, .int .i64 0, .int .i64 0, .string ⟨#[]⟩, .int .i64 0, .int .i64 0, .string ⟨#[]⟩]) Try.runUnderlying64 Try.zeroValue64 (fun w => by kernel_rfl) rfl rfl) ?_
      refine vl_val rfl (.some rfl) (val_opO rfl rfl (fun w => run_eqGuard_agg w _ _ _ _ _ _ (by kernel_rfl)) (bin_agg_eq (zn_equal ⟨0, z.lo, z.hi⟩ zn0))) ?_
      refine vl_val rfl (.some rfl) (val_assign rfl) ?_
      refine vl_nil ?_
      refine vc_ret ?_
      refine ⟨_, [], _, res1 Try.results56 rfl, .nil, ?_⟩
      show _ = _
      rw [soundZ, if_neg hc0, if_pos hc1]
    · (try replace hc1 := of_decide_eq_false hc1)
      refine vc_skip ?_
      refine vc_seq ?_
      refine vc_region ?_
      refine vl_val rfl (.some rfl) (by first | exact val_fieldAddr Try.runUnderlying64 rfl Try.sizeOf62 rfl | exact val_fieldAddrR Try.runUnderlying64 rfl Try.sizeOf62 rfl) ?_
      refine vl_val rfl (.some rfl) (by first | exact val_fieldAddr Try.runUnderlying62 rfl Try.sizeOf3 rfl | exact val_fieldAddrR Try.runUnderlying62 rfl Try.sizeOf3 rfl) ?_
      refine vl_val rfl (.some rfl) (val_load Try.isAgg3 rfl (by first | exact cell_cells (by repeat constructor) rfl | exact cell_rd (by first | exact rd_sl (by repeat constructor) | exact rd_old (by assumption) rfl) (by first | exact bcells_at (by omega) | exact ucells_at (by omega) | exact icells_at (by omega) | exact tcells_at (by omega) | exact bcells_get (by omega) | exact icells_get (by omega) | exact tcells_get (by omega) | exact ucells_get (by omega)) | exact cell_old (by assumption) (by simp [fps]))) ?_
      refine vl_val rfl (.some rfl) (val_ne rfl rfl) ?_
      refine vl_val rfl (.some rfl) (val_move rfl) ?_
      refine vl_split (t := 28) rfl (fun hg28 => ?_) (fun hg28 => ?_)
      · (try replace hg28 := of_decide_eq_true hg28)
        refine vl_on rfl rfl rfl rfl ?_
        refine vl_val rfl (.some rfl) (by first | exact val_fieldAddr Try.runUnderlying64 rfl Try.sizeOf62 rfl | exact val_fieldAddrR Try.runUnderlying64 rfl Try.sizeOf62 rfl) ?_
        refine vl_on rfl rfl rfl rfl ?_
        refine vl_val rfl (.some rfl) (by first | exact val_fieldAddr Try.runUnderlying62 rfl Try.sizeOf3 rfl | exact val_fieldAddrR Try.runUnderlying62 rfl Try.sizeOf3 rfl) ?_
        refine vl_on rfl rfl rfl rfl ?_
        refine vl_val rfl (.some rfl) (val_load Try.isAgg3 rfl (by first | exact cell_cells (by repeat constructor) rfl | exact cell_rd (by first | exact rd_sl (by repeat constructor) | exact rd_old (by assumption) rfl) (by first | exact bcells_at (by omega) | exact ucells_at (by omega) | exact icells_at (by omega) | exact tcells_at (by omega) | exact bcells_get (by omega) | exact icells_get (by omega) | exact tcells_get (by omega) | exact ucells_get (by omega)) | exact cell_old (by assumption) (by simp [fps]))) ?_
        refine vl_on rfl rfl rfl rfl ?_
        refine vl_val rfl (.some rfl) (by first | exact val_fieldAddr Try.runUnderlying64 rfl Try.sizeOf62 rfl | exact val_fieldAddrR Try.runUnderlying64 rfl Try.sizeOf62 rfl) ?_
        refine vl_on rfl rfl rfl rfl ?_
        refine vl_val rfl (.some rfl) (by first | exact val_fieldAddr Try.runUnderlying62 rfl Try.sizeOf3 rfl | exact val_fieldAddrR Try.runUnderlying62 rfl Try.sizeOf3 rfl) ?_
        refine vl_on rfl rfl rfl rfl ?_
        refine vl_val rfl (.some rfl) (val_load Try.isAgg3 rfl (by first | exact cell_cells (by repeat constructor) rfl | exact cell_rd (by first | exact rd_sl (by repeat constructor) | exact rd_old (by assumption) rfl) (by first | exact bcells_at (by omega) | exact ucells_at (by omega) | exact icells_at (by omega) | exact tcells_at (by omega) | exact bcells_get (by omega) | exact icells_get (by omega) | exact tcells_get (by omega) | exact ucells_get (by omega)) | exact cell_old (by assumption) (by simp [fps]))) ?_
        refine vl_on rfl rfl rfl rfl ?_
        refine vl_val rfl (.some rfl) (val_eq rfl rfl) ?_
        refine vl_val rfl (.some rfl) (val_pick rfl rfl) ?_
        refine vl_val rfl (.some rfl) (val_move rfl) ?_
        refine vl_split (t := 37) rfl (fun hg37 => ?_) (fun hg37 => ?_)
        · (try replace hg37 := of_decide_eq_true hg37)
          refine vl_on rfl rfl rfl rfl ?_
          refine vl_val rfl (.some rfl) (by first | exact val_fieldAddr Try.runUnderlying64 rfl Try.sizeOf62 rfl | exact val_fieldAddrR Try.runUnderlying64 rfl Try.sizeOf62 rfl) ?_
          refine vl_on rfl rfl rfl rfl ?_
          refine vl_val rfl (.some rfl) (val_loadAgg Try.isAgg62 Try.sizeOf62 rfl (cells_part (us := [.int .i64 (z.lo).k, .int .i64 (z.lo).n, .string (z.lo).s]) (by repeat constructor) rfl) rfl) ?_
          refine vl_on rfl rfl rfl rfl ?_
          refine vl_callV rfl rfl (.some rfl) Try.call76 rfl (fun w hw => vGood z.lo w) ?_
          refine vl_val rfl (.some rfl) (val_pick rfl rfl) ?_
          refine vl_val rfl (.some rfl) (val_move rfl) ?_
          refine vl_split (t := 42) rfl (fun hg42 => ?_) (fun hg42 => ?_)
          · (try replace hg42 := of_decide_eq_true hg42)
            refine vl_on rfl rfl rfl rfl ?_
            refine vl_val rfl (.some rfl) (by first | exact val_fieldAddr Try.runUnderlying64 rfl Try.sizeOf62 rfl | exact val_fieldAddrR Try.runUnderlying64 rfl Try.sizeOf62 rfl) ?_
            refine vl_on rfl rfl rfl rfl ?_
            refine vl_val rfl (.some rfl) (val_loadAgg Try.isAgg62 Try.sizeOf62 rfl (cells_part (us := [.int .i64 (z.hi).k, .int .i64 (z.hi).n, .string (z.hi).s]) (by repeat constructor) rfl) rfl) ?_
            refine vl_on rfl rfl rfl rfl ?_
            refine vl_callV rfl rfl (.some rfl) Try.call76 rfl (fun w hw => vGood z.hi w) ?_
            refine vl_val rfl (.some rfl) (val_pick rfl rfl) ?_
            refine vl_val rfl (.some rfl) (val_move rfl) ?_
            refine vl_split (t := 47) rfl (fun hg47 => ?_) (fun hg47 => ?_)
            · (try replace hg47 := of_decide_eq_true hg47)
              refine vl_on rfl rfl rfl rfl ?_
              refine vl_val rfl (.some rfl) (by first | exact val_fieldAddr Try.runUnderlying64 rfl Try.sizeOf62 rfl | exact val_fieldAddrR Try.runUnderlying64 rfl Try.sizeOf62 rfl) ?_
              refine vl_on rfl rfl rfl rfl ?_
              refine vl_val rfl (.some rfl) (val_loadAgg Try.isAgg62 Try.sizeOf62 rfl (cells_part (us := [.int .i64 (z.lo).k, .int .i64 (z.lo).n, .string (z.lo).s]) (by repeat constructor) rfl) rfl) ?_
              refine vl_on rfl rfl rfl rfl ?_
              refine vl_val rfl (.some rfl) (by first | exact val_fieldAddr Try.runUnderlying64 rfl Try.sizeOf62 rfl | exact val_fieldAddrR Try.runUnderlying64 rfl Try.sizeOf62 rfl) ?_
              refine vl_on rfl rfl rfl rfl ?_
              refine vl_val rfl (.some rfl) (val_loadAgg Try.isAgg62 Try.sizeOf62 rfl (cells_part (us := [.int .i64 (z.hi).k, .int .i64 (z.hi).n, .string (z.hi).s]) (by repeat constructor) rfl) rfl) ?_
              refine vl_on rfl rfl rfl rfl ?_
              refine vl_callV rfl rfl (.some rfl) Try.call47 rfl (fun w hw => vCmp z.lo z.hi w) ?_
              refine vl_on rfl rfl rfl rfl ?_
              refine vl_val rfl (.some rfl) (val_le rfl rfl) ?_
              refine vl_val rfl (.some rfl) (val_pick rfl rfl) ?_
              refine vl_val rfl (.some rfl) (val_assign rfl) ?_
              refine vl_nil ?_
              refine vc_ret ?_
              refine ⟨_, [], _, res1 Try.results56 rfl, .nil, ?_⟩
              show _ = _
              rw [soundZ, if_neg hc0, if_neg hc1]
              simp_all
            · (try replace hg47 := of_decide_eq_false hg47)
              refine vl_off rfl rfl rfl rfl (.some rfl) ?_
              refine vl_off rfl rfl rfl rfl (.some rfl) ?_
              refine vl_off rfl rfl rfl rfl (.some rfl) ?_
              refine vl_off rfl rfl rfl rfl (.some rfl) ?_
              refine vl_off rfl rfl rfl rfl (.some rfl) ?_
              refine vl_off rfl rfl rfl rfl (.some rfl) ?_
              refine vl_val rfl (.some rfl) (val_pick rfl rfl) ?_
              refine vl_val rfl (.some rfl) (val_assign rfl) ?_
              refine vl_nil ?_
              refine vc_ret ?_
              refine ⟨_, [], _, res1 Try.results56 rfl, .nil, ?_⟩
              show _ = _
              rw [soundZ, if_neg hc0, if_neg hc1]
              simp_all
          · (try replace hg42 := of_decide_eq_false hg42)
            refine vl_off rfl rfl rfl rfl (.some rfl) ?_
            refine vl_off rfl rfl rfl rfl (.some rfl) ?_
            refine vl_off rfl rfl rfl rfl (.some rfl) ?_
            refine vl_val rfl (.some rfl) (val_pick rfl rfl) ?_
            refine vl_val rfl (.some rfl) (val_move rfl) ?_
            refine vl_off rfl rfl rfl rfl (.some rfl) ?_
            refine vl_off rfl rfl rfl rfl (.some rfl) ?_
            refine vl_off rfl rfl rfl rfl (.some rfl) ?_
            refine vl_off rfl rfl rfl rfl (.some rfl) ?_
            refine vl_off rfl rfl rfl rfl (.some rfl) ?_
            refine vl_off rfl rfl rfl rfl (.some rfl) ?_
            refine vl_val rfl (.some rfl) (val_pick rfl rfl) ?_
            refine vl_val rfl (.some rfl) (val_assign rfl) ?_
            refine vl_nil ?_
            refine vc_ret ?_
            refine ⟨_, [], _, res1 Try.results56 rfl, .nil, ?_⟩
            show _ = _
            rw [soundZ, if_neg hc0, if_neg hc1]
            simp_all
        · (try replace hg37 := of_decide_eq_false hg37)
          refine vl_off rfl rfl rfl rfl (.some rfl) ?_
          refine vl_off rfl rfl rfl rfl (.some rfl) ?_
          refine vl_off rfl rfl rfl rfl (.some rfl) ?_
          refine vl_val rfl (.some rfl) (val_pick rfl rfl) ?_
          refine vl_val rfl (.some rfl) (val_move rfl) ?_
          refine vl_off rfl rfl rfl rfl (.some rfl) ?_
          refine vl_off rfl rfl rfl rfl (.some rfl) ?_
          refine vl_off rfl rfl rfl rfl (.some rfl) ?_
          refine vl_val rfl (.some rfl) (val_pick rfl rfl) ?_
          refine vl_val rfl (.some rfl) (val_move rfl) ?_
          refine vl_off rfl rfl rfl rfl (.some rfl) ?_
          refine vl_off rfl rfl rfl rfl (.some rfl) ?_
          refine vl_off rfl rfl rfl rfl (.some rfl) ?_
          refine vl_off rfl rfl rfl rfl (.some rfl) ?_
          refine vl_off rfl rfl rfl rfl (.some rfl) ?_
          refine vl_off rfl rfl rfl rfl (.some rfl) ?_
          refine vl_val rfl (.some rfl) (val_pick rfl rfl) ?_
          refine vl_val rfl (.some rfl) (val_assign rfl) ?_
          refine vl_nil ?_
          refine vc_ret ?_
          refine ⟨_, [], _, res1 Try.results56 rfl, .nil, ?_⟩
          show _ = _
          rw [soundZ, if_neg hc0, if_neg hc1]
          simp_all
      · (try replace hg28 := of_decide_eq_false hg28)
        refine vl_off rfl rfl rfl rfl (.some rfl) ?_
        refine vl_off rfl rfl rfl rfl (.some rfl) ?_
        refine vl_off rfl rfl rfl rfl (.some rfl) ?_
        refine vl_off rfl rfl rfl rfl (.some rfl) ?_
        refine vl_off rfl rfl rfl rfl (.some rfl) ?_
        refine vl_off rfl rfl rfl rfl (.some rfl) ?_
        refine vl_off rfl rfl rfl rfl (.some rfl) ?_
        refine vl_val rfl (.some rfl) (val_pick rfl rfl) ?_
        refine vl_val rfl (.some rfl) (val_move rfl) ?_
        refine vl_off rfl rfl rfl rfl (.some rfl) ?_
        refine vl_off rfl rfl rfl rfl (.some rfl) ?_
        refine vl_off rfl rfl rfl rfl (.some rfl) ?_
        refine vl_val rfl (.some rfl) (val_pick rfl rfl) ?_
        refine vl_val rfl (.some rfl) (val_move rfl) ?_
        refine vl_off rfl rfl rfl rfl (.some rfl) ?_
        refine vl_off rfl rfl rfl rfl (.some rfl) ?_
        refine vl_off rfl rfl rfl rfl (.some rfl) ?_
        refine vl_val rfl (.some rfl) (val_pick rfl rfl) ?_
        refine vl_val rfl (.some rfl) (val_move rfl) ?_
        refine vl_off rfl rfl rfl rfl (.some rfl) ?_
        refine vl_off rfl rfl rfl rfl (.some rfl) ?_
        refine vl_off rfl rfl rfl rfl (.some rfl) ?_
        refine vl_off rfl rfl rfl rfl (.some rfl) ?_
        refine vl_off rfl rfl rfl rfl (.some rfl) ?_
        refine vl_off rfl rfl rfl rfl (.some rfl) ?_
        refine vl_val rfl (.some rfl) (val_pick rfl rfl) ?_
        refine vl_val rfl (.some rfl) (val_assign rfl) ?_
        refine vl_nil ?_
        refine vc_ret ?_
        refine ⟨_, [], _, res1 Try.results56 rfl, .nil, ?_⟩
        show _ = _
        rw [soundZ, if_neg hc0, if_neg hc1]
        simp_all
set_option maxRecDepth 20000 in
set_option maxHeartbeats 1000000 in
theorem gGood (n : Int) (Ac : Option Addr) (cc : Nat) (vs : List Vc) (Az : Option Addr) (cz : Nat) (zs : List Zn) (hlc : vs.length < 4611686018427387904) (hlz : zs.length < 4611686018427387904) (w : World) (hrs : SgR w Ac vs Az zs) : FnV Try.prog 24 [sgV n Ac cc vs Az cz zs] (.bool (decide (goodSg ⟨n, vs.map vcP, zs⟩))) w := by
  have hml : (vs.map vcP).length = vs.length := List.length_map _
  have hmg : ∀ i, (vs.map vcP).getD i ([], []) = vcP (vs.getD i vc0) := fun i => map_getDs vc0 ([], []) rfl
  refine fn_enter Try.func24 rfl Try.ntmps24 rfl ?_
  refine vc_seq ?_
  refine vc_region ?_
  refine vl_box rfl rfl (.some rfl) rfl (fun r1 => ?_)
  refine vl_val rfl (.some rfl) (val_assign rfl) ?_
  refine vl_nil ?_
  refine vc_seq ?_
  refine vc_seq ?_
  refine vc_region ?_
  refine vl_val rfl (.some rfl) (by first | exact val_fieldAddr Try.runUnderlying34 rfl Try.sizeOf3 rfl | exact val_fieldAddrR Try.runUnderlying34 rfl Try.sizeOf3 rfl) ?_
  refine vl_val rfl (.some rfl) (val_load Try.isAgg3 rfl (by first | exact cell_cells (by repeat constructor) rfl | exact cell_rd (by first | exact rd_sl (by repeat constructor) | exact rd_old (by assumption) rfl) (by first | exact bcells_at (by omega) | exact ucells_at (by omega) | exact icells_at (by omega) | exact tcells_at (by omega) | exact bcells_get (by omega) | exact icells_get (by omega) | exact tcells_get (by omega) | exact ucells_get (by omega)) | exact cell_old (by assumption) (by simp [fps]))) ?_
  refine vl_val rfl (.some rfl) (val_lt rfl rfl) ?_
  refine vl_val rfl (.some rfl) (val_move rfl) ?_
  refine vl_split (t := 8) rfl (fun hg8 => ?_) (fun hg8 => ?_)
  · (try replace hg8 := of_decide_eq_true hg8)
    refine vl_off rfl rfl rfl rfl (.some rfl) ?_
    refine vl_off rfl rfl rfl rfl (.some rfl) ?_
    refine vl_off rfl rfl rfl rfl (.some rfl) ?_
    refine vl_val rfl (.some rfl) (val_pick rfl rfl) ?_
    refine vl_val rfl (.some rfl) (val_move rfl) ?_
    refine vl_off rfl rfl rfl rfl (.some rfl) ?_
    refine vl_off rfl rfl rfl rfl (.some rfl) ?_
    refine vl_off rfl rfl rfl rfl (.some rfl) ?_
    refine vl_off rfl rfl rfl rfl (.some rfl) ?_
    refine vl_val rfl (.some rfl) (val_pick rfl rfl) ?_
    refine vl_val rfl (.some rfl) (val_move rfl) ?_
    refine vl_off rfl rfl rfl rfl (.some rfl) ?_
    refine vl_off rfl rfl rfl rfl (.some rfl) ?_
    refine vl_off rfl rfl rfl rfl (.some rfl) ?_
    refine vl_off rfl rfl rfl rfl (.some rfl) ?_
    refine vl_val rfl (.some rfl) (val_pick rfl rfl) ?_
    refine vl_val rfl (.some rfl) (val_move rfl) ?_
    refine vl_off rfl rfl rfl rfl (.some rfl) ?_
    refine vl_off rfl rfl rfl rfl (.some rfl) ?_
    refine vl_off rfl rfl rfl rfl (.some rfl) ?_
    refine vl_off rfl rfl rfl rfl (.some rfl) ?_
    refine vl_off rfl rfl rfl rfl (.some rfl) ?_
    refine vl_off rfl rfl rfl rfl (.some rfl) ?_
    refine vl_off rfl rfl rfl rfl (.some rfl) ?_
    refine vl_val rfl (.some rfl) (val_pick rfl rfl) ?_
    refine vl_nil ?_
    refine vc_cond rfl (fun _ => ?_) (fun h => by cases h)
    refine vc_seq ?_
    refine vc_region ?_
    refine vl_val rfl (.some rfl) (val_assign rfl) ?_
    refine vl_nil ?_
    refine vc_ret ?_
    refine ⟨_, [], _, res1 Try.results24 rfl, .nil, ?_⟩
    show _ = _
    rw [decide_eq_false]
    rintro ⟨h1, h2, h3, h4⟩
    simp only [hml] at h1 h2 h3
    omega
  · (try replace hg8 := of_decide_eq_false hg8)
    refine vl_on rfl rfl rfl rfl ?_
    refine vl_val rfl (.some rfl) (by first | exact val_fieldAddr Try.runUnderlying34 rfl Try.sizeOf3 rfl | exact val_fieldAddrR Try.runUnderlying34 rfl Try.sizeOf3 rfl) ?_
    refine vl_on rfl rfl rfl rfl ?_
    refine vl_val rfl (.some rfl) (val_load Try.isAgg3 rfl (by first | exact cell_cells (by repeat constructor) rfl | exact cell_rd (by first | exact rd_sl (by repeat constructor) | exact rd_old (by assumption) rfl) (by first | exact bcells_at (by omega) | exact ucells_at (by omega) | exact icells_at (by omega) | exact tcells_at (by omega) | exact bcells_get (by omega) | exact icells_get (by omega) | exact tcells_get (by omega) | exact ucells_get (by omega)) | exact cell_old (by assumption) (by simp [fps]))) ?_
    refine vl_on rfl rfl rfl rfl ?_
    refine vl_val rfl (.some rfl) (val_gt rfl rfl) ?_
    refine vl_val rfl (.some rfl) (val_pick rfl rfl) ?_
    refine vl_val rfl (.some rfl) (val_move rfl) ?_
    refine vl_split (t := 13) rfl (fun hg13 => ?_) (fun hg13 => ?_)
    · (try replace hg13 := of_decide_eq_true hg13)
      refine vl_off rfl rfl rfl rfl (.some rfl) ?_
      refine vl_off rfl rfl rfl rfl (.some rfl) ?_
      refine vl_off rfl rfl rfl rfl (.some rfl) ?_
      refine vl_off rfl rfl rfl rfl (.some rfl) ?_
      refine vl_val rfl (.some rfl) (val_pick rfl rfl) ?_
      refine vl_val rfl (.some rfl) (val_move rfl) ?_
      refine vl_off rfl rfl rfl rfl (.some rfl) ?_
      refine vl_off rfl rfl rfl rfl (.some rfl) ?_
      refine vl_off rfl rfl rfl rfl (.some rfl) ?_
      refine vl_off rfl rfl rfl rfl (.some rfl) ?_
      refine vl_val rfl (.some rfl) (val_pick rfl rfl) ?_
      refine vl_val rfl (.some rfl) (val_move rfl) ?_
      refine vl_off rfl rfl rfl rfl (.some rfl) ?_
      refine vl_off rfl rfl rfl rfl (.some rfl) ?_
      refine vl_off rfl rfl rfl rfl (.some rfl) ?_
      refine vl_off rfl rfl rfl rfl (.some rfl) ?_
      refine vl_off rfl rfl rfl rfl (.some rfl) ?_
      refine vl_off rfl rfl rfl rfl (.some rfl) ?_
      refine vl_off rfl rfl rfl rfl (.some rfl) ?_
      refine vl_val rfl (.some rfl) (val_pick rfl rfl) ?_
      refine vl_nil ?_
      refine vc_cond rfl (fun _ => ?_) (fun h => by cases h)
      refine vc_seq ?_
      refine vc_region ?_
      refine vl_val rfl (.some rfl) (val_assign rfl) ?_
      refine vl_nil ?_
      refine vc_ret ?_
      refine ⟨_, [], _, res1 Try.results24 rfl, .nil, ?_⟩
      show _ = _
      rw [decide_eq_false]
      rintro ⟨h1, h2, h3, h4⟩
      simp only [hml] at h1 h2 h3
      omega
    · (try replace hg13 := of_decide_eq_false hg13)
      refine vl_on rfl rfl rfl rfl ?_
      refine vl_val rfl (.some rfl) (by first | exact val_fieldAddr Try.runUnderlying34 rfl Try.sizeOf31 rfl | exact val_fieldAddrR Try.runUnderlying34 rfl Try.sizeOf31 rfl) ?_
      refine vl_on rfl rfl rfl rfl ?_
      refine vl_val rfl (.some rfl) (val_load Try.isAgg31 rfl (by first | exact cell_cells (by repeat constructor) rfl | exact cell_rd (by first | exact rd_sl (by repeat constructor) | exact rd_old (by assumption) rfl) (by first | exact bcells_at (by omega) | exact ucells_at (by omega) | exact icells_at (by omega) | exact tcells_at (by omega) | exact bcells_get (by omega) | exact icells_get (by omega) | exact tcells_get (by omega) | exact ucells_get (by omega)) | exact cell_old (by assumption) (by simp [fps]))) ?_
      refine vl_on rfl rfl rfl rfl ?_
      refine vl_val rfl (.some rfl) (val_lenSl Try.runUnderlying31 rfl) ?_
      refine vl_on rfl rfl rfl rfl ?_
      refine vl_val rfl (.some rfl) (val_lt rfl rfl) ?_
      refine vl_val rfl (.some rfl) (val_pick rfl rfl) ?_
      refine vl_val rfl (.some rfl) (val_move rfl) ?_
      refine vl_split (t := 19) rfl (fun hg19 => ?_) (fun hg19 => ?_)
      · (try replace hg19 := of_decide_eq_true hg19)
        refine vl_off rfl rfl rfl rfl (.some rfl) ?_
        refine vl_off rfl rfl rfl rfl (.some rfl) ?_
        refine vl_off rfl rfl rfl rfl (.some rfl) ?_
        refine vl_off rfl rfl rfl rfl (.some rfl) ?_
        refine vl_val rfl (.some rfl) (val_pick rfl rfl) ?_
        refine vl_val rfl (.some rfl) (val_move rfl) ?_
        refine vl_off rfl rfl rfl rfl (.some rfl) ?_
        refine vl_off rfl rfl rfl rfl (.some rfl) ?_
        refine vl_off rfl rfl rfl rfl (.some rfl) ?_
        refine vl_off rfl rfl rfl rfl (.some rfl) ?_
        refine vl_off rfl rfl rfl rfl (.some rfl) ?_
        refine vl_off rfl rfl rfl rfl (.some rfl) ?_
        refine vl_off rfl rfl rfl rfl (.some rfl) ?_
        refine vl_val rfl (.some rfl) (val_pick rfl rfl) ?_
        refine vl_nil ?_
        refine vc_cond rfl (fun _ => ?_) (fun h => by cases h)
        refine vc_seq ?_
        refine vc_region ?_
        refine vl_val rfl (.some rfl) (val_assign rfl) ?_
        refine vl_nil ?_
        refine vc_ret ?_
        refine ⟨_, [], _, res1 Try.results24 rfl, .nil, ?_⟩
        show _ = _
        rw [decide_eq_false]
        rintro ⟨h1, h2, h3, h4⟩
        simp only [hml] at h1 h2 h3
        omega
      · (try replace hg19 := of_decide_eq_false hg19)
        refine vl_on rfl rfl rfl rfl ?_
        refine vl_val rfl (.some rfl) (by first | exact val_fieldAddr Try.runUnderlying34 rfl Try.sizeOf31 rfl | exact val_fieldAddrR Try.runUnderlying34 rfl Try.sizeOf31 rfl) ?_
        refine vl_on rfl rfl rfl rfl ?_
        refine vl_val rfl (.some rfl) (val_load Try.isAgg31 rfl (by first | exact cell_cells (by repeat constructor) rfl | exact cell_rd (by first | exact rd_sl (by repeat constructor) | exact rd_old (by assumption) rfl) (by first | exact bcells_at (by omega) | exact ucells_at (by omega) | exact icells_at (by omega) | exact tcells_at (by omega) | exact bcells_get (by omega) | exact icells_get (by omega) | exact tcells_get (by omega) | exact ucells_get (by omega)) | exact cell_old (by assumption) (by simp [fps]))) ?_
        refine vl_on rfl rfl rfl rfl ?_
        refine vl_val rfl (.some rfl) (val_lenSl Try.runUnderlying31 rfl) ?_
        refine vl_on rfl rfl rfl rfl ?_
        refine vl_val rfl (.some rfl) (val_gt rfl rfl) ?_
        refine vl_val rfl (.some rfl) (val_pick rfl rfl) ?_
        refine vl_val rfl (.some rfl) (val_move rfl) ?_
        refine vl_split (t := 25) rfl (fun hg25 => ?_) (fun hg25 => ?_)
        · (try replace hg25 := of_decide_eq_true hg25)
          refine vl_off rfl rfl rfl rfl (.some rfl) ?_
          refine vl_off rfl rfl rfl rfl (.some rfl) ?_
          refine vl_off rfl rfl rfl rfl (.some rfl) ?_
          refine vl_off rfl rfl rfl rfl (.some rfl) ?_
          refine vl_off rfl rfl rfl rfl (.some rfl) ?_
          refine vl_off rfl rfl rfl rfl (.some rfl) ?_
          refine vl_off rfl rfl rfl rfl (.some rfl) ?_
          refine vl_val rfl (.some rfl) (val_pick rfl rfl) ?_
          refine vl_nil ?_
          refine vc_cond rfl (fun _ => ?_) (fun h => by cases h)
          refine vc_seq ?_
          refine vc_region ?_
          refine vl_val rfl (.some rfl) (val_assign rfl) ?_
          refine vl_nil ?_
          refine vc_ret ?_
          refine ⟨_, [], _, res1 Try.results24 rfl, .nil, ?_⟩
          show _ = _
          rw [decide_eq_false]
          rintro ⟨h1, h2, h3, h4⟩
          simp only [hml] at h1 h2 h3
          omega
        · (try replace hg25 := of_decide_eq_false hg25)
          refine vl_on rfl rfl rfl rfl ?_
          refine vl_val rfl (.some rfl) (by first | exact val_fieldAddr Try.runUnderlying34 rfl Try.sizeOf32 rfl | exact val_fieldAddrR Try.runUnderlying34 rfl Try.sizeOf32 rfl) ?_
          refine vl_on rfl rfl rfl rfl ?_
          refine vl_val rfl (.some rfl) (val_load Try.isAgg32 rfl (by first | exact cell_cells (by repeat constructor) rfl | exact cell_rd (by first | exact rd_sl (by repeat constructor) | exact rd_old (by assumption) rfl) (by first | exact bcells_at (by omega) | exact ucells_at (by omega) | exact icells_at (by omega) | exact tcells_at (by omega) | exact bcells_get (by omega) | exact icells_get (by omega) | exact tcells_get (by omega) | exact ucells_get (by omega)) | exact cell_old (by assumption) (by simp [fps]))) ?_
          refine vl_on rfl rfl rfl rfl ?_
          refine vl_val rfl (.some rfl) (val_lenSl Try.runUnderlying32 rfl) ?_
          refine vl_on rfl rfl rfl rfl ?_
          refine vl_val rfl (.some rfl) (by first | exact val_fieldAddr Try.runUnderlying34 rfl Try.sizeOf31 rfl | exact val_fieldAddrR Try.runUnderlying34 rfl Try.sizeOf31 rfl) ?_
          refine vl_on rfl rfl rfl rfl ?_
          refine vl_val rfl (.some rfl) (val_load Try.isAgg31 rfl (by first | exact cell_cells (by repeat constructor) rfl | exact cell_rd (by first | exact rd_sl (by repeat constructor) | exact rd_old (by assumption) rfl) (by first | exact bcells_at (by omega) | exact ucells_at (by omega) | exact icells_at (by omega) | exact tcells_at (by omega) | exact bcells_get (by omega) | exact icells_get (by omega) | exact tcells_get (by omega) | exact ucells_get (by omega)) | exact cell_old (by assumption) (by simp [fps]))) ?_
          refine vl_on rfl rfl rfl rfl ?_
          refine vl_val rfl (.some rfl) (val_lenSl Try.runUnderlying31 rfl) ?_
          refine vl_on rfl rfl rfl rfl ?_
          refine vl_val rfl (.some rfl) (val_ne rfl rfl) ?_
          refine vl_val rfl (.some rfl) (val_pick rfl rfl) ?_
          refine vl_nil ?_
          refine vc_cond rfl (fun hc0 => ?_) (fun hc0 => ?_)
          · (try replace hc0 := of_decide_eq_true hc0)
            refine vc_seq ?_
            refine vc_region ?_
            refine vl_val rfl (.some rfl) (val_assign rfl) ?_
            refine vl_nil ?_
            refine vc_ret ?_
            refine ⟨_, [], _, res1 Try.results24 rfl, .nil, ?_⟩
            show _ = _
            rw [decide_eq_false]
            rintro ⟨h1, h2, h3, h4⟩
            simp only [hml] at h1 h2 h3
            omega
          · (try replace hc0 := of_decide_eq_false hc0)
            have h0 : ((1 ≤ n ∧ n ≤ 1000) ∧ (1 ≤ vs.length ∧ vs.length ≤ 8)) ∧ zs.length = vs.length := by omega
            refine vc_skip ?_
            refine vc_seq ?_
            refine vc_seq ?_
            refine vc_region ?_
            refine vl_val rfl (.some rfl) (by first | exact val_fieldAddr Try.runUnderlying34 rfl Try.sizeOf31 rfl | exact val_fieldAddrR Try.runUnderlying34 rfl Try.sizeOf31 rfl) ?_
            refine vl_val rfl (.some rfl) (val_load Try.isAgg31 rfl (by first | exact cell_cells (by repeat constructor) rfl | exact cell_rd (by first | exact rd_sl (by repeat constructor) | exact rd_old (by assumption) rfl) (by first | exact bcells_at (by omega) | exact ucells_at (by omega) | exact icells_at (by omega) | exact tcells_at (by omega) | exact bcells_get (by omega) | exact icells_get (by omega) | exact tcells_get (by omega) | exact ucells_get (by omega)) | exact cell_old (by assumption) (by simp [fps]))) ?_
            refine vl_val rfl (.some rfl) (val_lenSl Try.runUnderlying31 rfl) ?_
            refine vl_val rfl (.some rfl) (val_move rfl) ?_
            refine vl_nil ?_
            refine vc_block ?_
            refine vc_loopw (fun k E H => ∃ i : Nat, i ≤ vs.length ∧ k = vs.length - i ∧ (∀ j, j < i → colOk n (vcP (vs.getD j vc0)) (zs.getD j zn0)) ∧ E = [(1, .pointer (some ⟨r1, 0, none⟩)), (35, .slice Ac vs.length cc), (36, .int .i64 vs.length), (37, .int .i64 i)] ∧ H = [cells r1 [.int .i64 n, .slice Ac vs.length cc, .slice Az zs.length cz] 34]) (vs.length) ⟨_, _, _, ⟨0, by omega, rfl, fun j h => absurd h (by omega), rfl, rfl⟩, (by repeat (first | exact trivial | refine ⟨rfl, ?_⟩ | refine ⟨le_item rfl (by first | rfl | (congr 1; omega) | (simp; done) | (simp; omega)), ?_⟩)), (by repeat constructor)⟩ ?_
            intro k E H hI
            obtain ⟨i, hi, rfl, hall, rfl, rfl⟩ := hI
            refine vc_seq ?_
            refine vc_region ?_
            refine vl_val rfl (.some rfl) (val_lt rfl rfl) ?_
            refine vl_nil ?_
            refine vc_seq ?_
            refine vc_cond rfl (fun hc1 => ?_) (fun hc1 => ?_)
            · (try replace hc1 := of_decide_eq_true hc1)
              have hi8 : i < vs.length := by omega
              have hcr := hrs.col _ (mem_getD vc0 hi8)
              have hl1 := hcr.ln
              have hl2 := hcr.li
              refine vc_skip ?_
              refine vc_seq ?_
              refine vc_block ?_
              refine vc_seq ?_
              refine vc_region ?_
              refine vl_val rfl (.some rfl) (val_move rfl) ?_
              refine vl_val rfl (.some rfl) (val_indexAddr Try.runUnderlying31 Try.sizeOf81 rfl rfl (rd_old hrs.cs rfl) (by omega) (by omega) (by rw [flatS_len vcC_len]; omega)) ?_
              refine vl_val rfl (.some rfl) (val_loadAgg Try.isAgg81 Try.sizeOf81 rfl (cells_rd (us := vcC (vs.getD i vc0)) (rd_old hrs.cs rfl) (by rw [Int.toNat_natCast]; exact flat_atM vcC_len vc0 _ _ (by omega))) rfl) ?_
              refine vl_alloc rfl rfl (.some rfl) Try.zeroValue81 (fun r4 => ?_)
              refine vl_val rfl (.some rfl) (val_assign rfl) ?_
              first | refine vl_store rfl rfl .none rfl rfl Try.sizeOf81 rfl (by repeat constructor) (by first | decide | exact Nat.le_refl _ | exact Nat.le_of_ble_eq_true rfl | (simp; omega)) ?_ | refine vl_storeSl rfl rfl .none rfl rfl Try.sizeOf81 rfl (by simp [Value.cells]) (by repeat constructor) (by first | decide | (simp [Value.cells]; omega)) ?_
              refine vl_nil ?_
              refine vc_seq ?_
              refine vc_draws [0, 2, 3, 4, 5, 6, 7, 8, 9, 10, 11, 12, 13, 14, 15, 16, 17, 18, 19, 21, 22] [] [0, 1, 2, 3, 4, 5, 6, 7, 8, 9, 10, 11, 12, 13, 14, 15, 16, 17, 18, 19, 20, 21, 22] rfl (by kernel_rfl) (fun _ _ _ h => h) ?_
              refine vd_val rfl rfl rfl (.some rfl) (val_loadAgg Try.isAgg81 Try.sizeOf81 rfl (cells_part (us := vcC (vs.getD i vc0)) (by repeat constructor) rfl) rfl) ?_
              refine vd_op rfl rfl ?_
              refine vl_callV rfl rfl (.some rfl) Try.call55 rfl (fun w hw => cGood (vs.getD i vc0).A (vs.getD i vc0).B (vs.getD i vc0).c (vs.getD i vc0).d (vs.getD i vc0).nu (vs.getD i vc0).ids (by omega) (by omega) w (rdw (rd_old hcr.nu rfl) hw) (rdw (rd_old hcr.ids rfl) hw)) ?_
              refine vl_nil ?_
              refine ⟨fun _ => ⟨_, (by repeat (first | exact .nil | exact sub_self _ | exact sub_skip (sub_self _) | exact sub_skip (sub_skip (sub_self _)) | exact sub_skip (sub_skip (sub_skip (sub_self _))) | (apply Sub.cons; · repeat (first | exact .head | apply Take.tail))))⟩, ?_⟩
              refine vd_val rfl rfl rfl (.some rfl) (val_not rfl) ?_
              refine vd_val rfl rfl rfl (.some rfl) (val_move rfl) ?_
              refine vd_split (t := 45) rfl (fun hg45 => ?_) (fun hg45 => ?_)
              · (try replace hg45 := of_decide_eq_true hg45)
                refine vd_off rfl rfl rfl rfl rfl rfl (.some rfl) ?_
                refine vd_off rfl rfl rfl rfl rfl rfl (.some rfl) ?_
                refine vd_off rfl rfl rfl rfl rfl rfl (.some rfl) ?_
                refine vd_off rfl rfl rfl rfl rfl rfl (.some rfl) ?_
                refine vd_off rfl rfl rfl rfl rfl rfl (.some rfl) ?_
                refine vd_off rfl rfl rfl rfl rfl rfl (.some rfl) ?_
                refine vd_val rfl rfl rfl (.some rfl) (val_pick rfl rfl) ?_
                refine vd_val rfl rfl rfl (.some rfl) (val_move rfl) ?_
                refine vd_off rfl rfl rfl rfl rfl rfl (.some rfl) ?_
                refine vd_off rfl rfl rfl rfl rfl rfl (.some rfl) ?_
                refine vd_off rfl rfl rfl rfl rfl rfl (.some rfl) ?_
                refine vd_off rfl rfl rfl rfl rfl rfl (.some rfl) ?_
                refine vd_off rfl rfl rfl rfl rfl rfl (.some rfl) ?_
                refine vd_off rfl rfl rfl rfl rfl rfl (.some rfl) ?_
                refine vd_off rfl rfl rfl rfl rfl rfl (.some rfl) ?_
                refine vd_off rfl rfl rfl rfl rfl rfl (.some rfl) ?_
                refine vd_op rfl rfl ?_
                refine vl_off rfl rfl rfl rfl (.some rfl) ?_
                refine vl_nil ?_
                refine ⟨fun _ => ⟨_, (by repeat (first | exact .nil | exact sub_self _ | exact sub_skip (sub_self _) | exact sub_skip (sub_skip (sub_self _)) | exact sub_skip (sub_skip (sub_skip (sub_self _))) | (apply Sub.cons; · repeat (first | exact .head | apply Take.tail))))⟩, ?_⟩
                refine vd_off rfl rfl rfl rfl rfl rfl (.some rfl) ?_
                refine vd_val rfl rfl rfl (.some rfl) (val_pick rfl rfl) ?_
                refine vd_nil ?_
                refine vc_cond rfl (fun _ => ?_) (fun h => by cases h)
                refine vc_seq ?_
                refine vc_region ?_
                refine vl_val rfl (.some rfl) (val_assign rfl) ?_
                refine vl_nil ?_
                refine vc_ret ?_
                refine ⟨_, [], _, res1 Try.results24 rfl, .nil, ?_⟩
                show _ = _
                rw [decide_eq_false]
                rintro ⟨h1, h2, h3, h4⟩
                have h5 := h4 i (by rw [hml]; omega)
                rw [hmg] at h5
                obtain ⟨a1, a2, a3⟩ := h5
                simp_all
              · (try replace hg45 := of_decide_eq_false hg45)
                refine vd_on rfl rfl rfl rfl rfl rfl (.some rfl) (by first | exact val_fieldAddr Try.runUnderlying81 rfl Try.sizeOf22 rfl | exact val_fieldAddrR Try.runUnderlying81 rfl Try.sizeOf22 rfl) ?_
                refine vd_on rfl rfl rfl rfl rfl rfl (.some rfl) (val_load Try.isAgg22 rfl (cell_cells (v := .slice (vs.getD i vc0).B (vs.getD i vc0).ids.length (vs.getD i vc0).d) (by repeat constructor) rfl)) ?_
                refine vd_on rfl rfl rfl rfl rfl rfl (.some rfl) (val_lenSl Try.runUnderlying22 rfl) ?_
                refine vd_on rfl rfl rfl rfl rfl rfl (.some rfl) (by first | exact val_fieldAddr Try.runUnderlying34 rfl Try.sizeOf3 rfl | exact val_fieldAddrR Try.runUnderlying34 rfl Try.sizeOf3 rfl) ?_
                refine vd_on rfl rfl rfl rfl rfl rfl (.some rfl) (val_load Try.isAgg3 rfl (by first | exact cell_cells (by repeat constructor) rfl | exact cell_rd (by first | exact rd_sl (by repeat constructor) | exact rd_old (by assumption) rfl) (by first | exact bcells_at (by omega) | exact ucells_at (by omega) | exact icells_at (by omega) | exact tcells_at (by omega) | exact bcells_get (by omega) | exact icells_get (by omega) | exact tcells_get (by omega) | exact ucells_get (by omega)) | exact cell_old (by assumption) (by simp [fps]))) ?_
                refine vd_on rfl rfl rfl rfl rfl rfl (.some rfl) (val_ne rfl rfl) ?_
                refine vd_val rfl rfl rfl (.some rfl) (val_pick rfl rfl) ?_
                refine vd_val rfl rfl rfl (.some rfl) (val_move rfl) ?_
                refine vd_split (t := 53) rfl (fun hg53 => ?_) (fun hg53 => ?_)
                · (try replace hg53 := of_decide_eq_true hg53)
                  refine vd_off rfl rfl rfl rfl rfl rfl (.some rfl) ?_
                  refine vd_off rfl rfl rfl rfl rfl rfl (.some rfl) ?_
                  refine vd_off rfl rfl rfl rfl rfl rfl (.some rfl) ?_
                  refine vd_off rfl rfl rfl rfl rfl rfl (.some rfl) ?_
                  refine vd_off rfl rfl rfl rfl rfl rfl (.some rfl) ?_
                  refine vd_off rfl rfl rfl rfl rfl rfl (.some rfl) ?_
                  refine vd_off rfl rfl rfl rfl rfl rfl (.some rfl) ?_
                  refine vd_off rfl rfl rfl rfl rfl rfl (.some rfl) ?_
                  refine vd_op rfl rfl ?_
                  refine vl_off rfl rfl rfl rfl (.some rfl) ?_
                  refine vl_nil ?_
                  refine ⟨fun _ => ⟨_, (by repeat (first | exact .nil | exact sub_self _ | exact sub_skip (sub_self _) | exact sub_skip (sub_skip (sub_self _)) | exact sub_skip (sub_skip (sub_skip (sub_self _))) | (apply Sub.cons; · repeat (first | exact .head | apply Take.tail))))⟩, ?_⟩
                  refine vd_off rfl rfl rfl rfl rfl rfl (.some rfl) ?_
                  refine vd_val rfl rfl rfl (.some rfl) (val_pick rfl rfl) ?_
                  refine vd_nil ?_
                  refine vc_cond rfl (fun _ => ?_) (fun h => by cases h)
                  refine vc_seq ?_
                  refine vc_region ?_
                  refine vl_val rfl (.some rfl) (val_assign rfl) ?_
                  refine vl_nil ?_
                  refine vc_ret ?_
                  refine ⟨_, [], _, res1 Try.results24 rfl, .nil, ?_⟩
                  show _ = _
                  rw [decide_eq_false]
                  rintro ⟨h1, h2, h3, h4⟩
                  have h5 := h4 i (by rw [hml]; omega)
                  rw [hmg] at h5
                  obtain ⟨a1, a2, a3⟩ := h5
                  simp_all
                · (try replace hg53 := of_decide_eq_false hg53)
                  refine vd_on rfl rfl rfl rfl rfl rfl (.some rfl) (by first | exact val_fieldAddr Try.runUnderlying34 rfl Try.sizeOf32 rfl | exact val_fieldAddrR Try.runUnderlying34 rfl Try.sizeOf32 rfl) ?_
                  refine vd_on rfl rfl rfl rfl rfl rfl (.some rfl) (val_load Try.isAgg32 rfl (by first | exact cell_cells (by repeat constructor) rfl | exact cell_rd (by first | exact rd_sl (by repeat constructor) | exact rd_old (by assumption) rfl) (by first | exact bcells_at (by omega) | exact ucells_at (by omega) | exact icells_at (by omega) | exact tcells_at (by omega) | exact bcells_get (by omega) | exact icells_get (by omega) | exact tcells_get (by omega) | exact ucells_get (by omega)) | exact cell_old (by assumption) (by simp [fps]))) ?_
                  refine vd_on rfl rfl rfl rfl rfl rfl (.some rfl) (val_move rfl) ?_
                  refine vd_on rfl rfl rfl rfl rfl rfl (.some rfl) (val_indexAddr Try.runUnderlying32 Try.sizeOf64 rfl rfl (rd_old hrs.zs rfl) (by omega) (by omega) (by rw [flatS_len znC_len]; omega)) ?_
                  refine vd_on rfl rfl rfl rfl rfl rfl (.some rfl) (val_loadAgg Try.isAgg64 Try.sizeOf64 rfl (cells_rd (us := znC (zs.getD i zn0)) (rd_old hrs.zs rfl) (by rw [Int.toNat_natCast]; exact flat_atM znC_len zn0 _ _ (by omega))) rfl) ?_
                  refine vd_on rfl rfl rfl rfl rfl rfl (.some rfl) (val_loadAgg Try.isAgg81 Try.sizeOf81 rfl (cells_part (us := vcC (vs.getD i vc0)) (by repeat constructor) rfl) rfl) ?_
                  refine vd_on rfl rfl rfl rfl rfl rfl (.some rfl) (by first | exact val_fieldAddr Try.runUnderlying34 rfl Try.sizeOf3 rfl | exact val_fieldAddrR Try.runUnderlying34 rfl Try.sizeOf3 rfl) ?_
                  refine vd_on rfl rfl rfl rfl rfl rfl (.some rfl) (val_load Try.isAgg3 rfl (by first | exact cell_cells (by repeat constructor) rfl | exact cell_rd (by first | exact rd_sl (by repeat constructor) | exact rd_old (by assumption) rfl) (by first | exact bcells_at (by omega) | exact ucells_at (by omega) | exact icells_at (by omega) | exact tcells_at (by omega) | exact bcells_get (by omega) | exact icells_get (by omega) | exact tcells_get (by omega) | exact ucells_get (by omega)) | exact cell_old (by assumption) (by simp [fps]))) ?_
                  refine vd_op rfl rfl ?_
                  refine vl_on rfl rfl rfl rfl ?_
                  refine vl_callV rfl rfl (.some rfl) Try.call56 rfl (fun w hw => gSound (zs.getD i zn0) (vs.getD i vc0).A (vs.getD i vc0).B (vs.getD i vc0).c (vs.getD i vc0).d (vs.getD i vc0).nu (vs.getD i vc0).ids n (by omega) w (rdw (rd_old hcr.nu rfl) hw)) ?_
                  refine vl_nil ?_
                  refine ⟨fun _ => ⟨_, (by repeat (first | exact .nil | exact sub_self _ | exact sub_skip (sub_self _) | exact sub_skip (sub_skip (sub_self _)) | exact sub_skip (sub_skip (sub_skip (sub_self _))) | (apply Sub.cons; · repeat (first | exact .head | apply Take.tail))))⟩, ?_⟩
                  refine vd_on rfl rfl rfl rfl rfl rfl (.some rfl) (val_not rfl) ?_
                  refine vd_val rfl rfl rfl (.some rfl) (val_pick rfl rfl) ?_
                  refine vd_nil ?_
                  refine vc_cond rfl (fun hc2 => ?_) (fun hc2 => ?_)
                  · (try replace hc2 := of_decide_eq_true hc2)
                    refine vc_seq ?_
                    refine vc_region ?_
                    refine vl_val rfl (.some rfl) (val_assign rfl) ?_
                    refine vl_nil ?_
                    refine vc_ret ?_
                    refine ⟨_, [], _, res1 Try.results24 rfl, .nil, ?_⟩
                    show _ = _
                    rw [decide_eq_false]
                    rintro ⟨h1, h2, h3, h4⟩
                    have h5 := h4 i (by rw [hml]; omega)
                    rw [hmg] at h5
                    obtain ⟨a1, a2, a3⟩ := h5
                    simp_all
                  · (try replace hc2 := of_decide_eq_false hc2)
                    refine vc_skip ?_
                    refine vc_region ?_
                    refine vl_val rfl (.some rfl) (val_add rfl rfl (by first | exact w_i64 (by omega) (by omega) | rfl)) ?_
                    refine vl_val rfl (.some rfl) (val_move rfl) ?_
                    refine vl_nil ?_
                    exact ⟨vs.length - (i + 1), _, _, _, by omega, (by repeat (first | exact trivial | refine ⟨rfl, ?_⟩ | refine ⟨le_item rfl (by first | rfl | (congr 1; omega) | (simp; done) | (simp; omega)), ?_⟩)), (by repeat constructor), ⟨i + 1, by omega, rfl, ext_lt hall ⟨by simpa using hg45, (show (((vs.getD i vc0).ids.length : Nat) : Int) = n by omega), by simpa using hc2⟩, rfl, rfl⟩⟩
            · (try replace hc1 := of_decide_eq_false hc1)
              obtain rfl : i = vs.length := by omega
              refine vc_exit ?_
              refine vc_seq ?_
              refine vc_region ?_
              refine vl_val rfl (.some rfl) (val_assign rfl) ?_
              refine vl_nil ?_
              refine vc_ret ?_
              refine ⟨_, [], _, res1 Try.results24 rfl, .nil, ?_⟩
              show _ = _
              rw [decide_eq_true]
              exact ⟨h0.1.1, by rw [hml]; exact h0.1.2, by rw [hml]; exact h0.2, fun i hi => by rw [hmg]; exact hall i (by rw [hml] at hi; exact hi)⟩


end Go.Proofs.Ytdehjgpdcdjhjaa.K
