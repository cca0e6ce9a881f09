/- Walks of the program's functions, printed by a program of this session; Lean checks them. -/
import Derived.Test.YtdehjgpdcdjhjaaMo
import Derived.Test.YtdehjgpdcdjhjaaYhb
namespace Go.Proofs.Ytdehjgpdcdjhjaa.K
open Go Go.RowKit Go.Proofs
set_option linter.unusedVariables false
set_option linter.unusedSimpArgs false

theorem takeC_wv {kd : Int} {c : Co × List Vk} {v : Vk} (h : WV c.1.z.lo ∧ WV c.1.z.hi) (hv : WV v) : WV (takeC kd c v).1.z.lo ∧ WV (takeC kd c v).1.z.hi := by
  rw [takeC_is]
  unfold takeZ
  split
  · exact h
  · refine ⟨?_, ?_⟩
    · show WV (if _ then _ else _)
      split
      · exact hv
      · exact h.1
    · show WV (if _ then _ else _)
      split
      · exact hv
      · exact h.2
theorem foldC_wv {kd : Int} : ∀ {vs : List Vk} {c : Co × List Vk}, (∀ v ∈ vs, WV v) → WV c.1.z.lo ∧ WV c.1.z.hi → WV (vs.foldl (takeC kd) c).1.z.lo ∧ WV (vs.foldl (takeC kd) c).1.z.hi
  | [], _, _, h => h
  | v :: vs, _, hv, h => foldC_wv (vs := vs) (fun x hx => hv x (List.mem_cons_of_mem _ hx)) (takeC_wv h (hv v (List.mem_cons_self ..)))
theorem wv_z3 : WV z3 := by unfold WV; decide
theorem colF_wv {kd : Int} {D vs : List Vk} (h : ∀ v ∈ vs, WV v) : WV (colF kd D vs).1.z.lo ∧ WV (colF kd D vs).1.z.hi := foldC_wv h ⟨wv_z3, wv_z3⟩
theorem colR_wv {rows : Rws} {i : Nat} (h : ∀ r ∈ rows, ∀ p ∈ r, WV p) : ∀ p ∈ colR rows i, WV p := by
  intro p hp
  obtain ⟨r, hr, rfl⟩ := List.mem_map.1 hp
  by_cases hi : i < r.length
  · exact h r hr _ (mem_getD z3 hi)
  · rw [show r.getD i z3 = z3 by simp [List.getD, List.getElem?_eq_none (Nat.not_lt.1 hi)]]; exact wv_z3
theorem vl_dropL {X : Cx} {Q : Post} {E : Env} {H H9 : List Chunk} {ops : Array Oper} {rest : List Oper} (h : VL X ops rest Q E H) : VL X ops rest Q E (H9 ++ H) := fun a w ha hw => h a w ha hw.right
theorem madeS_wv {ks : List Int} {Ds : List (List Vk)} {RS : Rws} {n : Int} {vs : List Vc} {zs : List Zn} {e : Int} {Ds2 : List (List Vk)} (h : MadeS ks Ds RS n vs zs e Ds2) (hw : ∀ r ∈ RS, ∀ p ∈ r, WV p) : ∀ z ∈ zs, WV z.lo ∧ WV z.hi := by
  unfold MadeS makeP at h
  split at h
  · simp only [Prod.mk.injEq, Sg.mk.injEq] at h
    obtain ⟨⟨_, _, _, rfl⟩, _⟩ := h
    intro z hz; cases hz
  · simp only [Prod.mk.injEq, Sg.mk.injEq] at h
    obtain ⟨⟨_, _, _, rfl⟩, _⟩ := h
    intro z hz
    obtain ⟨c, hc, rfl⟩ := List.mem_map.1 hz
    unfold colsP at hc
    obtain ⟨i, _, rfl⟩ := List.mem_map.1 hc
    exact colF_wv (colR_wv hw)
theorem madeS_eq {ks : List Int} {Ds : List (List Vk)} {RS : Rws} {n n2 : Int} {vs us : List Vc} {zs zs2 : List Zn} {e e2 : Int} {Ds2 Ds3 : List (List Vk)} (h : MadeS ks Ds RS n vs zs e Ds2) (h2 : MadeS ks Ds RS n2 us zs2 e2 Ds3) : n = n2 ∧ vs.map vcP = us.map vcP ∧ zs = zs2 ∧ e = e2 ∧ Ds2 = Ds3 := by
  unfold MadeS at h h2
  rw [h] at h2
  simp only [Prod.mk.injEq, Sg.mk.injEq] at h2
  obtain ⟨⟨a, b, c, d⟩, e⟩ := h2
  exact ⟨b, c, d, a, e⟩
theorem ddP_keep {ds ds2 : List Dd} (h : DKeep ds ds2) : ds.map ddP = ds2.map ddP := by
  refine ext_getD (.bool false) (by rw [List.length_map, List.length_map, h.1]) fun j hj => ?_
  rw [List.length_map] at hj
  have hj2 : j < ds2.length := by rw [h.1]; exact hj
  have e1 : (ds.map ddP).getD j (.bool false) = ddP (ds.getD j dd0) := by simp [List.getD, List.getElem?_eq_getElem hj]
  have e2 : (ds2.map ddP).getD j (.bool false) = ddP (ds2.getD j dd0) := by simp [List.getD, List.getElem?_eq_getElem hj2]
  rw [e1, e2]; unfold ddP; rw [(h.2 j).1, (h.2 j).2]
theorem kd_keep {ds ds2 : List Dd} (h : DKeep ds ds2) : ds2.map (·.kd) = ds.map (·.kd) := by
  refine ext_getD 0 (by rw [List.length_map, List.length_map, h.1]) fun j hj => ?_
  rw [map_getDs dd0 0 rfl, map_getDs dd0 0 rfl, (h.2 j).1]
structure RowsOk (w : World) (A : Option Addr) (rows : List Rw) : Prop where
  rl : rows.length ≤ 6000
  hd : Reads w A (rows.flatMap rowV)
  row : ∀ q ∈ rows, Reads w q.1 (flat q.2.2) ∧ q.2.2.length ≤ 6000 ∧ ∀ p ∈ q.2.2, WV p
theorem gr_len {rows : List Rw} (h : ∀ i, i < rows.length → (rows.getD i rw0).2.2.length ≤ 6000) : ∀ q ∈ rows, q.2.2.length ≤ 6000 := by
  intro q hq
  obtain ⟨i, hi, rfl⟩ := List.mem_iff_getElem.1 hq
  have := h i hi
  simpa [List.getD, List.getElem?_eq_getElem hi] using this

theorem fresh_at {ks : List Int} {ds : List Dd} (h : FreshD ks ds) (i : Nat) : (ds.getD i dd0).vs = [] ∧ (ds.getD i dd0).kd = ks.getD i 0 := by
  refine ⟨?_, by rw [← h.1, map_getDs dd0 0 rfl]⟩
  by_cases hi : i < ds.length
  · exact h.2 _ (mem_getD dd0 hi)
  · rw [show ds.getD i dd0 = dd0 by rw [List.getD_eq_getElem?_getD, List.getElem?_eq_none (Nat.not_lt.1 hi)]; rfl]
theorem fresh_vs {ks : List Int} {ds : List Dd} (h : FreshD ks ds) : ds.map (·.vs) = ks.map fun _ => [] := by
  refine ext_getD [] (by rw [List.length_map, List.length_map, freshD_len h]) fun j _ => ?_
  rw [map_getDs dd0 [] rfl, (fresh_at h j).1, map_getDs (f := fun _ : Int => ([] : List Vk)) 0 [] rfl]
theorem freshS_le {ks : List Int} {ds : List Dd} (h : FreshD ks ds) (i : Nat) : (ds.getD i dd0).vs.length ≤ 512 := by rw [(fresh_at h i).1]; simp
theorem nil_le (ks : List Int) (i : Nat) : ((ks.map fun _ => ([] : List Vk)).getD i []).length ≤ 512 := by
  rw [map_getDs (f := fun _ : Int => ([] : List Vk)) 0 [] rfl]; simp
theorem zones_eq {p q : Prop} [Decidable p] [Decidable q] (h : p ↔ q) : (decide p != decide q) = false := by
  by_cases hp : p
  · rw [decide_eq_true hp, decide_eq_true (h.1 hp)]; rfl
  · rw [decide_eq_false hp, decide_eq_false (fun hq => hp (h.2 hq))]; rfl
theorem segL_pos {s : Sg} (h : goodSg s) : 0 < (segL s).length := by
  unfold segL
  rw [if_pos h]
  have h1 := outS_len h s.cs.length (Nat.le_refl _)
  have h2 := h.2.1
  unfold frameL
  rw [if_neg (by show ¬ 262144 < (outS s s.cs.length).length; omega)]
  rw [List.length_append, List.length_append, four_len]; omega

set_option maxRecDepth 20000 in
set_option maxHeartbeats 4000000 in
theorem law_SegmentAlike0 (Ak : Option Addr) (ck : Nat) (ks : List Int) (A1 : Option Addr) (c1 : Nat) (R1 : List Rw) (hb1 : R1.length ≤ 4611686018427387904) (hbb1 : ∀ q ∈ R1, q.2.2.length ≤ 4611686018427387904) (w : World) (hk : Reads w Ak (icells .i64 ks)) (hd1 : Reads w A1 (R1.flatMap rowV)) (hrw1 : ∀ q ∈ R1, Reads w q.1 (flat q.2.2) ∧ ∀ p ∈ q.2.2, WV p) : FnV Try.prog 4 [.slice Ak ks.length ck, .slice A1 R1.length c1] (.bool true) w := by
  refine fn_enter Try.func4 rfl Try.ntmps4 rfl ?_
  refine vc_seq ?_
  refine vc_region ?_
  refine vl_val rfl (.some rfl) (val_assign rfl) ?_
  refine vl_nil ?_
  refine vc_seq ?_
  refine vc_seq ?_
  refine vc_region ?_
  refine vl_val rfl (.some rfl) (val_move rfl) ?_
  refine vl_call (C := []) rfl rfl (.some rfl) Try.call6 rfl .nil (fun w hw => gGreat A1 c1 R1 hb1 hbb1 w (rdw (rd_old hd1 rfl) hw)) (fun v9 H9 h => ?_)
  obtain ⟨b1, rfl, hg1⟩ := h
  refine vl_dropL ?_
  refine vl_val rfl (.some rfl) (val_move rfl) ?_
  refine vl_split (t := 22) rfl (fun hg22 => ?_) (fun hg22 => ?_)
  · (try replace hg22 := of_decide_eq_true hg22)
    refine vl_off rfl rfl rfl rfl (.some rfl) ?_
    refine vl_off rfl rfl rfl rfl (.some rfl) ?_
    refine vl_off rfl rfl rfl rfl (.some rfl) ?_
    refine vl_val rfl (.some rfl) (val_pick rfl rfl) ?_
    refine vl_nil ?_
    refine vc_cond rfl (fun _ => ?_) (fun h => by cases h)
    refine vc_seq ?_
    refine vc_region ?_
    refine vl_callV rfl rfl (.some rfl) Try.call7 rfl (fun w hw => gLives w) ?_
    refine vl_val rfl (.some rfl) (val_assign rfl) ?_
    refine vl_nil ?_
    refine vc_ret ?_
    refine ⟨_, [], _, res1 Try.results4 rfl, .nil, ?_⟩
    rfl
  · (try replace hg22 := of_decide_eq_false hg22)
    have hr1 := hg1 hg22
    refine vl_on rfl rfl rfl rfl ?_
    refine vl_val rfl (.some rfl) (val_move rfl) ?_
    refine vl_on rfl rfl rfl rfl ?_
    refine vl_val rfl (.some rfl) (val_lenSl Try.runUnderlying22 rfl) ?_
    refine vl_on rfl rfl rfl rfl ?_
    refine vl_val rfl (.some rfl) (val_gt rfl rfl) ?_
    refine vl_val rfl (.some rfl) (val_pick rfl rfl) ?_
    refine vl_nil ?_
    refine vc_cond rfl (fun hc0 => ?_) (fun hc0 => ?_)
    · (try replace hc0 := of_decide_eq_true hc0)
      refine vc_seq ?_
      refine vc_region ?_
      refine vl_callV rfl rfl (.some rfl) Try.call7 rfl (fun w hw => gLives w) ?_
      refine vl_val rfl (.some rfl) (val_assign rfl) ?_
      refine vl_nil ?_
      refine vc_ret ?_
      refine ⟨_, [], _, res1 Try.results4 rfl, .nil, ?_⟩
      rfl
    · (try replace hc0 := of_decide_eq_false hc0)
      have hR : RowsOk w A1 R1 := ⟨hr1.1, hd1, fun q hq => ⟨(hrw1 q hq).1, gr_len hr1.2 q hq, (hrw1 q hq).2⟩⟩
      have hkl : ks.length ≤ 100 := by omega
      refine vc_skip ?_
      refine vc_seq ?_
      refine vc_region ?_
      refine vl_val rfl (.some rfl) (val_move rfl) ?_
      refine vl_call (C := []) rfl rfl (.some rfl) Try.call8 rfl .nil (fun w hw => gDicts Ak ck ks (by omega) w (rdw (rd_old hk rfl) hw)) (fun v9 H9 h => ?_)
      obtain ⟨Aa, ca, ds, Ab0, cb0, xs, rfl, rfl, hfd, hfx⟩ := h
      show VL _ _ _ _ _ (_ :: _ :: _ :: _ :: _)
      rw [freshD_len hfd, freshX_len hfx]
      refine vl_val rfl (.some rfl) (val_move rfl) ?_
      refine vl_val rfl (.some rfl) (val_extract rfl rfl) ?_
      refine vl_val rfl (.some rfl) (val_extract rfl rfl) ?_
      refine vl_val rfl (.some rfl) (val_assign rfl) ?_
      refine vl_val rfl (.some rfl) (val_assign rfl) ?_
      refine vl_nil ?_
      refine vc_seq ?_
      refine vc_region ?_
      refine vl_val rfl (.some rfl) (val_assign rfl) ?_
      refine vl_nilSl 51 1 ?_
      refine vl_eqv (eqv_nil _) ?_
      refine vl_nil ?_
      refine vc_seq ?_
      refine vc_seq ?_
      refine vc_region ?_
      refine vl_val rfl (.some rfl) (val_move rfl) ?_
      refine vl_val rfl (.some rfl) (val_lenSl Try.runUnderlying26 rfl) ?_
      refine vl_val rfl (.some rfl) (val_move rfl) ?_
      refine vl_nil ?_
      refine vc_block ?_
      refine vc_loopw (fun k E H => ∃ (i : Nat) (Ab : Option Addr) (cb : Nat) (bs : List Dd), i ≤ ks.length ∧ k = ks.length - i ∧ FreshD (ks.take i) bs ∧ E = [(0, .slice Ak ks.length ck), (1, .slice A1 R1.length c1), (5, .slice Aa ks.length ca), (7, .slice Ab bs.length cb), (33, .slice Aa ks.length ca), (34, .int .i64 ks.length), (35, .int .i64 (i : Int))] ∧ H = [DB bs, sl Ab bs.length cb 51 1 (bs.map ddP), DB ds, sl Aa ks.length ca 51 1 (ds.map ddP)]) (ks.length) ⟨_, _, _, ⟨0, none, 0, [], by omega, rfl, ⟨rfl, fun d h => by cases h⟩, rfl, rfl⟩, (by repeat (first | exact trivial | refine ⟨rfl, ?_⟩ | refine ⟨le_item rfl (by first | rfl | (congr 1; omega) | (simp; done) | (simp; omega)), ?_⟩)), (by repeat constructor)⟩ ?_
      intro k E H hI
      obtain ⟨i, Ab, cb, bs, hi, rfl, hfb, rfl, rfl⟩ := hI
      refine vc_seq ?_
      refine vc_region ?_
      refine vl_val rfl (.some rfl) (val_lt rfl rfl) ?_
      refine vl_nil ?_
      refine vc_seq ?_
      refine vc_cond rfl (fun hc1 => ?_) (fun hc1 => ?_)
      · (try replace hc1 := of_decide_eq_true hc1)
        have hi8 : i < ks.length := by omega
        have hdl := freshD_len hfd
        have hi9 : i < ds.length := by omega
        have hbl := freshD_len hfb
        rw [List.length_take] at hbl
        refine vc_skip ?_
        refine vc_seq ?_
        refine vc_block ?_
        refine vc_seq ?_
        refine vc_region ?_
        refine vl_val rfl (.some rfl) (val_indexAddr Try.runUnderlying26 Try.sizeOf51 rfl rfl (rd_sl (A := Aa) (by repeat constructor)) (by omega) (by omega) (by rw [List.length_map]; omega)) ?_
        refine vl_val rfl (.some rfl) (val_load Try.isAgg51 rfl (cell_rd (rd_sl (A := Aa) (by repeat constructor)) (map_at dd0 (by omega)))) ?_
        refine vl_val rfl (.some rfl) (val_assign rfl) ?_
        refine vl_nil ?_
        refine vc_region ?_
        refine vl_val rfl (.some rfl) (val_move rfl) ?_
        refine vl_val rfl (.some rfl) (val_move rfl) ?_
        refine vl_call (C := [DB ds]) rfl rfl (.some rfl) Try.call16 rfl (by repeat constructor) (fun w hw => dbCopy (i := i) hi9 (by rw [(fresh_at hfd i).1]; exact fun q hq => by cases hq) (by rw [(fresh_at hfd i).1]; exact List.nodup_nil) (freshS_le hfd i) w) (fun v9 H9 h => ?_)
        obtain ⟨d, ⟨hd2, hd3, rfl⟩, rfl⟩ := h
        rw [List.append_assoc]
        refine vl_push (l := bs) ddH (by repeat constructor) ?_
        have hfb2 := freshD_step hfb hi8 (by rw [hd2, (fresh_at hfd i).2]) (by rw [hd3, (fresh_at hfd i).1])
        refine vl_lit sT26 rfl rfl (.some rfl) rfl rfl rfl (by decide) (by decide) rfl (flat_one rfl) (fun r42 => ?_)
        refine vl_append (us := [ddP d]) sT26 rfl rfl (.some rfl) rfl rfl (rd_sl (by repeat constructor)) rfl rfl (by omega) (by omega) (by repeat constructor) (fun A43 k43 => ?_)
        rw [show bs.map ddP ++ [ddP d] = (bs ++ [d]).map ddP by simp, show bs.length + 1 = (bs ++ [d]).length by simp]
        refine vl_val rfl (.some rfl) (val_assign rfl) ?_
        refine vl_nil ?_
        refine vc_region ?_
        refine vl_val rfl (.some rfl) (val_add rfl rfl (by first | exact w_i64 (by omega) (by omega) | rfl)) ?_
        refine vl_val rfl (.some rfl) (val_move rfl) ?_
        refine vl_nil ?_
        exact ⟨ks.length - (i + 1), _, _, _, by omega, (by repeat (first | exact trivial | refine ⟨rfl, ?_⟩ | refine ⟨le_item rfl (by first | rfl | (congr 1; omega) | (simp; done) | (simp; omega)), ?_⟩)), (by repeat constructor), ⟨i + 1, A43, k43, bs ++ [d], by omega, rfl, hfb2, rfl, rfl⟩⟩
      · (try replace hc1 := of_decide_eq_false hc1)
        obtain rfl : i = ks.length := by omega
        rw [List.take_length] at hfb
        have hdl := freshD_len hfd
        have hbl := freshD_len hfb
        rw [hbl]
        refine vc_exit ?_
        refine vc_seq ?_
        refine vc_region ?_
        refine vl_val rfl (.some rfl) (val_move rfl) ?_
        refine vl_val rfl (.some rfl) (val_move rfl) ?_
        refine vl_val rfl (.some rfl) (val_move rfl) ?_
        refine vl_call (C := [DB ds]) rfl rfl (.some rfl) Try.call9 rfl (by repeat constructor) (fun w hw => by have h := gMake Ak ck ds A1 c1 R1 Aa ca (by omega) (by have := hR.rl; omega) (fun q hq => by have := (hR.row q hq).2.1; omega) (freshS_le hfd) w (by rw [hfd.1]; exact readsM_old hk.m (by repeat constructor) hw) (readsM_old hR.hd.m (by repeat constructor) hw) (fun q hq => readsM_old (hR.row q hq).1.m (by repeat constructor) hw) (readsM_sl (A := Aa) (n := ks.length) (c := ca) (sz := 1) (e := 51) (vs := ds.map ddP) (by repeat constructor) (by repeat constructor) hw); rw [freshD_len hfd] at h; exact h) (fun v9 H9 h => ?_)
        obtain ⟨n, Ac, cc, vs, Az, cz, zs, e, ds2, rfl, rfl, hms, hdk⟩ := h
        show VL _ _ _ _ _ (_ :: _ :: _ :: _ :: _)
        rw [hfd.1, fresh_vs hfd] at hms
        refine vl_val rfl (.some rfl) (val_move rfl) ?_
        refine vl_val rfl (.some rfl) (val_extract rfl rfl) ?_
        refine vl_val rfl (.some rfl) (val_extract rfl rfl) ?_
        refine vl_alloc rfl rfl (.some rfl) Try.zeroValue34 (fun r10 => ?_)
        first | refine vl_store rfl rfl .none rfl rfl Try.sizeOf34 rfl (by repeat constructor) (by first | decide | exact Nat.le_refl _ | exact Nat.le_of_ble_eq_true rfl | (simp; omega)) ?_ | refine vl_storeSl rfl rfl .none rfl rfl Try.sizeOf34 rfl (by simp [Value.cells]) (by repeat constructor) (by first | decide | (simp [Value.cells]; omega)) ?_
        refine vl_val rfl (.some rfl) (val_assign rfl) ?_
        refine vl_nil ?_
        refine vc_seq ?_
        refine vc_region ?_
        refine vl_val rfl (.some rfl) (val_move rfl) ?_
        refine vl_val rfl (.some rfl) (val_move rfl) ?_
        refine vl_val rfl (.some rfl) (val_move rfl) ?_
        refine vl_call (C := [DB bs]) rfl rfl (.some rfl) Try.call9 rfl (by repeat constructor) (fun w hw => by have h := gMake Ak ck bs A1 c1 R1 Ab cb (by omega) (by have := hR.rl; omega) (fun q hq => by have := (hR.row q hq).2.1; omega) (freshS_le hfb) w (by rw [hfb.1]; exact readsM_old hk.m (by repeat constructor) hw) (readsM_old hR.hd.m (by repeat constructor) hw) (fun q hq => readsM_old (hR.row q hq).1.m (by repeat constructor) hw) (readsM_sl (A := Ab) (n := ks.length) (c := cb) (sz := 1) (e := 51) (vs := bs.map ddP) (by repeat constructor) (by repeat constructor) hw); rw [freshD_len hfb] at h; exact h) (fun v9 H9 h => ?_)
        obtain ⟨n2, Bc, bc, us, Bz, bz, zs2, e2, bs2, rfl, rfl, hms2, hdk2⟩ := h
        show VL _ _ _ _ _ (_ :: _ :: _ :: _ :: _)
        rw [hfb.1, fresh_vs hfb] at hms2
        obtain ⟨rfl, hvu, rfl, rfl, hD2⟩ := madeS_eq hms hms2
        rw [ddP_keep hdk, ddP_keep hdk2]
        have hlv := madeS_len hms
        have hlu := madeS_len hms2
        have hwz := madeS_wv hms (fun r hr p hp => by obtain ⟨q, hq, rfl⟩ := List.mem_map.1 hr; exact (hR.row q hq).2.2 p hp)
        have hk2 : ds2.map (·.kd) = ks := by rw [kd_keep hdk]; exact hfd.1
        have hk3 : bs2.map (·.kd) = ks := by rw [kd_keep hdk2]; exact hfb.1
        refine vl_val rfl (.some rfl) (val_move rfl) ?_
        refine vl_val rfl (.some rfl) (val_extract rfl rfl) ?_
        refine vl_val rfl (.some rfl) (val_extract rfl rfl) ?_
        refine vl_alloc rfl rfl (.some rfl) Try.zeroValue34 (fun r12 => ?_)
        first | refine vl_store rfl rfl .none rfl rfl Try.sizeOf34 rfl (by repeat constructor) (by first | decide | exact Nat.le_refl _ | exact Nat.le_of_ble_eq_true rfl | (simp; omega)) ?_ | refine vl_storeSl rfl rfl .none rfl rfl Try.sizeOf34 rfl (by simp [Value.cells]) (by repeat constructor) (by first | decide | (simp [Value.cells]; omega)) ?_
        refine vl_val rfl (.some rfl) (val_assign rfl) ?_
        refine vl_nil ?_
        refine vc_seq ?_
        refine vc_seq ?_
        refine vc_region ?_
        refine vl_val rfl (.some rfl) (val_move rfl) ?_
        refine vl_val rfl (.some rfl) (val_move rfl) ?_
        refine vl_val rfl (.some rfl) (val_eqv (v' := .bool false) (congrArg Value.bool (decide_eq_false (fun h => h rfl))) (val_ne rfl rfl)) ?_
        refine vl_val rfl (.some rfl) (val_move rfl) ?_
        refine vl_on rfl rfl rfl rfl ?_
        refine vl_val rfl (.some rfl) (val_move rfl) ?_
        refine vl_on rfl rfl rfl rfl ?_
        refine vl_val rfl (.some rfl) (val_ne rfl rfl) ?_
        refine vl_val rfl (.some rfl) (val_pick rfl rfl) ?_
        refine vl_nil ?_
        refine vc_cond rfl (fun hc2 => ?_) (fun hc2 => ?_)
        · (try replace hc2 := of_decide_eq_true hc2)
          refine vc_seq ?_
          refine vc_region ?_
          refine vl_val rfl (.some rfl) (val_move rfl) ?_
          refine vl_val rfl (.some rfl) (val_move rfl) ?_
          refine vl_val rfl (.some rfl) (val_eqv (v' := .bool true) (congrArg Value.bool (decide_eq_true rfl)) (val_eq rfl rfl)) ?_
          refine vl_val rfl (.some rfl) (val_move rfl) ?_
          refine vl_on rfl rfl rfl rfl ?_
          refine vl_callV rfl rfl (.some rfl) Try.call7 rfl (fun w hw => gLives w) ?_
          refine vl_val rfl (.some rfl) (val_pick rfl rfl) ?_
          refine vl_val rfl (.some rfl) (val_assign rfl) ?_
          refine vl_nil ?_
          refine vc_ret ?_
          refine ⟨_, [], _, res1 Try.results4 rfl, .nil, ?_⟩
          rfl
        · (try replace hc2 := of_decide_eq_false hc2)
          obtain rfl : e = 0 := by omega
          have hmo := made_ok hms (nil_le ks)
          have hgood := made_good hmo
          have hzl := hmo.zl
          have hla : ds2.length = ks.length := by rw [← hk2, List.length_map]
          have hlb : bs2.length = ks.length := by rw [← hk3, List.length_map]
          refine vc_skip ?_
          refine vc_seq ?_
          refine vc_region ?_
          refine vl_val rfl (.some rfl) (val_loadAgg Try.isAgg34 Try.sizeOf34 rfl (by first | exact cells_whole (by repeat constructor) | exact cells_part (by repeat constructor) rfl) rfl) ?_
          refine vl_call (C := []) rfl rfl (.some rfl) Try.call17 rfl .nil (fun w hw => gBytes n Ac cc vs Az cz zs (by omega) (by omega) hwz w (sgR_of hlv.1 (by repeat constructor) (by repeat constructor) (by repeat constructor) hw)) (fun v9 H9 h => ?_)
          obtain ⟨Ax, cx, rfl, rfl⟩ := h
          show VL _ _ _ _ _ (_ :: _)
          rw [show segE ⟨n, vs.map vcP, zs⟩ = 0 from if_pos hgood]
          refine vl_val rfl (.some rfl) (val_move rfl) ?_
          refine vl_val rfl (.some rfl) (val_extract rfl rfl) ?_
          refine vl_val rfl (.some rfl) (val_extract rfl rfl) ?_
          refine vl_val rfl (.some rfl) (val_assign rfl) ?_
          refine vl_val rfl (.some rfl) (val_assign rfl) ?_
          refine vl_nil ?_
          refine vc_seq ?_
          refine vc_region ?_
          refine vl_val rfl (.some rfl) (val_loadAgg Try.isAgg34 Try.sizeOf34 rfl (by first | exact cells_whole (by repeat constructor) | exact cells_part (by repeat constructor) rfl) rfl) ?_
          refine vl_call (C := []) rfl rfl (.some rfl) Try.call17 rfl .nil (fun w hw => gBytes n Bc bc us Bz bz zs (by omega) (by omega) hwz w (sgR_of hlu.1 (by repeat constructor) (by repeat constructor) (by repeat constructor) hw)) (fun v9 H9 h => ?_)
          obtain ⟨Ay, cy, rfl, rfl⟩ := h
          rw [← hvu]
          show VL _ _ _ _ _ (_ :: _)
          rw [show segE ⟨n, vs.map vcP, zs⟩ = 0 from if_pos hgood]
          refine vl_val rfl (.some rfl) (val_move rfl) ?_
          refine vl_val rfl (.some rfl) (val_extract rfl rfl) ?_
          refine vl_val rfl (.some rfl) (val_extract rfl rfl) ?_
          refine vl_val rfl (.some rfl) (val_assign rfl) ?_
          refine vl_val rfl (.some rfl) (val_assign rfl) ?_
          refine vl_nil ?_
          refine vc_seq ?_
          refine vc_seq ?_
          refine vc_region ?_
          refine vl_val rfl (.some rfl) (by first | exact val_fieldAddr Try.runUnderlying34 rfl Try.sizeOf32 rfl | exact val_fieldAddrR Try.runUnderlying34 rfl Try.sizeOf32 rfl) ?_
          refine vl_val rfl (.some rfl) (val_load Try.isAgg32 rfl (by first | exact cell_cells (by repeat constructor) rfl | exact cell_rd (by first | exact rd_sl (by repeat constructor) | exact rd_old (by assumption) rfl) (by first | exact bcells_at (by omega) | exact ucells_at (by omega) | exact icells_at (by omega) | exact tcells_at (by omega) | exact bcells_get (by omega) | exact icells_get (by omega) | exact tcells_get (by omega) | exact ucells_get (by omega)) | exact cell_old (by assumption) (by simp [fps]))) ?_
          refine vl_val rfl (.some rfl) (val_lenSl Try.runUnderlying32 rfl) ?_
          refine vl_val rfl (.some rfl) (val_move rfl) ?_
          refine vl_nil ?_
          refine vc_block ?_
          refine vc_loopw (fun k E H => ∃ j : Nat, j ≤ ks.length ∧ k = ks.length - j ∧ E = [(1, .slice A1 R1.length c1), (5, .slice Aa ks.length ca), (7, .slice Ab ks.length cb), (14, .slice Ax (segL ⟨n, vs.map vcP, zs⟩).length cx), (16, .slice Ay (segL ⟨n, vs.map vcP, zs⟩).length cy), (83, .slice Az zs.length cz), (84, .int .i64 zs.length), (85, .int .i64 (j : Int))] ∧ H = [BY Ay (segL ⟨n, vs.map vcP, zs⟩).length cy (segL ⟨n, vs.map vcP, zs⟩), BY Ax (segL ⟨n, vs.map vcP, zs⟩).length cx (segL ⟨n, vs.map vcP, zs⟩), sl Az zs.length cz 64 7 (zs.flatMap znC), DB ds2, sl Aa ks.length ca 51 1 (ds2.map ddP), DB bs2, sl Ab ks.length cb 51 1 (bs2.map ddP)]) (ks.length) ⟨_, _, _, ⟨0, by omega, rfl, rfl, rfl⟩, (by repeat (first | exact trivial | refine ⟨rfl, ?_⟩ | refine ⟨le_item rfl (by first | rfl | (congr 1; omega) | (simp; done) | (simp; omega)), ?_⟩)), (by repeat constructor)⟩ ?_
          intro k E H hI
          obtain ⟨j, hj, rfl, rfl, rfl⟩ := hI
          refine vc_seq ?_
          refine vc_region ?_
          refine vl_val rfl (.some rfl) (val_lt rfl rfl) ?_
          refine vl_nil ?_
          refine vc_seq ?_
          refine vc_cond rfl (fun hc3 => ?_) (fun hc3 => ?_)
          · (try replace hc3 := of_decide_eq_true hc3)
            have hj8 : j < ks.length := by omega
            have hokj := hmo.kd j hj8
            have hka : (ds2.getD j dd0).kd = ks.getD j 0 := by rw [← hk2, map_getDs dd0 0 rfl]
            have hkb : (bs2.getD j dd0).kd = ks.getD j 0 := by rw [← hk3, map_getDs dd0 0 rfl]
            have hvv : (ds2.getD j dd0).vs = (bs2.getD j dd0).vs := by rw [← map_getDs (f := fun d : Dd => d.vs) dd0 [] rfl, hD2, map_getDs dd0 [] rfl]
            have hzn := made_zone hmo hj8
            rw [List.length_map] at hzn
            refine vc_skip ?_
            refine vc_seq ?_
            refine vc_block ?_
            refine vc_seq ?_
            refine vc_region ?_
            refine vl_val rfl (.some rfl) (val_move rfl) ?_
            refine vl_val rfl (.some rfl) (val_indexAddr Try.runUnderlying32 Try.sizeOf64 rfl rfl (rd_sl (A := Az) (by repeat constructor)) (by omega) (by omega) (by rw [flatS_len znC_len]; omega)) ?_
            refine vl_val rfl (.some rfl) (val_loadAgg Try.isAgg64 Try.sizeOf64 rfl (cells_rd (us := znC (zs.getD j zn0)) (rd_sl (A := Az) (by repeat constructor)) (by rw [Int.toNat_natCast]; exact flat_atM znC_len zn0 _ _ (by omega))) rfl) ?_
            refine vl_alloc rfl rfl (.some rfl) Try.zeroValue64 (fun r19 => ?_)
            refine vl_val rfl (.some rfl) (val_assign rfl) ?_
            first | refine vl_store rfl rfl .none rfl rfl Try.sizeOf64 rfl (by repeat constructor) (by first | decide | exact Nat.le_refl _ | exact Nat.le_of_ble_eq_true rfl | (simp; omega)) ?_ | refine vl_storeSl rfl rfl .none rfl rfl Try.sizeOf64 rfl (by simp [Value.cells]) (by repeat constructor) (by first | decide | (simp [Value.cells]; omega)) ?_
            refine vl_nil ?_
            refine vc_seq ?_
            refine vc_draws [0, 1, 2, 3, 4, 5, 6, 7, 8, 9, 10, 11, 12, 13, 14, 15, 16, 17, 18, 19, 21, 22, 23, 24, 26, 27] [] [0, 1, 2, 3, 4, 5, 6, 7, 8, 9, 10, 11, 12, 13, 14, 15, 16, 17, 18, 19, 21, 22, 23, 24, 20, 25, 26, 27] rfl (by kernel_rfl) (fun _ _ _ h => h) ?_
            refine vd_val rfl rfl rfl (.some rfl) (by first | exact val_fieldAddr Try.runUnderlying64 rfl Try.sizeOf3 rfl | exact val_fieldAddrR Try.runUnderlying64 rfl Try.sizeOf3 rfl) ?_
            refine vd_val rfl rfl rfl (.some rfl) (val_load Try.isAgg3 rfl (by first | exact cell_cells (by repeat constructor) rfl | exact cell_rd (by first | exact rd_sl (by repeat constructor) | exact rd_old (by assumption) rfl) (by first | exact bcells_at (by omega) | exact ucells_at (by omega) | exact icells_at (by omega) | exact tcells_at (by omega) | exact bcells_get (by omega) | exact icells_get (by omega) | exact tcells_get (by omega) | exact ucells_get (by omega)) | exact cell_old (by assumption) (by simp [fps]))) ?_
            refine vd_val rfl rfl rfl (.some rfl) (val_move rfl) ?_
            refine vd_val rfl rfl rfl (.some rfl) (val_lenSl Try.runUnderlying23 rfl) ?_
            refine vd_val rfl rfl rfl (.some rfl) (val_eq rfl rfl) ?_
            refine vd_val rfl rfl rfl (.some rfl) (by first | exact val_fieldAddr Try.runUnderlying64 rfl Try.sizeOf62 rfl | exact val_fieldAddrR Try.runUnderlying64 rfl Try.sizeOf62 rfl) ?_
            refine vd_val rfl rfl rfl (.some rfl) (val_loadAgg Try.isAgg62 Try.sizeOf62 rfl (cells_part (us := [.int .i64 (zs.getD j zn0).lo.k, .int .i64 (zs.getD j zn0).lo.n, .string (zs.getD j zn0).lo.s]) (by repeat constructor) rfl) rfl) ?_
            refine vd_val rfl rfl rfl (.some rfl) (val_buildSt (pl := #[(0, 1), (1, 1), (2, 1)]) (cs := #[.int .i64 0, .int .i64 0, .string ⟨#[]⟩]) Try.runUnderlying62 Try.zeroValue62 (fun w => by kernel_rfl) rfl rfl) ?_
            refine vd_val rfl rfl rfl (.some rfl) (val_opO rfl rfl (fun w => run_eqGuard_agg w _ _ _ _ _ _ (by kernel_rfl)) (bin_agg_eq (vk_equal (zs.getD j zn0).lo z3))) ?_
            refine vd_val rfl rfl rfl (.some rfl) (val_eqv (v' := .bool false) (congrArg Value.bool (zones_eq hzn.1)) (val_bne Try.underlying4 rfl rfl)) ?_
            refine vd_val rfl rfl rfl (.some rfl) (val_move rfl) ?_
            refine vd_on rfl rfl rfl rfl rfl rfl (.some rfl) (by first | exact val_fieldAddr Try.runUnderlying64 rfl Try.sizeOf3 rfl | exact val_fieldAddrR Try.runUnderlying64 rfl Try.sizeOf3 rfl) ?_
            refine vd_on rfl rfl rfl rfl rfl rfl (.some rfl) (val_load Try.isAgg3 rfl (by first | exact cell_cells (by repeat constructor) rfl | exact cell_rd (by first | exact rd_sl (by repeat constructor) | exact rd_old (by assumption) rfl) (by first | exact bcells_at (by omega) | exact ucells_at (by omega) | exact icells_at (by omega) | exact tcells_at (by omega) | exact bcells_get (by omega) | exact icells_get (by omega) | exact tcells_get (by omega) | exact ucells_get (by omega)) | exact cell_old (by assumption) (by simp [fps]))) ?_
            refine vd_on rfl rfl rfl rfl rfl rfl (.some rfl) (val_eqv (v' := .bool false) (congrArg Value.bool (decide_eq_false (by omega))) (val_lt rfl rfl)) ?_
            refine vd_val rfl rfl rfl (.some rfl) (val_pick rfl rfl) ?_
            refine vd_val rfl rfl rfl (.some rfl) (val_move rfl) ?_
            refine vd_on rfl rfl rfl rfl rfl rfl (.some rfl) (val_move rfl) ?_
            refine vd_on rfl rfl rfl rfl rfl rfl (.some rfl) (val_move rfl) ?_
            refine vd_on rfl rfl rfl rfl rfl rfl (.some rfl) (val_indexAddr Try.runUnderlying26 Try.sizeOf51 rfl rfl (rd_sl (A := Aa) (by repeat constructor)) (by omega) (by omega) (by rw [List.length_map]; omega)) ?_
            refine vd_on rfl rfl rfl rfl rfl rfl (.some rfl) (val_load Try.isAgg51 rfl (cell_rd (rd_sl (A := Aa) (by repeat constructor)) (map_at dd0 (by omega)))) ?_
            refine vd_on rfl rfl rfl rfl rfl rfl (.some rfl) (val_move rfl) ?_
            refine vd_on rfl rfl rfl rfl rfl rfl (.some rfl) (val_move rfl) ?_
            refine vd_on rfl rfl rfl rfl rfl rfl (.some rfl) (val_indexAddr Try.runUnderlying26 Try.sizeOf51 rfl rfl (rd_sl (A := Ab) (by repeat constructor)) (by omega) (by omega) (by rw [List.length_map]; omega)) ?_
            refine vd_on rfl rfl rfl rfl rfl rfl (.some rfl) (val_load Try.isAgg51 rfl (cell_rd (rd_sl (A := Ab) (by repeat constructor)) (map_at dd0 (by omega)))) ?_
            refine vd_op rfl rfl ?_
            refine vl_on rfl rfl rfl rfl ?_
            refine vl_callR [DB ds2] rfl rfl (.some rfl) Try.call15 rfl (by repeat constructor) (fun w hw => dbLen (show j < ds2.length by omega) (by rw [hka]; exact hokj) w) ?_
            refine vl_nil ?_
            refine ⟨fun _ => ⟨_, (by repeat (first | exact .nil | exact sub_self _ | exact sub_skip (sub_self _) | exact sub_skip (sub_skip (sub_self _)) | exact sub_skip (sub_skip (sub_skip (sub_self _))) | (apply Sub.cons; · repeat (first | exact .head | apply Take.tail))))⟩, ?_⟩
            refine vd_op rfl rfl ?_
            refine vl_on rfl rfl rfl rfl ?_
            refine vl_callR [DB bs2] rfl rfl (.some rfl) Try.call15 rfl (by repeat constructor) (fun w hw => dbLen (show j < bs2.length by omega) (by rw [hkb]; exact hokj) w) ?_
            refine vl_nil ?_
            refine ⟨fun _ => ⟨_, (by repeat (first | exact .nil | exact sub_self _ | exact sub_skip (sub_self _) | exact sub_skip (sub_skip (sub_self _)) | exact sub_skip (sub_skip (sub_skip (sub_self _))) | (apply Sub.cons; · repeat (first | exact .head | apply Take.tail))))⟩, ?_⟩
            refine vd_on rfl rfl rfl rfl rfl rfl (.some rfl) (val_eqv (v' := .bool false) (congrArg Value.bool (decide_eq_false (fun h => h (by rw [hvv])))) (val_ne rfl rfl)) ?_
            refine vd_val rfl rfl rfl (.some rfl) (val_pick rfl rfl) ?_
            refine vd_nil ?_
            refine vc_cond rfl (fun h => by cases h) (fun _ => ?_)
            refine vc_skip ?_
            refine vc_region ?_
            refine vl_val rfl (.some rfl) (val_add rfl rfl (by first | exact w_i64 (by omega) (by omega) | rfl)) ?_
            refine vl_val rfl (.some rfl) (val_move rfl) ?_
            refine vl_nil ?_
            exact ⟨ks.length - (j + 1), _, _, _, by omega, (by repeat (first | exact trivial | refine ⟨rfl, ?_⟩ | refine ⟨le_item rfl (by first | rfl | (congr 1; omega) | (simp; done) | (simp; omega)), ?_⟩)), (by repeat constructor), ⟨j + 1, by omega, rfl, rfl, rfl⟩⟩
          · (try replace hc3 := of_decide_eq_false hc3)
            refine vc_exit ?_
            refine vc_seq ?_
            refine vc_region ?_
            refine vl_val rfl (.some rfl) (val_move rfl) ?_
            refine vl_val rfl (.some rfl) (val_lenSl Try.runUnderlying58 rfl) ?_
            refine vl_val rfl (.some rfl) (val_eqv (v' := .bool true) (congrArg Value.bool (decide_eq_true (by have := segL_pos hgood; omega))) (val_gt rfl rfl)) ?_
            refine vl_val rfl (.some rfl) (val_move rfl) ?_
            refine vl_on rfl rfl rfl rfl ?_
            refine vl_val rfl (.some rfl) (val_move rfl) ?_
            refine vl_on rfl rfl rfl rfl ?_
            refine vl_val rfl (.some rfl) (val_move rfl) ?_
            refine vl_on rfl rfl rfl rfl ?_
            refine vl_callV rfl rfl (.some rfl) Try.call18 rfl (fun w hw => rSame Ax Ay cx cy (segL ⟨n, vs.map vcP, zs⟩) (segL ⟨n, vs.map vcP, zs⟩) w (rdw (rd_sl (by repeat constructor)) hw) (rdw (rd_sl (by repeat constructor)) hw)) ?_
            rw [show decide (segL ⟨n, vs.map vcP, zs⟩ = segL ⟨n, vs.map vcP, zs⟩) = true from decide_eq_true rfl]
            refine vl_val rfl (.some rfl) (val_pick rfl rfl) ?_
            refine vl_val rfl (.some rfl) (val_move rfl) ?_
            refine vl_on rfl rfl rfl rfl ?_
            refine vl_callV rfl rfl (.some rfl) Try.call7 rfl (fun w hw => gLives w) ?_
            refine vl_val rfl (.some rfl) (val_pick rfl rfl) ?_
            refine vl_val rfl (.some rfl) (val_assign rfl) ?_
            refine vl_nil ?_
            refine vc_ret ?_
            refine ⟨_, [], _, res1 Try.results4 rfl, .nil, ?_⟩
            rfl




abbrev Vq := Int × Int × ByteArray × Unit
def vqC (v : Vq) : List Value := [.int .i64 v.1] ++ ([.int .i64 v.2.1] ++ ([.string v.2.2.1] ++ []))
def toVk (v : Vq) : Vk := ⟨v.1, v.2.1, v.2.2.1⟩
theorem flat_vq (l : List Vq) : flat (l.map toVk) = l.flatMap vqC := by
  unfold flat
  rw [List.flatMap_map]
  rfl
def rwQ (s : Sl Vq) : Rw := (s.A, s.c, s.l.map toVk)
def slQ (s : Sl Vq) : List Value := [.slice s.A s.l.length s.c]
theorem row_vq : ∀ l : List (Sl Vq), (l.map rwQ).flatMap rowV = l.flatMap slQ
  | [] => rfl
  | s :: l => by
    rw [List.map_cons, List.flatMap_cons, List.flatMap_cons, row_vq l]
    show Value.slice s.A (s.l.map toVk).length s.c :: _ = Value.slice s.A s.l.length s.c :: _
    rw [List.length_map]
abbrev GoodQ (w : World) (s : Sl Vq) : Prop := Reads w s.A (s.l.flatMap vqC) ∧ s.l.length ≤ s.c ∧ s.l.length * 32 ≤ 140737488351232 ∧ ∀ v ∈ s.l, (-9223372036854775808 ≤ v.1 ∧ v.1 < 9223372036854775808) ∧ (-9223372036854775808 ≤ v.2.1 ∧ v.2.1 < 9223372036854775808) ∧ v.2.2.1.size ≤ 140737488351232 ∧ True
theorem rows_vq {w : World} {l : List (Sl Vq)} (h : ∀ s ∈ l, GoodQ w s) : (∀ q ∈ l.map rwQ, q.2.2.length ≤ 4611686018427387904) ∧ ∀ q ∈ l.map rwQ, Reads w q.1 (flat q.2.2) ∧ ∀ p ∈ q.2.2, WV p := by
  refine ⟨fun q hq => ?_, fun q hq => ?_⟩
  · obtain ⟨s, hs, rfl⟩ := List.mem_map.1 hq
    show (s.l.map toVk).length ≤ _
    rw [List.length_map]
    have := (h s hs).2.2.1; omega
  · obtain ⟨s, hs, rfl⟩ := List.mem_map.1 hq
    refine ⟨?_, fun p hp => ?_⟩
    · show Reads w s.A (flat (s.l.map toVk))
      rw [flat_vq]; exact (h s hs).1
    · obtain ⟨v, hv, rfl⟩ := List.mem_map.1 hp
      exact ((h s hs).2.2.2 v hv).2.1

theorem law_SegmentAlike (Ak : Option Addr) (ck : Nat) (ks : List Int) (A1 : Option Addr) (c1 : Nat) (R1 : List (Sl Vq)) (w : World)
    (hk : Reads w Ak (icells .i64 ks)) (k1 : ks.length ≤ ck) (k2 : ks.length * 8 ≤ 140737488351232) (k3 : ∀ n ∈ ks, -9223372036854775808 ≤ n ∧ n < 9223372036854775808)
    (hd1 : Reads w A1 (R1.flatMap slQ)) (a1 : R1.length ≤ c1) (a2 : R1.length * 24 ≤ 140737488351232) (a3 : ∀ s ∈ R1, GoodQ w s) :
    FnV Try.prog 4 [.slice Ak ks.length ck, .slice A1 R1.length c1] (.bool true) w := by
  have h := law_SegmentAlike0 Ak ck ks A1 c1 (R1.map rwQ) (by rw [List.length_map]; omega) (rows_vq a3).1 w hk (by rw [row_vq]; exact hd1) (rows_vq a3).2
  rw [List.length_map] at h
  exact h




end Go.Proofs.Ytdehjgpdcdjhjaa.K
