/- Walks of the program's functions, printed by a program of this session; Lean checks them. -/
import Derived.Test.YtibfngjfjddaiaaDref
namespace Go.Proofs.Ytibfngjfjddaiaa.K
open Go Go.RowKit Go.Proofs
set_option linter.unusedVariables false
set_option linter.unusedSimpArgs false


def newsT (kd : Int) (S : List Vk) : List Vk → List Vk → List Vk
  | [], acc => acc
  | p :: us, acc => if p ∈ S ∨ takesB kd p = false ∨ p ∈ acc then newsT kd S us acc else newsT kd S us (acc ++ [p])
theorem newsT_cons {kd : Int} {S us acc : List Vk} {p : Vk} : newsT kd S (p :: us) acc = if p ∈ S ∨ takesB kd p = false ∨ p ∈ acc then newsT kd S us acc else newsT kd S us (acc ++ [p]) := rfl
theorem newsT_app {kd : Int} {S : List Vk} : ∀ (us us' acc : List Vk), newsT kd S (us ++ us') acc = newsT kd S us' (newsT kd S us acc)
  | [], us', acc => rfl
  | q :: us, us', acc => by
    rw [List.cons_append, newsT_cons, newsT_cons]
    split
    · exact newsT_app us us' acc
    · exact newsT_app us us' _
theorem newsT_snoc {kd : Int} {S : List Vk} (us acc : List Vk) (p : Vk) : newsT kd S (us ++ [p]) acc = if p ∈ S ∨ takesB kd p = false ∨ p ∈ newsT kd S us acc then newsT kd S us acc else newsT kd S us acc ++ [p] := by
  rw [newsT_app]
  rfl
theorem newsT_ge {kd : Int} {S : List Vk} : ∀ (us acc : List Vk), acc.length ≤ (newsT kd S us acc).length ∧ (newsT kd S us acc).length ≤ acc.length + us.length
  | [], acc => by simp [newsT]
  | q :: us, acc => by
    unfold newsT
    split
    · have := newsT_ge (kd := kd) (S := S) us acc; simp only [List.length_cons]; omega
    · have := newsT_ge (kd := kd) (S := S) us (acc ++ [q]); simp only [List.length_append, List.length_cons, List.length_nil] at this ⊢; omega
theorem newsT_take {kd : Int} {S us : List Vk} (i : Nat) : (newsT kd S (us.take i) []).length ≤ (newsT kd S us []).length := by
  have := newsT_app (kd := kd) (S := S) (us.take i) (us.drop i) []
  rw [List.take_append_drop] at this
  rw [this]
  exact (newsT_ge _ _).1
def roomT (kd : Int) (vs us : List Vk) : Bool := decide (vs.length + (newsT kd vs us []).length ≤ 512)
theorem take_snoc {us : List Vk} {i : Nat} {p : Vk} (h : i < us.length) (hp : us.getD i z3 = p) : us.take (i + 1) = us.take i ++ [p] := by
  rw [List.take_add_one, ← hp]; simp [List.getD, List.getElem?_eq_getElem h]

theorem dadd_news {kd : Int} {vs us xs : List Vk} {p : Vk} (hx : xs = vs ++ newsT kd vs us []) (hl : xs.length ≤ 512) :
    ((dadd kd xs p).1.2 = 7 → 512 < vs.length + (newsT kd vs (us ++ [p]) []).length) ∧ ((dadd kd xs p).1.2 ≠ 7 → (dadd kd xs p).2 = vs ++ newsT kd vs (us ++ [p]) [] ∧ (dadd kd xs p).2.length ≤ 512) := by
  have hlen : xs.length = vs.length + (newsT kd vs us []).length := by rw [hx, List.length_append]
  have hmem : p ∈ xs ↔ p ∈ vs ∨ p ∈ newsT kd vs us [] := by rw [hx, List.mem_append]
  rw [newsT_snoc]
  by_cases ht : takesB kd p = false
  · have e : dadd kd xs p = ((0, 12), xs) := by unfold dadd; rw [if_pos ht]
    rw [e, if_pos (.inr (.inl ht))]
    exact ⟨fun h => by simp at h, fun _ => ⟨hx, hl⟩⟩
  · by_cases hm : p ∈ xs
    · have e : dadd kd xs p = ((((xs.idxOf p : Nat) : Int), 0), xs) := by unfold dadd; rw [if_neg ht, if_pos hm]
      rw [e, if_pos (by rcases hmem.1 hm with h | h; exact .inl h; exact .inr (.inr h))]
      exact ⟨fun h => by simp at h, fun _ => ⟨hx, hl⟩⟩
    · have hne : ¬ (p ∈ vs ∨ takesB kd p = false ∨ p ∈ newsT kd vs us []) := by
        intro h; rcases h with h | h | h; exact hm (hmem.2 (.inl h)); exact ht h; exact hm (hmem.2 (.inr h))
      by_cases hb : 512 ≤ xs.length
      · have e : dadd kd xs p = ((0, 7), xs) := by unfold dadd; rw [if_neg ht, if_neg hm, if_pos hb]
        rw [e, if_neg hne]
        exact ⟨fun _ => by simp only [List.length_append, List.length_cons, List.length_nil]; omega, fun h => by simp at h⟩
      · have e : dadd kd xs p = ((((xs.length : Nat) : Int), 0), xs ++ [p]) := by unfold dadd; rw [if_neg ht, if_neg hm, if_neg hb]
        rw [e, if_neg hne]
        exact ⟨fun h => by simp at h, fun _ => ⟨by rw [hx, List.append_assoc], by simp only [List.length_append, List.length_cons, List.length_nil]; omega⟩⟩

set_option maxRecDepth 20000 in
set_option maxHeartbeats 1000000 in
theorem dRoomT (r m : Nat) (kd : Int) (A : Option Addr) (c : Nat) (vs : List Vk) (hvs : vs.length ≤ 512) (L : Option Addr) (cl : Nat) (us : List Vk) (hus : us.length ≤ 4611686018427387904) (w : World) (hL : ReadsM w (fps [DC r m kd A vs.length c, DM m vs]) L (flat us)) : FnR Try.prog 19 [.pointer (some ⟨r, 0, none⟩), .slice L us.length cl] [DC r m kd A vs.length c, DM m vs] (.bool (roomT kd vs us)) w := by
  refine fn_enter Try.func19 rfl Try.ntmps19 rfl ?_
  refine vc_seq ?_
  refine vc_region ?_
  refine vl_val rfl (.some rfl) (val_assign rfl) ?_
  refine vl_nil ?_
  refine vc_seq ?_
  refine vc_seq ?_
  refine vc_region ?_
  refine vl_val rfl (.some rfl) (val_move rfl) ?_
  refine vl_callR [DC r m kd A vs.length c] rfl rfl (.some rfl) Try.call50 rfl (by repeat (first | exact .nil | (apply Sub.cons; · repeat (first | exact .head | apply Take.tail)))) (fun w hw => dMade r m kd A vs.length c w) ?_
  refine vl_val rfl (.some rfl) (val_not rfl) ?_
  refine vl_nil ?_
  refine vc_cond rfl (fun h => by cases h) (fun _ => ?_)
  refine vc_skip ?_
  refine vc_seq ?_
  refine vc_region ?_
  refine vl_makeMap vk rfl rfl (.some rfl) (fun r13 => ?_)
  refine vl_val rfl (.some rfl) (val_assign rfl) ?_
  refine vl_nil ?_
  refine vc_seq ?_
  refine vc_seq ?_
  refine vc_region ?_
  refine vl_val rfl (.some rfl) (val_move rfl) ?_
  refine vl_val rfl (.some rfl) (val_lenSl Try.runUnderlying22 rfl) ?_
  refine vl_val rfl (.some rfl) (val_move rfl) ?_
  refine vl_nil ?_
  refine vc_block ?_
  refine vc_loopw (fun k E H => ∃ (i : Nat) (ks : List Vk) (ns : List Int), i ≤ us.length ∧ k = us.length - i ∧ ks = newsT kd vs (us.take i) [] ∧ ks.length = ns.length ∧ E = [(0, .pointer (some ⟨r, 0, none⟩)), (5, .map (some r13)), (14, .slice L us.length cl), (15, .int .i64 us.length), (16, .int .i64 i)] ∧ H = [DC r m kd A vs.length c, DM m vs, mp vk r13 ks (ns.map (Value.int .i64))]) (us.length) ⟨_, _, _, ⟨0, [], [], by omega, rfl, rfl, rfl, rfl, rfl⟩, (by repeat (first | exact trivial | refine ⟨rfl, ?_⟩ | refine ⟨le_item rfl (by first | rfl | (congr 1; omega) | (simp; done) | (simp; omega)), ?_⟩)), (by repeat (first | exact .nil | (apply Sub.cons; · repeat (first | exact .head | apply Take.tail))))⟩ ?_
  intro k E H hI
  obtain ⟨i, ks, ns, hi, rfl, hks0, hks, rfl, rfl⟩ := hI
  refine vc_seq ?_
  refine vc_region ?_
  refine vl_val rfl (.some rfl) (val_lt rfl rfl) ?_
  refine vl_nil ?_
  refine vc_seq ?_
  refine vc_cond rfl (fun hc1 => ?_) (fun hc1 => ?_)
  · (try replace hc1 := of_decide_eq_true hc1)
    have hf := flat_at us i (by omega)
    obtain ⟨p, hp⟩ : ∃ p, us.getD i z3 = p := ⟨_, rfl⟩
    rw [hp] at hf
    have htake := take_snoc (us := us) (i := i) (p := p) (by omega) hp
    refine vc_skip ?_
    refine vc_seq ?_
    refine vc_block ?_
    refine vc_seq ?_
    refine vc_region ?_
    refine vl_val rfl (.some rfl) (val_indexAddr Try.runUnderlying22 Try.sizeOf27 rfl rfl (rd_oldM hL) (by omega) (by omega) (by rw [vflat_len]; omega)) ?_
    refine vl_val rfl (.some rfl) (val_loadAgg Try.isAgg27 Try.sizeOf27 rfl (rd_part (us := [.int .i64 p.k, .int .i64 p.n, .string p.s]) (rd_oldM hL) hf) rfl) ?_
    refine vl_alloc rfl rfl (.some rfl) Try.zeroValue27 (fun r7 => ?_)
    first | refine vl_store rfl rfl .none rfl rfl Try.sizeOf27 rfl (by repeat (first | exact .head | apply In.tail | apply Take.tail | apply Upd.tail)) (by first | decide | exact Nat.le_refl _ | (simp; omega)) ?_ | refine vl_storeSl rfl rfl .none rfl rfl Try.sizeOf27 rfl (by simp [Value.cells]) (by repeat (first | exact .head | apply In.tail | apply Take.tail | apply Upd.tail)) (by first | decide | (simp [Value.cells]; omega)) ?_
    refine vl_nil ?_
    refine vc_seq ?_
    refine vc_draws [0, 1, 2, 3, 4, 5, 6, 7, 8, 9, 10] [] [0, 1, 2, 3, 4, 5, 6, 7, 8, 9, 10] rfl (by kernel_rfl) (fun _ _ _ h => h) ?_
    refine vd_val rfl rfl rfl (.some rfl) (val_move rfl) ?_
    refine vd_val rfl rfl rfl (.some rfl) (val_nil rfl rfl) ?_
    refine vd_val rfl rfl rfl (.some rfl) (by first | exact val_fieldAddr Try.runUnderlying52 rfl Try.sizeOf50 rfl | exact val_fieldAddrR Try.runUnderlying52 rfl Try.sizeOf50 rfl) ?_
    refine vd_val rfl rfl rfl (.some rfl) (val_load Try.isAgg50 rfl (by first | exact cell_cells (by repeat (first | exact .head | apply In.tail | apply Take.tail | apply Upd.tail)) rfl | exact cell_rd (rd_sl (by repeat (first | exact .head | apply In.tail | apply Take.tail | apply Upd.tail))) (by first | exact bcells_get (by omega) | exact icells_get (by omega) | exact tcells_get (by omega)))) ?_
    refine vd_val rfl rfl rfl (.some rfl) (val_loadAgg Try.isAgg27 Try.sizeOf27 rfl (by first | exact cells_whole (by repeat (first | exact .head | apply In.tail | apply Take.tail | apply Upd.tail)) | exact cells_part (by repeat (first | exact .head | apply In.tail | apply Take.tail | apply Upd.tail)) rfl) rfl) ?_
    refine vd_val rfl rfl rfl (.some rfl) (val_lookupIds (k := p) kT rfl rfl (by repeat (first | exact .head | apply In.tail | apply Take.tail | apply Upd.tail))) ?_
    refine vd_val rfl rfl rfl (.some rfl) (val_move rfl) ?_
    refine vd_val rfl rfl rfl (.some rfl) (val_extract rfl rfl) ?_
    refine vd_val rfl rfl rfl (.some rfl) (val_extract rfl rfl) ?_
    refine vd_val rfl rfl rfl (.some rfl) (val_assign rfl) ?_
    refine vd_val rfl rfl rfl (.some rfl) (val_assign rfl) ?_
    refine vd_nil ?_
    refine vc_seq ?_
    refine vc_region ?_
    refine vl_val rfl (.some rfl) (val_move rfl) ?_
    refine vl_val rfl (.some rfl) (val_not rfl) ?_
    refine vl_val rfl (.some rfl) (val_move rfl) ?_
    refine vl_split (t := 31) rfl (fun hg31 => ?_) (fun hg31 => ?_)
    · (try replace hg31 := of_decide_eq_true hg31)
      have hout : p ∉ vs := by simpa using hg31
      refine vl_on rfl rfl rfl rfl ?_
      refine vl_val rfl (.some rfl) (val_move rfl) ?_
      refine vl_on rfl rfl rfl rfl ?_
      refine vl_val rfl (.some rfl) (val_loadAgg Try.isAgg27 Try.sizeOf27 rfl (by first | exact cells_whole (by repeat (first | exact .head | apply In.tail | apply Take.tail | apply Upd.tail)) | exact cells_part (by repeat (first | exact .head | apply In.tail | apply Take.tail | apply Upd.tail)) rfl) rfl) ?_
      refine vl_on rfl rfl rfl rfl ?_
      refine vl_callR [DC r m kd A vs.length c] rfl rfl (.some rfl) Try.call51 rfl (by repeat (first | exact .nil | (apply Sub.cons; · repeat (first | exact .head | apply Take.tail)))) (fun w hw => dTakes r m kd A vs.length c p w) ?_
      refine vl_val rfl (.some rfl) (val_pick rfl rfl) ?_
      refine vl_nil ?_
      refine vc_cond rfl (fun hc2 => ?_) (fun hc2 => ?_)
      · (try replace hc2 := of_decide_eq_true hc2)
        
        obtain ⟨x, hx⟩ := ints_val (x := p) (ks := ks) (ns := ns)
        have hx2 := (kval_more (x := p) hks).trans hx
        obtain ⟨ms, hms, hml⟩ := vmore_is (x := p) (ks := ks) (ns := ns)
        refine vc_draws2 [0, 1, 2, 3] [6] [0, 1, 2, 3, 4, 5, 6] (fun w' => Holds w (fps [DC r m kd A vs.length c, DM m vs]) [cells r7 [.int .i64 p.k, .int .i64 p.n, .string p.s] 27, DC r m kd A vs.length c, DM m vs, mp vk r13 ks (ns.map (Value.int .i64))] w' ∨ Holds w (fps [DC r m kd A vs.length c, DM m vs]) [cells r7 [.int .i64 p.k, .int .i64 p.n, .string p.s] 27, DC r m kd A vs.length c, DM m vs, mp vk r13 (kmore p ks (ns.map (Value.int .i64))) (vmore p ks (ns.map (Value.int .i64)) (.int .i64 0))] w') (fun w' h => .inl h) rfl (by kernel_rfl) (fun _ _ _ h => h) ?_
        refine vd2_val rfl rfl rfl (.some rfl) (val_move rfl) (val_move rfl) ?_
        refine vd2_val (v := vk p) rfl rfl rfl (.some rfl) (val_loadAgg Try.isAgg27 Try.sizeOf27 rfl (cells_whole .head) rfl) (val_loadAgg Try.isAgg27 Try.sizeOf27 rfl (cells_whole .head) rfl) ?_
        refine vd2_val (v := .int .i64 x) rfl rfl rfl (.some rfl) (val_eqv hx (val_lookup (k := p) kT rfl rfl (by repeat (first | exact .head | apply In.tail | apply Take.tail | apply Upd.tail)))) (val_eqv hx2 (val_lookup (k := p) kT rfl rfl (by repeat (first | exact .head | apply In.tail | apply Take.tail | apply Upd.tail)))) ?_
        refine vd2_val rfl rfl rfl (.some rfl) (val_add rfl rfl rfl) (val_add rfl rfl rfl) ?_
        refine vd2_op rfl rfl ?_
        refine vl_mapEntry (k := p) kT rfl rfl (.some rfl) rfl rfl (by repeat (first | exact .head | apply In.tail | apply Take.tail | apply Upd.tail)) ?_
        refine vl_nil ?_
        refine ⟨fun _ w' h => .inr h, ?_⟩
        refine vd2_op rfl rfl ?_
        refine vl_val rfl (.some rfl) (val_extract rfl rfl) ?_
        refine vl_nil ?_
        refine ⟨fun _ w' h => .inr h, ?_⟩
        refine vd2_op rfl rfl ?_
        refine vl_entryStore (vs := vmore p ks (ns.map (Value.int .i64)) (.int .i64 0)) rfl rfl .none rfl rfl rfl (by rw [hms, List.length_map, hml hks]; exact kpos_lt hks) (by repeat (first | exact .head | apply In.tail | apply Take.tail | apply Upd.tail)) ?_
        rw [hms, set_ints]
        refine vl_nil ?_
        refine ⟨fun h => (by cases h), ?_⟩
        refine vd2_nil ?_
        have hnext : kmore p ks (ns.map (Value.int .i64)) = newsT kd vs (us.take (i + 1)) [] := by
          rw [kmore_is hks, htake, newsT_snoc, ← hks0]
          by_cases hm : p ∈ ks
          · rw [if_pos hm, if_pos (.inr (.inr hm))]
          · rw [if_neg hm, if_neg (by simp [hout, hm, hc2])]
        have hlnext := hml hks
        rw [← List.length_set (i := kpos p ks (ns.map (Value.int .i64))) (a := IntKind.i64.wrap (x + 1))] at hlnext
        replace hlnext := hlnext.symm
        refine vc_region ?_
        refine vl_val rfl (.some rfl) (val_add rfl rfl (by first | exact w_i64 (by omega) (by omega) | rfl)) ?_
        refine vl_val rfl (.some rfl) (val_move rfl) ?_
        refine vl_nil ?_
        exact ⟨us.length - (i + 1), _, _, _, by omega, (by repeat (first | exact trivial | refine ⟨rfl, ?_⟩ | refine ⟨le_item rfl (by first | rfl | (congr 1; omega) | (simp; done) | (simp; omega)), ?_⟩)), (by repeat (first | exact .nil | (apply Sub.cons; · repeat (first | exact .head | apply Take.tail)))), ⟨i + 1, _, _, by omega, rfl, hnext, hlnext, rfl, rfl⟩⟩
      · (try replace hc2 := of_decide_eq_false hc2)
        replace hc2 : takesB kd p = false := by simpa using hc2
        have hnext : ks = newsT kd vs (us.take (i + 1)) [] := by rw [htake, newsT_snoc, if_pos (.inr (.inl hc2)), ← hks0]
        have hlnext := hks
        refine vc_skip ?_
        refine vc_region ?_
        refine vl_val rfl (.some rfl) (val_add rfl rfl (by first | exact w_i64 (by omega) (by omega) | rfl)) ?_
        refine vl_val rfl (.some rfl) (val_move rfl) ?_
        refine vl_nil ?_
        exact ⟨us.length - (i + 1), _, _, _, by omega, (by repeat (first | exact trivial | refine ⟨rfl, ?_⟩ | refine ⟨le_item rfl (by first | rfl | (congr 1; omega) | (simp; done) | (simp; omega)), ?_⟩)), (by repeat (first | exact .nil | (apply Sub.cons; · repeat (first | exact .head | apply Take.tail)))), ⟨i + 1, _, _, by omega, rfl, hnext, hlnext, rfl, rfl⟩⟩
    · (try replace hg31 := of_decide_eq_false hg31)
      have hin : p ∈ vs := by simpa using hg31
      have hnext : ks = newsT kd vs (us.take (i + 1)) [] := by rw [htake, newsT_snoc, if_pos (.inl hin), ← hks0]
      have hlnext := hks
      refine vl_off rfl rfl rfl rfl (.some rfl) ?_
      refine vl_off rfl rfl rfl rfl (.some rfl) ?_
      refine vl_off rfl rfl rfl rfl (.some rfl) ?_
      refine vl_val rfl (.some rfl) (val_pick rfl rfl) ?_
      refine vl_nil ?_
      refine vc_cond rfl (fun h => by cases h) (fun _ => ?_)
      refine vc_skip ?_
      refine vc_region ?_
      refine vl_val rfl (.some rfl) (val_add rfl rfl (by first | exact w_i64 (by omega) (by omega) | rfl)) ?_
      refine vl_val rfl (.some rfl) (val_move rfl) ?_
      refine vl_nil ?_
      exact ⟨us.length - (i + 1), _, _, _, by omega, (by repeat (first | exact trivial | refine ⟨rfl, ?_⟩ | refine ⟨le_item rfl (by first | rfl | (congr 1; omega) | (simp; done) | (simp; omega)), ?_⟩)), (by repeat (first | exact .nil | (apply Sub.cons; · repeat (first | exact .head | apply Take.tail)))), ⟨i + 1, _, _, by omega, rfl, hnext, hlnext, rfl, rfl⟩⟩
  · (try replace hc1 := of_decide_eq_false hc1)
    obtain rfl : i = us.length := by omega
    rw [List.take_length] at hks0
    have hkl := congrArg List.length hks0
    have hfl := newsT_ge (kd := kd) (S := vs) us []
    simp only [List.length_nil, Nat.zero_add] at hfl
    refine vc_exit ?_
    refine vc_seq ?_
    refine vc_draws [0, 1, 2, 3, 4, 5, 6, 7, 8, 9] [] [0, 1, 2, 3, 4, 5, 6, 7, 8, 9] rfl (by kernel_rfl) (fun _ _ _ h => h) ?_
    refine vd_val rfl rfl rfl (.some rfl) (val_move rfl) ?_
    refine vd_val rfl rfl rfl (.some rfl) (val_nil rfl rfl) ?_
    refine vd_val rfl rfl rfl (.some rfl) (by first | exact val_fieldAddr Try.runUnderlying52 rfl Try.sizeOf22 rfl | exact val_fieldAddrR Try.runUnderlying52 rfl Try.sizeOf22 rfl) ?_
    refine vd_val rfl rfl rfl (.some rfl) (val_load Try.isAgg22 rfl (by first | exact cell_cells (by repeat (first | exact .head | apply In.tail | apply Take.tail | apply Upd.tail)) rfl | exact cell_rd (rd_sl (by repeat (first | exact .head | apply In.tail | apply Take.tail | apply Upd.tail))) (by first | exact bcells_get (by omega) | exact icells_get (by omega) | exact tcells_get (by omega)))) ?_
    refine vd_val rfl rfl rfl (.some rfl) (val_lenSl Try.runUnderlying22 rfl) ?_
    refine vd_val rfl rfl rfl (.some rfl) (val_move rfl) ?_
    refine vd_val rfl rfl rfl (.some rfl) (val_lenMap Try.runUnderlying50 rfl (by repeat (first | exact .head | apply In.tail | apply Take.tail | apply Upd.tail))) ?_
    refine vd_val rfl rfl rfl (.some rfl) (val_add rfl rfl (by first | exact w_i64 (by omega) (by omega) | rfl)) ?_
    refine vd_val rfl rfl rfl (.some rfl) (val_le rfl rfl) ?_
    refine vd_val rfl rfl rfl (.some rfl) (val_assign rfl) ?_
    refine vd_nil ?_
    refine vc_ret ?_
    refine ⟨_, [DC r m kd A vs.length c, DM m vs], _, res1 Try.results19 rfl, (by repeat (first | exact .nil | (apply Sub.cons; · repeat (first | exact .head | apply Take.tail)))), ?_⟩
    refine ⟨?_, rfl⟩
    unfold roomT
    congr 1
    rw [decide_eq_decide]
    omega
set_option maxRecDepth 20000 in
set_option maxHeartbeats 1000000 in
theorem xRoom (r : Nat) (kd : Int) (A : Option Addr) (c : Nat) (vs : List Vk) (hvs : vs.length ≤ 512) (L : Option Addr) (cl : Nat) (us : List Vk) (hk1 : 1 ≤ kd) (hk2 : kd ≤ 4) (hus : us.length ≤ 4611686018427387904) (hw : ∀ p ∈ us, WV p) (w : World) (hL : ReadsM w (fps [RC r kd A vs.length c, DS A c vs]) L (flat us)) : FnR Try.prog 29 [.pointer (some ⟨r, 0, none⟩), .slice L us.length cl] [RC r kd A vs.length c, DS A c vs] (.bool (roomT kd vs us)) w := by
  refine fn_enter Try.func29 rfl Try.ntmps29 rfl ?_
  refine vc_seq ?_
  refine vc_region ?_
  refine vl_val rfl (.some rfl) (val_assign rfl) ?_
  refine vl_nil ?_
  refine vc_seq ?_
  refine vc_region ?_
  refine vl_val rfl (.some rfl) (val_move rfl) ?_
  refine vl_call (C := [RC r kd A vs.length c, DS A c vs]) rfl rfl (.some rfl) Try.call24 rfl (by repeat (first | exact .nil | (apply Sub.cons; · repeat (first | exact .head | apply Take.tail)))) (fun w hw => xCopy r kd A c vs hvs w) (fun v H' h => ?_)
  obtain ⟨r2, A2, c2, rfl, rfl⟩ := h
  show VL _ _ _ _ _ (_ :: _ :: _ :: _ :: _)
  refine vl_val rfl (.some rfl) (val_assign rfl) ?_
  refine vl_nil ?_
  refine vc_seq ?_
  refine vc_seq ?_
  refine vc_region ?_
  refine vl_val rfl (.some rfl) (val_move rfl) ?_
  refine vl_val rfl (.some rfl) (val_lenSl Try.runUnderlying22 rfl) ?_
  refine vl_val rfl (.some rfl) (val_move rfl) ?_
  refine vl_nil ?_
  refine vc_block ?_
  refine vc_loopw (fun k E H => ∃ (i : Nat) (A3 : Option Addr) (c3 : Nat) (xs : List Vk), i ≤ us.length ∧ k = us.length - i ∧ xs = vs ++ newsT kd vs (us.take i) [] ∧ xs.length ≤ 512 ∧ E = [(5, .pointer (some ⟨r2, 0, none⟩)), (12, .slice L us.length cl), (13, .int .i64 us.length), (14, .int .i64 i)] ∧ H = [RC r kd A vs.length c, DS A c vs, RC r2 kd A3 xs.length c3, DS A3 c3 xs]) (us.length) ⟨_, _, _, ⟨0, A2, c2, vs, by omega, rfl, by simp [newsT], hvs, rfl, rfl⟩, (by repeat (first | exact trivial | refine ⟨rfl, ?_⟩ | refine ⟨le_item rfl (by first | rfl | (congr 1; omega) | (simp; done) | (simp; omega)), ?_⟩)), (by repeat (first | exact .nil | (apply Sub.cons; · repeat (first | exact .head | apply Take.tail))))⟩ ?_
  intro k E H hI
  obtain ⟨i, A3, c3, xs, hi, rfl, hx, hxl, rfl, rfl⟩ := hI
  refine vc_seq ?_
  refine vc_region ?_
  refine vl_val rfl (.some rfl) (val_lt rfl rfl) ?_
  refine vl_nil ?_
  refine vc_seq ?_
  refine vc_cond rfl (fun hc0 => ?_) (fun hc0 => ?_)
  · (try replace hc0 := of_decide_eq_true hc0)
    have hf := flat_at us i (by omega)
    obtain ⟨p, hp⟩ : ∃ p, us.getD i z3 = p := ⟨_, rfl⟩
    rw [hp] at hf
    have htake := take_snoc (us := us) (i := i) (p := p) (by omega) hp
    have hwp : WV p := hw p (by rw [← hp]; simp [List.getD, List.getElem?_eq_getElem (show i < us.length by omega)])
    refine vc_skip ?_
    refine vc_seq ?_
    refine vc_block ?_
    refine vc_seq ?_
    refine vc_region ?_
    refine vl_val rfl (.some rfl) (val_indexAddr Try.runUnderlying22 Try.sizeOf27 rfl rfl (rd_oldM hL) (by omega) (by omega) (by rw [vflat_len]; omega)) ?_
    refine vl_val rfl (.some rfl) (val_loadAgg Try.isAgg27 Try.sizeOf27 rfl (rd_part (us := [.int .i64 p.k, .int .i64 p.n, .string p.s]) (rd_oldM hL) hf) rfl) ?_
    refine vl_alloc rfl rfl (.some rfl) Try.zeroValue27 (fun r7 => ?_)
    first | refine vl_store rfl rfl .none rfl rfl Try.sizeOf27 rfl (by repeat (first | exact .head | apply In.tail | apply Take.tail | apply Upd.tail)) (by first | decide | exact Nat.le_refl _ | (simp; omega)) ?_ | refine vl_storeSl rfl rfl .none rfl rfl Try.sizeOf27 rfl (by simp [Value.cells]) (by repeat (first | exact .head | apply In.tail | apply Take.tail | apply Upd.tail)) (by first | decide | (simp [Value.cells]; omega)) ?_
    refine vl_nil ?_
    refine vc_seq ?_
    refine vc_region ?_
    refine vl_val rfl (.some rfl) (val_move rfl) ?_
    refine vl_val rfl (.some rfl) (val_loadAgg Try.isAgg27 Try.sizeOf27 rfl (by first | exact cells_whole (by repeat (first | exact .head | apply In.tail | apply Take.tail | apply Upd.tail)) | exact cells_part (by repeat (first | exact .head | apply In.tail | apply Take.tail | apply Upd.tail)) rfl) rfl) ?_
    refine vl_call (C := [RC r2 kd A3 xs.length c3, DS A3 c3 xs]) rfl rfl (.some rfl) Try.call26 rfl (by repeat (first | exact .nil | (apply Sub.cons; · repeat (first | exact .head | apply Take.tail)))) (fun w hw => xAdd r2 kd A3 c3 xs hxl p hk1 hk2 hwp.1 hwp.2 w) (fun v H' h => ?_)
    obtain ⟨A4, c4, rfl, rfl⟩ := h
    have hs := dadd_news (kd := kd) (vs := vs) (us := us.take i) (p := p) hx hxl
    rw [← htake] at hs
    generalize dadd kd xs p = q at hs ⊢
    obtain ⟨⟨id, er⟩, xs2⟩ := q
    dsimp only at hs
    show VL _ _ _ _ ((21, .tuple #[.int .i64 id, .int .i64 er]) :: _) (RC r2 kd A4 xs2.length c4 :: DS A4 c4 xs2 :: _)
    refine vl_val rfl (.some rfl) (val_move rfl) ?_
    refine vl_val rfl (.some rfl) (val_extract rfl rfl) ?_
    refine vl_val rfl (.some rfl) (val_extract rfl rfl) ?_
    refine vl_val rfl (.some rfl) (val_assign rfl) ?_
    refine vl_val rfl (.some rfl) (val_assign rfl) ?_
    refine vl_nil ?_
    refine vc_seq ?_
    refine vc_region ?_
    refine vl_val rfl (.some rfl) (val_move rfl) ?_
    refine vl_val rfl (.some rfl) (val_eq rfl rfl) ?_
    refine vl_nil ?_
    refine vc_cond rfl (fun hc1 => ?_) (fun hc1 => ?_)
    · (try replace hc1 := of_decide_eq_true hc1)
      have hmo := newsT_take (kd := kd) (S := vs) (us := us) (i + 1)
      have hbig := hs.1 (by omega)
      refine vc_seq ?_
      refine vc_region ?_
      refine vl_val rfl (.some rfl) (val_assign rfl) ?_
      refine vl_nil ?_
      refine vc_ret ?_
      refine ⟨_, [RC r kd A vs.length c, DS A c vs], _, res1 Try.results29 rfl, (by repeat (first | exact .nil | (apply Sub.cons; · repeat (first | exact .head | apply Take.tail)))), ?_⟩
      refine ⟨?_, rfl⟩
      unfold roomT
      rw [decide_eq_false (by omega)]
    · (try replace hc1 := of_decide_eq_false hc1)
      obtain ⟨hx2, hxl2⟩ := hs.2 (by omega)
      refine vc_skip ?_
      refine vc_region ?_
      refine vl_val rfl (.some rfl) (val_add rfl rfl (by first | exact w_i64 (by omega) (by omega) | rfl)) ?_
      refine vl_val rfl (.some rfl) (val_move rfl) ?_
      refine vl_nil ?_
      exact ⟨us.length - (i + 1), _, _, _, by omega, (by repeat (first | exact trivial | refine ⟨rfl, ?_⟩ | refine ⟨le_item rfl (by first | rfl | (congr 1; omega) | (simp; done) | (simp; omega)), ?_⟩)), (by repeat (first | exact .nil | (apply Sub.cons; · repeat (first | exact .head | apply Take.tail)))), ⟨i + 1, A4, c4, xs2, by omega, rfl, hx2, hxl2, rfl, rfl⟩⟩
  · (try replace hc0 := of_decide_eq_false hc0)
    obtain rfl : i = us.length := by omega
    rw [List.take_length] at hx
    have hxl2 := congrArg List.length hx
    refine vc_exit ?_
    refine vc_seq ?_
    refine vc_region ?_
    refine vl_val rfl (.some rfl) (val_assign rfl) ?_
    refine vl_nil ?_
    refine vc_ret ?_
    refine ⟨_, [RC r kd A vs.length c, DS A c vs], _, res1 Try.results29 rfl, (by repeat (first | exact .nil | (apply Sub.cons; · repeat (first | exact .head | apply Take.tail)))), ?_⟩
    refine ⟨?_, rfl⟩
    unfold roomT
    rw [decide_eq_true (by rw [List.length_append] at hxl2; omega)]

end Go.Proofs.Ytibfngjfjddaiaa.K
