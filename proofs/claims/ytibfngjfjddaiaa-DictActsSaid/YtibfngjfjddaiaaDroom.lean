/- Walks of the program's functions, printed by a program of this session; Lean checks them. -/
import Derived.Test.YtibfngjfjddaiaaDnone
import Derived.Test.YtibfngjfjddaiaaKq
namespace Go.Proofs.Ytibfngjfjddaiaa.K
open Go Go.RowKit Go.Proofs
set_option linter.unusedVariables false
set_option linter.unusedSimpArgs false

/-- How many of us are new to S. -/
def fresh (S : List Vk) : List Vk → Nat
  | [] => 0
  | p :: us => if p ∈ S then fresh S us else 1 + fresh (S ++ [p]) us
/-- The new ones themselves. -/
def news (S : List Vk) : List Vk → List Vk → List Vk
  | [], acc => acc
  | p :: us, acc => if p ∈ S ∨ p ∈ acc then news S us acc else news S us (acc ++ [p])
theorem fresh_alike {us : List Vk} : ∀ {S S' : List Vk}, (∀ p, p ∈ S ↔ p ∈ S') → fresh S us = fresh S' us := by
  induction us with
  | nil => intros; rfl
  | cons p us ih =>
    intro S S' h
    unfold fresh
    by_cases hp : p ∈ S
    · rw [if_pos hp, if_pos ((h p).1 hp), ih h]
    · rw [if_neg hp, if_neg (fun h' => hp ((h p).2 h')), ih (S' := S' ++ [p]) (fun q => by simp [h q])]
theorem news_len {S : List Vk} : ∀ (us acc : List Vk), (news S us acc).length = acc.length + fresh (S ++ acc) us
  | [], acc => by simp [news, fresh]
  | p :: us, acc => by
    unfold news fresh
    by_cases hp : p ∈ S ∨ p ∈ acc
    · rw [if_pos hp, if_pos (by simpa using hp)]
      exact news_len us acc
    · rw [if_neg hp, if_neg (by simpa using hp), news_len us (acc ++ [p])]
      simp only [List.length_append, List.length_cons, List.length_nil, List.append_assoc]
      omega
theorem news_snoc {S : List Vk} : ∀ (us acc : List Vk) (p : Vk), news S (us ++ [p]) acc = if p ∈ S ∨ p ∈ news S us acc then news S us acc else news S us acc ++ [p]
  | [], acc, p => by by_cases h : p ∈ S ∨ p ∈ acc <;> simp [news, h]
  | q :: us, acc, p => by
    simp only [List.cons_append]
    unfold news
    split
    · rw [news_snoc us acc p]
    · rw [news_snoc us _ p]
/-- Room for us: as many as are new. -/
theorem fresh_le (S us : List Vk) : fresh S us ≤ us.length := by
  induction us generalizing S with
  | nil => exact Nat.le_refl _
  | cons p us ih => unfold fresh; split; exact Nat.le_succ_of_le (ih S); have := ih (S ++ [p]); simp only [List.length_cons]; omega
theorem val_eqv {X : Cx} {E : Env} {H : List Chunk} {op : Op} {ty : TypeId} {v v' : Value} (h : v = v') (hv : Val X E H op ty v) : Val X E H op ty v' := h ▸ hv
def roomB (vs us : List Vk) : Bool := decide (vs.length + fresh vs us ≤ 512)
theorem ints_val {x : Vk} {ks : List Vk} {ns : List Int} : ∃ a : Int, kval x ks (ns.map (Value.int .i64)) (.int .i64 0) = .int .i64 a := by
  unfold kval
  cases h : kfind x ks (ns.map (Value.int .i64)) 0 with
  | none => exact ⟨0, rfl⟩
  | some p =>
    have := (kfind_at _ _ _ _ h).2.2
    rw [List.getElem?_map] at this
    cases e : ns[p.1 - 0]? with
    | none => rw [e] at this; cases this
    | some a => rw [e] at this; simp at this; exact ⟨a, this.symm⟩
theorem kfind_mem {x : Vk} : ∀ {ks : List Vk} {vs : List Value} {i : Nat}, ks.length = vs.length → ((kfind x ks vs i).isSome = true ↔ x ∈ ks)
  | [], [], _, _ => by simp [kfind]
  | [], _ :: _, _, h => by simp at h
  | _ :: _, [], _, h => by simp at h
  | k :: ks, v :: vs, i, h => by
    unfold kfind
    by_cases e : x = k
    · simp [e]
    · rw [if_neg e, kfind_mem (by simpa using h)]; simp [e]
theorem kmore_is {x : Vk} {ks : List Vk} {ns : List Int} (h : ks.length = ns.length) : kmore x ks (ns.map (Value.int .i64)) = (if x ∈ ks then ks else ks ++ [x]) := by
  unfold kmore
  have := kfind_mem (x := x) (i := 0) (show ks.length = (ns.map (Value.int .i64)).length by simpa using h)
  by_cases hm : x ∈ ks
  · rw [if_pos (this.2 hm), if_pos hm]
  · rw [if_neg (fun h' => hm (this.1 h')), if_neg hm]
theorem vmore_is {x : Vk} {ks : List Vk} {ns : List Int} : ∃ ms : List Int, vmore x ks (ns.map (Value.int .i64)) (.int .i64 0) = ms.map (Value.int .i64) ∧ (ks.length = ns.length → ms.length = (kmore x ks (ns.map (Value.int .i64))).length) := by
  unfold vmore kmore
  split
  · exact ⟨ns, rfl, fun h => h.symm⟩
  · exact ⟨ns ++ [0], by simp, fun h => by simp [h]⟩
theorem kpos_lt {x : Vk} {ks : List Vk} {ns : List Int} (h : ks.length = ns.length) : kpos x ks (ns.map (Value.int .i64)) < (kmore x ks (ns.map (Value.int .i64))).length := by
  unfold kpos kmore
  cases e : kfind x ks (ns.map (Value.int .i64)) 0 with
  | none => simp
  | some p =>
    have := (kfind_at _ _ _ _ e).2.1
    have := (List.getElem?_eq_some_iff.1 this).1
    simpa using this
theorem kval_more {x : Vk} {ks : List Vk} {ns : List Int} (h : ks.length = ns.length) : kval x (kmore x ks (ns.map (Value.int .i64))) (vmore x ks (ns.map (Value.int .i64)) (.int .i64 0)) (.int .i64 0) = kval x ks (ns.map (Value.int .i64)) (.int .i64 0) := by
  unfold kmore vmore
  by_cases hs : (kfind x ks (ns.map (Value.int .i64)) 0).isSome = true
  · rw [if_pos hs, if_pos hs]
  · rw [if_neg hs, if_neg hs]
    have hn : kfind x ks (ns.map (Value.int .i64)) 0 = none := by simpa using hs
    have : ∀ (ks : List Vk) (vs : List Value) (i : Nat), ks.length = vs.length → kfind x ks vs i = none → kfind x (ks ++ [x]) (vs ++ [.int .i64 0]) i = some (i + ks.length, .int .i64 0) := by
      intro ks
      induction ks with
      | nil => intro vs i hl _; cases vs with
        | nil => simp [kfind]
        | cons => simp at hl
      | cons k ks ih => intro vs i hl hk; cases vs with
        | nil => simp at hl
        | cons v vs =>
          simp only [List.cons_append]
          unfold kfind at hk ⊢
          split at hk
          · cases hk
          · rename_i e
            rw [if_neg e, ih vs (i + 1) (by simpa using hl) hk]
            simp; omega
    unfold kval
    rw [this _ _ 0 (by simpa using h) hn, hn]
theorem set_ints {ms : List Int} {i : Nat} {a : Int} : (ms.map (Value.int .i64)).set i (.int .i64 a) = (ms.set i a).map (Value.int .i64) := by simp

set_option maxRecDepth 20000 in
set_option maxHeartbeats 1000000 in
theorem dRoom (r m : Nat) (kd : Int) (A : Option Addr) (c : Nat) (vs : List Vk) (hvs : vs.length ≤ 512) (L : Option Addr) (cl : Nat) (us : List Vk) (hus : us.length ≤ 4611686018427387904) (htk : ∀ p ∈ us, takesB kd p = true) (w : World) : FnR Try.prog 19 [.pointer (some ⟨r, 0, none⟩), .slice L us.length cl] [DC r m kd A vs.length c, DM m vs, DS L cl us] (.bool (roomB vs us)) w := by
  refine fn_enter Try.func19 rfl Try.ntmps19 rfl ?_
  refine vc_seq ?_
  refine vc_region ?_
  refine vl_val rfl (.some rfl) (val_assign rfl) ?_
  refine vl_nil ?_
  refine vc_seq ?_
  refine vc_seq ?_
  refine vc_region ?_
  refine vl_val rfl (.some rfl) (val_move rfl) ?_
  refine vl_callR [DC r m kd A vs.length c] rfl rfl (.some rfl) Try.call50 rfl (by repeat (first | exact .nil | (apply Sub.cons; · repeat (first | exact .head | apply Take.tail)))) (fun w hw => dMade r m kd A vs.length c w) ?_
  refine vl_val rfl (.some rfl) (val_not rfl) ?_
  refine vl_nil ?_
  refine vc_cond rfl (fun h => by cases h) (fun _ => ?_)
  refine vc_skip ?_
  refine vc_seq ?_
  refine vc_region ?_
  refine vl_makeMap vk rfl rfl (.some rfl) (fun r13 => ?_)
  refine vl_val rfl (.some rfl) (val_assign rfl) ?_
  refine vl_nil ?_
  refine vc_seq ?_
  refine vc_seq ?_
  refine vc_region ?_
  refine vl_val rfl (.some rfl) (val_move rfl) ?_
  refine vl_val rfl (.some rfl) (val_lenSl Try.runUnderlying22 rfl) ?_
  refine vl_val rfl (.some rfl) (val_move rfl) ?_
  refine vl_nil ?_
  refine vc_block ?_
  refine vc_loopw (fun k E H => ∃ (i : Nat) (ks : List Vk) (ns : List Int), i ≤ us.length ∧ k = us.length - i ∧ ks = news vs (us.take i) [] ∧ ks.length = ns.length ∧ E = [(0, .pointer (some ⟨r, 0, none⟩)), (5, .map (some r13)), (14, .slice L us.length cl), (15, .int .i64 us.length), (16, .int .i64 i)] ∧ H = [DC r m kd A vs.length c, DM m vs, DS L cl us, mp vk r13 ks (ns.map (Value.int .i64))]) (us.length) ⟨_, _, _, ⟨0, [], [], by omega, rfl, rfl, rfl, rfl, rfl⟩, (by repeat (first | exact trivial | refine ⟨rfl, ?_⟩ | refine ⟨le_item rfl (by first | rfl | (congr 1; omega) | (simp; done) | (simp; omega)), ?_⟩)), (by repeat (first | exact .nil | (apply Sub.cons; · repeat (first | exact .head | apply Take.tail))))⟩ ?_
  intro k E H hI
  obtain ⟨i, ks, ns, hi, rfl, hks0, hks, rfl, rfl⟩ := hI
  refine vc_seq ?_
  refine vc_region ?_
  refine vl_val rfl (.some rfl) (val_lt rfl rfl) ?_
  refine vl_nil ?_
  refine vc_seq ?_
  refine vc_cond rfl (fun hc1 => ?_) (fun hc1 => ?_)
  · (try replace hc1 := of_decide_eq_true hc1)
    have hf := flat_at us i (by omega)
    obtain ⟨p, hp⟩ : ∃ p, us.getD i z3 = p := ⟨_, rfl⟩
    rw [hp] at hf
    have htp : takesB kd p = true := htk p (by rw [← hp]; simp [List.getD, List.getElem?_eq_getElem (show i < us.length by omega)])
    have htake : us.take (i + 1) = us.take i ++ [p] := by
      rw [List.take_add_one, ← hp]; simp [List.getD, List.getElem?_eq_getElem (show i < us.length by omega)]
    refine vc_skip ?_
    refine vc_seq ?_
    refine vc_block ?_
    refine vc_seq ?_
    refine vc_region ?_
    refine vl_val rfl (.some rfl) (val_indexAddr Try.runUnderlying22 Try.sizeOf27 rfl rfl (rd_sl (by repeat (first | exact .head | apply In.tail | apply Take.tail | apply Upd.tail))) (by omega) (by omega) (by rw [vflat_len]; omega)) ?_
    refine vl_val rfl (.some rfl) (val_loadAgg Try.isAgg27 Try.sizeOf27 rfl (rd_part (us := [.int .i64 p.k, .int .i64 p.n, .string p.s]) (rd_sl (by repeat (first | exact .head | apply In.tail | apply Take.tail | apply Upd.tail))) hf) rfl) ?_
    refine vl_alloc rfl rfl (.some rfl) Try.zeroValue27 (fun r7 => ?_)
    first | refine vl_store rfl rfl .none rfl rfl Try.sizeOf27 rfl (by repeat (first | exact .head | apply In.tail | apply Take.tail | apply Upd.tail)) (by first | decide | exact Nat.le_refl _ | (simp; omega)) ?_ | refine vl_storeSl rfl rfl .none rfl rfl Try.sizeOf27 rfl (by simp [Value.cells]) (by repeat (first | exact .head | apply In.tail | apply Take.tail | apply Upd.tail)) (by first | decide | (simp [Value.cells]; omega)) ?_
    refine vl_nil ?_
    refine vc_seq ?_
    refine vc_draws [0, 1, 2, 3, 4, 5, 6, 7, 8, 9, 10] [] [0, 1, 2, 3, 4, 5, 6, 7, 8, 9, 10] rfl (by kernel_rfl) (fun _ _ _ h => h) ?_
    refine vd_val rfl rfl rfl (.some rfl) (val_move rfl) ?_
    refine vd_val rfl rfl rfl (.some rfl) (val_nil rfl rfl) ?_
    refine vd_val rfl rfl rfl (.some rfl) (by first | exact val_fieldAddr Try.runUnderlying52 rfl Try.sizeOf50 rfl | exact val_fieldAddrR Try.runUnderlying52 rfl Try.sizeOf50 rfl) ?_
    refine vd_val rfl rfl rfl (.some rfl) (val_load Try.isAgg50 rfl (by first | exact cell_cells (by repeat (first | exact .head | apply In.tail | apply Take.tail | apply Upd.tail)) rfl | exact cell_rd (rd_sl (by repeat (first | exact .head | apply In.tail | apply Take.tail | apply Upd.tail))) (by first | exact bcells_get (by omega) | exact icells_get (by omega) | exact tcells_get (by omega)))) ?_
    refine vd_val rfl rfl rfl (.some rfl) (val_loadAgg Try.isAgg27 Try.sizeOf27 rfl (by first | exact cells_whole (by repeat (first | exact .head | apply In.tail | apply Take.tail | apply Upd.tail)) | exact cells_part (by repeat (first | exact .head | apply In.tail | apply Take.tail | apply Upd.tail)) rfl) rfl) ?_
    refine vd_val rfl rfl rfl (.some rfl) (val_lookupIds (k := p) kT rfl rfl (by repeat (first | exact .head | apply In.tail | apply Take.tail | apply Upd.tail))) ?_
    refine vd_val rfl rfl rfl (.some rfl) (val_move rfl) ?_
    refine vd_val rfl rfl rfl (.some rfl) (val_extract rfl rfl) ?_
    refine vd_val rfl rfl rfl (.some rfl) (val_extract rfl rfl) ?_
    refine vd_val rfl rfl rfl (.some rfl) (val_assign rfl) ?_
    refine vd_val rfl rfl rfl (.some rfl) (val_assign rfl) ?_
    refine vd_nil ?_
    refine vc_seq ?_
    refine vc_region ?_
    refine vl_val rfl (.some rfl) (val_move rfl) ?_
    refine vl_val rfl (.some rfl) (val_not rfl) ?_
    refine vl_val rfl (.some rfl) (val_move rfl) ?_
    refine vl_split (t := 31) rfl (fun hg31 => ?_) (fun hg31 => ?_)
    · (try replace hg31 := of_decide_eq_true hg31)
      have hout : p ∉ vs := by simpa using hg31
      refine vl_on rfl rfl rfl rfl ?_
      refine vl_val rfl (.some rfl) (val_move rfl) ?_
      refine vl_on rfl rfl rfl rfl ?_
      refine vl_val rfl (.some rfl) (val_loadAgg Try.isAgg27 Try.sizeOf27 rfl (by first | exact cells_whole (by repeat (first | exact .head | apply In.tail | apply Take.tail | apply Upd.tail)) | exact cells_part (by repeat (first | exact .head | apply In.tail | apply Take.tail | apply Upd.tail)) rfl) rfl) ?_
      refine vl_on rfl rfl rfl rfl ?_
      refine vl_callR (v := .bool true) [DC r m kd A vs.length c] rfl rfl (.some rfl) Try.call51 rfl (by repeat (first | exact .nil | (apply Sub.cons; · repeat (first | exact .head | apply Take.tail)))) (fun w hw => by have h := dTakes r m kd A vs.length c p w; rw [htp] at h; exact h) ?_
      refine vl_val rfl (.some rfl) (val_pick rfl rfl) ?_
      refine vl_nil ?_
      refine vc_cond rfl (fun _ => ?_) (fun h => by cases h)
      obtain ⟨x, hx⟩ := ints_val (x := p) (ks := ks) (ns := ns)
      have hx2 := (kval_more (x := p) hks).trans hx
      obtain ⟨ms, hms, hml⟩ := vmore_is (x := p) (ks := ks) (ns := ns)
      refine vc_draws2 [0, 1, 2, 3] [6] [0, 1, 2, 3, 4, 5, 6] (fun w' => Holds w (fps [DC r m kd A vs.length c, DM m vs, DS L cl us]) [cells r7 [.int .i64 p.k, .int .i64 p.n, .string p.s] 27, DC r m kd A vs.length c, DM m vs, DS L cl us, mp vk r13 ks (ns.map (Value.int .i64))] w' ∨ Holds w (fps [DC r m kd A vs.length c, DM m vs, DS L cl us]) [cells r7 [.int .i64 p.k, .int .i64 p.n, .string p.s] 27, DC r m kd A vs.length c, DM m vs, DS L cl us, mp vk r13 (kmore p ks (ns.map (Value.int .i64))) (vmore p ks (ns.map (Value.int .i64)) (.int .i64 0))] w') (fun w' h => .inl h) rfl (by kernel_rfl) (fun _ _ _ h => h) ?_
      refine vd2_val rfl rfl rfl (.some rfl) (val_move rfl) (val_move rfl) ?_
      refine vd2_val (v := vk p) rfl rfl rfl (.some rfl) (val_loadAgg Try.isAgg27 Try.sizeOf27 rfl (cells_whole .head) rfl) (val_loadAgg Try.isAgg27 Try.sizeOf27 rfl (cells_whole .head) rfl) ?_
      refine vd2_val (v := .int .i64 x) rfl rfl rfl (.some rfl) (val_eqv hx (val_lookup (k := p) kT rfl rfl (by repeat (first | exact .head | apply In.tail | apply Take.tail | apply Upd.tail)))) (val_eqv hx2 (val_lookup (k := p) kT rfl rfl (by repeat (first | exact .head | apply In.tail | apply Take.tail | apply Upd.tail)))) ?_
      refine vd2_val rfl rfl rfl (.some rfl) (val_add rfl rfl rfl) (val_add rfl rfl rfl) ?_
      refine vd2_op rfl rfl ?_
      refine vl_mapEntry (k := p) kT rfl rfl (.some rfl) rfl rfl (by repeat (first | exact .head | apply In.tail | apply Take.tail | apply Upd.tail)) ?_
      refine vl_nil ?_
      refine ⟨fun _ w' h => .inr h, ?_⟩
      refine vd2_op rfl rfl ?_
      refine vl_val rfl (.some rfl) (val_extract rfl rfl) ?_
      refine vl_nil ?_
      refine ⟨fun _ w' h => .inr h, ?_⟩
      refine vd2_op rfl rfl ?_
      refine vl_entryStore (vs := vmore p ks (ns.map (Value.int .i64)) (.int .i64 0)) rfl rfl .none rfl rfl rfl (by rw [hms, List.length_map, hml hks]; exact kpos_lt hks) (by repeat (first | exact .head | apply In.tail | apply Take.tail | apply Upd.tail)) ?_
      rw [hms, set_ints]
      refine vl_nil ?_
      refine ⟨fun h => (by cases h), ?_⟩
      refine vd2_nil ?_
      have hnext : kmore p ks (ns.map (Value.int .i64)) = news vs (us.take (i + 1)) [] := by
        rw [kmore_is hks, htake, news_snoc, ← hks0]
        by_cases hm : p ∈ ks
        · rw [if_pos hm, if_pos (.inr hm)]
        · rw [if_neg hm, if_neg (by simp [hout, hm])]
      have hlnext := hml hks
      rw [← List.length_set (i := kpos p ks (ns.map (Value.int .i64))) (a := IntKind.i64.wrap (x + 1))] at hlnext
      replace hlnext := hlnext.symm
      refine vc_region ?_
      refine vl_val rfl (.some rfl) (val_add rfl rfl (by first | exact w_i64 (by omega) (by omega) | rfl)) ?_
      refine vl_val rfl (.some rfl) (val_move rfl) ?_
      refine vl_nil ?_
      exact ⟨us.length - (i + 1), _, _, _, by omega, (by repeat (first | exact trivial | refine ⟨rfl, ?_⟩ | refine ⟨le_item rfl (by first | rfl | (congr 1; omega) | (simp; done) | (simp; omega)), ?_⟩)), (by repeat (first | exact .nil | (apply Sub.cons; · repeat (first | exact .head | apply Take.tail)))), ⟨i + 1, _, _, by omega, rfl, hnext, hlnext, rfl, rfl⟩⟩
    · (try replace hg31 := of_decide_eq_false hg31)
      have hin : p ∈ vs := by simpa using hg31
      have hnext : ks = news vs (us.take (i + 1)) [] := by rw [htake, news_snoc, if_pos (.inl hin), ← hks0]
      have hlnext := hks
      refine vl_off rfl rfl rfl rfl (.some rfl) ?_
      refine vl_off rfl rfl rfl rfl (.some rfl) ?_
      refine vl_off rfl rfl rfl rfl (.some rfl) ?_
      refine vl_val rfl (.some rfl) (val_pick rfl rfl) ?_
      refine vl_nil ?_
      refine vc_cond rfl (fun h => by cases h) (fun _ => ?_)
      refine vc_skip ?_
      refine vc_region ?_
      refine vl_val rfl (.some rfl) (val_add rfl rfl (by first | exact w_i64 (by omega) (by omega) | rfl)) ?_
      refine vl_val rfl (.some rfl) (val_move rfl) ?_
      refine vl_nil ?_
      exact ⟨us.length - (i + 1), _, _, _, by omega, (by repeat (first | exact trivial | refine ⟨rfl, ?_⟩ | refine ⟨le_item rfl (by first | rfl | (congr 1; omega) | (simp; done) | (simp; omega)), ?_⟩)), (by repeat (first | exact .nil | (apply Sub.cons; · repeat (first | exact .head | apply Take.tail)))), ⟨i + 1, _, _, by omega, rfl, hnext, hlnext, rfl, rfl⟩⟩
  · (try replace hc1 := of_decide_eq_false hc1)
    obtain rfl : i = us.length := by omega
    rw [List.take_length] at hks0
    have hkl := congrArg List.length hks0
    rw [news_len, List.append_nil] at hkl
    simp only [List.length_nil, Nat.zero_add] at hkl
    have hfl := fresh_le vs us
    refine vc_exit ?_
    refine vc_seq ?_
    refine vc_draws [0, 1, 2, 3, 4, 5, 6, 7, 8, 9] [] [0, 1, 2, 3, 4, 5, 6, 7, 8, 9] rfl (by kernel_rfl) (fun _ _ _ h => h) ?_
    refine vd_val rfl rfl rfl (.some rfl) (val_move rfl) ?_
    refine vd_val rfl rfl rfl (.some rfl) (val_nil rfl rfl) ?_
    refine vd_val rfl rfl rfl (.some rfl) (by first | exact val_fieldAddr Try.runUnderlying52 rfl Try.sizeOf22 rfl | exact val_fieldAddrR Try.runUnderlying52 rfl Try.sizeOf22 rfl) ?_
    refine vd_val rfl rfl rfl (.some rfl) (val_load Try.isAgg22 rfl (by first | exact cell_cells (by repeat (first | exact .head | apply In.tail | apply Take.tail | apply Upd.tail)) rfl | exact cell_rd (rd_sl (by repeat (first | exact .head | apply In.tail | apply Take.tail | apply Upd.tail))) (by first | exact bcells_get (by omega) | exact icells_get (by omega) | exact tcells_get (by omega)))) ?_
    refine vd_val rfl rfl rfl (.some rfl) (val_lenSl Try.runUnderlying22 rfl) ?_
    refine vd_val rfl rfl rfl (.some rfl) (val_move rfl) ?_
    refine vd_val rfl rfl rfl (.some rfl) (val_lenMap Try.runUnderlying50 rfl (by repeat (first | exact .head | apply In.tail | apply Take.tail | apply Upd.tail))) ?_
    refine vd_val rfl rfl rfl (.some rfl) (val_add rfl rfl (by first | exact w_i64 (by omega) (by omega) | rfl)) ?_
    refine vd_val rfl rfl rfl (.some rfl) (val_le rfl rfl) ?_
    refine vd_val rfl rfl rfl (.some rfl) (val_assign rfl) ?_
    refine vd_nil ?_
    refine vc_ret ?_
    refine ⟨_, [DC r m kd A vs.length c, DM m vs, DS L cl us], _, res1 Try.results19 rfl, (by repeat (first | exact .nil | (apply Sub.cons; · repeat (first | exact .head | apply Take.tail)))), ?_⟩
    refine ⟨?_, rfl⟩
    unfold roomB
    congr 1
    rw [decide_eq_decide]
    omega

end Go.Proofs.Ytibfngjfjddaiaa.K
