/- Walks of the program's functions, printed by a program of this session; Lean checks them. -/
import Derived.Test.YtclnhfdgiaamhaaYrk
namespace Go.Proofs.Ytclnhfdgiaamhaa.K
open Go Go.RowKit Go.Proofs
set_option linter.unusedVariables false
set_option linter.unusedSimpArgs false
set_option maxRecDepth 20000 in
theorem sT25 : SlT Try.prog 25 43 9 168 (.agg #[.int .i64 0, .string .empty, .slice none 0 0, .string .empty, .string .empty, .slice none 0 0, .slice none 0 0, .string .empty, .slice none 0 0]) := ⟨Try.underlying25, ⟨Try.t43, Try.type43, rfl, rfl, rfl⟩, rfl, Nat.lt_of_sub_eq_succ rfl⟩

/-! Scanning: frame by frame. -/
def scanF : Nat → Tx → List Rec × Nat
  | 0, _ => ([], 0)
  | f + 1, b => if unfrE b = 0 then (match loadRec (unfrL b) with | none => ([], 0) | some x => (x :: (scanF f (b.drop (unfrN b))).1, unfrN b + (scanF f (b.drop (unfrN b))).2)) else ([], 0)
def scO (id : Nat) (b : Tx) : Bool := decide (b.take (beginL id).length = beginL id)
def scL (id : Nat) (b : Tx) : List Rec := if scO id b = true then (scanF b.length (b.drop (beginL id).length)).1 else []
def scN (id : Nat) (b : Tx) : Nat := if scO id b = true then (beginL id).length + (scanF b.length (b.drop (beginL id).length)).2 else 0
def ScI (b : Tx) (h0 f t : Nat) (acc : List Rec) : Prop := b.length - t ≤ f ∧ t ≤ b.length ∧ h0 ≤ t ∧ scanF b.length (b.drop h0) = (acc ++ (scanF f (b.drop t)).1, t - h0 + (scanF f (b.drop t)).2)
theorem scan_bad {f : Nat} {b : Tx} (h : unfrE b ≠ 0) : scanF f b = ([], 0) := by
  cases f with
  | zero => rfl
  | succ f => exact if_neg h
theorem scan_none {f : Nat} {b : Tx} (h : unfrE b = 0) (h2 : loadRec (unfrL b) = none) : scanF f b = ([], 0) := by
  cases f with
  | zero => rfl
  | succ f => unfold scanF; rw [if_pos h, h2]
theorem scan_some {f : Nat} {b : Tx} {x : Rec} (h : unfrE b = 0) (h2 : loadRec (unfrL b) = some x) : scanF (f + 1) b = (x :: (scanF f (b.drop (unfrN b))).1, unfrN b + (scanF f (b.drop (unfrN b))).2) := by
  rw [scanF, if_pos h, h2]
theorem sc_0 {b : Tx} {h0 : Nat} (h : h0 ≤ b.length) : ScI b h0 b.length h0 [] := ⟨by omega, h, Nat.le_refl _, by simp⟩
theorem sc_stop {b : Tx} {h0 f t : Nat} {acc : List Rec} (h : ScI b h0 f t acc) (h2 : unfrE (b.drop t) ≠ 0 ∨ loadRec (unfrL (b.drop t)) = none) : scanF b.length (b.drop h0) = (acc, t - h0) := by
  rw [h.2.2.2]
  have e : scanF f (b.drop t) = ([], 0) := by
    by_cases h3 : unfrE (b.drop t) = 0
    · exact scan_none h3 (h2.resolve_left (fun h => h h3))
    · exact scan_bad h3
  rw [e]; simp
theorem sc_step {b : Tx} {h0 f t : Nat} {acc : List Rec} {x : Rec} (h : ScI b h0 f t acc) (h1 : unfrE (b.drop t) = 0) (h2 : loadRec (unfrL (b.drop t)) = some x) : t + unfrN (b.drop t) ≤ b.length ∧ 8 ≤ unfrN (b.drop t) ∧ ∃ f', ScI b h0 f' (t + unfrN (b.drop t)) (acc ++ [x]) := by
  obtain ⟨g1, g2, g3, g4⟩ := h
  obtain ⟨i1, i2, i3, i4⟩ := unfr_is h1
  have e := (unfr_ok h1).2
  rw [List.length_drop] at i3
  cases f with
  | zero => omega
  | succ f =>
    rw [scan_some h1 h2] at g4
    refine ⟨by omega, by omega, f, by omega, by omega, by omega, ?_⟩
    rw [g4, List.drop_drop]
    simp only [List.append_assoc, List.cons_append, List.nil_append, Prod.mk.injEq, true_and]
    omega
/-- What the chunks tell of a list of records. -/
def RecsD (l : List Chunk) (ms : List RecM) (A : Option Addr) : Prop := ∀ w, (∀ c ∈ l, c.A w) → Reads w A (ms.flatMap recC) ∧ ∀ m ∈ ms, RecR w m
theorem sc_1 {id : Nat} {b : Tx} (h : scO id b = false) : scL id b = [] ∧ scN id b = 0 := by
  unfold scL scN
  rw [h]; exact ⟨rfl, rfl⟩
theorem sc_2 {id : Nat} {b : Tx} {acc : List Rec} {n : Nat} (h : scO id b = true) (h2 : scanF b.length (b.drop (beginL id).length) = (acc, n)) : scL id b = acc ∧ scN id b = (beginL id).length + n := by
  unfold scL scN
  rw [if_pos h, if_pos h, h2]; exact ⟨rfl, rfl⟩
theorem scO_le {id : Nat} {b : Tx} (h : scO id b = true) : (beginL id).length ≤ b.length := by
  have := congrArg List.length (of_decide_eq_true h)
  rw [List.length_take] at this; omega
theorem recs_len (l : List RecM) : (l.flatMap recC).length = l.length * 9 := flat_length (f := recC) (m := 9) (fun _ => rfl) l
theorem unfrL_le (b : Tx) : (unfrL b).length ≤ 262144 := by
  by_cases h : unfrE b = 0
  · rw [(unfr_ok h).1, List.length_take]
    have := (unfr_is h).2.1
    omega
  · rw [(unfr_bad rfl h).1]; exact Nat.zero_le _
theorem ldE_cases (b : Tx) : ldE b = 0 ∧ loadRec b = some (ldR b) ∨ ldE b ≠ 0 ∧ loadRec b = none := by
  cases h : loadRec b with
  | none => right; exact ⟨by rw [(ld_none h).2]; decide, rfl⟩
  | some x => left; rw [(ld_some h).1]; exact ⟨(ld_some h).2, rfl⟩

theorem recD_monoR {l L : List Chunk} {m : RecM} (h : RecD l m) : RecD (L ++ l) m := fun w hk => h w (fun c hc => hk c (List.mem_append_right _ hc))
theorem recD_monoL {l L : List Chunk} {m : RecM} (h : RecD L m) : RecD (L ++ l) m := fun w hk => h w (fun c hc => hk c (List.mem_append_left _ hc))
theorem recsD_of {A1 : Option Addr} {n c1 sz : Nat} {e : TypeId} {ms : List RecM} {L : List Chunk} (h : ∀ m ∈ ms, RecD L m) : RecsD [sl A1 n c1 e sz (ms.flatMap recC), big L] ms A1 := fun w hk => ⟨reads_chunkR hk (List.Mem.head _), fun m hm => recD_big (h m hm) w (fun c hc => hk c (List.Mem.tail _ hc))⟩

set_option maxRecDepth 20000 in
theorem slHasPx (a p : Tx) (w : World) : FnV Try.prog 98 [.string (sL a), .string (sL p)] (.bool (decide (a.take p.length = p))) w := by
  refine fn_enter Try.func98 rfl Try.ntmps98 rfl ?_
  refine vc_seq ?_
  refine vc_region ?_
  refine vl_val rfl (.some rfl) (val_assign rfl) ?_
  refine vl_nil ?_
  refine vc_seq ?_
  refine vc_region ?_
  refine vl_val rfl (.some rfl) (val_move rfl) ?_
  refine vl_val rfl (.some rfl) (val_lenStr Try.runUnderlying9 rfl) ?_
  refine vl_val rfl (.some rfl) (val_move rfl) ?_
  refine vl_val rfl (.some rfl) (val_lenStr Try.runUnderlying9 rfl) ?_
  refine vl_val rfl (.some rfl) (val_ge rfl rfl) ?_
  refine vl_val rfl (.some rfl) (val_move rfl) ?_
  refine vl_split (t := 10) rfl (fun hg10 => ?_) (fun hg10 => ?_)
  · (try replace hg10 := of_decide_eq_true hg10)
    refine vl_on rfl rfl rfl rfl ?_
    refine vl_val rfl (.some rfl) (val_move rfl) ?_
    refine vl_on rfl rfl rfl rfl ?_
    refine vl_val rfl (.some rfl) (val_move rfl) ?_
    refine vl_on rfl rfl rfl rfl ?_
    refine vl_val rfl (.some rfl) (val_lenStr Try.runUnderlying9 rfl) ?_
    refine vl_on rfl rfl rfl rfl ?_
    refine vl_val rfl (.some rfl) (val_cutStrTo Try.runUnderlying9 rfl rfl (by omega) (by omega)) ?_
    rw [sL_cut, Int.toNat_natCast, sL_size, List.drop_zero]
    refine vl_on rfl rfl rfl rfl ?_
    refine vl_val rfl (.some rfl) (val_move rfl) ?_
    refine vl_on rfl rfl rfl rfl ?_
    refine vl_val rfl (.some rfl) (val_seq rfl rfl) ?_
    refine vl_val rfl (.some rfl) (val_pick rfl rfl) ?_
    refine vl_val rfl (.some rfl) (val_assign rfl) ?_
    refine vl_nil ?_
    refine vc_ret ?_
    refine ⟨_, [], _, res1 Try.results98 rfl, .nil, ?_⟩
    show Value.bool _ = Value.bool _
    first
      | (rw [decide_eq_decide.2 (sL_inj (a := a.take p.length) (b := p))]; done)
      | (refine congrArg Value.bool (Eq.symm (decide_eq_false fun h => ?_))
         have := congrArg List.length h
         rw [List.length_take] at this
         simp only [sL_size] at *
         omega)
  · (try replace hg10 := of_decide_eq_false hg10)
    refine vl_off rfl rfl rfl rfl (.some rfl) ?_
    refine vl_off rfl rfl rfl rfl (.some rfl) ?_
    refine vl_off rfl rfl rfl rfl (.some rfl) ?_
    refine vl_off rfl rfl rfl rfl (.some rfl) ?_
    refine vl_off rfl rfl rfl rfl (.some rfl) ?_
    refine vl_off rfl rfl rfl rfl (.some rfl) ?_
    refine vl_val rfl (.some rfl) (val_pick rfl rfl) ?_
    refine vl_val rfl (.some rfl) (val_assign rfl) ?_
    refine vl_nil ?_
    refine vc_ret ?_
    refine ⟨_, [], _, res1 Try.results98 rfl, .nil, ?_⟩
    show Value.bool _ = Value.bool _
    first
      | (rw [decide_eq_decide.2 (sL_inj (a := a.take p.length) (b := p))]; done)
      | (refine congrArg Value.bool (Eq.symm (decide_eq_false fun h => ?_))
         have := congrArg List.length h
         rw [List.length_take] at this
         simp only [sL_size] at *
         omega)
set_option maxRecDepth 20000 in
theorem sHasPx (a p : Tx) (w : World) : FnV Try.prog 49 [.string (sL a), .string (sL p)] (.bool (decide (a.take p.length = p))) w := by
  refine fn_enter Try.func49 rfl Try.ntmps49 rfl ?_
  refine vc_seq ?_
  refine vc_region ?_
  refine vl_val rfl (.some rfl) (val_assign rfl) ?_
  refine vl_nil ?_
  refine vc_seq ?_
  refine vc_region ?_
  refine vl_val rfl (.some rfl) (val_move rfl) ?_
  refine vl_val rfl (.some rfl) (val_move rfl) ?_
  refine vl_callV rfl rfl (.some rfl) Try.call98 rfl (fun w hw => slHasPx a p w) ?_
  refine vl_val rfl (.some rfl) (val_assign rfl) ?_
  refine vl_nil ?_
  refine vc_ret ?_
  refine ⟨_, [], _, res1 Try.results49 rfl, .nil, ?_⟩
  rfl
set_option maxRecDepth 20000 in
theorem xScan (A : Option Addr) (c : Nat) (b : Tx) (hb : b.length ≤ 1000000000) (hbc : b.length ≤ c) (id : Nat) (hid : id < 18446744073709551616) (w : World) (hr : Reads w A (bcells b)) : Fn Try.prog 15 [.slice A b.length c, .int .u64 id] [] (ret fun v H' => ∃ ms A2 c2 l, v = .tuple #[.slice A2 ms.length c2, .int .i64 (scN id b : Nat), .bool (scO id b)] ∧ ms.map recOf = scL id b ∧ RecsD l ms A2 ∧ H' = l) w := by
  have hbl : (beginL id).length ≤ 30 := by
    unfold beginL
    have := putN_len id
    rw [frame_is (by simp only [List.length_cons]; omega)]
    simp only [List.length_append, four_len, List.length_cons]
    omega
  refine fn_enter Try.func15 rfl Try.ntmps15 rfl ?_
  refine vc_seq ?_
  refine vc_region ?_
  refine vl_val rfl (.some rfl) (val_assign rfl) ?_
  refine vl_val rfl (.some rfl) (val_assign rfl) ?_
  refine vl_val rfl (.some rfl) (val_assign rfl) ?_
  refine vl_nil ?_
  refine vc_seq ?_
  refine vc_region ?_
  refine vl_val rfl (.some rfl) (val_move rfl) ?_
  refine vl_call (C := []) rfl rfl (.some rfl) Try.call18 rfl .nil (fun w hw => xBegin id hid w) (fun v H' h => ?_)
  obtain ⟨A7, c7, rfl, rfl⟩ := h
  show VL _ _ _ _ _ (_ :: _)
  refine vl_val rfl (.some rfl) (val_assign rfl) ?_
  refine vl_nil ?_
  refine vc_seq ?_
  refine vc_seq ?_
  refine vc_region ?_
  refine vl_val rfl (.some rfl) (val_move rfl) ?_
  refine vl_val rfl (.some rfl) (val_bytesToStr Try.runUnderlying22 Try.runUnderlying5 Try.runUnderlying9 rfl (rd_old hr rfl) rfl) ?_
  refine vl_val rfl (.some rfl) (val_move rfl) ?_
  refine vl_val rfl (.some rfl) (val_bytesToStr Try.runUnderlying22 Try.runUnderlying5 Try.runUnderlying9 rfl (rd_sl (by repeat constructor)) rfl) ?_
  refine vl_callV rfl rfl (.some rfl) Try.call49 rfl (fun w hw => sHasPx b (beginL id) w) ?_
  rw [show decide (b.take (beginL id).length = beginL id) = scO id b from rfl]
  refine vl_val rfl (.some rfl) (val_not rfl) ?_
  refine vl_nil ?_
  refine vc_cond rfl (fun hc0 => ?_) (fun hc0 => ?_)
  · (try replace hc0 := of_decide_eq_true hc0)
    have hpo : scO id b = false := by simpa using hc0
    refine vc_seq ?_
    refine vc_region ?_
    refine vl_val rfl (.some rfl) (val_assign rfl) ?_
    refine vl_val rfl (.some rfl) (val_assign rfl) ?_
    refine vl_val rfl (.some rfl) (val_assign rfl) ?_
    refine vl_nil ?_
    refine vc_ret ?_
    refine ⟨_, [], _, res3 Try.results15 rfl rfl rfl, (by repeat constructor), ?_⟩
    obtain ⟨e1, e2⟩ := sc_1 hpo
    refine ⟨[], none, 0, [], ?_, e1.symm, fun w _ => ⟨reads_nilR rfl, fun m hm => by cases hm⟩, rfl⟩
    rw [e2, hpo]
    rfl
  · (try replace hc0 := of_decide_eq_false hc0)
    have hpo : scO id b = true := by simpa using hc0
    have hle := scO_le hpo
    refine vc_skip ?_
    refine vc_seq ?_
    refine vc_region ?_
    refine vl_val rfl (.some rfl) (val_assign rfl) ?_
    refine vl_nil ?_
    refine vc_seq ?_
    refine vc_region ?_
    refine vl_val rfl (.some rfl) (val_move rfl) ?_
    refine vl_val rfl (.some rfl) (val_lenSl Try.runUnderlying22 rfl) ?_
    refine vl_val rfl (.some rfl) (val_assign rfl) ?_
    refine vl_nil ?_
    refine vc_block ?_
    refine vc_eqv (eqv_big [] _).symm ?_
    refine vc_nilSl 43 9 ?_
    refine vc_loopw (fun q E H => ∃ (t : Nat) (ms : List RecM) (A1 : Option Addr) (c1 : Nat) (L : List Chunk), t ≤ b.length ∧ ms.length ≤ t ∧ q = b.length - t ∧ (∃ f, ScI b (beginL id).length f t (ms.map recOf)) ∧ (∀ m ∈ ms, RecD L m) ∧ E = [(9, .int .i64 (t : Nat)), (8, .slice A1 ms.length c1), (0, .slice A b.length c)] ∧ H = [sl A1 ms.length c1 43 9 (ms.flatMap recC), big L]) ((b.length - (beginL id).length)) ⟨_, _, _, ⟨(beginL id).length, [], none, 0, [], hle, by simp, rfl, ⟨_, sc_0 hle⟩, (fun m hm => by cases hm), rfl, rfl⟩, (by repeat (first | exact trivial | refine ⟨rfl, ?_⟩ | refine ⟨le_item rfl (by first | rfl | (congr 1; omega) | (simp; done) | (simp; omega)), ?_⟩)), (by repeat constructor)⟩ ?_
    intro q E H hI
    obtain ⟨t, ms, A1, c1, L, htb, hmt, rfl, ⟨f, hSI⟩, hms, rfl, rfl⟩ := hI
    refine vc_block ?_
    refine vc_seq ?_
    refine vc_region ?_
    refine vl_val rfl (.some rfl) (val_move rfl) ?_
    refine vl_val rfl (.some rfl) (val_move rfl) ?_
    refine vl_val rfl (.some rfl) (val_cutFrom Try.runUnderlying22 Try.sizeOf5 rfl rfl (by omega) (by omega)) ?_
    rw [Int.toNat_natCast, show b.length - t = (b.drop t).length from List.length_drop.symm]
    refine vl_call (C := []) rfl rfl (.some rfl) Try.call50 rfl .nil (fun w hw => cUnframe _ _ (b.drop t) (by rw [List.length_drop]; omega) (by rw [List.length_drop]; omega) w (reads_cutB (rdw (rd_old hr rfl) hw) hbc)) (fun v H' h => ?_)
    obtain ⟨A9, c9, rfl, rfl⟩ := h
    show VL _ _ _ _ _ (_ :: _)
    refine vl_slCap (A := A9) (n := (unfrL (b.drop t)).length) (c := c9) (sz := 1) (e := 5) (vs := bcells (unfrL (b.drop t))) (by repeat constructor) (fun hcap => ?_)
    refine vl_val rfl (.some rfl) (val_move rfl) ?_
    refine vl_val rfl (.some rfl) (val_extract rfl rfl) ?_
    refine vl_val rfl (.some rfl) (val_extract rfl rfl) ?_
    refine vl_val rfl (.some rfl) (val_extract rfl rfl) ?_
    refine vl_val rfl (.some rfl) (val_assign rfl) ?_
    refine vl_val rfl (.some rfl) (val_assign rfl) ?_
    refine vl_val rfl (.some rfl) (val_assign rfl) ?_
    refine vl_nil ?_
    refine vc_seq ?_
    refine vc_seq ?_
    refine vc_region ?_
    refine vl_val rfl (.some rfl) (val_move rfl) ?_
    refine vl_val rfl (.some rfl) (val_ne rfl rfl) ?_
    refine vl_nil ?_
    refine vc_cond rfl (fun hc1 => ?_) (fun hc1 => ?_)
    · (try replace hc1 := of_decide_eq_true hc1)
      refine vc_seq ?_
      refine vc_region ?_
      refine vl_val rfl (.some rfl) (val_move rfl) ?_
      refine vl_val rfl (.some rfl) (val_move rfl) ?_
      refine vl_val rfl (.some rfl) (val_assign rfl) ?_
      refine vl_val rfl (.some rfl) (val_assign rfl) ?_
      refine vl_val rfl (.some rfl) (val_assign rfl) ?_
      refine vl_nil ?_
      refine vc_ret ?_
      refine ⟨_, [sl A1 ms.length c1 43 9 (ms.flatMap recC), big L], _, res3 Try.results15 rfl rfl rfl, (by repeat constructor), ?_⟩
      obtain ⟨e1, e2⟩ := sc_2 hpo (sc_stop hSI (.inl (by omega)))
      refine ⟨ms, A1, c1, _, ?_, e1.symm, recsD_of hms, rfl⟩
      rw [e2, hpo, show (beginL id).length + (t - (beginL id).length) = t by have := hSI.2.2.1; omega]
    · (try replace hc1 := of_decide_eq_false hc1)
      refine vc_skip ?_
      refine vc_seq ?_
      refine vc_region ?_
      refine vl_val rfl (.some rfl) (val_move rfl) ?_
      have hul := unfrL_le (b.drop t)
      refine vl_call (C := []) rfl rfl (.some rfl) Try.call25 rfl .nil (fun w hw => pLoad A9 c9 (unfrL (b.drop t)) (by omega) hcap w (rdw (rd_sl (vs := bcells (unfrL (b.drop t))) (by repeat constructor)) hw)) (fun v H' h => ?_)
      obtain ⟨m, l, rfl, hm, hD, hH⟩ := h
      rw [hH]
      refine vl_eqv (eqv_big l _).symm ?_
      refine vl_val rfl (.some rfl) (val_move rfl) ?_
      refine vl_val rfl (.some rfl) (val_extract rfl rfl) ?_
      refine vl_val rfl (.some rfl) (val_extract rfl rfl) ?_
      refine vl_alloc rfl rfl (.some rfl) Try.zeroValue43 (fun r13 => ?_)
      first | refine vl_store rfl rfl .none rfl rfl Try.sizeOf43 rfl (by repeat constructor) (by first | decide | exact Nat.le_refl _ | exact Nat.le_of_ble_eq_true rfl | (simp; omega)) ?_ | refine vl_storeSl rfl rfl .none rfl rfl Try.sizeOf43 rfl (by simp [Value.cells]) (by repeat constructor) (by first | decide | (simp [Value.cells]; omega)) ?_
      refine vl_val rfl (.some rfl) (val_assign rfl) ?_
      refine vl_nil ?_
      refine vc_seq ?_
      refine vc_seq ?_
      refine vc_region ?_
      refine vl_val rfl (.some rfl) (val_move rfl) ?_
      refine vl_val rfl (.some rfl) (val_ne rfl rfl) ?_
      refine vl_nil ?_
      refine vc_cond rfl (fun hc2 => ?_) (fun hc2 => ?_)
      · (try replace hc2 := of_decide_eq_true hc2)
        refine vc_seq ?_
        refine vc_region ?_
        refine vl_val rfl (.some rfl) (val_move rfl) ?_
        refine vl_val rfl (.some rfl) (val_move rfl) ?_
        refine vl_val rfl (.some rfl) (val_assign rfl) ?_
        refine vl_val rfl (.some rfl) (val_assign rfl) ?_
        refine vl_val rfl (.some rfl) (val_assign rfl) ?_
        refine vl_nil ?_
        refine vc_ret ?_
        refine ⟨_, [sl A1 ms.length c1 43 9 (ms.flatMap recC), big L], _, res3 Try.results15 rfl rfl rfl, (by repeat constructor), ?_⟩
        obtain ⟨e1, e2⟩ := sc_2 hpo (sc_stop hSI (.inr ((ldE_cases (unfrL (b.drop t))).elim (fun h => absurd h.1 (by omega)) (fun h => h.2))))
        refine ⟨ms, A1, c1, _, ?_, e1.symm, recsD_of hms, rfl⟩
        rw [e2, hpo, show (beginL id).length + (t - (beginL id).length) = t by have := hSI.2.2.1; omega]
      · (try replace hc2 := of_decide_eq_false hc2)
        have hue : unfrE (b.drop t) = 0 := by omega
        obtain ⟨he0, hl0⟩ | ⟨he0, _⟩ := ldE_cases (unfrL (b.drop t))
        rotate_left
        · omega
        rw [← hm] at hl0
        obtain ⟨hs1, hs2, f', hSI2⟩ := sc_step hSI hue hl0
        refine vc_eqv (Eqv.trans (Eqv.perm (Sub.perm (C := [big l, big L]) (by repeat constructor))) (eqv_two_big l L _)) ?_
        refine vc_skip ?_
        refine vc_seq ?_
        refine vc_region ?_
        refine vl_val rfl (.some rfl) (val_move rfl) ?_
        refine vl_val rfl (.some rfl) (val_loadAgg Try.isAgg43 Try.sizeOf43 rfl (by first | exact cells_whole (by repeat constructor) | exact cells_part (by repeat constructor) rfl) rfl) ?_
        refine vl_lit sT25 rfl rfl (.some rfl) rfl rfl rfl (by decide) (by decide) rfl rfl (fun r47 => ?_)
        refine vl_append (vs := ms.flatMap recC) (us := recC m) sT25 rfl rfl (.some rfl) rfl rfl (rd_sl (by repeat constructor)) rfl rfl (by omega) (by omega) (by repeat constructor) (fun A48 k48 => ?_)
        rw [show ms.flatMap recC ++ recC m = (ms ++ [m]).flatMap recC by simp, show ms.length + 1 = (ms ++ [m]).length by simp]
        refine vl_val rfl (.some rfl) (val_assign rfl) ?_
        refine vl_nil ?_
        refine vc_region ?_
        refine vl_val rfl (.some rfl) (val_move rfl) ?_
        refine vl_val rfl (.some rfl) (val_move rfl) ?_
        refine vl_val rfl (.some rfl) (val_add rfl rfl (by first | exact w_i64 (by omega) (by omega) | rfl)) ?_
        refine vl_val rfl (.some rfl) (val_assign rfl) ?_
        refine vl_nil ?_
        exact ⟨(b.length - (t + unfrN (b.drop t))), _, _, _, by first | omega | (rw [List.length_drop]; omega), (by repeat (first | exact trivial | refine ⟨rfl, ?_⟩ | refine ⟨le_item rfl (by first | rfl | (congr 1; omega) | (simp; done) | (simp; omega)), ?_⟩)), (by repeat constructor), ⟨t + unfrN (b.drop t), ms ++ [m], A48, k48, L ++ l, hs1, by simp; omega, rfl, ⟨f', by rw [List.map_append]; exact hSI2⟩, (fun x hx => (List.mem_append.1 hx).elim (fun h => recD_monoL (hms x h)) (fun h => by rw [List.mem_singleton.1 h]; exact recD_monoR hD)), rfl, rfl⟩⟩




/-! How much text a record bears. -/
def wI (n : Nat) : Int := IntKind.i64.wrap (n : Int)
theorem wI_add {a b : Nat} {x : Int} (h : x = b) : IntKind.i64.wrap (wI a + x) = wI (a + b) := by
  subst h
  unfold wI IntKind.wrap
  simp [IntKind.signed, IntKind.bits]
  omega
theorem wI_is {a : Nat} (h : a < 9223372036854775808) : wI a = a := w_i64 (by omega) (by omega)
def sumT {α : Type} (f : α → Nat) (l : List α) (i : Nat) : Nat := ((l.take i).map f).sum
theorem sumT_0 {α : Type} {f : α → Nat} {l : List α} : sumT f l 0 = 0 := by simp [sumT]
theorem sumT_s {α : Type} (d : α) {f : α → Nat} {l : List α} {i : Nat} (h : i < l.length) : sumT f l (i + 1) = sumT f l i + f (l.getD i d) := by
  unfold sumT
  rw [List.take_add_one, List.map_append, List.sum_append]
  simp [List.getD, h]
theorem sumT_le {α : Type} {f : α → Nat} {l : List α} {N : Nat} (h : ∀ x ∈ l, f x ≤ N) : ∀ i, sumT f l i ≤ i * N := by
  intro i
  induction i with
  | zero => rw [sumT_0]; omega
  | succ i ih =>
    rcases Nat.lt_or_ge i l.length with hi | hi
    · have e : sumT f l (i + 1) = sumT f l i + f l[i] := by
        unfold sumT
        rw [List.take_add_one, List.map_append, List.sum_append]
        simp [hi]
      have := h _ (List.getElem_mem hi)
      rw [e, Nat.add_mul]; omega
    · have e : sumT f l (i + 1) = sumT f l i := by unfold sumT; rw [List.take_of_length_le hi, List.take_of_length_le (by omega)]
      rw [e, Nat.add_mul]; omega
def gS0 (x : Rec) : Nat := x.nm.length + x.t.n.length + x.r.n.length + x.r.t.length + x.r.ds.length + x.r.ms.length + x.t.cs.length
def gS1 (x : Rec) : Nat := gS0 x + sumT (fun c : Cq => c.1.length) x.t.cs x.t.cs.length
def gS2 (x : Rec) : Nat := gS1 x + sumT (fun c : Tx => c.length) x.r.ds x.r.ds.length
def gS3 (x : Rec) : Nat := gS2 x + sumT (fun c : Mq => c.2.length) x.r.ms x.r.ms.length
structure RecS (m : RecM) : Prop where
  tn : m.tn.length < 562949953421312
  rn : m.rn.length < 562949953421312
  rt : m.rt.length < 562949953421312
  nm : m.nm.length < 562949953421312
  cs : m.cs.length < 562949953421312
  ds : m.ds.length < 562949953421312
  ms : m.ms.length < 562949953421312
  rs : m.rs.length < 562949953421312
  row : ∀ q ∈ m.rs, q.2.2.length < 562949953421312
  csx : ∀ c ∈ m.cs, c.1.length ≤ 562949953421312
  dsx : ∀ c ∈ m.ds, c.length ≤ 562949953421312
  msx : ∀ c ∈ m.ms, c.2.length ≤ 562949953421312
theorem RecS.recL {m : RecM} (h : RecS m) : RecL m := ⟨Nat.lt_trans h.tn (by decide), Nat.lt_trans h.rn (by decide), Nat.lt_trans h.rt (by decide), Nat.lt_trans h.nm (by decide), Nat.lt_trans h.cs (by decide), Nat.lt_trans h.ds (by decide), Nat.lt_trans h.ms (by decide), Nat.lt_trans h.rs (by decide), fun q hq => Nat.lt_trans (h.row q hq) (by decide)⟩
theorem good_row {m : RecM} (hg : goodRec (recOf m)) {q : Rw} (hq : q ∈ m.rs) : q.2.2.length ≤ 8 ∧ ∀ v ∈ q.2.2, v.s.size ≤ 64 := by
  have hr : q.2.2 ∈ rows m := List.mem_map.2 ⟨q, hq, rfl⟩
  rcases hg with ⟨_, _, _, h⟩ | ⟨_, _, _, h⟩ | ⟨_, h, _⟩
  · have h : rows m = [] := h.2
    rw [h] at hr; cases hr
  · have h : rows m = [] := h.2
    rw [h] at hr; cases hr
  · have h2 := h.2 _ hr
    refine ⟨h2.2.1.2, fun v hv => ?_⟩
    rcases good_kinds (h2.2.2 v hv) with ⟨_, rfl⟩ | ⟨_, h⟩ | ⟨_, _, h⟩
    · decide
    · rw [h]; decide
    · exact h
theorem good_few {m : RecM} (hg : goodRec (recOf m)) : m.cs.length ≤ 8 ∧ m.ds.length ≤ 8 ∧ m.ms.length ≤ 16 ∧ m.rs.length ≤ 200 := by
  rcases hg with ⟨_, h1, h2, h3⟩ | ⟨_, h1, h2, h3⟩ | ⟨_, h1, h2, h3⟩
  · have a1 : m.cs.length ≤ 8 := h1.2
    have a2 : m.ds = [] := h2.2.2.1
    have a3 : m.ms = [] := h2.2.2.2
    have a4 : rows m = [] := h3.2
    have a5 := congrArg List.length a4
    rw [List.length_map] at a5
    rw [a2, a3]
    simp at a5 ⊢
    simp [a5, a1]
  · have a1 : m.ds.length ≤ 8 := h1.1
    have a3 : m.ms.length ≤ 16 := h1.2
    have a2 : m.cs = [] := h2.2
    have a4 : rows m = [] := h3.2
    have a5 := congrArg List.length a4
    rw [List.length_map] at a5
    rw [a2]
    simp at a5 ⊢
    simp [a5, a1, a3]
  · have a1 : (rows m).length ≤ 200 := h1.1.2
    rw [List.length_map] at a1
    have a2 : m.cs = [] := h2.2
    have a3 : m.ds = [] := h3.2.2.1
    have a4 : m.ms = [] := h3.2.2.2
    rw [a2, a3, a4]
    simp [a1]
theorem gS3_lt {m : RecM} (h : RecS m) (hg : goodRec (recOf m)) : gS3 (recOf m) < 72057594037927936 := by
  obtain ⟨f1, f2, f3, f4⟩ := good_few hg
  have h1 := sumT_le (f := fun c : Cq => c.1.length) h.csx m.cs.length
  have h2 := sumT_le (f := fun c : Tx => c.length) h.dsx m.ds.length
  have h3 := sumT_le (f := fun c : Mq => c.2.length) h.msx m.ms.length
  have i1 := h.tn
  have i2 := h.rn
  have i3 := h.rt
  have i4 := h.nm
  have g1 := Nat.mul_le_mul_right 562949953421312 f1
  have g2 := Nat.mul_le_mul_right 562949953421312 f2
  have g3 := Nat.mul_le_mul_right 562949953421312 f3
  unfold gS3 gS2 gS1 gS0
  simp only
  omega
theorem sc_beg (id : Nat) : scO id (beginL id) = true ∧ scL id (beginL id) = [] ∧ scN id (beginL id) = (beginL id).length := by
  have h : scO id (beginL id) = true := decide_eq_true (List.take_length ..)
  have e : scanF (beginL id).length ((beginL id).drop (beginL id).length) = ([], 0) := by
    rw [List.drop_length]; exact scan_bad (by decide)
  obtain ⟨e1, e2⟩ := sc_2 h e
  exact ⟨h, e1, e2⟩
theorem sc_78 : scO 8 (beginL 7) = false := by decide +kernel

set_option maxRecDepth 20000 in
set_option maxHeartbeats 1000000 in
theorem xGreat (m : RecM) (hS : RecS m) (w : World) (hR : RecR w m) : Fn Try.prog 21 [recA m] [] (ret fun v H' => ∃ g, v = .bool g ∧ (g = false → goodRec (recOf m) → gS3 (recOf m) ≤ 100000) ∧ H' = []) w := by
  have q0 := hS.tn
  have q1 := hS.rn
  have q2 := hS.rt
  have q3 := hS.nm
  have q4 := hS.cs
  have q5 := hS.ds
  have q6 := hS.ms
  have q7 := hS.rs
  have y0 := sL_size m.tn
  have y1 := sL_size m.rn
  have y2 := sL_size m.rt
  have y3 := sL_size m.nm
  refine fn_enter Try.func21 rfl Try.ntmps21 rfl ?_
  refine vc_seq ?_
  refine vc_region ?_
  refine vl_box rfl rfl (.some rfl) rfl (fun r1 => ?_)
  refine vl_val rfl (.some rfl) (val_assign rfl) ?_
  refine vl_nil ?_
  refine vc_seq ?_
  refine vc_region ?_
  refine vl_val rfl (.some rfl) (by first | exact val_fieldAddr Try.runUnderlying43 rfl Try.sizeOf9 rfl | exact val_fieldAddrR Try.runUnderlying43 rfl Try.sizeOf9 rfl) ?_
  refine vl_val rfl (.some rfl) (val_load Try.isAgg9 rfl (by first | exact cell_cells (by repeat constructor) rfl | exact cell_rd (by first | exact rd_sl (by repeat constructor) | exact rd_old (by assumption) rfl) (by first | exact bcells_at (by omega) | exact ucells_at (by omega) | exact icells_at (by omega) | exact tcells_at (by omega) | exact bcells_get (by omega) | exact icells_get (by omega) | exact tcells_get (by omega) | exact ucells_get (by omega)) | exact cell_old (by assumption) (by simp [fps]))) ?_
  refine vl_val rfl (.some rfl) (val_lenStr Try.runUnderlying9 rfl) ?_
  refine vl_val rfl (.some rfl) (by first | exact val_fieldAddr Try.runUnderlying43 rfl Try.sizeOf36 rfl | exact val_fieldAddrR Try.runUnderlying43 rfl Try.sizeOf36 rfl) ?_
  refine vl_val rfl (.some rfl) (by first | exact val_fieldAddr Try.runUnderlying36 rfl Try.sizeOf9 rfl | exact val_fieldAddrR Try.runUnderlying36 rfl Try.sizeOf9 rfl) ?_
  refine vl_val rfl (.some rfl) (val_load Try.isAgg9 rfl (by first | exact cell_cells (by repeat constructor) rfl | exact cell_rd (by first | exact rd_sl (by repeat constructor) | exact rd_old (by assumption) rfl) (by first | exact bcells_at (by omega) | exact ucells_at (by omega) | exact icells_at (by omega) | exact tcells_at (by omega) | exact bcells_get (by omega) | exact icells_get (by omega) | exact tcells_get (by omega) | exact ucells_get (by omega)) | exact cell_old (by assumption) (by simp [fps]))) ?_
  refine vl_val rfl (.some rfl) (val_lenStr Try.runUnderlying9 rfl) ?_
  refine vl_val rfl (.some rfl) (val_add rfl rfl (by first | exact w_i64 (by omega) (by omega) | rfl)) ?_
  refine vl_val rfl (.some rfl) (by first | exact val_fieldAddr Try.runUnderlying43 rfl Try.sizeOf40 rfl | exact val_fieldAddrR Try.runUnderlying43 rfl Try.sizeOf40 rfl) ?_
  refine vl_val rfl (.some rfl) (by first | exact val_fieldAddr Try.runUnderlying40 rfl Try.sizeOf9 rfl | exact val_fieldAddrR Try.runUnderlying40 rfl Try.sizeOf9 rfl) ?_
  refine vl_val rfl (.some rfl) (val_load Try.isAgg9 rfl (by first | exact cell_cells (by repeat constructor) rfl | exact cell_rd (by first | exact rd_sl (by repeat constructor) | exact rd_old (by assumption) rfl) (by first | exact bcells_at (by omega) | exact ucells_at (by omega) | exact icells_at (by omega) | exact tcells_at (by omega) | exact bcells_get (by omega) | exact icells_get (by omega) | exact tcells_get (by omega) | exact ucells_get (by omega)) | exact cell_old (by assumption) (by simp [fps]))) ?_
  refine vl_val rfl (.some rfl) (val_lenStr Try.runUnderlying9 rfl) ?_
  refine vl_val rfl (.some rfl) (val_add rfl rfl (by first | exact w_i64 (by omega) (by omega) | rfl)) ?_
  refine vl_val rfl (.some rfl) (by first | exact val_fieldAddr Try.runUnderlying43 rfl Try.sizeOf40 rfl | exact val_fieldAddrR Try.runUnderlying43 rfl Try.sizeOf40 rfl) ?_
  refine vl_val rfl (.some rfl) (by first | exact val_fieldAddr Try.runUnderlying40 rfl Try.sizeOf9 rfl | exact val_fieldAddrR Try.runUnderlying40 rfl Try.sizeOf9 rfl) ?_
  refine vl_val rfl (.some rfl) (val_load Try.isAgg9 rfl (by first | exact cell_cells (by repeat constructor) rfl | exact cell_rd (by first | exact rd_sl (by repeat constructor) | exact rd_old (by assumption) rfl) (by first | exact bcells_at (by omega) | exact ucells_at (by omega) | exact icells_at (by omega) | exact tcells_at (by omega) | exact bcells_get (by omega) | exact icells_get (by omega) | exact tcells_get (by omega) | exact ucells_get (by omega)) | exact cell_old (by assumption) (by simp [fps]))) ?_
  refine vl_val rfl (.some rfl) (val_lenStr Try.runUnderlying9 rfl) ?_
  refine vl_val rfl (.some rfl) (val_add rfl rfl (by first | exact w_i64 (by omega) (by omega) | rfl)) ?_
  refine vl_val rfl (.some rfl) (by first | exact val_fieldAddr Try.runUnderlying43 rfl Try.sizeOf40 rfl | exact val_fieldAddrR Try.runUnderlying43 rfl Try.sizeOf40 rfl) ?_
  refine vl_val rfl (.some rfl) (by first | exact val_fieldAddr Try.runUnderlying40 rfl Try.sizeOf37 rfl | exact val_fieldAddrR Try.runUnderlying40 rfl Try.sizeOf37 rfl) ?_
  refine vl_val rfl (.some rfl) (val_load Try.isAgg37 rfl (by first | exact cell_cells (by repeat constructor) rfl | exact cell_rd (by first | exact rd_sl (by repeat constructor) | exact rd_old (by assumption) rfl) (by first | exact bcells_at (by omega) | exact ucells_at (by omega) | exact icells_at (by omega) | exact tcells_at (by omega) | exact bcells_get (by omega) | exact icells_get (by omega) | exact tcells_get (by omega) | exact ucells_get (by omega)) | exact cell_old (by assumption) (by simp [fps]))) ?_
  refine vl_val rfl (.some rfl) (val_lenSl Try.runUnderlying37 rfl) ?_
  refine vl_val rfl (.some rfl) (val_add rfl rfl (by first | exact w_i64 (by omega) (by omega) | rfl)) ?_
  refine vl_val rfl (.some rfl) (by first | exact val_fieldAddr Try.runUnderlying43 rfl Try.sizeOf40 rfl | exact val_fieldAddrR Try.runUnderlying43 rfl Try.sizeOf40 rfl) ?_
  refine vl_val rfl (.some rfl) (by first | exact val_fieldAddr Try.runUnderlying40 rfl Try.sizeOf38 rfl | exact val_fieldAddrR Try.runUnderlying40 rfl Try.sizeOf38 rfl) ?_
  refine vl_val rfl (.some rfl) (val_load Try.isAgg38 rfl (by first | exact cell_cells (by repeat constructor) rfl | exact cell_rd (by first | exact rd_sl (by repeat constructor) | exact rd_old (by assumption) rfl) (by first | exact bcells_at (by omega) | exact ucells_at (by omega) | exact icells_at (by omega) | exact tcells_at (by omega) | exact bcells_get (by omega) | exact icells_get (by omega) | exact tcells_get (by omega) | exact ucells_get (by omega)) | exact cell_old (by assumption) (by simp [fps]))) ?_
  refine vl_val rfl (.some rfl) (val_lenSl Try.runUnderlying38 rfl) ?_
  refine vl_val rfl (.some rfl) (val_add rfl rfl (by first | exact w_i64 (by omega) (by omega) | rfl)) ?_
  refine vl_val rfl (.some rfl) (by first | exact val_fieldAddr Try.runUnderlying43 rfl Try.sizeOf36 rfl | exact val_fieldAddrR Try.runUnderlying43 rfl Try.sizeOf36 rfl) ?_
  refine vl_val rfl (.some rfl) (by first | exact val_fieldAddr Try.runUnderlying36 rfl Try.sizeOf34 rfl | exact val_fieldAddrR Try.runUnderlying36 rfl Try.sizeOf34 rfl) ?_
  refine vl_val rfl (.some rfl) (val_load Try.isAgg34 rfl (by first | exact cell_cells (by repeat constructor) rfl | exact cell_rd (by first | exact rd_sl (by repeat constructor) | exact rd_old (by assumption) rfl) (by first | exact bcells_at (by omega) | exact ucells_at (by omega) | exact icells_at (by omega) | exact tcells_at (by omega) | exact bcells_get (by omega) | exact icells_get (by omega) | exact tcells_get (by omega) | exact ucells_get (by omega)) | exact cell_old (by assumption) (by simp [fps]))) ?_
  refine vl_val rfl (.some rfl) (val_lenSl Try.runUnderlying34 rfl) ?_
  refine vl_val rfl (.some rfl) (val_add rfl rfl (show _ = wI (gS0 (recOf m)) by unfold wI gS0; refine congrArg _ ?_; simp only; omega)) ?_
  refine vl_val rfl (.some rfl) (val_assign rfl) ?_
  refine vl_nil ?_
  refine vc_seq ?_
  refine vc_seq ?_
  refine vc_region ?_
  refine vl_val rfl (.some rfl) (by first | exact val_fieldAddr Try.runUnderlying43 rfl Try.sizeOf36 rfl | exact val_fieldAddrR Try.runUnderlying43 rfl Try.sizeOf36 rfl) ?_
  refine vl_val rfl (.some rfl) (by first | exact val_fieldAddr Try.runUnderlying36 rfl Try.sizeOf34 rfl | exact val_fieldAddrR Try.runUnderlying36 rfl Try.sizeOf34 rfl) ?_
  refine vl_val rfl (.some rfl) (val_load Try.isAgg34 rfl (by first | exact cell_cells (by repeat constructor) rfl | exact cell_rd (by first | exact rd_sl (by repeat constructor) | exact rd_old (by assumption) rfl) (by first | exact bcells_at (by omega) | exact ucells_at (by omega) | exact icells_at (by omega) | exact tcells_at (by omega) | exact bcells_get (by omega) | exact icells_get (by omega) | exact tcells_get (by omega) | exact ucells_get (by omega)) | exact cell_old (by assumption) (by simp [fps]))) ?_
  refine vl_val rfl (.some rfl) (val_lenSl Try.runUnderlying34 rfl) ?_
  refine vl_val rfl (.some rfl) (val_move rfl) ?_
  refine vl_nil ?_
  refine vc_block ?_
  rw [show wI (gS0 (recOf m)) = wI (gS0 (recOf m) + sumT (fun c : Cq => c.1.length) m.cs 0) by rw [sumT_0]; rfl]
  refine vc_loopw (fun q E H => ∃ i : Nat, i ≤ m.cs.length ∧ q = m.cs.length - i ∧ E = [(1, .pointer (some ⟨r1, 0, none⟩)), (3, .int .i64 (wI (gS0 (recOf m) + sumT (fun c : Cq => c.1.length) m.cs i))), (49, .slice m.Ac m.cs.length m.cc), (50, .int .i64 (m.cs.length : Nat)), (51, .int .i64 i)] ∧ H = [cells r1 (recC m) 43]) (m.cs.length) ⟨_, _, _, ⟨0, by omega, rfl, rfl, rfl⟩, (by repeat (first | exact trivial | refine ⟨rfl, ?_⟩ | refine ⟨le_item rfl (by first | rfl | (congr 1; omega) | (simp; done) | (simp; omega)), ?_⟩)), (by repeat constructor)⟩ ?_
  intro q E H hI
  obtain ⟨i, hi, rfl, rfl, rfl⟩ := hI
  refine vc_seq ?_
  refine vc_region ?_
  refine vl_val rfl (.some rfl) (val_lt rfl rfl) ?_
  refine vl_nil ?_
  refine vc_seq ?_
  refine vc_cond rfl (fun hc0 => ?_) (fun hc0 => ?_)
  · (try replace hc0 := of_decide_eq_true hc0)
    refine vc_skip ?_
    refine vc_seq ?_
    refine vc_block ?_
    refine vc_seq ?_
    refine vc_region ?_
    refine vl_val rfl (.some rfl) (val_indexAddr Try.runUnderlying34 Try.sizeOf96 rfl rfl (vs := m.cs.flatMap colV) (rd_old hR.cs rfl) (by omega) (by omega) (by rw [colC_len, Int.toNat_natCast]; omega)) ?_
    refine vl_val rfl (.some rfl) (val_loadAgg Try.isAgg96 Try.sizeOf96 rfl (cells_rd (us := colV (m.cs.getD i ([], 0))) (rd_old hR.cs rfl) (colC_at rfl (by omega))) rfl) ?_
    refine vl_alloc rfl rfl (.some rfl) Try.zeroValue96 (fun r5 => ?_)
    first | refine vl_store rfl rfl .none rfl rfl Try.sizeOf96 rfl (by repeat constructor) (by first | decide | exact Nat.le_refl _ | exact Nat.le_of_ble_eq_true rfl | (simp; omega)) ?_ | refine vl_storeSl rfl rfl .none rfl rfl Try.sizeOf96 rfl (by simp [Value.cells]) (by repeat constructor) (by first | decide | (simp [Value.cells]; omega)) ?_
    refine vl_nil ?_
    refine vc_region ?_
    refine vl_val rfl (.some rfl) (val_move rfl) ?_
    refine vl_val rfl (.some rfl) (by first | exact val_fieldAddr Try.runUnderlying96 rfl Try.sizeOf9 rfl | exact val_fieldAddrR Try.runUnderlying96 rfl Try.sizeOf9 rfl) ?_
    refine vl_val rfl (.some rfl) (val_load Try.isAgg9 rfl (by first | exact cell_cells (by repeat constructor) rfl | exact cell_rd (by first | exact rd_sl (by repeat constructor) | exact rd_old (by assumption) rfl) (by first | exact bcells_at (by omega) | exact ucells_at (by omega) | exact icells_at (by omega) | exact tcells_at (by omega) | exact bcells_get (by omega) | exact icells_get (by omega) | exact tcells_get (by omega) | exact ucells_get (by omega)) | exact cell_old (by assumption) (by simp [fps]))) ?_
    refine vl_val rfl (.some rfl) (val_lenStr Try.runUnderlying9 rfl) ?_
    refine vl_val rfl (.some rfl) (val_add rfl rfl (show _ = wI (gS0 (recOf m) + sumT (fun c : Cq => c.1.length) m.cs (i + 1)) by rw [wI_add (b := _) (congrArg Nat.cast (sL_size _)), sumT_s ([], 0) (by omega), Nat.add_assoc])) ?_
    refine vl_val rfl (.some rfl) (val_assign rfl) ?_
    refine vl_nil ?_
    refine vc_region ?_
    refine vl_val rfl (.some rfl) (val_add rfl rfl (by first | exact w_i64 (by omega) (by omega) | rfl)) ?_
    refine vl_val rfl (.some rfl) (val_move rfl) ?_
    refine vl_nil ?_
    exact ⟨(m.cs.length - (i + 1)), _, _, _, by omega, (by repeat (first | exact trivial | refine ⟨rfl, ?_⟩ | refine ⟨le_item rfl (by first | rfl | (congr 1; omega) | (simp; done) | (simp; omega)), ?_⟩)), (by repeat constructor), ⟨i + 1, by omega, rfl, rfl, rfl⟩⟩
  · (try replace hc0 := of_decide_eq_false hc0)
    obtain rfl : i = m.cs.length := by omega
    rw [show wI (gS0 (recOf m) + sumT (fun c : Cq => c.1.length) m.cs m.cs.length) = wI (gS1 (recOf m)) from rfl]
    refine vc_exit ?_
    refine vc_seq ?_
    refine vc_seq ?_
    refine vc_region ?_
    refine vl_val rfl (.some rfl) (by first | exact val_fieldAddr Try.runUnderlying43 rfl Try.sizeOf40 rfl | exact val_fieldAddrR Try.runUnderlying43 rfl Try.sizeOf40 rfl) ?_
    refine vl_val rfl (.some rfl) (by first | exact val_fieldAddr Try.runUnderlying40 rfl Try.sizeOf37 rfl | exact val_fieldAddrR Try.runUnderlying40 rfl Try.sizeOf37 rfl) ?_
    refine vl_val rfl (.some rfl) (val_load Try.isAgg37 rfl (by first | exact cell_cells (by repeat constructor) rfl | exact cell_rd (by first | exact rd_sl (by repeat constructor) | exact rd_old (by assumption) rfl) (by first | exact bcells_at (by omega) | exact ucells_at (by omega) | exact icells_at (by omega) | exact tcells_at (by omega) | exact bcells_get (by omega) | exact icells_get (by omega) | exact tcells_get (by omega) | exact ucells_get (by omega)) | exact cell_old (by assumption) (by simp [fps]))) ?_
    refine vl_val rfl (.some rfl) (val_lenSl Try.runUnderlying37 rfl) ?_
    refine vl_val rfl (.some rfl) (val_move rfl) ?_
    refine vl_nil ?_
    refine vc_block ?_
    rw [show wI (gS1 (recOf m)) = wI (gS1 (recOf m) + sumT (fun c : Tx => c.length) m.ds 0) by rw [sumT_0]; rfl]
    refine vc_loopw (fun q E H => ∃ i : Nat, i ≤ m.ds.length ∧ q = m.ds.length - i ∧ E = [(1, .pointer (some ⟨r1, 0, none⟩)), (3, .int .i64 (wI (gS1 (recOf m) + sumT (fun c : Tx => c.length) m.ds i))), (63, .slice m.Ad m.ds.length m.cd), (64, .int .i64 (m.ds.length : Nat)), (65, .int .i64 i)] ∧ H = [cells r1 (recC m) 43]) (m.ds.length) ⟨_, _, _, ⟨0, by omega, rfl, rfl, rfl⟩, (by repeat (first | exact trivial | refine ⟨rfl, ?_⟩ | refine ⟨le_item rfl (by first | rfl | (congr 1; omega) | (simp; done) | (simp; omega)), ?_⟩)), (by repeat constructor)⟩ ?_
    intro q E H hI
    obtain ⟨i, hi, rfl, rfl, rfl⟩ := hI
    refine vc_seq ?_
    refine vc_region ?_
    refine vl_val rfl (.some rfl) (val_lt rfl rfl) ?_
    refine vl_nil ?_
    refine vc_seq ?_
    refine vc_cond rfl (fun hc1 => ?_) (fun hc1 => ?_)
    · (try replace hc1 := of_decide_eq_true hc1)
      refine vc_skip ?_
      refine vc_seq ?_
      refine vc_block ?_
      refine vc_seq ?_
      refine vc_region ?_
      refine vl_val rfl (.some rfl) (val_indexAddr Try.runUnderlying37 Try.sizeOf9 rfl rfl (vs := tcS m.ds) (rd_old hR.ds rfl) (by omega) (by omega) (by rw [tcS_length, Int.toNat_natCast]; omega)) ?_
      refine vl_val rfl (.some rfl) (val_load Try.isAgg9 rfl (cell_rd (rd_old hR.ds rfl) (tcS_at (by omega)))) ?_
      refine vl_val rfl (.some rfl) (val_assign rfl) ?_
      refine vl_nil ?_
      refine vc_region ?_
      refine vl_val rfl (.some rfl) (val_move rfl) ?_
      refine vl_val rfl (.some rfl) (val_move rfl) ?_
      refine vl_val rfl (.some rfl) (val_lenStr Try.runUnderlying9 rfl) ?_
      refine vl_val rfl (.some rfl) (val_add rfl rfl (show _ = wI (gS1 (recOf m) + sumT (fun c : Tx => c.length) m.ds (i + 1)) by rw [wI_add (b := _) (congrArg Nat.cast (sL_size _)), sumT_s [] (by omega), Nat.add_assoc])) ?_
      refine vl_val rfl (.some rfl) (val_assign rfl) ?_
      refine vl_nil ?_
      refine vc_region ?_
      refine vl_val rfl (.some rfl) (val_add rfl rfl (by first | exact w_i64 (by omega) (by omega) | rfl)) ?_
      refine vl_val rfl (.some rfl) (val_move rfl) ?_
      refine vl_nil ?_
      exact ⟨(m.ds.length - (i + 1)), _, _, _, by omega, (by repeat (first | exact trivial | refine ⟨rfl, ?_⟩ | refine ⟨le_item rfl (by first | rfl | (congr 1; omega) | (simp; done) | (simp; omega)), ?_⟩)), (by repeat constructor), ⟨i + 1, by omega, rfl, rfl, rfl⟩⟩
    · (try replace hc1 := of_decide_eq_false hc1)
      obtain rfl : i = m.ds.length := by omega
      rw [show wI (gS1 (recOf m) + sumT (fun c : Tx => c.length) m.ds m.ds.length) = wI (gS2 (recOf m)) from rfl]
      refine vc_exit ?_
      refine vc_seq ?_
      refine vc_seq ?_
      refine vc_region ?_
      refine vl_val rfl (.some rfl) (by first | exact val_fieldAddr Try.runUnderlying43 rfl Try.sizeOf40 rfl | exact val_fieldAddrR Try.runUnderlying43 rfl Try.sizeOf40 rfl) ?_
      refine vl_val rfl (.some rfl) (by first | exact val_fieldAddr Try.runUnderlying40 rfl Try.sizeOf38 rfl | exact val_fieldAddrR Try.runUnderlying40 rfl Try.sizeOf38 rfl) ?_
      refine vl_val rfl (.some rfl) (val_load Try.isAgg38 rfl (by first | exact cell_cells (by repeat constructor) rfl | exact cell_rd (by first | exact rd_sl (by repeat constructor) | exact rd_old (by assumption) rfl) (by first | exact bcells_at (by omega) | exact ucells_at (by omega) | exact icells_at (by omega) | exact tcells_at (by omega) | exact bcells_get (by omega) | exact icells_get (by omega) | exact tcells_get (by omega) | exact ucells_get (by omega)) | exact cell_old (by assumption) (by simp [fps]))) ?_
      refine vl_val rfl (.some rfl) (val_lenSl Try.runUnderlying38 rfl) ?_
      refine vl_val rfl (.some rfl) (val_move rfl) ?_
      refine vl_nil ?_
      refine vc_block ?_
      rw [show wI (gS2 (recOf m)) = wI (gS2 (recOf m) + sumT (fun c : Mq => c.2.length) m.ms 0) by rw [sumT_0]; rfl]
      refine vc_loopw (fun q E H => ∃ i : Nat, i ≤ m.ms.length ∧ q = m.ms.length - i ∧ E = [(1, .pointer (some ⟨r1, 0, none⟩)), (3, .int .i64 (wI (gS2 (recOf m) + sumT (fun c : Mq => c.2.length) m.ms i))), (76, .slice m.Am m.ms.length m.cm), (77, .int .i64 (m.ms.length : Nat)), (78, .int .i64 i)] ∧ H = [cells r1 (recC m) 43]) (m.ms.length) ⟨_, _, _, ⟨0, by omega, rfl, rfl, rfl⟩, (by repeat (first | exact trivial | refine ⟨rfl, ?_⟩ | refine ⟨le_item rfl (by first | rfl | (congr 1; omega) | (simp; done) | (simp; omega)), ?_⟩)), (by repeat constructor)⟩ ?_
      intro q E H hI
      obtain ⟨i, hi, rfl, rfl, rfl⟩ := hI
      refine vc_seq ?_
      refine vc_region ?_
      refine vl_val rfl (.some rfl) (val_lt rfl rfl) ?_
      refine vl_nil ?_
      refine vc_seq ?_
      refine vc_cond rfl (fun hc2 => ?_) (fun hc2 => ?_)
      · (try replace hc2 := of_decide_eq_true hc2)
        refine vc_skip ?_
        refine vc_seq ?_
        refine vc_block ?_
        refine vc_seq ?_
        refine vc_region ?_
        refine vl_val rfl (.some rfl) (val_indexAddr Try.runUnderlying38 Try.sizeOf104 rfl rfl (vs := m.ms.flatMap meaV) (rd_old hR.ms rfl) (by omega) (by omega) (by rw [meaC_len, Int.toNat_natCast]; omega)) ?_
        refine vl_val rfl (.some rfl) (val_loadAgg Try.isAgg104 Try.sizeOf104 rfl (cells_rd (us := meaV (m.ms.getD i (0, []))) (rd_old hR.ms rfl) (meaC_at rfl (by omega))) rfl) ?_
        refine vl_alloc rfl rfl (.some rfl) Try.zeroValue104 (fun r9 => ?_)
        first | refine vl_store rfl rfl .none rfl rfl Try.sizeOf104 rfl (by repeat constructor) (by first | decide | exact Nat.le_refl _ | exact Nat.le_of_ble_eq_true rfl | (simp; omega)) ?_ | refine vl_storeSl rfl rfl .none rfl rfl Try.sizeOf104 rfl (by simp [Value.cells]) (by repeat constructor) (by first | decide | (simp [Value.cells]; omega)) ?_
        refine vl_nil ?_
        refine vc_region ?_
        refine vl_val rfl (.some rfl) (val_move rfl) ?_
        refine vl_val rfl (.some rfl) (by first | exact val_fieldAddr Try.runUnderlying104 rfl Try.sizeOf9 rfl | exact val_fieldAddrR Try.runUnderlying104 rfl Try.sizeOf9 rfl) ?_
        refine vl_val rfl (.some rfl) (val_load Try.isAgg9 rfl (by first | exact cell_cells (by repeat constructor) rfl | exact cell_rd (by first | exact rd_sl (by repeat constructor) | exact rd_old (by assumption) rfl) (by first | exact bcells_at (by omega) | exact ucells_at (by omega) | exact icells_at (by omega) | exact tcells_at (by omega) | exact bcells_get (by omega) | exact icells_get (by omega) | exact tcells_get (by omega) | exact ucells_get (by omega)) | exact cell_old (by assumption) (by simp [fps]))) ?_
        refine vl_val rfl (.some rfl) (val_lenStr Try.runUnderlying9 rfl) ?_
        refine vl_val rfl (.some rfl) (val_add rfl rfl (show _ = wI (gS2 (recOf m) + sumT (fun c : Mq => c.2.length) m.ms (i + 1)) by rw [wI_add (b := _) (congrArg Nat.cast (sL_size _)), sumT_s (0, []) (by omega), Nat.add_assoc])) ?_
        refine vl_val rfl (.some rfl) (val_assign rfl) ?_
        refine vl_nil ?_
        refine vc_region ?_
        refine vl_val rfl (.some rfl) (val_add rfl rfl (by first | exact w_i64 (by omega) (by omega) | rfl)) ?_
        refine vl_val rfl (.some rfl) (val_move rfl) ?_
        refine vl_nil ?_
        exact ⟨(m.ms.length - (i + 1)), _, _, _, by omega, (by repeat (first | exact trivial | refine ⟨rfl, ?_⟩ | refine ⟨le_item rfl (by first | rfl | (congr 1; omega) | (simp; done) | (simp; omega)), ?_⟩)), (by repeat constructor), ⟨i + 1, by omega, rfl, rfl, rfl⟩⟩
      · (try replace hc2 := of_decide_eq_false hc2)
        obtain rfl : i = m.ms.length := by omega
        rw [show wI (gS2 (recOf m) + sumT (fun c : Mq => c.2.length) m.ms m.ms.length) = wI (gS3 (recOf m)) from rfl]
        refine vc_exit ?_
        refine vc_seq ?_
        refine vc_seq ?_
        refine vc_region ?_
        refine vl_val rfl (.some rfl) (by first | exact val_fieldAddr Try.runUnderlying43 rfl Try.sizeOf41 rfl | exact val_fieldAddrR Try.runUnderlying43 rfl Try.sizeOf41 rfl) ?_
        refine vl_val rfl (.some rfl) (val_load Try.isAgg41 rfl (by first | exact cell_cells (by repeat constructor) rfl | exact cell_rd (by first | exact rd_sl (by repeat constructor) | exact rd_old (by assumption) rfl) (by first | exact bcells_at (by omega) | exact ucells_at (by omega) | exact icells_at (by omega) | exact tcells_at (by omega) | exact bcells_get (by omega) | exact icells_get (by omega) | exact tcells_get (by omega) | exact ucells_get (by omega)) | exact cell_old (by assumption) (by simp [fps]))) ?_
        refine vl_val rfl (.some rfl) (val_lenSl Try.runUnderlying41 rfl) ?_
        refine vl_val rfl (.some rfl) (val_move rfl) ?_
        refine vl_nil ?_
        refine vc_block ?_
        refine vc_loopw (fun q E H => ∃ i T : Nat, i ≤ m.rs.length ∧ q = m.rs.length - i ∧ gS3 (recOf m) ≤ T ∧ (goodRec (recOf m) → T ≤ gS3 (recOf m) + 1000 * i) ∧ E = [(1, .pointer (some ⟨r1, 0, none⟩)), (3, .int .i64 (wI T)), (89, .slice m.Ar m.rs.length m.cr), (90, .int .i64 (m.rs.length : Nat)), (91, .int .i64 i)] ∧ H = [cells r1 (recC m) 43]) (m.rs.length) ⟨_, _, _, ⟨0, gS3 (recOf m), by omega, rfl, Nat.le_refl _, fun _ => by omega, rfl, rfl⟩, (by repeat (first | exact trivial | refine ⟨rfl, ?_⟩ | refine ⟨le_item rfl (by first | rfl | (congr 1; omega) | (simp; done) | (simp; omega)), ?_⟩)), (by repeat constructor)⟩ ?_
        intro q E H hI
        obtain ⟨i, T, hi, rfl, hT1, hT2, rfl, rfl⟩ := hI
        refine vc_seq ?_
        refine vc_region ?_
        refine vl_val rfl (.some rfl) (val_lt rfl rfl) ?_
        refine vl_nil ?_
        refine vc_seq ?_
        refine vc_cond rfl (fun hc3 => ?_) (fun hc3 => ?_)
        · (try replace hc3 := of_decide_eq_true hc3)
          have hrow := hR.row _ (row_in (l := m.rs) (i := i) (by omega))
          have hrl := hS.row _ (row_in (l := m.rs) (i := i) (by omega))
          refine vc_skip ?_
          refine vc_seq ?_
          refine vc_block ?_
          refine vc_seq ?_
          refine vc_region ?_
          refine vl_val rfl (.some rfl) (val_indexAddr Try.runUnderlying41 Try.sizeOf105 rfl rfl (vs := m.rs.flatMap rowV) (rd_old hR.rs rfl) (by omega) (by omega) (by rw [rowC_len, Int.toNat_natCast]; omega)) ?_
          refine vl_val rfl (.some rfl) (val_load Try.isAgg105 rfl (cell_rd (rd_old hR.rs rfl) (rowC_at (i := i) (by omega)))) ?_
          refine vl_val rfl (.some rfl) (val_assign rfl) ?_
          refine vl_nil ?_
          refine vc_seq ?_
          refine vc_region ?_
          refine vl_val rfl (.some rfl) (val_move rfl) ?_
          refine vl_val rfl (.some rfl) (val_move rfl) ?_
          refine vl_val rfl (.some rfl) (val_lenSl Try.runUnderlying105 rfl) ?_
          refine vl_val rfl (.some rfl) (val_add rfl rfl (by first | exact w_i64 (by omega) (by omega) | rfl)) ?_
          refine vl_val rfl (.some rfl) (val_add rfl rfl (wI_add (b := 1 + (m.rs.getD i rw0).2.2.length) (by omega))) ?_
          refine vl_val rfl (.some rfl) (val_assign rfl) ?_
          refine vl_nil ?_
          refine vc_seq ?_
          refine vc_seq ?_
          refine vc_region ?_
          refine vl_val rfl (.some rfl) (val_move rfl) ?_
          refine vl_val rfl (.some rfl) (val_lenSl Try.runUnderlying105 rfl) ?_
          refine vl_val rfl (.some rfl) (val_move rfl) ?_
          refine vl_nil ?_
          refine vc_block ?_
          refine vc_loopw (fun q E H => ∃ j U : Nat, j ≤ (m.rs.getD i rw0).2.2.length ∧ q = (m.rs.getD i rw0).2.2.length - j ∧ gS3 (recOf m) ≤ U ∧ (goodRec (recOf m) → U ≤ gS3 (recOf m) + 1000 * i + 9 + 64 * j) ∧ E = [(1, .pointer (some ⟨r1, 0, none⟩)), (3, .int .i64 (wI U)), (89, .slice m.Ar m.rs.length m.cr), (90, .int .i64 (m.rs.length : Nat)), (91, .int .i64 i), (100, .slice (m.rs.getD i rw0).1 (m.rs.getD i rw0).2.2.length (m.rs.getD i rw0).2.1), (101, .int .i64 ((m.rs.getD i rw0).2.2.length : Nat)), (102, .int .i64 j)] ∧ H = [cells r1 (recC m) 43]) ((m.rs.getD i rw0).2.2.length) ⟨_, _, _, ⟨0, T + (1 + (m.rs.getD i rw0).2.2.length), by omega, rfl, by omega, fun hg => by have h5 := hT2 hg; have h6 := (good_row hg (row_in (l := m.rs) (i := i) (by omega))).1; omega, rfl, rfl⟩, (by repeat (first | exact trivial | refine ⟨rfl, ?_⟩ | refine ⟨le_item rfl (by first | rfl | (congr 1; omega) | (simp; done) | (simp; omega)), ?_⟩)), (by repeat constructor)⟩ ?_
          intro q E H hI
          obtain ⟨j, U, hj, rfl, hU1, hU2, rfl, rfl⟩ := hI
          refine vc_seq ?_
          refine vc_region ?_
          refine vl_val rfl (.some rfl) (val_lt rfl rfl) ?_
          refine vl_nil ?_
          refine vc_seq ?_
          refine vc_cond rfl (fun hc4 => ?_) (fun hc4 => ?_)
          · (try replace hc4 := of_decide_eq_true hc4)
            refine vc_skip ?_
            refine vc_seq ?_
            refine vc_block ?_
            refine vc_seq ?_
            refine vc_region ?_
            refine vl_val rfl (.some rfl) (val_indexAddr Try.runUnderlying105 Try.sizeOf107 rfl rfl (vs := flat (m.rs.getD i rw0).2.2) (rd_old hrow.1 rfl) (by omega) (by omega) (by rw [vflat_len, Int.toNat_natCast]; omega)) ?_
            refine vl_val rfl (.some rfl) (val_loadAgg Try.isAgg107 Try.sizeOf107 rfl (cells_rd (us := [.int .i64 ((m.rs.getD i rw0).2.2.getD j z3).k, .int .i64 ((m.rs.getD i rw0).2.2.getD j z3).n, .string ((m.rs.getD i rw0).2.2.getD j z3).s]) (rd_old hrow.1 rfl) (by rw [Int.toNat_natCast]; exact flat_at (m.rs.getD i rw0).2.2 j (by omega))) rfl) ?_
            refine vl_alloc rfl rfl (.some rfl) Try.zeroValue107 (fun r13 => ?_)
            first | refine vl_store rfl rfl .none rfl rfl Try.sizeOf107 rfl (by repeat constructor) (by first | decide | exact Nat.le_refl _ | exact Nat.le_of_ble_eq_true rfl | (simp; omega)) ?_ | refine vl_storeSl rfl rfl .none rfl rfl Try.sizeOf107 rfl (by simp [Value.cells]) (by repeat constructor) (by first | decide | (simp [Value.cells]; omega)) ?_
            refine vl_nil ?_
            refine vc_region ?_
            refine vl_val rfl (.some rfl) (val_move rfl) ?_
            refine vl_val rfl (.some rfl) (by first | exact val_fieldAddr Try.runUnderlying107 rfl Try.sizeOf9 rfl | exact val_fieldAddrR Try.runUnderlying107 rfl Try.sizeOf9 rfl) ?_
            refine vl_val rfl (.some rfl) (val_load Try.isAgg9 rfl (by first | exact cell_cells (by repeat constructor) rfl | exact cell_rd (by first | exact rd_sl (by repeat constructor) | exact rd_old (by assumption) rfl) (by first | exact bcells_at (by omega) | exact ucells_at (by omega) | exact icells_at (by omega) | exact tcells_at (by omega) | exact bcells_get (by omega) | exact icells_get (by omega) | exact tcells_get (by omega) | exact ucells_get (by omega)) | exact cell_old (by assumption) (by simp [fps]))) ?_
            refine vl_val rfl (.some rfl) (val_lenStr Try.runUnderlying9 rfl) ?_
            refine vl_val rfl (.some rfl) (val_add rfl rfl (wI_add (b := ((m.rs.getD i rw0).2.2.getD j z3).s.size) rfl)) ?_
            refine vl_val rfl (.some rfl) (val_assign rfl) ?_
            refine vl_nil ?_
            refine vc_region ?_
            refine vl_val rfl (.some rfl) (val_add rfl rfl (by first | exact w_i64 (by omega) (by omega) | rfl)) ?_
            refine vl_val rfl (.some rfl) (val_move rfl) ?_
            refine vl_nil ?_
            exact ⟨((m.rs.getD i rw0).2.2.length - (j + 1)), _, _, _, by omega, (by repeat (first | exact trivial | refine ⟨rfl, ?_⟩ | refine ⟨le_item rfl (by first | rfl | (congr 1; omega) | (simp; done) | (simp; omega)), ?_⟩)), (by repeat constructor), ⟨j + 1, U + ((m.rs.getD i rw0).2.2.getD j z3).s.size, by omega, rfl, by omega, fun hg => by have h5 := hU2 hg; have h6 := (good_row hg (row_in (l := m.rs) (i := i) (by omega))).2 _ (getV_in (r := (m.rs.getD i rw0).2.2) (j := j) (by omega)); omega, rfl, rfl⟩⟩
          · (try replace hc4 := of_decide_eq_false hc4)
            refine vc_exit ?_
            refine vc_seq ?_
            refine vc_region ?_
            refine vl_val rfl (.some rfl) (val_move rfl) ?_
            refine vl_val rfl (.some rfl) (val_gt rfl rfl) ?_
            refine vl_nil ?_
            refine vc_cond rfl (fun hc5 => ?_) (fun hc5 => ?_)
            · (try replace hc5 := of_decide_eq_true hc5)
              refine vc_seq ?_
              refine vc_region ?_
              refine vl_val rfl (.some rfl) (val_assign rfl) ?_
              refine vl_nil ?_
              refine vc_ret ?_
              refine ⟨_, [], _, res1 Try.results21 rfl, (by repeat constructor), ?_⟩
              exact ⟨true, rfl, fun h => (by cases h), rfl⟩
            · (try replace hc5 := of_decide_eq_false hc5)
              refine vc_skip ?_
              refine vc_region ?_
              refine vl_val rfl (.some rfl) (val_add rfl rfl (by first | exact w_i64 (by omega) (by omega) | rfl)) ?_
              refine vl_val rfl (.some rfl) (val_move rfl) ?_
              refine vl_nil ?_
              exact ⟨(m.rs.length - (i + 1)), _, _, _, by omega, (by repeat (first | exact trivial | refine ⟨rfl, ?_⟩ | refine ⟨le_item rfl (by first | rfl | (congr 1; omega) | (simp; done) | (simp; omega)), ?_⟩)), (by repeat constructor), ⟨i + 1, U, by omega, rfl, hU1, fun hg => by have h5 := hU2 hg; have h6 := (good_row hg (row_in (l := m.rs) (i := i) (by omega))).1; omega, rfl, rfl⟩⟩
        · (try replace hc3 := of_decide_eq_false hc3)
          refine vc_exit ?_
          refine vc_seq ?_
          refine vc_region ?_
          refine vl_val rfl (.some rfl) (val_move rfl) ?_
          refine vl_val rfl (.some rfl) (val_gt rfl rfl) ?_
          refine vl_val rfl (.some rfl) (val_assign rfl) ?_
          refine vl_nil ?_
          refine vc_ret ?_
          refine ⟨_, [], _, res1 Try.results21 rfl, (by repeat constructor), ?_⟩
          refine ⟨_, rfl, fun h hg => ?_, rfl⟩
          have h5 := hT2 hg
          have h6 := gS3_lt hS hg
          have h7 := (good_few hg).2.2.2
          rw [wI_is (by omega)] at h
          have h8 := of_decide_eq_false h
          omega




theorem rec0_len {m : RecM} (h : recOf m = rec0) : m.k = 0 ∧ m.tn = [] ∧ m.cs = [] ∧ m.rn = [] ∧ m.rt = [] ∧ m.ds = [] ∧ m.ms = [] ∧ m.nm = [] ∧ m.rs = [] := by
  have h1 := congrArg Rec.k h
  have h2 := congrArg Rec.t h
  have h3 := congrArg Rec.r h
  have h4 := congrArg Rec.nm h
  have h5 := congrArg Rec.rows h
  exact ⟨h1, congrArg RT.n h2, congrArg RT.cs h2, congrArg RR.n h3, congrArg RR.t h3, congrArg RR.ds h3, congrArg RR.ms h3, h4, by simpa using h5⟩
abbrev liveM (r : Nat) : RecM := ⟨1, [], some ⟨r, 0, none⟩, 1, [([], 0)], [], [], none, 0, [], none, 0, [], [], none, 0, []⟩
theorem live_is (r : Nat) : RecL (liveM r) ∧ goodRec (recOf (liveM r)) := by
  have h : (0 : Nat) < 4611686018427387904 := by decide
  have h1 : (1 : Nat) < 4611686018427387904 := by decide
  exact ⟨⟨h, h, h, h, h1, h, h, h, fun q hq => by cases hq⟩, .inl ⟨rfl, ⟨Nat.le_refl 1, Nat.le_of_ble_eq_true rfl⟩, ⟨rfl, rfl, rfl, rfl⟩, ⟨rfl, rfl⟩⟩⟩
theorem good_k0 {x : Rec} (h : goodRec x) : x.k ≠ 0 := by rcases h with ⟨h, _⟩ | ⟨h, _⟩ | ⟨h, _⟩ <;> omega

set_option maxRecDepth 20000 in
theorem xSame (a b : RecM) (he : recOf a = recOf b) (hx : (goodRec (recOf b) ∧ ¬ 262144 < (recB (recOf b)).length) ∨ recOf b = rec0) (hLa : RecL a) (hLb : RecL b) (hBa : RecB a) (hBb : RecB b) (w : World) (hRa : RecR w a) (hRb : RecR w b) : Fn Try.prog 20 [recA a, recA b] [] (ret fun v H' => v = .bool true ∧ H' = []) w := by
  have ek : a.k = b.k := congrArg Rec.k he
  have er : a.rs.length = b.rs.length := by have := congrArg (fun x : Rec => x.rows.length) he; simpa using this
  refine fn_enter Try.func20 rfl Try.ntmps20 rfl ?_
  refine vc_seq ?_
  refine vc_region ?_
  refine vl_box rfl rfl (.some rfl) rfl (fun r2 => ?_)
  refine vl_box rfl rfl (.some rfl) rfl (fun r3 => ?_)
  refine vl_val rfl (.some rfl) (val_assign rfl) ?_
  refine vl_nil ?_
  refine vc_seq ?_
  refine vc_seq ?_
  refine vc_region ?_
  refine vl_val rfl (.some rfl) (by first | exact val_fieldAddr Try.runUnderlying43 rfl Try.sizeOf3 rfl | exact val_fieldAddrR Try.runUnderlying43 rfl Try.sizeOf3 rfl) ?_
  refine vl_val rfl (.some rfl) (val_load Try.isAgg3 rfl (by first | exact cell_cells (by repeat constructor) rfl | exact cell_rd (by first | exact rd_sl (by repeat constructor) | exact rd_old (by assumption) rfl) (by first | exact bcells_at (by omega) | exact ucells_at (by omega) | exact icells_at (by omega) | exact tcells_at (by omega) | exact bcells_get (by omega) | exact icells_get (by omega) | exact tcells_get (by omega) | exact ucells_get (by omega)) | exact cell_old (by assumption) (by simp [fps]))) ?_
  refine vl_val rfl (.some rfl) (by first | exact val_fieldAddr Try.runUnderlying44 rfl Try.sizeOf3 rfl | exact val_fieldAddrR Try.runUnderlying44 rfl Try.sizeOf3 rfl) ?_
  refine vl_val rfl (.some rfl) (val_load Try.isAgg3 rfl (by first | exact cell_cells (by repeat constructor) rfl | exact cell_rd (by first | exact rd_sl (by repeat constructor) | exact rd_old (by assumption) rfl) (by first | exact bcells_at (by omega) | exact ucells_at (by omega) | exact icells_at (by omega) | exact tcells_at (by omega) | exact bcells_get (by omega) | exact icells_get (by omega) | exact tcells_get (by omega) | exact ucells_get (by omega)) | exact cell_old (by assumption) (by simp [fps]))) ?_
  refine vl_val rfl (.some rfl) (val_ne rfl rfl) ?_
  refine vl_val rfl (.some rfl) (val_move rfl) ?_
  refine vl_split (t := 14) rfl (fun hg14 => ?_) (fun hg14 => ?_)
  · (try replace hg14 := of_decide_eq_true hg14)
    refine vl_off rfl rfl rfl rfl (.some rfl) ?_
    refine vl_off rfl rfl rfl rfl (.some rfl) ?_
    refine vl_off rfl rfl rfl rfl (.some rfl) ?_
    refine vl_off rfl rfl rfl rfl (.some rfl) ?_
    refine vl_off rfl rfl rfl rfl (.some rfl) ?_
    refine vl_off rfl rfl rfl rfl (.some rfl) ?_
    refine vl_off rfl rfl rfl rfl (.some rfl) ?_
    refine vl_val rfl (.some rfl) (val_pick rfl rfl) ?_
    refine vl_nil ?_
    refine vc_cond rfl (fun _ => ?_) (fun h => by cases h)
    refine vc_seq ?_
    refine vc_region ?_
    refine vl_val rfl (.some rfl) (val_assign rfl) ?_
    refine vl_nil ?_
    refine vc_ret ?_
    first
      | (exact ⟨_, [], _, res1 Try.results20 rfl, (by repeat constructor), rfl, rfl⟩)
      | (refine ⟨_, [], _, res1 Try.results20 rfl, (by repeat constructor), congrArg Value.bool (decide_eq_true ?_), rfl⟩
         rw [n2, n4, n5]; rfl)
      | (exfalso; first | omega | exact hg29 (by rw [n8]) | exact absurd rfl (by assumption) | contradiction)
  · (try replace hg14 := of_decide_eq_false hg14)
    refine vl_on rfl rfl rfl rfl ?_
    refine vl_val rfl (.some rfl) (by first | exact val_fieldAddr Try.runUnderlying43 rfl Try.sizeOf41 rfl | exact val_fieldAddrR Try.runUnderlying43 rfl Try.sizeOf41 rfl) ?_
    refine vl_on rfl rfl rfl rfl ?_
    refine vl_val rfl (.some rfl) (val_load Try.isAgg41 rfl (by first | exact cell_cells (by repeat constructor) rfl | exact cell_rd (by first | exact rd_sl (by repeat constructor) | exact rd_old (by assumption) rfl) (by first | exact bcells_at (by omega) | exact ucells_at (by omega) | exact icells_at (by omega) | exact tcells_at (by omega) | exact bcells_get (by omega) | exact icells_get (by omega) | exact tcells_get (by omega) | exact ucells_get (by omega)) | exact cell_old (by assumption) (by simp [fps]))) ?_
    refine vl_on rfl rfl rfl rfl ?_
    refine vl_val rfl (.some rfl) (val_lenSl Try.runUnderlying41 rfl) ?_
    refine vl_on rfl rfl rfl rfl ?_
    refine vl_val rfl (.some rfl) (by first | exact val_fieldAddr Try.runUnderlying44 rfl Try.sizeOf41 rfl | exact val_fieldAddrR Try.runUnderlying44 rfl Try.sizeOf41 rfl) ?_
    refine vl_on rfl rfl rfl rfl ?_
    refine vl_val rfl (.some rfl) (val_load Try.isAgg41 rfl (by first | exact cell_cells (by repeat constructor) rfl | exact cell_rd (by first | exact rd_sl (by repeat constructor) | exact rd_old (by assumption) rfl) (by first | exact bcells_at (by omega) | exact ucells_at (by omega) | exact icells_at (by omega) | exact tcells_at (by omega) | exact bcells_get (by omega) | exact icells_get (by omega) | exact tcells_get (by omega) | exact ucells_get (by omega)) | exact cell_old (by assumption) (by simp [fps]))) ?_
    refine vl_on rfl rfl rfl rfl ?_
    refine vl_val rfl (.some rfl) (val_lenSl Try.runUnderlying41 rfl) ?_
    refine vl_on rfl rfl rfl rfl ?_
    refine vl_val rfl (.some rfl) (val_ne rfl rfl) ?_
    refine vl_val rfl (.some rfl) (val_pick rfl rfl) ?_
    refine vl_nil ?_
    refine vc_cond rfl (fun hc0 => ?_) (fun hc0 => ?_)
    · (try replace hc0 := of_decide_eq_true hc0)
      refine vc_seq ?_
      refine vc_region ?_
      refine vl_val rfl (.some rfl) (val_assign rfl) ?_
      refine vl_nil ?_
      refine vc_ret ?_
      first
        | (exact ⟨_, [], _, res1 Try.results20 rfl, (by repeat constructor), rfl, rfl⟩)
        | (refine ⟨_, [], _, res1 Try.results20 rfl, (by repeat constructor), congrArg Value.bool (decide_eq_true ?_), rfl⟩
           rw [n2, n4, n5]; rfl)
        | (exfalso; first | omega | exact hg29 (by rw [n8]) | exact absurd rfl (by assumption) | contradiction)
    · (try replace hc0 := of_decide_eq_false hc0)
      refine vc_skip ?_
      refine vc_seq ?_
      refine vc_seq ?_
      refine vc_region ?_
      refine vl_val rfl (.some rfl) (by first | exact val_fieldAddr Try.runUnderlying44 rfl Try.sizeOf3 rfl | exact val_fieldAddrR Try.runUnderlying44 rfl Try.sizeOf3 rfl) ?_
      refine vl_val rfl (.some rfl) (val_load Try.isAgg3 rfl (by first | exact cell_cells (by repeat constructor) rfl | exact cell_rd (by first | exact rd_sl (by repeat constructor) | exact rd_old (by assumption) rfl) (by first | exact bcells_at (by omega) | exact ucells_at (by omega) | exact icells_at (by omega) | exact tcells_at (by omega) | exact bcells_get (by omega) | exact icells_get (by omega) | exact tcells_get (by omega) | exact ucells_get (by omega)) | exact cell_old (by assumption) (by simp [fps]))) ?_
      refine vl_val rfl (.some rfl) (val_eq rfl rfl) ?_
      refine vl_nil ?_
      refine vc_cond rfl (fun hc1 => ?_) (fun hc1 => ?_)
      · (try replace hc1 := of_decide_eq_true hc1)
        have hx0 : recOf b = rec0 := hx.elim (fun h => absurd hc1 (good_k0 h.1)) id
        obtain ⟨n1, n2, n3, n4, n5, n6, n7, n8, n9⟩ := rec0_len (he.trans hx0)
        have m2 : (sL a.tn).size = 0 := by rw [n2]; rfl
        have m3 : a.cs.length = 0 := by rw [n3]; rfl
        have m4 : (sL a.rn).size = 0 := by rw [n4]; rfl
        have m5 : (sL a.rt).size = 0 := by rw [n5]; rfl
        have m6 : a.ds.length = 0 := by rw [n6]; rfl
        have m7 : a.ms.length = 0 := by rw [n7]; rfl
        have m9 : (sL a.tn ++ sL a.rn).size = 0 := by rw [n2, n4]; rfl
        refine vc_seq ?_
        refine vc_region ?_
        refine vl_val rfl (.some rfl) (by first | exact val_fieldAddr Try.runUnderlying43 rfl Try.sizeOf9 rfl | exact val_fieldAddrR Try.runUnderlying43 rfl Try.sizeOf9 rfl) ?_
        refine vl_val rfl (.some rfl) (val_load Try.isAgg9 rfl (by first | exact cell_cells (by repeat constructor) rfl | exact cell_rd (by first | exact rd_sl (by repeat constructor) | exact rd_old (by assumption) rfl) (by first | exact bcells_at (by omega) | exact ucells_at (by omega) | exact icells_at (by omega) | exact tcells_at (by omega) | exact bcells_get (by omega) | exact icells_get (by omega) | exact tcells_get (by omega) | exact ucells_get (by omega)) | exact cell_old (by assumption) (by simp [fps]))) ?_
        refine vl_val rfl (.some rfl) (val_seq rfl rfl) ?_
        refine vl_val rfl (.some rfl) (val_move rfl) ?_
        refine vl_split (t := 29) rfl (fun hg29 => ?_) (fun hg29 => ?_)
        · (try replace hg29 := of_decide_eq_true hg29)
          refine vl_on rfl rfl rfl rfl ?_
          refine vl_val rfl (.some rfl) (by first | exact val_fieldAddr Try.runUnderlying43 rfl Try.sizeOf36 rfl | exact val_fieldAddrR Try.runUnderlying43 rfl Try.sizeOf36 rfl) ?_
          refine vl_on rfl rfl rfl rfl ?_
          refine vl_val rfl (.some rfl) (by first | exact val_fieldAddr Try.runUnderlying36 rfl Try.sizeOf34 rfl | exact val_fieldAddrR Try.runUnderlying36 rfl Try.sizeOf34 rfl) ?_
          refine vl_on rfl rfl rfl rfl ?_
          refine vl_val rfl (.some rfl) (val_load Try.isAgg34 rfl (by first | exact cell_cells (by repeat constructor) rfl | exact cell_rd (by first | exact rd_sl (by repeat constructor) | exact rd_old (by assumption) rfl) (by first | exact bcells_at (by omega) | exact ucells_at (by omega) | exact icells_at (by omega) | exact tcells_at (by omega) | exact bcells_get (by omega) | exact icells_get (by omega) | exact tcells_get (by omega) | exact ucells_get (by omega)) | exact cell_old (by assumption) (by simp [fps]))) ?_
          refine vl_on rfl rfl rfl rfl ?_
          refine vl_val rfl (.some rfl) (val_lenSl Try.runUnderlying34 rfl) ?_
          refine vl_on rfl rfl rfl rfl ?_
          refine vl_val rfl (.some rfl) (by first | exact val_fieldAddr Try.runUnderlying43 rfl Try.sizeOf40 rfl | exact val_fieldAddrR Try.runUnderlying43 rfl Try.sizeOf40 rfl) ?_
          refine vl_on rfl rfl rfl rfl ?_
          refine vl_val rfl (.some rfl) (by first | exact val_fieldAddr Try.runUnderlying40 rfl Try.sizeOf37 rfl | exact val_fieldAddrR Try.runUnderlying40 rfl Try.sizeOf37 rfl) ?_
          refine vl_on rfl rfl rfl rfl ?_
          refine vl_val rfl (.some rfl) (val_load Try.isAgg37 rfl (by first | exact cell_cells (by repeat constructor) rfl | exact cell_rd (by first | exact rd_sl (by repeat constructor) | exact rd_old (by assumption) rfl) (by first | exact bcells_at (by omega) | exact ucells_at (by omega) | exact icells_at (by omega) | exact tcells_at (by omega) | exact bcells_get (by omega) | exact icells_get (by omega) | exact tcells_get (by omega) | exact ucells_get (by omega)) | exact cell_old (by assumption) (by simp [fps]))) ?_
          refine vl_on rfl rfl rfl rfl ?_
          refine vl_val rfl (.some rfl) (val_lenSl Try.runUnderlying37 rfl) ?_
          refine vl_on rfl rfl rfl rfl ?_
          refine vl_val rfl (.some rfl) (val_add rfl rfl (by first | exact w_i64 (by omega) (by omega) | rfl)) ?_
          refine vl_on rfl rfl rfl rfl ?_
          refine vl_val rfl (.some rfl) (by first | exact val_fieldAddr Try.runUnderlying43 rfl Try.sizeOf40 rfl | exact val_fieldAddrR Try.runUnderlying43 rfl Try.sizeOf40 rfl) ?_
          refine vl_on rfl rfl rfl rfl ?_
          refine vl_val rfl (.some rfl) (by first | exact val_fieldAddr Try.runUnderlying40 rfl Try.sizeOf38 rfl | exact val_fieldAddrR Try.runUnderlying40 rfl Try.sizeOf38 rfl) ?_
          refine vl_on rfl rfl rfl rfl ?_
          refine vl_val rfl (.some rfl) (val_load Try.isAgg38 rfl (by first | exact cell_cells (by repeat constructor) rfl | exact cell_rd (by first | exact rd_sl (by repeat constructor) | exact rd_old (by assumption) rfl) (by first | exact bcells_at (by omega) | exact ucells_at (by omega) | exact icells_at (by omega) | exact tcells_at (by omega) | exact bcells_get (by omega) | exact icells_get (by omega) | exact tcells_get (by omega) | exact ucells_get (by omega)) | exact cell_old (by assumption) (by simp [fps]))) ?_
          refine vl_on rfl rfl rfl rfl ?_
          refine vl_val rfl (.some rfl) (val_lenSl Try.runUnderlying38 rfl) ?_
          refine vl_on rfl rfl rfl rfl ?_
          refine vl_val rfl (.some rfl) (val_add rfl rfl (by first | exact w_i64 (by omega) (by omega) | rfl)) ?_
          refine vl_on rfl rfl rfl rfl ?_
          refine vl_val rfl (.some rfl) (val_eq rfl rfl) ?_
          refine vl_val rfl (.some rfl) (val_pick rfl rfl) ?_
          refine vl_val rfl (.some rfl) (val_move rfl) ?_
          refine vl_split (t := 46) rfl (fun hg46 => ?_) (fun hg46 => ?_)
          · (try replace hg46 := of_decide_eq_true hg46)
            refine vl_on rfl rfl rfl rfl ?_
            refine vl_val rfl (.some rfl) (by first | exact val_fieldAddr Try.runUnderlying43 rfl Try.sizeOf36 rfl | exact val_fieldAddrR Try.runUnderlying43 rfl Try.sizeOf36 rfl) ?_
            refine vl_on rfl rfl rfl rfl ?_
            refine vl_val rfl (.some rfl) (by first | exact val_fieldAddr Try.runUnderlying36 rfl Try.sizeOf9 rfl | exact val_fieldAddrR Try.runUnderlying36 rfl Try.sizeOf9 rfl) ?_
            refine vl_on rfl rfl rfl rfl ?_
            refine vl_val rfl (.some rfl) (val_load Try.isAgg9 rfl (by first | exact cell_cells (by repeat constructor) rfl | exact cell_rd (by first | exact rd_sl (by repeat constructor) | exact rd_old (by assumption) rfl) (by first | exact bcells_at (by omega) | exact ucells_at (by omega) | exact icells_at (by omega) | exact tcells_at (by omega) | exact bcells_get (by omega) | exact icells_get (by omega) | exact tcells_get (by omega) | exact ucells_get (by omega)) | exact cell_old (by assumption) (by simp [fps]))) ?_
            refine vl_on rfl rfl rfl rfl ?_
            refine vl_val rfl (.some rfl) (by first | exact val_fieldAddr Try.runUnderlying43 rfl Try.sizeOf40 rfl | exact val_fieldAddrR Try.runUnderlying43 rfl Try.sizeOf40 rfl) ?_
            refine vl_on rfl rfl rfl rfl ?_
            refine vl_val rfl (.some rfl) (by first | exact val_fieldAddr Try.runUnderlying40 rfl Try.sizeOf9 rfl | exact val_fieldAddrR Try.runUnderlying40 rfl Try.sizeOf9 rfl) ?_
            refine vl_on rfl rfl rfl rfl ?_
            refine vl_val rfl (.some rfl) (val_load Try.isAgg9 rfl (by first | exact cell_cells (by repeat constructor) rfl | exact cell_rd (by first | exact rd_sl (by repeat constructor) | exact rd_old (by assumption) rfl) (by first | exact bcells_at (by omega) | exact ucells_at (by omega) | exact icells_at (by omega) | exact tcells_at (by omega) | exact bcells_get (by omega) | exact icells_get (by omega) | exact tcells_get (by omega) | exact ucells_get (by omega)) | exact cell_old (by assumption) (by simp [fps]))) ?_
            refine vl_on rfl rfl rfl rfl ?_
            refine vl_val rfl (.some rfl) (val_cat rfl rfl (by omega)) ?_
            refine vl_on rfl rfl rfl rfl ?_
            refine vl_val rfl (.some rfl) (by first | exact val_fieldAddr Try.runUnderlying43 rfl Try.sizeOf40 rfl | exact val_fieldAddrR Try.runUnderlying43 rfl Try.sizeOf40 rfl) ?_
            refine vl_on rfl rfl rfl rfl ?_
            refine vl_val rfl (.some rfl) (by first | exact val_fieldAddr Try.runUnderlying40 rfl Try.sizeOf9 rfl | exact val_fieldAddrR Try.runUnderlying40 rfl Try.sizeOf9 rfl) ?_
            refine vl_on rfl rfl rfl rfl ?_
            refine vl_val rfl (.some rfl) (val_load Try.isAgg9 rfl (by first | exact cell_cells (by repeat constructor) rfl | exact cell_rd (by first | exact rd_sl (by repeat constructor) | exact rd_old (by assumption) rfl) (by first | exact bcells_at (by omega) | exact ucells_at (by omega) | exact icells_at (by omega) | exact tcells_at (by omega) | exact bcells_get (by omega) | exact icells_get (by omega) | exact tcells_get (by omega) | exact ucells_get (by omega)) | exact cell_old (by assumption) (by simp [fps]))) ?_
            refine vl_on rfl rfl rfl rfl ?_
            refine vl_val rfl (.some rfl) (val_cat rfl rfl (by omega)) ?_
            refine vl_on rfl rfl rfl rfl ?_
            refine vl_val rfl (.some rfl) (val_seq rfl rfl) ?_
            refine vl_val rfl (.some rfl) (val_pick rfl rfl) ?_
            refine vl_val rfl (.some rfl) (val_assign rfl) ?_
            refine vl_nil ?_
            refine vc_ret ?_
            first
              | (exact ⟨_, [], _, res1 Try.results20 rfl, (by repeat constructor), rfl, rfl⟩)
              | (refine ⟨_, [], _, res1 Try.results20 rfl, (by repeat constructor), congrArg Value.bool (decide_eq_true ?_), rfl⟩
                 rw [n2, n4, n5]; rfl)
              | (exfalso; first | omega | exact hg29 (by rw [n8]) | exact absurd rfl (by assumption) | contradiction)
          · (try replace hg46 := of_decide_eq_false hg46)
            refine vl_off rfl rfl rfl rfl (.some rfl) ?_
            refine vl_off rfl rfl rfl rfl (.some rfl) ?_
            refine vl_off rfl rfl rfl rfl (.some rfl) ?_
            refine vl_off rfl rfl rfl rfl (.some rfl) ?_
            refine vl_off rfl rfl rfl rfl (.some rfl) ?_
            refine vl_off rfl rfl rfl rfl (.some rfl) ?_
            refine vl_off rfl rfl rfl rfl (.some rfl) ?_
            refine vl_off rfl rfl rfl rfl (.some rfl) ?_
            refine vl_off rfl rfl rfl rfl (.some rfl) ?_
            refine vl_off rfl rfl rfl rfl (.some rfl) ?_
            refine vl_off rfl rfl rfl rfl (.some rfl) ?_
            refine vl_off rfl rfl rfl rfl (.some rfl) ?_
            refine vl_val rfl (.some rfl) (val_pick rfl rfl) ?_
            refine vl_val rfl (.some rfl) (val_assign rfl) ?_
            refine vl_nil ?_
            refine vc_ret ?_
            first
              | (exact ⟨_, [], _, res1 Try.results20 rfl, (by repeat constructor), rfl, rfl⟩)
              | (refine ⟨_, [], _, res1 Try.results20 rfl, (by repeat constructor), congrArg Value.bool (decide_eq_true ?_), rfl⟩
                 rw [n2, n4, n5]; rfl)
              | (exfalso; first | omega | exact hg29 (by rw [n8]) | exact absurd rfl (by assumption) | contradiction)
        · (try replace hg29 := of_decide_eq_false hg29)
          refine vl_off rfl rfl rfl rfl (.some rfl) ?_
          refine vl_off rfl rfl rfl rfl (.some rfl) ?_
          refine vl_off rfl rfl rfl rfl (.some rfl) ?_
          refine vl_off rfl rfl rfl rfl (.some rfl) ?_
          refine vl_off rfl rfl rfl rfl (.some rfl) ?_
          refine vl_off rfl rfl rfl rfl (.some rfl) ?_
          refine vl_off rfl rfl rfl rfl (.some rfl) ?_
          refine vl_off rfl rfl rfl rfl (.some rfl) ?_
          refine vl_off rfl rfl rfl rfl (.some rfl) ?_
          refine vl_off rfl rfl rfl rfl (.some rfl) ?_
          refine vl_off rfl rfl rfl rfl (.some rfl) ?_
          refine vl_off rfl rfl rfl rfl (.some rfl) ?_
          refine vl_off rfl rfl rfl rfl (.some rfl) ?_
          refine vl_off rfl rfl rfl rfl (.some rfl) ?_
          refine vl_off rfl rfl rfl rfl (.some rfl) ?_
          refine vl_val rfl (.some rfl) (val_pick rfl rfl) ?_
          refine vl_val rfl (.some rfl) (val_move rfl) ?_
          refine vl_off rfl rfl rfl rfl (.some rfl) ?_
          refine vl_off rfl rfl rfl rfl (.some rfl) ?_
          refine vl_off rfl rfl rfl rfl (.some rfl) ?_
          refine vl_off rfl rfl rfl rfl (.some rfl) ?_
          refine vl_off rfl rfl rfl rfl (.some rfl) ?_
          refine vl_off rfl rfl rfl rfl (.some rfl) ?_
          refine vl_off rfl rfl rfl rfl (.some rfl) ?_
          refine vl_off rfl rfl rfl rfl (.some rfl) ?_
          refine vl_off rfl rfl rfl rfl (.some rfl) ?_
          refine vl_off rfl rfl rfl rfl (.some rfl) ?_
          refine vl_off rfl rfl rfl rfl (.some rfl) ?_
          refine vl_off rfl rfl rfl rfl (.some rfl) ?_
          refine vl_val rfl (.some rfl) (val_pick rfl rfl) ?_
          refine vl_val rfl (.some rfl) (val_assign rfl) ?_
          refine vl_nil ?_
          refine vc_ret ?_
          first
            | (exact ⟨_, [], _, res1 Try.results20 rfl, (by repeat constructor), rfl, rfl⟩)
            | (refine ⟨_, [], _, res1 Try.results20 rfl, (by repeat constructor), congrArg Value.bool (decide_eq_true ?_), rfl⟩
               rw [n2, n4, n5]; rfl)
            | (exfalso; first | omega | exact hg29 (by rw [n8]) | exact absurd rfl (by assumption) | contradiction)
      · (try replace hc1 := of_decide_eq_false hc1)
        have hgx : goodRec (recOf b) ∧ ¬ 262144 < (recB (recOf b)).length := hx.elim id (fun h => absurd (rec0_len h).1 hc1)
        obtain ⟨e1, e2⟩ := byt_ok hgx.1 hgx.2
        refine vc_skip ?_
        refine vc_seq ?_
        refine vc_region ?_
        refine vl_val rfl (.some rfl) (val_loadAgg Try.isAgg43 Try.sizeOf43 rfl (by first | exact cells_whole (by repeat constructor) | exact cells_part (by repeat constructor) rfl) rfl) ?_
        refine vl_callV rfl rfl (.some rfl) Try.call24 rfl (fun w hw => lPlain a w) ?_
        refine vl_call (C := []) rfl rfl (.some rfl) Try.call23 rfl .nil (fun w hw => rBytesR a hLa (fun _ => hBa) w (rec_here hRa hw)) (fun v H' h => ?_)
        obtain ⟨A61, c61, rfl, rfl⟩ := h
        show VL _ _ _ _ _ (_ :: _)
        rw [he, e1, e2]
        refine vl_val rfl (.some rfl) (val_move rfl) ?_
        refine vl_val rfl (.some rfl) (val_extract rfl rfl) ?_
        refine vl_val rfl (.some rfl) (val_extract rfl rfl) ?_
        refine vl_val rfl (.some rfl) (val_assign rfl) ?_
        refine vl_val rfl (.some rfl) (val_assign rfl) ?_
        refine vl_nil ?_
        refine vc_seq ?_
        refine vc_region ?_
        refine vl_val rfl (.some rfl) (val_loadAgg Try.isAgg44 Try.sizeOf44 rfl (by first | exact cells_whole (by repeat constructor) | exact cells_part (by repeat constructor) rfl) rfl) ?_
        refine vl_call (C := []) rfl rfl (.some rfl) Try.call23 rfl .nil (fun w hw => rBytesR b hLb (fun _ => hBb) w (rec_here hRb hw)) (fun v H' h => ?_)
        obtain ⟨A67, c67, rfl, rfl⟩ := h
        show VL _ _ _ _ _ (_ :: _)
        rw [e1, e2]
        refine vl_val rfl (.some rfl) (val_move rfl) ?_
        refine vl_val rfl (.some rfl) (val_extract rfl rfl) ?_
        refine vl_val rfl (.some rfl) (val_extract rfl rfl) ?_
        refine vl_val rfl (.some rfl) (val_assign rfl) ?_
        refine vl_val rfl (.some rfl) (val_assign rfl) ?_
        refine vl_nil ?_
        refine vc_seq ?_
        refine vc_region ?_
        refine vl_val rfl (.some rfl) (val_move rfl) ?_
        refine vl_val rfl (.some rfl) (val_eq rfl rfl) ?_
        refine vl_val rfl (.some rfl) (val_move rfl) ?_
        refine vl_split (t := 73) rfl (fun hg73 => ?_) (fun hg73 => ?_)
        · (try replace hg73 := of_decide_eq_true hg73)
          refine vl_on rfl rfl rfl rfl ?_
          refine vl_val rfl (.some rfl) (val_move rfl) ?_
          refine vl_on rfl rfl rfl rfl ?_
          refine vl_val rfl (.some rfl) (val_eq rfl rfl) ?_
          refine vl_val rfl (.some rfl) (val_pick rfl rfl) ?_
          refine vl_val rfl (.some rfl) (val_move rfl) ?_
          refine vl_split (t := 77) rfl (fun hg77 => ?_) (fun hg77 => ?_)
          · (try replace hg77 := of_decide_eq_true hg77)
            refine vl_on rfl rfl rfl rfl ?_
            refine vl_val rfl (.some rfl) (val_move rfl) ?_
            refine vl_on rfl rfl rfl rfl ?_
            refine vl_val rfl (.some rfl) (val_move rfl) ?_
            refine vl_on rfl rfl rfl rfl ?_
            refine vl_callV rfl rfl (.some rfl) Try.call17 rfl (fun w hw => rSame _ _ _ _ (recB (recOf b)) (recB (recOf b)) w (rdw (rd_sl (by repeat constructor)) hw) (rdw (rd_sl (by repeat constructor)) hw)) ?_
            rw [decide_eq_true rfl]
            refine vl_val rfl (.some rfl) (val_pick rfl rfl) ?_
            refine vl_val rfl (.some rfl) (val_assign rfl) ?_
            refine vl_nil ?_
            refine vc_ret ?_
            first
              | (exact ⟨_, [], _, res1 Try.results20 rfl, (by repeat constructor), rfl, rfl⟩)
              | (refine ⟨_, [], _, res1 Try.results20 rfl, (by repeat constructor), congrArg Value.bool (decide_eq_true ?_), rfl⟩
                 rw [n2, n4, n5]; rfl)
              | (exfalso; first | omega | exact hg29 (by rw [n8]) | exact absurd rfl (by assumption) | contradiction)
          · (try replace hg77 := of_decide_eq_false hg77)
            refine vl_off rfl rfl rfl rfl (.some rfl) ?_
            refine vl_off rfl rfl rfl rfl (.some rfl) ?_
            refine vl_off rfl rfl rfl rfl (.some rfl) ?_
            refine vl_val rfl (.some rfl) (val_pick rfl rfl) ?_
            refine vl_val rfl (.some rfl) (val_assign rfl) ?_
            refine vl_nil ?_
            refine vc_ret ?_
            first
              | (exact ⟨_, [], _, res1 Try.results20 rfl, (by repeat constructor), rfl, rfl⟩)
              | (refine ⟨_, [], _, res1 Try.results20 rfl, (by repeat constructor), congrArg Value.bool (decide_eq_true ?_), rfl⟩
                 rw [n2, n4, n5]; rfl)
              | (exfalso; first | omega | exact hg29 (by rw [n8]) | exact absurd rfl (by assumption) | contradiction)
        · (try replace hg73 := of_decide_eq_false hg73)
          refine vl_off rfl rfl rfl rfl (.some rfl) ?_
          refine vl_off rfl rfl rfl rfl (.some rfl) ?_
          refine vl_val rfl (.some rfl) (val_pick rfl rfl) ?_
          refine vl_val rfl (.some rfl) (val_move rfl) ?_
          refine vl_off rfl rfl rfl rfl (.some rfl) ?_
          refine vl_off rfl rfl rfl rfl (.some rfl) ?_
          refine vl_off rfl rfl rfl rfl (.some rfl) ?_
          refine vl_val rfl (.some rfl) (val_pick rfl rfl) ?_
          refine vl_val rfl (.some rfl) (val_assign rfl) ?_
          refine vl_nil ?_
          refine vc_ret ?_
          first
            | (exact ⟨_, [], _, res1 Try.results20 rfl, (by repeat constructor), rfl, rfl⟩)
            | (refine ⟨_, [], _, res1 Try.results20 rfl, (by repeat constructor), congrArg Value.bool (decide_eq_true ?_), rfl⟩
               rw [n2, n4, n5]; rfl)
            | (exfalso; first | omega | exact hg29 (by rw [n8]) | exact absurd rfl (by assumption) | contradiction)
set_option maxRecDepth 20000 in
theorem xLives (w : World) : Fn Try.prog 14 [] [] (ret fun v H' => v = .bool true ∧ H' = []) w := by
  obtain ⟨s1, s2, s3⟩ := sc_beg 7
  have s4 : (beginL 7).length ≤ 1000000000 := by decide +kernel
  refine fn_enter Try.func14 rfl Try.ntmps14 rfl ?_
  refine vc_seq ?_
  refine vc_region ?_
  refine vl_val rfl (.some rfl) (val_assign rfl) ?_
  refine vl_nil ?_
  refine vc_seq ?_
  refine vc_region ?_
  refine vl_call (C := []) rfl rfl (.some rfl) Try.call18 rfl .nil (fun w hw => xBegin 7 (by decide) w) (fun v H' h => ?_)
  obtain ⟨B7, d7, rfl, rfl⟩ := h
  show VL _ _ _ _ _ (_ :: _)
  refine vl_slCap (A := B7) (n := (beginL 7).length) (c := d7) (sz := 1) (e := 5) (vs := bcells (beginL 7)) (by repeat constructor) (fun hcap => ?_)
  refine vl_val rfl (.some rfl) (val_assign rfl) ?_
  refine vl_nil ?_
  refine vc_seq ?_
  refine vc_region ?_
  refine vl_val rfl (.some rfl) (val_move rfl) ?_
  refine vl_call (C := []) rfl rfl (.some rfl) Try.call15 rfl .nil (fun w hw => xScan B7 d7 (beginL 7) s4 hcap 7 (by decide) w (rdw (rd_sl (by repeat constructor)) hw)) (fun v H' h => ?_)
  obtain ⟨ms, A9, c9, l, rfl, hms, _, hH⟩ := h
  rw [hH]
  obtain rfl : ms = [] := by rw [s2] at hms; simpa using hms
  refine vl_eqv (eqv_big l _).symm ?_
  rw [s1, s3, List.length_nil]
  refine vl_val rfl (.some rfl) (val_move rfl) ?_
  refine vl_val rfl (.some rfl) (val_extract rfl rfl) ?_
  refine vl_val rfl (.some rfl) (val_extract rfl rfl) ?_
  refine vl_val rfl (.some rfl) (val_extract rfl rfl) ?_
  refine vl_val rfl (.some rfl) (val_assign rfl) ?_
  refine vl_val rfl (.some rfl) (val_assign rfl) ?_
  refine vl_val rfl (.some rfl) (val_assign rfl) ?_
  refine vl_nil ?_
  refine vc_seq ?_
  refine vc_region ?_
  refine vl_val rfl (.some rfl) (val_move rfl) ?_
  refine vl_call (C := []) rfl rfl (.some rfl) Try.call15 rfl .nil (fun w hw => xScan B7 d7 (beginL 7) s4 hcap 8 (by decide) w (rdw (rd_sl (by repeat constructor)) hw)) (fun v H' h => ?_)
  obtain ⟨ms2, A15, c15, l2, rfl, _, _, hH2⟩ := h
  rw [hH2]
  refine vl_eqv (eqv_big l2 _).symm ?_
  rw [sc_78]
  refine vl_val rfl (.some rfl) (val_move rfl) ?_
  refine vl_val rfl (.some rfl) (val_extract rfl rfl) ?_
  refine vl_val rfl (.some rfl) (val_extract rfl rfl) ?_
  refine vl_val rfl (.some rfl) (val_extract rfl rfl) ?_
  refine vl_val rfl (.some rfl) (val_assign rfl) ?_
  refine vl_val rfl (.some rfl) (val_assign rfl) ?_
  refine vl_val rfl (.some rfl) (val_assign rfl) ?_
  refine vl_nil ?_
  refine vc_seq ?_
  refine vc_region ?_
  refine vl_val rfl (.some rfl) (val_move rfl) ?_
  refine vl_val rfl (.some rfl) (val_lenSl Try.runUnderlying25 rfl) ?_
  refine vl_val rfl (.some rfl) (val_eq rfl rfl) ?_
  refine vl_val rfl (.some rfl) (val_move rfl) ?_
  refine vl_split (t := 24) rfl (fun hg24 => ?_) (fun hg24 => ?_)
  · (try replace hg24 := of_decide_eq_true hg24)
    refine vl_on rfl rfl rfl rfl ?_
    refine vl_val rfl (.some rfl) (val_move rfl) ?_
    refine vl_on rfl rfl rfl rfl ?_
    refine vl_val rfl (.some rfl) (val_move rfl) ?_
    refine vl_on rfl rfl rfl rfl ?_
    refine vl_val rfl (.some rfl) (val_lenSl Try.runUnderlying22 rfl) ?_
    refine vl_on rfl rfl rfl rfl ?_
    refine vl_val rfl (.some rfl) (val_eq rfl rfl) ?_
    refine vl_val rfl (.some rfl) (val_pick rfl rfl) ?_
    refine vl_val rfl (.some rfl) (val_move rfl) ?_
    refine vl_split (t := 30) rfl (fun hg30 => ?_) (fun hg30 => ?_)
    · (try replace hg30 := of_decide_eq_true hg30)
      refine vl_on rfl rfl rfl rfl ?_
      refine vl_val rfl (.some rfl) (val_move rfl) ?_
      refine vl_val rfl (.some rfl) (val_pick rfl rfl) ?_
      refine vl_val rfl (.some rfl) (val_move rfl) ?_
      refine vl_split (t := 33) rfl (fun hg33 => ?_) (fun hg33 => ?_)
      · (try replace hg33 := of_decide_eq_true hg33)
        refine vl_on rfl rfl rfl rfl ?_
        refine vl_val rfl (.some rfl) (val_move rfl) ?_
        refine vl_on rfl rfl rfl rfl ?_
        refine vl_val rfl (.some rfl) (val_not rfl) ?_
        refine vl_val rfl (.some rfl) (val_pick rfl rfl) ?_
        refine vl_val rfl (.some rfl) (val_move rfl) ?_
        refine vl_split (t := 37) rfl (fun hg37 => ?_) (fun hg37 => ?_)
        · (try replace hg37 := of_decide_eq_true hg37)
          refine vl_on rfl rfl rfl rfl ?_
          refine vl_val rfl (.some rfl) (val_buildSt (pl := #[(0, 1), (1, 1)]) (cs := (colV ([], 0)).toArray) Try.runUnderlying96 Try.zeroValue96 (fun w => by kernel_rfl) rfl rfl) ?_
          refine vl_on rfl rfl rfl rfl ?_
          refine vl_lit sT34 rfl rfl (.some rfl) rfl rfl rfl (by decide) (by decide) rfl rfl (fun r39 => ?_)
          refine vl_on rfl rfl rfl rfl ?_
          refine vl_val rfl (.some rfl) (val_buildSt (pl := #[(0, 1), (1, 1)]) (cs := #[.string ⟨#[]⟩, .slice (some ⟨r39, 0, none⟩) 1 1]) Try.runUnderlying36 Try.zeroValue36 (fun w => by kernel_rfl) rfl rfl) ?_
          refine vl_on rfl rfl rfl rfl ?_
          refine vl_val rfl (.some rfl) (val_buildSt (pl := #[(0, 1), (1, 2), (3, 4), (7, 1), (8, 1)]) (cs := (recC (liveM r39)).toArray) Try.runUnderlying43 Try.zeroValue43 (fun w => by kernel_rfl) rfl (by kernel_rfl)) ?_
          refine vl_on rfl rfl rfl rfl ?_
          refine vl_callV rfl rfl (.some rfl) Try.call27 rfl (fun w hw => xGoodR (liveM r39) (live_is r39).1 w ⟨rdw (rd_sl (by repeat constructor)) hw, reads_nilR rfl, reads_nilR rfl, reads_nilR rfl, fun q hq => by cases hq⟩) ?_
          rw [decide_eq_true (live_is r39).2]
          refine vl_val rfl (.some rfl) (val_pick rfl rfl) ?_
          refine vl_val rfl (.some rfl) (val_assign rfl) ?_
          refine vl_nil ?_
          refine vc_ret ?_
          first
            | (exact ⟨_, [], _, res1 Try.results14 rfl, (by repeat constructor), rfl, rfl⟩)
            | (exfalso; first | omega | exact absurd rfl (by assumption) | contradiction)
        · (try replace hg37 := of_decide_eq_false hg37)
          refine vl_off rfl rfl rfl rfl (.some rfl) ?_
          refine vl_off rfl rfl rfl rfl (.some rfl) ?_
          refine vl_off rfl rfl rfl rfl (.some rfl) ?_
          refine vl_off rfl rfl rfl rfl (.some rfl) ?_
          refine vl_off rfl rfl rfl rfl (.some rfl) ?_
          refine vl_val rfl (.some rfl) (val_pick rfl rfl) ?_
          refine vl_val rfl (.some rfl) (val_assign rfl) ?_
          refine vl_nil ?_
          refine vc_ret ?_
          first
            | (exact ⟨_, [], _, res1 Try.results14 rfl, (by repeat constructor), rfl, rfl⟩)
            | (exfalso; first | omega | exact absurd rfl (by assumption) | contradiction)
      · (try replace hg33 := of_decide_eq_false hg33)
        refine vl_off rfl rfl rfl rfl (.some rfl) ?_
        refine vl_off rfl rfl rfl rfl (.some rfl) ?_
        refine vl_val rfl (.some rfl) (val_pick rfl rfl) ?_
        refine vl_val rfl (.some rfl) (val_move rfl) ?_
        refine vl_off rfl rfl rfl rfl (.some rfl) ?_
        refine vl_off rfl rfl rfl rfl (.some rfl) ?_
        refine vl_off rfl rfl rfl rfl (.some rfl) ?_
        refine vl_off rfl rfl rfl rfl (.some rfl) ?_
        refine vl_off rfl rfl rfl rfl (.some rfl) ?_
        refine vl_val rfl (.some rfl) (val_pick rfl rfl) ?_
        refine vl_val rfl (.some rfl) (val_assign rfl) ?_
        refine vl_nil ?_
        refine vc_ret ?_
        first
          | (exact ⟨_, [], _, res1 Try.results14 rfl, (by repeat constructor), rfl, rfl⟩)
          | (exfalso; first | omega | exact absurd rfl (by assumption) | contradiction)
    · (try replace hg30 := of_decide_eq_false hg30)
      refine vl_off rfl rfl rfl rfl (.some rfl) ?_
      refine vl_val rfl (.some rfl) (val_pick rfl rfl) ?_
      refine vl_val rfl (.some rfl) (val_move rfl) ?_
      refine vl_off rfl rfl rfl rfl (.some rfl) ?_
      refine vl_off rfl rfl rfl rfl (.some rfl) ?_
      refine vl_val rfl (.some rfl) (val_pick rfl rfl) ?_
      refine vl_val rfl (.some rfl) (val_move rfl) ?_
      refine vl_off rfl rfl rfl rfl (.some rfl) ?_
      refine vl_off rfl rfl rfl rfl (.some rfl) ?_
      refine vl_off rfl rfl rfl rfl (.some rfl) ?_
      refine vl_off rfl rfl rfl rfl (.some rfl) ?_
      refine vl_off rfl rfl rfl rfl (.some rfl) ?_
      refine vl_val rfl (.some rfl) (val_pick rfl rfl) ?_
      refine vl_val rfl (.some rfl) (val_assign rfl) ?_
      refine vl_nil ?_
      refine vc_ret ?_
      first
        | (exact ⟨_, [], _, res1 Try.results14 rfl, (by repeat constructor), rfl, rfl⟩)
        | (exfalso; first | omega | exact absurd rfl (by assumption) | contradiction)
  · (try replace hg24 := of_decide_eq_false hg24)
    refine vl_off rfl rfl rfl rfl (.some rfl) ?_
    refine vl_off rfl rfl rfl rfl (.some rfl) ?_
    refine vl_off rfl rfl rfl rfl (.some rfl) ?_
    refine vl_off rfl rfl rfl rfl (.some rfl) ?_
    refine vl_val rfl (.some rfl) (val_pick rfl rfl) ?_
    refine vl_val rfl (.some rfl) (val_move rfl) ?_
    refine vl_off rfl rfl rfl rfl (.some rfl) ?_
    refine vl_val rfl (.some rfl) (val_pick rfl rfl) ?_
    refine vl_val rfl (.some rfl) (val_move rfl) ?_
    refine vl_off rfl rfl rfl rfl (.some rfl) ?_
    refine vl_off rfl rfl rfl rfl (.some rfl) ?_
    refine vl_val rfl (.some rfl) (val_pick rfl rfl) ?_
    refine vl_val rfl (.some rfl) (val_move rfl) ?_
    refine vl_off rfl rfl rfl rfl (.some rfl) ?_
    refine vl_off rfl rfl rfl rfl (.some rfl) ?_
    refine vl_off rfl rfl rfl rfl (.some rfl) ?_
    refine vl_off rfl rfl rfl rfl (.some rfl) ?_
    refine vl_off rfl rfl rfl rfl (.some rfl) ?_
    refine vl_val rfl (.some rfl) (val_pick rfl rfl) ?_
    refine vl_val rfl (.some rfl) (val_assign rfl) ?_
    refine vl_nil ?_
    refine vc_ret ?_
    first
      | (exact ⟨_, [], _, res1 Try.results14 rfl, (by repeat constructor), rfl, rfl⟩)
      | (exfalso; first | omega | exact absurd rfl (by assumption) | contradiction)




/-! What is written is read again. -/
theorem one_put {v : Vk} (h : goodV v = true) (hw : WV v) (t : Tx) : oneV (putV v ++ t) = some (v, t) := by
  rcases good_kinds h with ⟨_, rfl⟩ | ⟨hk, hs⟩ | ⟨hk, hn, hs⟩
  · show oneV ((putN 0 ++ []) ++ t) = _
    rw [List.append_nil]
    unfold oneV
    rw [get_put (by decide)]
    simp only [List.drop_left]
    rw [if_neg (by have := putN_pos 0; omega), if_pos trivial]
  · have hz := zigS_lt hw.1 hw.2
    have e : putV v = putN v.k.toNat ++ putN (zigS v.n) := by unfold putV; rw [if_neg (by omega), if_neg (by omega)]
    rw [e, List.append_assoc]
    unfold oneV
    rw [get_put (by omega)]
    simp only [List.drop_left]
    rw [get_put hz]
    simp only [List.drop_left]
    have e2 : (⟨(v.k.toNat : Nat), zagS (zigS v.n), ⟨#[]⟩⟩ : Vk) = v := by
      rw [zag_zig, show ((v.k.toNat : Nat) : Int) = v.k by omega, ← hs]
    rw [if_neg (by have := putN_pos v.k.toNat; omega), if_neg (by omega), if_neg (by omega), if_neg (by have := putN_pos (zigS v.n); omega), if_neg (by omega), e2, if_pos h]
  · have e : putV v = putN 3 ++ (putN v.s.size ++ v.s.data.toList) := by unfold putV; rw [if_neg (by omega), if_pos hk, hk]; rfl
    rw [e, List.append_assoc, List.append_assoc]
    unfold oneV
    rw [get_put (by decide)]
    simp only [List.drop_left]
    rw [get_put (by omega)]
    simp only [List.drop_left]
    have hd := size_data v.s
    rw [if_neg (by have := putN_pos 3; omega), if_neg (by omega), if_neg (by omega), if_neg (by have := putN_pos v.s.size; omega), if_pos trivial, if_neg (by rw [List.length_append]; omega), ← hd, List.take_left, List.drop_left]
    have e3 : (⟨3, 0, txtV v.s.data.toList⟩ : Vk) = v := by
      obtain ⟨k, n, s⟩ := v
      simp only at hk hn
      subst hk hn
      simp [txtV]
    rw [e3]
theorem many_put : ∀ (l : List Vk) (q : Nat), l.length ≤ q → (∀ v ∈ l, goodV v = true ∧ WV v) → manyV q l.length (l.flatMap putV) = some l := by
  intro l
  induction l with
  | nil => intro q _ _; cases q <;> rfl
  | cons v l ih =>
    intro q hq h
    cases q with
    | zero => simp at hq
    | succ q =>
      have h1 := h v (List.Mem.head _)
      show (match oneV (putV v ++ l.flatMap putV) with | none => none | some (v, r) => (manyV q l.length r).map (v :: ·)) = _
      rw [one_put h1.1 h1.2]
      show (manyV q l.length (l.flatMap putV)).map _ = _
      rw [ih q (by simp at hq; omega) (fun v hv => h v (List.Mem.tail _ hv))]
      rfl
theorem flat_pos {α : Type} {p : α → Tx} : ∀ {l : List α}, (∀ x ∈ l, 1 ≤ (p x).length) → l.length ≤ (l.flatMap p).length
  | [], _ => Nat.zero_le _
  | x :: l, h => by
    have := flat_pos (l := l) (fun y hy => h y (List.Mem.tail _ hy))
    have h1 := h x (List.Mem.head _)
    rw [List.flatMap_cons, List.length_append, List.length_cons]; omega
theorem putV_pos (v : Vk) : 1 ≤ (putV v).length := by
  have := putN_pos v.k.toNat
  unfold putV
  rw [List.length_append]; omega
theorem enc_clean {l : List Vk} (h : ∀ v ∈ l, goodV v = true) : encV l = putN l.length ++ l.flatMap putV := by
  unfold encV
  have : ∀ l : List Vk, (∀ v ∈ l, goodV v = true) → (l.flatMap fun p => putV (clean p)) = l.flatMap putV := by
    intro l
    induction l with
    | nil => intro _; rfl
    | cons v l ih =>
      intro h
      rw [List.flatMap_cons, List.flatMap_cons, ih (fun v hv => h v (List.Mem.tail _ hv))]
      unfold clean
      rw [if_pos (h v (List.Mem.head _))]
  rw [this l h]
theorem load_enc {l : List Vk} (hl : l.length < 18446744073709551616) (h : ∀ v ∈ l, goodV v = true ∧ WV v) : loadV (encV l) = some l := by
  rw [enc_clean (fun v hv => (h v hv).1)]
  unfold loadV
  rw [get_put hl]
  have hp := putN_pos l.length
  have hf := flat_pos (p := putV) (l := l) (fun v _ => putV_pos v)
  rw [if_neg (show ¬ (putN l.length).length = 0 by omega)]
  show manyV _ l.length ((putN l.length ++ l.flatMap putV).drop (putN l.length).length) = _
  rw [List.drop_left]
  exact many_put l _ (by rw [List.length_append]; omega) h
theorem rNum_put {u : Nat} (h : u < 18446744073709551616) (t : Tx) : rNum (putN u ++ t) = some (u, t) := by
  unfold rNum
  rw [get_put h]
  have := putN_pos u
  show (if (putN u).length = 0 then none else some (u, (putN u ++ t).drop (putN u).length)) = _
  rw [if_neg (by omega), List.drop_left]
theorem rCnt_put {u : Nat} (h : u < 18446744073709551616) (t : Tx) (h2 : u ≤ t.length) : rCnt (putN u ++ t) = some (u, t) := by
  unfold rCnt
  rw [rNum_put h]
  show (if t.length < u then none else some (u, t)) = _
  rw [if_neg (by omega)]
theorem rTx_put {s : Tx} (h : s.length < 18446744073709551616) (t : Tx) : rTx (putTx s ++ t) = some (s, t) := by
  unfold rTx putTx
  rw [List.append_assoc, rCnt_put h _ (by rw [List.length_append]; omega)]
  show some ((s ++ t).take s.length, (s ++ t).drop s.length) = _
  rw [List.take_left, List.drop_left]
def IB (n : Int) : Prop := -9223372036854775808 ≤ n ∧ n < 9223372036854775808
theorem i64_u64 {n : Int} (h : IB n) : i64N (u64N n) = n := by
  obtain ⟨h1, h2⟩ := h
  unfold i64N u64N; split <;> omega
theorem rCol_put {c : Cq} (h : c.1.length < 18446744073709551616) (hb : IB c.2) (t : Tx) : rCol (putCq c ++ t) = some (c, t) := by
  unfold putCq
  rw [List.append_assoc, rCol_3 (rTx_put h _) (rNum_put (u64N_lt _) t), i64_u64 hb]
theorem rMea_put {c : Mq} (h : c.2.length < 18446744073709551616) (hb : IB c.1) (t : Tx) : rMea (putMq c ++ t) = some (c, t) := by
  unfold putMq
  rw [List.append_assoc, rMea_3 (rNum_put (u64N_lt _) _) (rTx_put h t), i64_u64 hb]
theorem rRow_put {l : List Vk} (hl : l.length ≤ 8) (h : ∀ v ∈ l, goodV v = true ∧ WV v) (t : Tx) : rRow (putTx (encV l) ++ t) = some (l, t) := by
  have := encV_len l
  exact rRow_3 (b := putTx (encV l) ++ t) (p := (encV l, t)) (rTx_put (by omega) t) (load_enc (by omega) h)
theorem rMany_put {α : Type} {f : Tx → Option (α × Tx)} {p : α → Tx} (t : Tx) : ∀ (l : List α), (∀ x ∈ l, ∀ t, f (p x ++ t) = some (x, t)) → rMany f l.length (l.flatMap p ++ t) = some (l, t)
  | [], _ => rfl
  | x :: l, h => by
    show ((f (_ ++ t)).bind fun q => (rMany f l.length q.2).map fun s => (q.1 :: s.1, s.2)) = _
    rw [List.flatMap_cons, List.append_assoc, h x (List.Mem.head _)]
    show (rMany f l.length (l.flatMap p ++ t)).map _ = _
    rw [rMany_put t l (fun y hy => h y (List.Mem.tail _ hy))]
    rfl
/-- Its numbers are numbers of the machine, its texts are not too long. -/
structure RecW (x : Rec) : Prop where
  tn : x.t.n.length < 18446744073709551616
  rn : x.r.n.length < 18446744073709551616
  rt : x.r.t.length < 18446744073709551616
  nm : x.nm.length < 18446744073709551616
  cs : ∀ c ∈ x.t.cs, c.1.length < 18446744073709551616 ∧ IB c.2
  ds : ∀ c ∈ x.r.ds, c.length < 18446744073709551616
  ms : ∀ c ∈ x.r.ms, c.2.length < 18446744073709551616 ∧ IB c.1
  rows : ∀ r ∈ x.rows, ∀ v ∈ r, WV v
theorem rPart_put {x : Rec} (hg : goodRec x) (hw : RecW x) (t : Tx) : rPart x.k.toNat (partB x ++ t) = some (x, t) := by
  obtain ⟨k, ⟨n, cs⟩, ⟨rn, rt, ds, ms⟩, nm, rows⟩ := x
  have w1 := hw.tn
  have w2 := hw.rn
  have w3 := hw.rt
  have w4 := hw.nm
  have w5 := hw.cs
  have w6 := hw.ds
  have w7 := hw.ms
  have w8 := hw.rows
  rcases hg with ⟨h1, h2, h3, h4⟩ | ⟨h1, h2, h3, h4⟩ | ⟨h1, h2, h3, h4⟩
  · obtain ⟨a1, a2, a3, a4⟩ := h3
    obtain ⟨b1, b2⟩ := h4
    obtain ⟨g1, g2⟩ := h2
    simp only at a1 a2 a3 a4 b1 b2 h1 g1 g2
    subst a1 a2 a3 a4 b1 b2 h1
    have e : partB ⟨1, ⟨n, cs⟩, ⟨[], [], [], []⟩, [], []⟩ = putTx n ++ putN cs.length ++ cs.flatMap putCq := rfl
    rw [e, List.append_assoc, List.append_assoc]
    have hf := flat_pos (p := putCq) (l := cs) (fun c _ => by have := putN_pos c.1.length; unfold putCq putTx; simp only [List.length_append]; omega)
    show rPart 1 _ = _
    rw [ptab (rTx_put w1 _) (rCnt_put (by omega) _ (by rw [List.length_append]; omega))]
    show (rMany rCol cs.length (cs.flatMap putCq ++ t)).map _ = _
    rw [rMany_put t cs (fun c hc t => rCol_put (w5 c hc).1 (w5 c hc).2 t)]
    rfl
  · obtain ⟨a1, a2⟩ := h3
    obtain ⟨b1, b2⟩ := h4
    obtain ⟨g1, g2⟩ := h2
    simp only at a1 a2 b1 b2 h1 g1 g2
    subst a1 a2 b1 b2 h1
    have e : partB ⟨2, ⟨[], []⟩, ⟨rn, rt, ds, ms⟩, [], []⟩ = putTx rn ++ putTx rt ++ putN ds.length ++ ds.flatMap putTx ++ putN ms.length ++ ms.flatMap putMq := rfl
    rw [e]
    simp only [List.append_assoc]
    have hf := flat_pos (p := putTx) (l := ds) (fun c _ => by have := putN_pos c.length; unfold putTx; simp only [List.length_append]; omega)
    have hf2 := flat_pos (p := putMq) (l := ms) (fun c _ => by have := putN_pos (u64N c.1); unfold putMq; simp only [List.length_append]; omega)
    show rPart 2 _ = _
    rw [prol5 (rTx_put w2 _) (rTx_put w3 _) (rCnt_put (by omega) _ (by rw [List.length_append]; omega)) (rMany_put _ ds (fun c hc t => rTx_put (w6 c hc) t)), rCnt_put (by omega) _ (by rw [List.length_append]; omega)]
    show (rMany rMea ms.length (ms.flatMap putMq ++ t)).map _ = _
    rw [rMany_put t ms (fun c hc t => rMea_put (w7 c hc).1 (w7 c hc).2 t)]
    rfl
  · obtain ⟨a1, a2⟩ := h3
    obtain ⟨b1, b2, b3, b4⟩ := h4
    obtain ⟨⟨g1, g2⟩, g3⟩ := h2
    simp only at a1 a2 b1 b2 b3 b4 h1 g1 g2 g3
    subst a1 a2 b1 b2 b3 b4 h1
    have e : partB ⟨3, ⟨[], []⟩, ⟨[], [], [], []⟩, nm, rows⟩ = putTx nm ++ putN rows.length ++ rows.flatMap fun r => putTx (encV r) := rfl
    rw [e]
    simp only [List.append_assoc]
    have hf := flat_pos (p := fun r => putTx (encV r)) (l := rows) (fun c _ => by have := putN_pos (encV c).length; unfold putTx; simp only [List.length_append]; omega)
    show rPart 3 _ = _
    rw [pbat (rTx_put w4 _) (rCnt_put (by omega) _ (by rw [List.length_append]; omega))]
    show (rMany rRow rows.length ((rows.flatMap fun r => putTx (encV r)) ++ t)).map _ = _
    rw [rMany_put (p := fun r => putTx (encV r)) t rows (fun c hc t => rRow_put (g3 c hc).2.1.2 (fun v hv => ⟨(g3 c hc).2.2 v hv, w8 c hc v hv⟩) t)]
    rfl
theorem load_rec {x : Rec} (hg : goodRec x) (hw : RecW x) (hl : ¬ 262144 < (recB x).length) : loadRec (recB x) = some x ∧ loadRec (recB x ++ [0]) = none := by
  have hk : x.k.toNat < 18446744073709551616 := by rcases hg with ⟨h, _⟩ | ⟨h, _⟩ | ⟨h, _⟩ <;> omega
  have h1 := rPart_put hg hw []
  have h2 := rPart_put hg hw [0]
  rw [List.append_nil] at h1
  constructor
  · have e := loadRec_3 (b := recB x) (rNum_put hk (partB x)) h1
    rw [e]
    exact if_pos ⟨rfl, hg, by omega⟩
  · have e0 : recB x ++ [0] = putN x.k.toNat ++ (partB x ++ [0]) := List.append_assoc _ _ _
    have e := loadRec_3 (b := recB x ++ [0]) (by rw [e0]; exact rNum_put hk (partB x ++ [0])) h2
    rw [e]
    exact if_neg (fun h => by have := h.1; simp at this)
theorem RecS.recW {m : RecM} (h : RecS m) (hc : ∀ c ∈ m.cs, IB c.2) (hm : ∀ c ∈ m.ms, IB c.1) (hr : ∀ q ∈ m.rs, ∀ v ∈ q.2.2, WV v) : RecW (recOf m) :=
  ⟨Nat.lt_trans h.tn (by decide), Nat.lt_trans h.rn (by decide), Nat.lt_trans h.rt (by decide), Nat.lt_trans h.nm (by decide), fun c hx => ⟨Nat.lt_of_le_of_lt (h.csx c hx) (by decide), hc c hx⟩, fun c hx => Nat.lt_of_le_of_lt (h.dsx c hx) (by decide), fun c hx => ⟨Nat.lt_of_le_of_lt (h.msx c hx) (by decide), hm c hx⟩, fun r hx v hv => by
    obtain ⟨q, hq, rfl⟩ := List.mem_map.1 hx
    exact hr q hq v hv⟩




end Go.Proofs.Ytclnhfdgiaamhaa.K
