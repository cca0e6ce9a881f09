/- Walks of the program's functions, printed by a program of this session; Lean checks them. -/
import Derived.Test.YtclnhfdgiaamhaaYrk
namespace Go.Proofs.Ytclnhfdgiaamhaa.K
open Go Go.RowKit Go.Proofs
set_option linter.unusedVariables false
set_option linter.unusedSimpArgs false
set_option maxRecDepth 20000 in
theorem sT25 : SlT Try.prog 25 43 9 168 (.agg #[.int .i64 0, .string .empty, .slice none 0 0, .string .empty, .string .empty, .slice none 0 0, .slice none 0 0, .string .empty, .slice none 0 0]) := ⟨Try.underlying25, ⟨Try.t43, Try.type43, rfl, rfl, rfl⟩, rfl, Nat.lt_of_sub_eq_succ rfl⟩

/-! Scanning: frame by frame. -/
def scanF : Nat → Tx → List Rec × Nat
  | 0, _ => ([], 0)
  | f + 1, b => if unfrE b = 0 then (match loadRec (unfrL b) with | none => ([], 0) | some x => (x :: (scanF f (b.drop (unfrN b))).1, unfrN b + (scanF f (b.drop (unfrN b))).2)) else ([], 0)
def scO (id : Nat) (b : Tx) : Bool := decide (b.take (beginL id).length = beginL id)
def scL (id : Nat) (b : Tx) : List Rec := if scO id b = true then (scanF b.length (b.drop (beginL id).length)).1 else []
def scN (id : Nat) (b : Tx) : Nat := if scO id b = true then (beginL id).length + (scanF b.length (b.drop (beginL id).length)).2 else 0
def ScI (b : Tx) (h0 f t : Nat) (acc : List Rec) : Prop := b.length - t ≤ f ∧ t ≤ b.length ∧ h0 ≤ t ∧ scanF b.length (b.drop h0) = (acc ++ (scanF f (b.drop t)).1, t - h0 + (scanF f (b.drop t)).2)
theorem scan_bad {f : Nat} {b : Tx} (h : unfrE b ≠ 0) : scanF f b = ([], 0) := by
  cases f with
  | zero => rfl
  | succ f => exact if_neg h
theorem scan_none {f : Nat} {b : Tx} (h : unfrE b = 0) (h2 : loadRec (unfrL b) = none) : scanF f b = ([], 0) := by
  cases f with
  | zero => rfl
  | succ f => unfold scanF; rw [if_pos h, h2]
theorem scan_some {f : Nat} {b : Tx} {x : Rec} (h : unfrE b = 0) (h2 : loadRec (unfrL b) = some x) : scanF (f + 1) b = (x :: (scanF f (b.drop (unfrN b))).1, unfrN b + (scanF f (b.drop (unfrN b))).2) := by
  rw [scanF, if_pos h, h2]
theorem sc_0 {b : Tx} {h0 : Nat} (h : h0 ≤ b.length) : ScI b h0 b.length h0 [] := ⟨by omega, h, Nat.le_refl _, by simp⟩
theorem sc_stop {b : Tx} {h0 f t : Nat} {acc : List Rec} (h : ScI b h0 f t acc) (h2 : unfrE (b.drop t) ≠ 0 ∨ loadRec (unfrL (b.drop t)) = none) : scanF b.length (b.drop h0) = (acc, t - h0) := by
  rw [h.2.2.2]
  have e : scanF f (b.drop t) = ([], 0) := by
    by_cases h3 : unfrE (b.drop t) = 0
    · exact scan_none h3 (h2.resolve_left (fun h => h h3))
    · exact scan_bad h3
  rw [e]; simp
theorem sc_step {b : Tx} {h0 f t : Nat} {acc : List Rec} {x : Rec} (h : ScI b h0 f t acc) (h1 : unfrE (b.drop t) = 0) (h2 : loadRec (unfrL (b.drop t)) = some x) : t + unfrN (b.drop t) ≤ b.length ∧ 8 ≤ unfrN (b.drop t) ∧ ∃ f', ScI b h0 f' (t + unfrN (b.drop t)) (acc ++ [x]) := by
  obtain ⟨g1, g2, g3, g4⟩ := h
  obtain ⟨i1, i2, i3, i4⟩ := unfr_is h1
  have e := (unfr_ok h1).2
  rw [List.length_drop] at i3
  cases f with
  | zero => omega
  | succ f =>
    rw [scan_some h1 h2] at g4
    refine ⟨by omega, by omega, f, by omega, by omega, by omega, ?_⟩
    rw [g4, List.drop_drop]
    simp only [List.append_assoc, List.cons_append, List.nil_append, Prod.mk.injEq, true_and]
    omega
/-- What the chunks tell of a list of records. -/
def RecsD (l : List Chunk) (ms : List RecM) (A : Option Addr) : Prop := ∀ w, (∀ c ∈ l, c.A w) → Reads w A (ms.flatMap recC) ∧ ∀ m ∈ ms, RecR w m
theorem sc_1 {id : Nat} {b : Tx} (h : scO id b = false) : scL id b = [] ∧ scN id b = 0 := by
  unfold scL scN
  rw [h]; exact ⟨rfl, rfl⟩
theorem sc_2 {id : Nat} {b : Tx} {acc : List Rec} {n : Nat} (h : scO id b = true) (h2 : scanF b.length (b.drop (beginL id).length) = (acc, n)) : scL id b = acc ∧ scN id b = (beginL id).length + n := by
  unfold scL scN
  rw [if_pos h, if_pos h, h2]; exact ⟨rfl, rfl⟩
theorem scO_le {id : Nat} {b : Tx} (h : scO id b = true) : (beginL id).length ≤ b.length := by
  have := congrArg List.length (of_decide_eq_true h)
  rw [List.length_take] at this; omega
theorem recs_len (l : List RecM) : (l.flatMap recC).length = l.length * 9 := flat_length (f := recC) (m := 9) (fun _ => rfl) l
theorem unfrL_le (b : Tx) : (unfrL b).length ≤ 262144 := by
  by_cases h : unfrE b = 0
  · rw [(unfr_ok h).1, List.length_take]
    have := (unfr_is h).2.1
    omega
  · rw [(unfr_bad rfl h).1]; exact Nat.zero_le _
theorem ldE_cases (b : Tx) : ldE b = 0 ∧ loadRec b = some (ldR b) ∨ ldE b ≠ 0 ∧ loadRec b = none := by
  cases h : loadRec b with
  | none => right; exact ⟨by rw [(ld_none h).2]; decide, rfl⟩
  | some x => left; rw [(ld_some h).1]; exact ⟨(ld_some h).2, rfl⟩

theorem recD_monoR {l L : List Chunk} {m : RecM} (h : RecD l m) : RecD (L ++ l) m := fun w hk => h w (fun c hc => hk c (List.mem_append_right _ hc))
theorem recD_monoL {l L : List Chunk} {m : RecM} (h : RecD L m) : RecD (L ++ l) m := fun w hk => h w (fun c hc => hk c (List.mem_append_left _ hc))
theorem recsD_of {A1 : Option Addr} {n c1 sz : Nat} {e : TypeId} {ms : List RecM} {L : List Chunk} (h : ∀ m ∈ ms, RecD L m) : RecsD [sl A1 n c1 e sz (ms.flatMap recC), big L] ms A1 := fun w hk => ⟨reads_chunkR hk (List.Mem.head _), fun m hm => recD_big (h m hm) w (fun c hc => hk c (List.Mem.tail _ hc))⟩

set_option maxRecDepth 20000 in
theorem slHasPx (a p : Tx) (w : World) : FnV Try.prog 98 [.string (sL a), .string (sL p)] (.bool (decide (a.take p.length = p))) w := by
  refine fn_enter Try.func98 rfl Try.ntmps98 rfl ?_
  refine vc_seq ?_
  refine vc_region ?_
  refine vl_val rfl (.some rfl) (val_assign rfl) ?_
  refine vl_nil ?_
  refine vc_seq ?_
  refine vc_region ?_
  refine vl_val rfl (.some rfl) (val_move rfl) ?_
  refine vl_val rfl (.some rfl) (val_lenStr Try.runUnderlying9 rfl) ?_
  refine vl_val rfl (.some rfl) (val_move rfl) ?_
  refine vl_val rfl (.some rfl) (val_lenStr Try.runUnderlying9 rfl) ?_
  refine vl_val rfl (.some rfl) (val_ge rfl rfl) ?_
  refine vl_val rfl (.some rfl) (val_move rfl) ?_
  refine vl_split (t := 10) rfl (fun hg10 => ?_) (fun hg10 => ?_)
  · (try replace hg10 := of_decide_eq_true hg10)
    refine vl_on rfl rfl rfl rfl ?_
    refine vl_val rfl (.some rfl) (val_move rfl) ?_
    refine vl_on rfl rfl rfl rfl ?_
    refine vl_val rfl (.some rfl) (val_move rfl) ?_
    refine vl_on rfl rfl rfl rfl ?_
    refine vl_val rfl (.some rfl) (val_lenStr Try.runUnderlying9 rfl) ?_
    refine vl_on rfl rfl rfl rfl ?_
    refine vl_val rfl (.some rfl) (val_cutStrTo Try.runUnderlying9 rfl rfl (by omega) (by omega)) ?_
    rw [sL_cut, Int.toNat_natCast, sL_size, List.drop_zero]
    refine vl_on rfl rfl rfl rfl ?_
    refine vl_val rfl (.some rfl) (val_move rfl) ?_
    refine vl_on rfl rfl rfl rfl ?_
    refine vl_val rfl (.some rfl) (val_seq rfl rfl) ?_
    refine vl_val rfl (.some rfl) (val_pick rfl rfl) ?_
    refine vl_val rfl (.some rfl) (val_assign rfl) ?_
    refine vl_nil ?_
    refine vc_ret ?_
    refine ⟨_, [], _, res1 Try.results98 rfl, .nil, ?_⟩
    show Value.bool _ = Value.bool _
    first
      | (rw [decide_eq_decide.2 (sL_inj (a := a.take p.length) (b := p))]; done)
      | (refine congrArg Value.bool (Eq.symm (decide_eq_false fun h => ?_))
         have := congrArg List.length h
         rw [List.length_take] at this
         simp only [sL_size] at *
         omega)
  · (try replace hg10 := of_decide_eq_false hg10)
    refine vl_off rfl rfl rfl rfl (.some rfl) ?_
    refine vl_off rfl rfl rfl rfl (.some rfl) ?_
    refine vl_off rfl rfl rfl rfl (.some rfl) ?_
    refine vl_off rfl rfl rfl rfl (.some rfl) ?_
    refine vl_off rfl rfl rfl rfl (.some rfl) ?_
    refine vl_off rfl rfl rfl rfl (.some rfl) ?_
    refine vl_val rfl (.some rfl) (val_pick rfl rfl) ?_
    refine vl_val rfl (.some rfl) (val_assign rfl) ?_
    refine vl_nil ?_
    refine vc_ret ?_
    refine ⟨_, [], _, res1 Try.results98 rfl, .nil, ?_⟩
    show Value.bool _ = Value.bool _
    first
      | (rw [decide_eq_decide.2 (sL_inj (a := a.take p.length) (b := p))]; done)
      | (refine congrArg Value.bool (Eq.symm (decide_eq_false fun h => ?_))
         have := congrArg List.length h
         rw [List.length_take] at this
         simp only [sL_size] at *
         omega)
set_option maxRecDepth 20000 in
theorem sHasPx (a p : Tx) (w : World) : FnV Try.prog 49 [.string (sL a), .string (sL p)] (.bool (decide (a.take p.length = p))) w := by
  refine fn_enter Try.func49 rfl Try.ntmps49 rfl ?_
  refine vc_seq ?_
  refine vc_region ?_
  refine vl_val rfl (.some rfl) (val_assign rfl) ?_
  refine vl_nil ?_
  refine vc_seq ?_
  refine vc_region ?_
  refine vl_val rfl (.some rfl) (val_move rfl) ?_
  refine vl_val rfl (.some rfl) (val_move rfl) ?_
  refine vl_callV rfl rfl (.some rfl) Try.call98 rfl (fun w hw => slHasPx a p w) ?_
  refine vl_val rfl (.some rfl) (val_assign rfl) ?_
  refine vl_nil ?_
  refine vc_ret ?_
  refine ⟨_, [], _, res1 Try.results49 rfl, .nil, ?_⟩
  rfl
set_option maxRecDepth 20000 in
theorem xScan (A : Option Addr) (c : Nat) (b : Tx) (hb : b.length ≤ 1000000000) (hbc : b.length ≤ c) (id : Nat) (hid : id < 18446744073709551616) (w : World) (hr : Reads w A (bcells b)) : Fn Try.prog 15 [.slice A b.length c, .int .u64 id] [] (ret fun v H' => ∃ ms A2 c2 l, v = .tuple #[.slice A2 ms.length c2, .int .i64 (scN id b : Nat), .bool (scO id b)] ∧ ms.map recOf = scL id b ∧ RecsD l ms A2 ∧ H' = l) w := by
  have hbl : (beginL id).length ≤ 30 := by
    unfold beginL
    have := putN_len id
    rw [frame_is (by simp only [List.length_cons]; omega)]
    simp only [List.length_append, four_len, List.length_cons]
    omega
  refine fn_enter Try.func15 rfl Try.ntmps15 rfl ?_
  refine vc_seq ?_
  refine vc_region ?_
  refine vl_val rfl (.some rfl) (val_assign rfl) ?_
  refine vl_val rfl (.some rfl) (val_assign rfl) ?_
  refine vl_val rfl (.some rfl) (val_assign rfl) ?_
  refine vl_nil ?_
  refine vc_seq ?_
  refine vc_region ?_
  refine vl_val rfl (.some rfl) (val_move rfl) ?_
  refine vl_call (C := []) rfl rfl (.some rfl) Try.call18 rfl .nil (fun w hw => xBegin id hid w) (fun v H' h => ?_)
  obtain ⟨A7, c7, rfl, rfl⟩ := h
  show VL _ _ _ _ _ (_ :: _)
  refine vl_val rfl (.some rfl) (val_assign rfl) ?_
  refine vl_nil ?_
  refine vc_seq ?_
  refine vc_seq ?_
  refine vc_region ?_
  refine vl_val rfl (.some rfl) (val_move rfl) ?_
  refine vl_val rfl (.some rfl) (val_bytesToStr Try.runUnderlying22 Try.runUnderlying5 Try.runUnderlying9 rfl (rd_old hr rfl) rfl) ?_
  refine vl_val rfl (.some rfl) (val_move rfl) ?_
  refine vl_val rfl (.some rfl) (val_bytesToStr Try.runUnderlying22 Try.runUnderlying5 Try.runUnderlying9 rfl (rd_sl (by repeat constructor)) rfl) ?_
  refine vl_callV rfl rfl (.some rfl) Try.call49 rfl (fun w hw => sHasPx b (beginL id) w) ?_
  rw [show decide (b.take (beginL id).length = beginL id) = scO id b from rfl]
  refine vl_val rfl (.some rfl) (val_not rfl) ?_
  refine vl_nil ?_
  refine vc_cond rfl (fun hc0 => ?_) (fun hc0 => ?_)
  · (try replace hc0 := of_decide_eq_true hc0)
    have hpo : scO id b = false := by simpa using hc0
    refine vc_seq ?_
    refine vc_region ?_
    refine vl_val rfl (.some rfl) (val_assign rfl) ?_
    refine vl_val rfl (.some rfl) (val_assign rfl) ?_
    refine vl_val rfl (.some rfl) (val_assign rfl) ?_
    refine vl_nil ?_
    refine vc_ret ?_
    refine ⟨_, [], _, res3 Try.results15 rfl rfl rfl, (by repeat constructor), ?_⟩
    obtain ⟨e1, e2⟩ := sc_1 hpo
    refine ⟨[], none, 0, [], ?_, e1.symm, fun w _ => ⟨reads_nilR rfl, fun m hm => by cases hm⟩, rfl⟩
    rw [e2, hpo]
    rfl
  · (try replace hc0 := of_decide_eq_false hc0)
    have hpo : scO id b = true := by simpa using hc0
    have hle := scO_le hpo
    refine vc_skip ?_
    refine vc_seq ?_
    refine vc_region ?_
    refine vl_val rfl (.some rfl) (val_assign rfl) ?_
    refine vl_nil ?_
    refine vc_seq ?_
    refine vc_region ?_
    refine vl_val rfl (.some rfl) (val_move rfl) ?_
    refine vl_val rfl (.some rfl) (val_lenSl Try.runUnderlying22 rfl) ?_
    refine vl_val rfl (.some rfl) (val_assign rfl) ?_
    refine vl_nil ?_
    refine vc_block ?_
    refine vc_eqv (eqv_big [] _).symm ?_
    refine vc_nilSl 43 9 ?_
    refine vc_loopw (fun q E H => ∃ (t : Nat) (ms : List RecM) (A1 : Option Addr) (c1 : Nat) (L : List Chunk), t ≤ b.length ∧ ms.length ≤ t ∧ q = b.length - t ∧ (∃ f, ScI b (beginL id).length f t (ms.map recOf)) ∧ (∀ m ∈ ms, RecD L m) ∧ E = [(9, .int .i64 (t : Nat)), (8, .slice A1 ms.length c1), (0, .slice A b.length c)] ∧ H = [sl A1 ms.length c1 43 9 (ms.flatMap recC), big L]) ((b.length - (beginL id).length)) ⟨_, _, _, ⟨(beginL id).length, [], none, 0, [], hle, by simp, rfl, ⟨_, sc_0 hle⟩, (fun m hm => by cases hm), rfl, rfl⟩, (by repeat (first | exact trivial | refine ⟨rfl, ?_⟩ | refine ⟨le_item rfl (by first | rfl | (congr 1; omega) | (simp; done) | (simp; omega)), ?_⟩)), (by repeat constructor)⟩ ?_
    intro q E H hI
    obtain ⟨t, ms, A1, c1, L, htb, hmt, rfl, ⟨f, hSI⟩, hms, rfl, rfl⟩ := hI
    refine vc_block ?_
    refine vc_seq ?_
    refine vc_region ?_
    refine vl_val rfl (.some rfl) (val_move rfl) ?_
    refine vl_val rfl (.some rfl) (val_move rfl) ?_
    refine vl_val rfl (.some rfl) (val_cutFrom Try.runUnderlying22 Try.sizeOf5 rfl rfl (by omega) (by omega)) ?_
    rw [Int.toNat_natCast, show b.length - t = (b.drop t).length from List.length_drop.symm]
    refine vl_call (C := []) rfl rfl (.some rfl) Try.call50 rfl .nil (fun w hw => cUnframe _ _ (b.drop t) (by rw [List.length_drop]; omega) (by rw [List.length_drop]; omega) w (reads_cutB (rdw (rd_old hr rfl) hw) hbc)) (fun v H' h => ?_)
    obtain ⟨A9, c9, rfl, rfl⟩ := h
    show VL _ _ _ _ _ (_ :: _)
    refine vl_slCap (A := A9) (n := (unfrL (b.drop t)).length) (c := c9) (sz := 1) (e := 5) (vs := bcells (unfrL (b.drop t))) (by repeat constructor) (fun hcap => ?_)
    refine vl_val rfl (.some rfl) (val_move rfl) ?_
    refine vl_val rfl (.some rfl) (val_extract rfl rfl) ?_
    refine vl_val rfl (.some rfl) (val_extract rfl rfl) ?_
    refine vl_val rfl (.some rfl) (val_extract rfl rfl) ?_
    refine vl_val rfl (.some rfl) (val_assign rfl) ?_
    refine vl_val rfl (.some rfl) (val_assign rfl) ?_
    refine vl_val rfl (.some rfl) (val_assign rfl) ?_
    refine vl_nil ?_
    refine vc_seq ?_
    refine vc_seq ?_
    refine vc_region ?_
    refine vl_val rfl (.some rfl) (val_move rfl) ?_
    refine vl_val rfl (.some rfl) (val_ne rfl rfl) ?_
    refine vl_nil ?_
    refine vc_cond rfl (fun hc1 => ?_) (fun hc1 => ?_)
    · (try replace hc1 := of_decide_eq_true hc1)
      refine vc_seq ?_
      refine vc_region ?_
      refine vl_val rfl (.some rfl) (val_move rfl) ?_
      refine vl_val rfl (.some rfl) (val_move rfl) ?_
      refine vl_val rfl (.some rfl) (val_assign rfl) ?_
      refine vl_val rfl (.some rfl) (val_assign rfl) ?_
      refine vl_val rfl (.some rfl) (val_assign rfl) ?_
      refine vl_nil ?_
      refine vc_ret ?_
      refine ⟨_, [sl A1 ms.length c1 43 9 (ms.flatMap recC), big L], _, res3 Try.results15 rfl rfl rfl, (by repeat constructor), ?_⟩
      obtain ⟨e1, e2⟩ := sc_2 hpo (sc_stop hSI (.inl (by omega)))
      refine ⟨ms, A1, c1, _, ?_, e1.symm, recsD_of hms, rfl⟩
      rw [e2, hpo, show (beginL id).length + (t - (beginL id).length) = t by have := hSI.2.2.1; omega]
    · (try replace hc1 := of_decide_eq_false hc1)
      refine vc_skip ?_
      refine vc_seq ?_
      refine vc_region ?_
      refine vl_val rfl (.some rfl) (val_move rfl) ?_
      have hul := unfrL_le (b.drop t)
      refine vl_call (C := []) rfl rfl (.some rfl) Try.call25 rfl .nil (fun w hw => pLoad A9 c9 (unfrL (b.drop t)) (by omega) hcap w (rdw (rd_sl (vs := bcells (unfrL (b.drop t))) (by repeat constructor)) hw)) (fun v H' h => ?_)
      obtain ⟨m, l, rfl, hm, hD, hH⟩ := h
      rw [hH]
      refine vl_eqv (eqv_big l _).symm ?_
      refine vl_val rfl (.some rfl) (val_move rfl) ?_
      refine vl_val rfl (.some rfl) (val_extract rfl rfl) ?_
      refine vl_val rfl (.some rfl) (val_extract rfl rfl) ?_
      refine vl_alloc rfl rfl (.some rfl) Try.zeroValue43 (fun r13 => ?_)
      first | refine vl_store rfl rfl .none rfl rfl Try.sizeOf43 rfl (by repeat constructor) (by first | decide | exact Nat.le_refl _ | exact Nat.le_of_ble_eq_true rfl | (simp; omega)) ?_ | refine vl_storeSl rfl rfl .none rfl rfl Try.sizeOf43 rfl (by simp [Value.cells]) (by repeat constructor) (by first | decide | (simp [Value.cells]; omega)) ?_
      refine vl_val rfl (.some rfl) (val_assign rfl) ?_
      refine vl_nil ?_
      refine vc_seq ?_
      refine vc_seq ?_
      refine vc_region ?_
      refine vl_val rfl (.some rfl) (val_move rfl) ?_
      refine vl_val rfl (.some rfl) (val_ne rfl rfl) ?_
      refine vl_nil ?_
      refine vc_cond rfl (fun hc2 => ?_) (fun hc2 => ?_)
      · (try replace hc2 := of_decide_eq_true hc2)
        refine vc_seq ?_
        refine vc_region ?_
        refine vl_val rfl (.some rfl) (val_move rfl) ?_
        refine vl_val rfl (.some rfl) (val_move rfl) ?_
        refine vl_val rfl (.some rfl) (val_assign rfl) ?_
        refine vl_val rfl (.some rfl) (val_assign rfl) ?_
        refine vl_val rfl (.some rfl) (val_assign rfl) ?_
        refine vl_nil ?_
        refine vc_ret ?_
        refine ⟨_, [sl A1 ms.length c1 43 9 (ms.flatMap recC), big L], _, res3 Try.results15 rfl rfl rfl, (by repeat constructor), ?_⟩
        obtain ⟨e1, e2⟩ := sc_2 hpo (sc_stop hSI (.inr ((ldE_cases (unfrL (b.drop t))).elim (fun h => absurd h.1 (by omega)) (fun h => h.2))))
        refine ⟨ms, A1, c1, _, ?_, e1.symm, recsD_of hms, rfl⟩
        rw [e2, hpo, show (beginL id).length + (t - (beginL id).length) = t by have := hSI.2.2.1; omega]
      · (try replace hc2 := of_decide_eq_false hc2)
        have hue : unfrE (b.drop t) = 0 := by omega
        obtain ⟨he0, hl0⟩ | ⟨he0, _⟩ := ldE_cases (unfrL (b.drop t))
        rotate_left
        · omega
        rw [← hm] at hl0
        obtain ⟨hs1, hs2, f', hSI2⟩ := sc_step hSI hue hl0
        refine vc_eqv (Eqv.trans (Eqv.perm (Sub.perm (C := [big l, big L]) (by repeat constructor))) (eqv_two_big l L _)) ?_
        refine vc_skip ?_
        refine vc_seq ?_
        refine vc_region ?_
        refine vl_val rfl (.some rfl) (val_move rfl) ?_
        refine vl_val rfl (.some rfl) (val_loadAgg Try.isAgg43 Try.sizeOf43 rfl (by first | exact cells_whole (by repeat constructor) | exact cells_part (by repeat constructor) rfl) rfl) ?_
        refine vl_lit sT25 rfl rfl (.some rfl) rfl rfl rfl (by decide) (by decide) rfl rfl (fun r47 => ?_)
        refine vl_append (vs := ms.flatMap recC) (us := recC m) sT25 rfl rfl (.some rfl) rfl rfl (rd_sl (by repeat constructor)) rfl rfl (by omega) (by omega) (by repeat constructor) (fun A48 k48 => ?_)
        rw [show ms.flatMap recC ++ recC m = (ms ++ [m]).flatMap recC by simp, show ms.length + 1 = (ms ++ [m]).length by simp]
        refine vl_val rfl (.some rfl) (val_assign rfl) ?_
        refine vl_nil ?_
        refine vc_region ?_
        refine vl_val rfl (.some rfl) (val_move rfl) ?_
        refine vl_val rfl (.some rfl) (val_move rfl) ?_
        refine vl_val rfl (.some rfl) (val_add rfl rfl (by first | exact w_i64 (by omega) (by omega) | rfl)) ?_
        refine vl_val rfl (.some rfl) (val_assign rfl) ?_
        refine vl_nil ?_
        exact ⟨(b.length - (t + unfrN (b.drop t))), _, _, _, by first | omega | (rw [List.length_drop]; omega), (by repeat (first | exact trivial | refine ⟨rfl, ?_⟩ | refine ⟨le_item rfl (by first | rfl | (congr 1; omega) | (simp; done) | (simp; omega)), ?_⟩)), (by repeat constructor), ⟨t + unfrN (b.drop t), ms ++ [m], A48, k48, L ++ l, hs1, by simp; omega, rfl, ⟨f', by rw [List.map_append]; exact hSI2⟩, (fun x hx => (List.mem_append.1 hx).elim (fun h => recD_monoL (hms x h)) (fun h => by rw [List.mem_singleton.1 h]; exact recD_monoR hD)), rfl, rfl⟩⟩




structure RecS (m : RecM) : Prop where
  tn : m.tn.length < 562949953421312
  rn : m.rn.length < 562949953421312
  rt : m.rt.length < 562949953421312
  nm : m.nm.length < 562949953421312
  cs : m.cs.length < 562949953421312
  ds : m.ds.length < 562949953421312
  ms : m.ms.length < 562949953421312
  rs : m.rs.length < 562949953421312
  row : ∀ q ∈ m.rs, q.2.2.length < 562949953421312
  csx : ∀ c ∈ m.cs, c.1.length ≤ 562949953421312
  dsx : ∀ c ∈ m.ds, c.length ≤ 562949953421312
  msx : ∀ c ∈ m.ms, c.2.length ≤ 562949953421312
theorem RecS.recL {m : RecM} (h : RecS m) : RecL m := ⟨Nat.lt_trans h.tn (by decide), Nat.lt_trans h.rn (by decide), Nat.lt_trans h.rt (by decide), Nat.lt_trans h.nm (by decide), Nat.lt_trans h.cs (by decide), Nat.lt_trans h.ds (by decide), Nat.lt_trans h.ms (by decide), Nat.lt_trans h.rs (by decide), fun q hq => Nat.lt_trans (h.row q hq) (by decide)⟩
theorem sc_beg (id : Nat) : scO id (beginL id) = true ∧ scL id (beginL id) = [] ∧ scN id (beginL id) = (beginL id).length := by
  have h : scO id (beginL id) = true := decide_eq_true (List.take_length ..)
  have e : scanF (beginL id).length ((beginL id).drop (beginL id).length) = ([], 0) := by
    rw [List.drop_length]; exact scan_bad (by decide)
  obtain ⟨e1, e2⟩ := sc_2 h e
  exact ⟨h, e1, e2⟩
theorem sc_78 : scO 8 (beginL 7) = false := by decide +kernel

theorem rec0_len {m : RecM} (h : recOf m = rec0) : m.k = 0 ∧ m.tn = [] ∧ m.cs = [] ∧ m.rn = [] ∧ m.rt = [] ∧ m.ds = [] ∧ m.ms = [] ∧ m.nm = [] ∧ m.rs = [] := by
  have h1 := congrArg Rec.k h
  have h2 := congrArg Rec.t h
  have h3 := congrArg Rec.r h
  have h4 := congrArg Rec.nm h
  have h5 := congrArg Rec.rows h
  exact ⟨h1, congrArg RT.n h2, congrArg RT.cs h2, congrArg RR.n h3, congrArg RR.t h3, congrArg RR.ds h3, congrArg RR.ms h3, h4, by simpa using h5⟩
abbrev liveM (r : Nat) : RecM := ⟨1, [], some ⟨r, 0, none⟩, 1, [([], 0)], [], [], none, 0, [], none, 0, [], [], none, 0, []⟩
theorem live_is (r : Nat) : RecL (liveM r) ∧ goodRec (recOf (liveM r)) := by
  have h : (0 : Nat) < 4611686018427387904 := by decide
  have h1 : (1 : Nat) < 4611686018427387904 := by decide
  exact ⟨⟨h, h, h, h, h1, h, h, h, fun q hq => by cases hq⟩, .inl ⟨rfl, ⟨Nat.le_refl 1, Nat.le_of_ble_eq_true rfl⟩, ⟨rfl, rfl, rfl, rfl⟩, ⟨rfl, rfl⟩⟩⟩
theorem good_k0 {x : Rec} (h : goodRec x) : x.k ≠ 0 := by rcases h with ⟨h, _⟩ | ⟨h, _⟩ | ⟨h, _⟩ <;> omega

set_option maxRecDepth 20000 in
theorem xSame (a b : RecM) (he : recOf a = recOf b) (hx : (goodRec (recOf b) ∧ ¬ 262144 < (recB (recOf b)).length) ∨ recOf b = rec0) (hLa : RecL a) (hLb : RecL b) (hBa : RecB a) (hBb : RecB b) (w : World) (hRa : RecR w a) (hRb : RecR w b) : Fn Try.prog 20 [recA a, recA b] [] (ret fun v H' => v = .bool true ∧ H' = []) w := by
  have ek : a.k = b.k := congrArg Rec.k he
  have er : a.rs.length = b.rs.length := by have := congrArg (fun x : Rec => x.rows.length) he; simpa using this
  refine fn_enter Try.func20 rfl Try.ntmps20 rfl ?_
  refine vc_seq ?_
  refine vc_region ?_
  refine vl_box rfl rfl (.some rfl) rfl (fun r2 => ?_)
  refine vl_box rfl rfl (.some rfl) rfl (fun r3 => ?_)
  refine vl_val rfl (.some rfl) (val_assign rfl) ?_
  refine vl_nil ?_
  refine vc_seq ?_
  refine vc_seq ?_
  refine vc_region ?_
  refine vl_val rfl (.some rfl) (by first | exact val_fieldAddr Try.runUnderlying43 rfl Try.sizeOf3 rfl | exact val_fieldAddrR Try.runUnderlying43 rfl Try.sizeOf3 rfl) ?_
  refine vl_val rfl (.some rfl) (val_load Try.isAgg3 rfl (by first | exact cell_cells (by repeat constructor) rfl | exact cell_rd (by first | exact rd_sl (by repeat constructor) | exact rd_old (by assumption) rfl) (by first | exact bcells_at (by omega) | exact ucells_at (by omega) | exact icells_at (by omega) | exact tcells_at (by omega) | exact bcells_get (by omega) | exact icells_get (by omega) | exact tcells_get (by omega) | exact ucells_get (by omega)) | exact cell_old (by assumption) (by simp [fps]))) ?_
  refine vl_val rfl (.some rfl) (by first | exact val_fieldAddr Try.runUnderlying44 rfl Try.sizeOf3 rfl | exact val_fieldAddrR Try.runUnderlying44 rfl Try.sizeOf3 rfl) ?_
  refine vl_val rfl (.some rfl) (val_load Try.isAgg3 rfl (by first | exact cell_cells (by repeat constructor) rfl | exact cell_rd (by first | exact rd_sl (by repeat constructor) | exact rd_old (by assumption) rfl) (by first | exact bcells_at (by omega) | exact ucells_at (by omega) | exact icells_at (by omega) | exact tcells_at (by omega) | exact bcells_get (by omega) | exact icells_get (by omega) | exact tcells_get (by omega) | exact ucells_get (by omega)) | exact cell_old (by assumption) (by simp [fps]))) ?_
  refine vl_val rfl (.some rfl) (val_ne rfl rfl) ?_
  refine vl_val rfl (.some rfl) (val_move rfl) ?_
  refine vl_split (t := 14) rfl (fun hg14 => ?_) (fun hg14 => ?_)
  · (try replace hg14 := of_decide_eq_true hg14)
    refine vl_off rfl rfl rfl rfl (.some rfl) ?_
    refine vl_off rfl rfl rfl rfl (.some rfl) ?_
    refine vl_off rfl rfl rfl rfl (.some rfl) ?_
    refine vl_off rfl rfl rfl rfl (.some rfl) ?_
    refine vl_off rfl rfl rfl rfl (.some rfl) ?_
    refine vl_off rfl rfl rfl rfl (.some rfl) ?_
    refine vl_off rfl rfl rfl rfl (.some rfl) ?_
    refine vl_val rfl (.some rfl) (val_pick rfl rfl) ?_
    refine vl_nil ?_
    refine vc_cond rfl (fun _ => ?_) (fun h => by cases h)
    refine vc_seq ?_
    refine vc_region ?_
    refine vl_val rfl (.some rfl) (val_assign rfl) ?_
    refine vl_nil ?_
    refine vc_ret ?_
    first
      | (exact ⟨_, [], _, res1 Try.results20 rfl, (by repeat constructor), rfl, rfl⟩)
      | (refine ⟨_, [], _, res1 Try.results20 rfl, (by repeat constructor), congrArg Value.bool (decide_eq_true ?_), rfl⟩
         rw [n2, n4, n5]; rfl)
      | (exfalso; first | omega | exact hg29 (by rw [n8]) | exact absurd rfl (by assumption) | contradiction)
  · (try replace hg14 := of_decide_eq_false hg14)
    refine vl_on rfl rfl rfl rfl ?_
    refine vl_val rfl (.some rfl) (by first | exact val_fieldAddr Try.runUnderlying43 rfl Try.sizeOf41 rfl | exact val_fieldAddrR Try.runUnderlying43 rfl Try.sizeOf41 rfl) ?_
    refine vl_on rfl rfl rfl rfl ?_
    refine vl_val rfl (.some rfl) (val_load Try.isAgg41 rfl (by first | exact cell_cells (by repeat constructor) rfl | exact cell_rd (by first | exact rd_sl (by repeat constructor) | exact rd_old (by assumption) rfl) (by first | exact bcells_at (by omega) | exact ucells_at (by omega) | exact icells_at (by omega) | exact tcells_at (by omega) | exact bcells_get (by omega) | exact icells_get (by omega) | exact tcells_get (by omega) | exact ucells_get (by omega)) | exact cell_old (by assumption) (by simp [fps]))) ?_
    refine vl_on rfl rfl rfl rfl ?_
    refine vl_val rfl (.some rfl) (val_lenSl Try.runUnderlying41 rfl) ?_
    refine vl_on rfl rfl rfl rfl ?_
    refine vl_val rfl (.some rfl) (by first | exact val_fieldAddr Try.runUnderlying44 rfl Try.sizeOf41 rfl | exact val_fieldAddrR Try.runUnderlying44 rfl Try.sizeOf41 rfl) ?_
    refine vl_on rfl rfl rfl rfl ?_
    refine vl_val rfl (.some rfl) (val_load Try.isAgg41 rfl (by first | exact cell_cells (by repeat constructor) rfl | exact cell_rd (by first | exact rd_sl (by repeat constructor) | exact rd_old (by assumption) rfl) (by first | exact bcells_at (by omega) | exact ucells_at (by omega) | exact icells_at (by omega) | exact tcells_at (by omega) | exact bcells_get (by omega) | exact icells_get (by omega) | exact tcells_get (by omega) | exact ucells_get (by omega)) | exact cell_old (by assumption) (by simp [fps]))) ?_
    refine vl_on rfl rfl rfl rfl ?_
    refine vl_val rfl (.some rfl) (val_lenSl Try.runUnderlying41 rfl) ?_
    refine vl_on rfl rfl rfl rfl ?_
    refine vl_val rfl (.some rfl) (val_ne rfl rfl) ?_
    refine vl_val rfl (.some rfl) (val_pick rfl rfl) ?_
    refine vl_nil ?_
    refine vc_cond rfl (fun hc0 => ?_) (fun hc0 => ?_)
    · (try replace hc0 := of_decide_eq_true hc0)
      refine vc_seq ?_
      refine vc_region ?_
      refine vl_val rfl (.some rfl) (val_assign rfl) ?_
      refine vl_nil ?_
      refine vc_ret ?_
      first
        | (exact ⟨_, [], _, res1 Try.results20 rfl, (by repeat constructor), rfl, rfl⟩)
        | (refine ⟨_, [], _, res1 Try.results20 rfl, (by repeat constructor), congrArg Value.bool (decide_eq_true ?_), rfl⟩
           rw [n2, n4, n5]; rfl)
        | (exfalso; first | omega | exact hg29 (by rw [n8]) | exact absurd rfl (by assumption) | contradiction)
    · (try replace hc0 := of_decide_eq_false hc0)
      refine vc_skip ?_
      refine vc_seq ?_
      refine vc_seq ?_
      refine vc_region ?_
      refine vl_val rfl (.some rfl) (by first | exact val_fieldAddr Try.runUnderlying44 rfl Try.sizeOf3 rfl | exact val_fieldAddrR Try.runUnderlying44 rfl Try.sizeOf3 rfl) ?_
      refine vl_val rfl (.some rfl) (val_load Try.isAgg3 rfl (by first | exact cell_cells (by repeat constructor) rfl | exact cell_rd (by first | exact rd_sl (by repeat constructor) | exact rd_old (by assumption) rfl) (by first | exact bcells_at (by omega) | exact ucells_at (by omega) | exact icells_at (by omega) | exact tcells_at (by omega) | exact bcells_get (by omega) | exact icells_get (by omega) | exact tcells_get (by omega) | exact ucells_get (by omega)) | exact cell_old (by assumption) (by simp [fps]))) ?_
      refine vl_val rfl (.some rfl) (val_eq rfl rfl) ?_
      refine vl_nil ?_
      refine vc_cond rfl (fun hc1 => ?_) (fun hc1 => ?_)
      · (try replace hc1 := of_decide_eq_true hc1)
        have hx0 : recOf b = rec0 := hx.elim (fun h => absurd hc1 (good_k0 h.1)) id
        obtain ⟨n1, n2, n3, n4, n5, n6, n7, n8, n9⟩ := rec0_len (he.trans hx0)
        have m2 : (sL a.tn).size = 0 := by rw [n2]; rfl
        have m3 : a.cs.length = 0 := by rw [n3]; rfl
        have m4 : (sL a.rn).size = 0 := by rw [n4]; rfl
        have m5 : (sL a.rt).size = 0 := by rw [n5]; rfl
        have m6 : a.ds.length = 0 := by rw [n6]; rfl
        have m7 : a.ms.length = 0 := by rw [n7]; rfl
        have m9 : (sL a.tn ++ sL a.rn).size = 0 := by rw [n2, n4]; rfl
        refine vc_seq ?_
        refine vc_region ?_
        refine vl_val rfl (.some rfl) (by first | exact val_fieldAddr Try.runUnderlying43 rfl Try.sizeOf9 rfl | exact val_fieldAddrR Try.runUnderlying43 rfl Try.sizeOf9 rfl) ?_
        refine vl_val rfl (.some rfl) (val_load Try.isAgg9 rfl (by first | exact cell_cells (by repeat constructor) rfl | exact cell_rd (by first | exact rd_sl (by repeat constructor) | exact rd_old (by assumption) rfl) (by first | exact bcells_at (by omega) | exact ucells_at (by omega) | exact icells_at (by omega) | exact tcells_at (by omega) | exact bcells_get (by omega) | exact icells_get (by omega) | exact tcells_get (by omega) | exact ucells_get (by omega)) | exact cell_old (by assumption) (by simp [fps]))) ?_
        refine vl_val rfl (.some rfl) (val_seq rfl rfl) ?_
        refine vl_val rfl (.some rfl) (val_move rfl) ?_
        refine vl_split (t := 29) rfl (fun hg29 => ?_) (fun hg29 => ?_)
        · (try replace hg29 := of_decide_eq_true hg29)
          refine vl_on rfl rfl rfl rfl ?_
          refine vl_val rfl (.some rfl) (by first | exact val_fieldAddr Try.runUnderlying43 rfl Try.sizeOf36 rfl | exact val_fieldAddrR Try.runUnderlying43 rfl Try.sizeOf36 rfl) ?_
          refine vl_on rfl rfl rfl rfl ?_
          refine vl_val rfl (.some rfl) (by first | exact val_fieldAddr Try.runUnderlying36 rfl Try.sizeOf34 rfl | exact val_fieldAddrR Try.runUnderlying36 rfl Try.sizeOf34 rfl) ?_
          refine vl_on rfl rfl rfl rfl ?_
          refine vl_val rfl (.some rfl) (val_load Try.isAgg34 rfl (by first | exact cell_cells (by repeat constructor) rfl | exact cell_rd (by first | exact rd_sl (by repeat constructor) | exact rd_old (by assumption) rfl) (by first | exact bcells_at (by omega) | exact ucells_at (by omega) | exact icells_at (by omega) | exact tcells_at (by omega) | exact bcells_get (by omega) | exact icells_get (by omega) | exact tcells_get (by omega) | exact ucells_get (by omega)) | exact cell_old (by assumption) (by simp [fps]))) ?_
          refine vl_on rfl rfl rfl rfl ?_
          refine vl_val rfl (.some rfl) (val_lenSl Try.runUnderlying34 rfl) ?_
          refine vl_on rfl rfl rfl rfl ?_
          refine vl_val rfl (.some rfl) (by first | exact val_fieldAddr Try.runUnderlying43 rfl Try.sizeOf40 rfl | exact val_fieldAddrR Try.runUnderlying43 rfl Try.sizeOf40 rfl) ?_
          refine vl_on rfl rfl rfl rfl ?_
          refine vl_val rfl (.some rfl) (by first | exact val_fieldAddr Try.runUnderlying40 rfl Try.sizeOf37 rfl | exact val_fieldAddrR Try.runUnderlying40 rfl Try.sizeOf37 rfl) ?_
          refine vl_on rfl rfl rfl rfl ?_
          refine vl_val rfl (.some rfl) (val_load Try.isAgg37 rfl (by first | exact cell_cells (by repeat constructor) rfl | exact cell_rd (by first | exact rd_sl (by repeat constructor) | exact rd_old (by assumption) rfl) (by first | exact bcells_at (by omega) | exact ucells_at (by omega) | exact icells_at (by omega) | exact tcells_at (by omega) | exact bcells_get (by omega) | exact icells_get (by omega) | exact tcells_get (by omega) | exact ucells_get (by omega)) | exact cell_old (by assumption) (by simp [fps]))) ?_
          refine vl_on rfl rfl rfl rfl ?_
          refine vl_val rfl (.some rfl) (val_lenSl Try.runUnderlying37 rfl) ?_
          refine vl_on rfl rfl rfl rfl ?_
          refine vl_val rfl (.some rfl) (val_add rfl rfl (by first | exact w_i64 (by omega) (by omega) | rfl)) ?_
          refine vl_on rfl rfl rfl rfl ?_
          refine vl_val rfl (.some rfl) (by first | exact val_fieldAddr Try.runUnderlying43 rfl Try.sizeOf40 rfl | exact val_fieldAddrR Try.runUnderlying43 rfl Try.sizeOf40 rfl) ?_
          refine vl_on rfl rfl rfl rfl ?_
          refine vl_val rfl (.some rfl) (by first | exact val_fieldAddr Try.runUnderlying40 rfl Try.sizeOf38 rfl | exact val_fieldAddrR Try.runUnderlying40 rfl Try.sizeOf38 rfl) ?_
          refine vl_on rfl rfl rfl rfl ?_
          refine vl_val rfl (.some rfl) (val_load Try.isAgg38 rfl (by first | exact cell_cells (by repeat constructor) rfl | exact cell_rd (by first | exact rd_sl (by repeat constructor) | exact rd_old (by assumption) rfl) (by first | exact bcells_at (by omega) | exact ucells_at (by omega) | exact icells_at (by omega) | exact tcells_at (by omega) | exact bcells_get (by omega) | exact icells_get (by omega) | exact tcells_get (by omega) | exact ucells_get (by omega)) | exact cell_old (by assumption) (by simp [fps]))) ?_
          refine vl_on rfl rfl rfl rfl ?_
          refine vl_val rfl (.some rfl) (val_lenSl Try.runUnderlying38 rfl) ?_
          refine vl_on rfl rfl rfl rfl ?_
          refine vl_val rfl (.some rfl) (val_add rfl rfl (by first | exact w_i64 (by omega) (by omega) | rfl)) ?_
          refine vl_on rfl rfl rfl rfl ?_
          refine vl_val rfl (.some rfl) (val_eq rfl rfl) ?_
          refine vl_val rfl (.some rfl) (val_pick rfl rfl) ?_
          refine vl_val rfl (.some rfl) (val_move rfl) ?_
          refine vl_split (t := 46) rfl (fun hg46 => ?_) (fun hg46 => ?_)
          · (try replace hg46 := of_decide_eq_true hg46)
            refine vl_on rfl rfl rfl rfl ?_
            refine vl_val rfl (.some rfl) (by first | exact val_fieldAddr Try.runUnderlying43 rfl Try.sizeOf36 rfl | exact val_fieldAddrR Try.runUnderlying43 rfl Try.sizeOf36 rfl) ?_
            refine vl_on rfl rfl rfl rfl ?_
            refine vl_val rfl (.some rfl) (by first | exact val_fieldAddr Try.runUnderlying36 rfl Try.sizeOf9 rfl | exact val_fieldAddrR Try.runUnderlying36 rfl Try.sizeOf9 rfl) ?_
            refine vl_on rfl rfl rfl rfl ?_
            refine vl_val rfl (.some rfl) (val_load Try.isAgg9 rfl (by first | exact cell_cells (by repeat constructor) rfl | exact cell_rd (by first | exact rd_sl (by repeat constructor) | exact rd_old (by assumption) rfl) (by first | exact bcells_at (by omega) | exact ucells_at (by omega) | exact icells_at (by omega) | exact tcells_at (by omega) | exact bcells_get (by omega) | exact icells_get (by omega) | exact tcells_get (by omega) | exact ucells_get (by omega)) | exact cell_old (by assumption) (by simp [fps]))) ?_
            refine vl_on rfl rfl rfl rfl ?_
            refine vl_val rfl (.some rfl) (by first | exact val_fieldAddr Try.runUnderlying43 rfl Try.sizeOf40 rfl | exact val_fieldAddrR Try.runUnderlying43 rfl Try.sizeOf40 rfl) ?_
            refine vl_on rfl rfl rfl rfl ?_
            refine vl_val rfl (.some rfl) (by first | exact val_fieldAddr Try.runUnderlying40 rfl Try.sizeOf9 rfl | exact val_fieldAddrR Try.runUnderlying40 rfl Try.sizeOf9 rfl) ?_
            refine vl_on rfl rfl rfl rfl ?_
            refine vl_val rfl (.some rfl) (val_load Try.isAgg9 rfl (by first | exact cell_cells (by repeat constructor) rfl | exact cell_rd (by first | exact rd_sl (by repeat constructor) | exact rd_old (by assumption) rfl) (by first | exact bcells_at (by omega) | exact ucells_at (by omega) | exact icells_at (by omega) | exact tcells_at (by omega) | exact bcells_get (by omega) | exact icells_get (by omega) | exact tcells_get (by omega) | exact ucells_get (by omega)) | exact cell_old (by assumption) (by simp [fps]))) ?_
            refine vl_on rfl rfl rfl rfl ?_
            refine vl_val rfl (.some rfl) (val_cat rfl rfl (by omega)) ?_
            refine vl_on rfl rfl rfl rfl ?_
            refine vl_val rfl (.some rfl) (by first | exact val_fieldAddr Try.runUnderlying43 rfl Try.sizeOf40 rfl | exact val_fieldAddrR Try.runUnderlying43 rfl Try.sizeOf40 rfl) ?_
            refine vl_on rfl rfl rfl rfl ?_
            refine vl_val rfl (.some rfl) (by first | exact val_fieldAddr Try.runUnderlying40 rfl Try.sizeOf9 rfl | exact val_fieldAddrR Try.runUnderlying40 rfl Try.sizeOf9 rfl) ?_
            refine vl_on rfl rfl rfl rfl ?_
            refine vl_val rfl (.some rfl) (val_load Try.isAgg9 rfl (by first | exact cell_cells (by repeat constructor) rfl | exact cell_rd (by first | exact rd_sl (by repeat constructor) | exact rd_old (by assumption) rfl) (by first | exact bcells_at (by omega) | exact ucells_at (by omega) | exact icells_at (by omega) | exact tcells_at (by omega) | exact bcells_get (by omega) | exact icells_get (by omega) | exact tcells_get (by omega) | exact ucells_get (by omega)) | exact cell_old (by assumption) (by simp [fps]))) ?_
            refine vl_on rfl rfl rfl rfl ?_
            refine vl_val rfl (.some rfl) (val_cat rfl rfl (by omega)) ?_
            refine vl_on rfl rfl rfl rfl ?_
            refine vl_val rfl (.some rfl) (val_seq rfl rfl) ?_
            refine vl_val rfl (.some rfl) (val_pick rfl rfl) ?_
            refine vl_val rfl (.some rfl) (val_assign rfl) ?_
            refine vl_nil ?_
            refine vc_ret ?_
            first
              | (exact ⟨_, [], _, res1 Try.results20 rfl, (by repeat constructor), rfl, rfl⟩)
              | (refine ⟨_, [], _, res1 Try.results20 rfl, (by repeat constructor), congrArg Value.bool (decide_eq_true ?_), rfl⟩
                 rw [n2, n4, n5]; rfl)
              | (exfalso; first | omega | exact hg29 (by rw [n8]) | exact absurd rfl (by assumption) | contradiction)
          · (try replace hg46 := of_decide_eq_false hg46)
            refine vl_off rfl rfl rfl rfl (.some rfl) ?_
            refine vl_off rfl rfl rfl rfl (.some rfl) ?_
            refine vl_off rfl rfl rfl rfl (.some rfl) ?_
            refine vl_off rfl rfl rfl rfl (.some rfl) ?_
            refine vl_off rfl rfl rfl rfl (.some rfl) ?_
            refine vl_off rfl rfl rfl rfl (.some rfl) ?_
            refine vl_off rfl rfl rfl rfl (.some rfl) ?_
            refine vl_off rfl rfl rfl rfl (.some rfl) ?_
            refine vl_off rfl rfl rfl rfl (.some rfl) ?_
            refine vl_off rfl rfl rfl rfl (.some rfl) ?_
            refine vl_off rfl rfl rfl rfl (.some rfl) ?_
            refine vl_off rfl rfl rfl rfl (.some rfl) ?_
            refine vl_val rfl (.some rfl) (val_pick rfl rfl) ?_
            refine vl_val rfl (.some rfl) (val_assign rfl) ?_
            refine vl_nil ?_
            refine vc_ret ?_
            first
              | (exact ⟨_, [], _, res1 Try.results20 rfl, (by repeat constructor), rfl, rfl⟩)
              | (refine ⟨_, [], _, res1 Try.results20 rfl, (by repeat constructor), congrArg Value.bool (decide_eq_true ?_), rfl⟩
                 rw [n2, n4, n5]; rfl)
              | (exfalso; first | omega | exact hg29 (by rw [n8]) | exact absurd rfl (by assumption) | contradiction)
        · (try replace hg29 := of_decide_eq_false hg29)
          refine vl_off rfl rfl rfl rfl (.some rfl) ?_
          refine vl_off rfl rfl rfl rfl (.some rfl) ?_
          refine vl_off rfl rfl rfl rfl (.some rfl) ?_
          refine vl_off rfl rfl rfl rfl (.some rfl) ?_
          refine vl_off rfl rfl rfl rfl (.some rfl) ?_
          refine vl_off rfl rfl rfl rfl (.some rfl) ?_
          refine vl_off rfl rfl rfl rfl (.some rfl) ?_
          refine vl_off rfl rfl rfl rfl (.some rfl) ?_
          refine vl_off rfl rfl rfl rfl (.some rfl) ?_
          refine vl_off rfl rfl rfl rfl (.some rfl) ?_
          refine vl_off rfl rfl rfl rfl (.some rfl) ?_
          refine vl_off rfl rfl rfl rfl (.some rfl) ?_
          refine vl_off rfl rfl rfl rfl (.some rfl) ?_
          refine vl_off rfl rfl rfl rfl (.some rfl) ?_
          refine vl_off rfl rfl rfl rfl (.some rfl) ?_
          refine vl_val rfl (.some rfl) (val_pick rfl rfl) ?_
          refine vl_val rfl (.some rfl) (val_move rfl) ?_
          refine vl_off rfl rfl rfl rfl (.some rfl) ?_
          refine vl_off rfl rfl rfl rfl (.some rfl) ?_
          refine vl_off rfl rfl rfl rfl (.some rfl) ?_
          refine vl_off rfl rfl rfl rfl (.some rfl) ?_
          refine vl_off rfl rfl rfl rfl (.some rfl) ?_
          refine vl_off rfl rfl rfl rfl (.some rfl) ?_
          refine vl_off rfl rfl rfl rfl (.some rfl) ?_
          refine vl_off rfl rfl rfl rfl (.some rfl) ?_
          refine vl_off rfl rfl rfl rfl (.some rfl) ?_
          refine vl_off rfl rfl rfl rfl (.some rfl) ?_
          refine vl_off rfl rfl rfl rfl (.some rfl) ?_
          refine vl_off rfl rfl rfl rfl (.some rfl) ?_
          refine vl_val rfl (.some rfl) (val_pick rfl rfl) ?_
          refine vl_val rfl (.some rfl) (val_assign rfl) ?_
          refine vl_nil ?_
          refine vc_ret ?_
          first
            | (exact ⟨_, [], _, res1 Try.results20 rfl, (by repeat constructor), rfl, rfl⟩)
            | (refine ⟨_, [], _, res1 Try.results20 rfl, (by repeat constructor), congrArg Value.bool (decide_eq_true ?_), rfl⟩
               rw [n2, n4, n5]; rfl)
            | (exfalso; first | omega | exact hg29 (by rw [n8]) | exact absurd rfl (by assumption) | contradiction)
      · (try replace hc1 := of_decide_eq_false hc1)
        have hgx : goodRec (recOf b) ∧ ¬ 262144 < (recB (recOf b)).length := hx.elim id (fun h => absurd (rec0_len h).1 hc1)
        obtain ⟨e1, e2⟩ := byt_ok hgx.1 hgx.2
        refine vc_skip ?_
        refine vc_seq ?_
        refine vc_region ?_
        refine vl_val rfl (.some rfl) (val_loadAgg Try.isAgg43 Try.sizeOf43 rfl (by first | exact cells_whole (by repeat constructor) | exact cells_part (by repeat constructor) rfl) rfl) ?_
        refine vl_callV rfl rfl (.some rfl) Try.call24 rfl (fun w hw => lPlain a w) ?_
        refine vl_call (C := []) rfl rfl (.some rfl) Try.call23 rfl .nil (fun w hw => rBytesR a hLa (fun _ => hBa) w (rec_here hRa hw)) (fun v H' h => ?_)
        obtain ⟨A61, c61, rfl, rfl⟩ := h
        show VL _ _ _ _ _ (_ :: _)
        rw [he, e1, e2]
        refine vl_val rfl (.some rfl) (val_move rfl) ?_
        refine vl_val rfl (.some rfl) (val_extract rfl rfl) ?_
        refine vl_val rfl (.some rfl) (val_extract rfl rfl) ?_
        refine vl_val rfl (.some rfl) (val_assign rfl) ?_
        refine vl_val rfl (.some rfl) (val_assign rfl) ?_
        refine vl_nil ?_
        refine vc_seq ?_
        refine vc_region ?_
        refine vl_val rfl (.some rfl) (val_loadAgg Try.isAgg44 Try.sizeOf44 rfl (by first | exact cells_whole (by repeat constructor) | exact cells_part (by repeat constructor) rfl) rfl) ?_
        refine vl_call (C := []) rfl rfl (.some rfl) Try.call23 rfl .nil (fun w hw => rBytesR b hLb (fun _ => hBb) w (rec_here hRb hw)) (fun v H' h => ?_)
        obtain ⟨A67, c67, rfl, rfl⟩ := h
        show VL _ _ _ _ _ (_ :: _)
        rw [e1, e2]
        refine vl_val rfl (.some rfl) (val_move rfl) ?_
        refine vl_val rfl (.some rfl) (val_extract rfl rfl) ?_
        refine vl_val rfl (.some rfl) (val_extract rfl rfl) ?_
        refine vl_val rfl (.some rfl) (val_assign rfl) ?_
        refine vl_val rfl (.some rfl) (val_assign rfl) ?_
        refine vl_nil ?_
        refine vc_seq ?_
        refine vc_region ?_
        refine vl_val rfl (.some rfl) (val_move rfl) ?_
        refine vl_val rfl (.some rfl) (val_eq rfl rfl) ?_
        refine vl_val rfl (.some rfl) (val_move rfl) ?_
        refine vl_split (t := 73) rfl (fun hg73 => ?_) (fun hg73 => ?_)
        · (try replace hg73 := of_decide_eq_true hg73)
          refine vl_on rfl rfl rfl rfl ?_
          refine vl_val rfl (.some rfl) (val_move rfl) ?_
          refine vl_on rfl rfl rfl rfl ?_
          refine vl_val rfl (.some rfl) (val_eq rfl rfl) ?_
          refine vl_val rfl (.some rfl) (val_pick rfl rfl) ?_
          refine vl_val rfl (.some rfl) (val_move rfl) ?_
          refine vl_split (t := 77) rfl (fun hg77 => ?_) (fun hg77 => ?_)
          · (try replace hg77 := of_decide_eq_true hg77)
            refine vl_on rfl rfl rfl rfl ?_
            refine vl_val rfl (.some rfl) (val_move rfl) ?_
            refine vl_on rfl rfl rfl rfl ?_
            refine vl_val rfl (.some rfl) (val_move rfl) ?_
            refine vl_on rfl rfl rfl rfl ?_
            refine vl_callV rfl rfl (.some rfl) Try.call17 rfl (fun w hw => rSame _ _ _ _ (recB (recOf b)) (recB (recOf b)) w (rdw (rd_sl (by repeat constructor)) hw) (rdw (rd_sl (by repeat constructor)) hw)) ?_
            rw [decide_eq_true rfl]
            refine vl_val rfl (.some rfl) (val_pick rfl rfl) ?_
            refine vl_val rfl (.some rfl) (val_assign rfl) ?_
            refine vl_nil ?_
            refine vc_ret ?_
            first
              | (exact ⟨_, [], _, res1 Try.results20 rfl, (by repeat constructor), rfl, rfl⟩)
              | (refine ⟨_, [], _, res1 Try.results20 rfl, (by repeat constructor), congrArg Value.bool (decide_eq_true ?_), rfl⟩
                 rw [n2, n4, n5]; rfl)
              | (exfalso; first | omega | exact hg29 (by rw [n8]) | exact absurd rfl (by assumption) | contradiction)
          · (try replace hg77 := of_decide_eq_false hg77)
            refine vl_off rfl rfl rfl rfl (.some rfl) ?_
            refine vl_off rfl rfl rfl rfl (.some rfl) ?_
            refine vl_off rfl rfl rfl rfl (.some rfl) ?_
            refine vl_val rfl (.some rfl) (val_pick rfl rfl) ?_
            refine vl_val rfl (.some rfl) (val_assign rfl) ?_
            refine vl_nil ?_
            refine vc_ret ?_
            first
              | (exact ⟨_, [], _, res1 Try.results20 rfl, (by repeat constructor), rfl, rfl⟩)
              | (refine ⟨_, [], _, res1 Try.results20 rfl, (by repeat constructor), congrArg Value.bool (decide_eq_true ?_), rfl⟩
                 rw [n2, n4, n5]; rfl)
              | (exfalso; first | omega | exact hg29 (by rw [n8]) | exact absurd rfl (by assumption) | contradiction)
        · (try replace hg73 := of_decide_eq_false hg73)
          refine vl_off rfl rfl rfl rfl (.some rfl) ?_
          refine vl_off rfl rfl rfl rfl (.some rfl) ?_
          refine vl_val rfl (.some rfl) (val_pick rfl rfl) ?_
          refine vl_val rfl (.some rfl) (val_move rfl) ?_
          refine vl_off rfl rfl rfl rfl (.some rfl) ?_
          refine vl_off rfl rfl rfl rfl (.some rfl) ?_
          refine vl_off rfl rfl rfl rfl (.some rfl) ?_
          refine vl_val rfl (.some rfl) (val_pick rfl rfl) ?_
          refine vl_val rfl (.some rfl) (val_assign rfl) ?_
          refine vl_nil ?_
          refine vc_ret ?_
          first
            | (exact ⟨_, [], _, res1 Try.results20 rfl, (by repeat constructor), rfl, rfl⟩)
            | (refine ⟨_, [], _, res1 Try.results20 rfl, (by repeat constructor), congrArg Value.bool (decide_eq_true ?_), rfl⟩
               rw [n2, n4, n5]; rfl)
            | (exfalso; first | omega | exact hg29 (by rw [n8]) | exact absurd rfl (by assumption) | contradiction)
set_option maxRecDepth 20000 in
theorem xLives (w : World) : Fn Try.prog 14 [] [] (ret fun v H' => v = .bool true ∧ H' = []) w := by
  obtain ⟨s1, s2, s3⟩ := sc_beg 7
  have s4 : (beginL 7).length ≤ 1000000000 := by decide +kernel
  refine fn_enter Try.func14 rfl Try.ntmps14 rfl ?_
  refine vc_seq ?_
  refine vc_region ?_
  refine vl_val rfl (.some rfl) (val_assign rfl) ?_
  refine vl_nil ?_
  refine vc_seq ?_
  refine vc_region ?_
  refine vl_call (C := []) rfl rfl (.some rfl) Try.call18 rfl .nil (fun w hw => xBegin 7 (by decide) w) (fun v H' h => ?_)
  obtain ⟨B7, d7, rfl, rfl⟩ := h
  show VL _ _ _ _ _ (_ :: _)
  refine vl_slCap (A := B7) (n := (beginL 7).length) (c := d7) (sz := 1) (e := 5) (vs := bcells (beginL 7)) (by repeat constructor) (fun hcap => ?_)
  refine vl_val rfl (.some rfl) (val_assign rfl) ?_
  refine vl_nil ?_
  refine vc_seq ?_
  refine vc_region ?_
  refine vl_val rfl (.some rfl) (val_move rfl) ?_
  refine vl_call (C := []) rfl rfl (.some rfl) Try.call15 rfl .nil (fun w hw => xScan B7 d7 (beginL 7) s4 hcap 7 (by decide) w (rdw (rd_sl (by repeat constructor)) hw)) (fun v H' h => ?_)
  obtain ⟨ms, A9, c9, l, rfl, hms, _, hH⟩ := h
  rw [hH]
  obtain rfl : ms = [] := by rw [s2] at hms; simpa using hms
  refine vl_eqv (eqv_big l _).symm ?_
  rw [s1, s3, List.length_nil]
  refine vl_val rfl (.some rfl) (val_move rfl) ?_
  refine vl_val rfl (.some rfl) (val_extract rfl rfl) ?_
  refine vl_val rfl (.some rfl) (val_extract rfl rfl) ?_
  refine vl_val rfl (.some rfl) (val_extract rfl rfl) ?_
  refine vl_val rfl (.some rfl) (val_assign rfl) ?_
  refine vl_val rfl (.some rfl) (val_assign rfl) ?_
  refine vl_val rfl (.some rfl) (val_assign rfl) ?_
  refine vl_nil ?_
  refine vc_seq ?_
  refine vc_region ?_
  refine vl_val rfl (.some rfl) (val_move rfl) ?_
  refine vl_call (C := []) rfl rfl (.some rfl) Try.call15 rfl .nil (fun w hw => xScan B7 d7 (beginL 7) s4 hcap 8 (by decide) w (rdw (rd_sl (by repeat constructor)) hw)) (fun v H' h => ?_)
  obtain ⟨ms2, A15, c15, l2, rfl, _, _, hH2⟩ := h
  rw [hH2]
  refine vl_eqv (eqv_big l2 _).symm ?_
  rw [sc_78]
  refine vl_val rfl (.some rfl) (val_move rfl) ?_
  refine vl_val rfl (.some rfl) (val_extract rfl rfl) ?_
  refine vl_val rfl (.some rfl) (val_extract rfl rfl) ?_
  refine vl_val rfl (.some rfl) (val_extract rfl rfl) ?_
  refine vl_val rfl (.some rfl) (val_assign rfl) ?_
  refine vl_val rfl (.some rfl) (val_assign rfl) ?_
  refine vl_val rfl (.some rfl) (val_assign rfl) ?_
  refine vl_nil ?_
  refine vc_seq ?_
  refine vc_region ?_
  refine vl_val rfl (.some rfl) (val_move rfl) ?_
  refine vl_val rfl (.some rfl) (val_lenSl Try.runUnderlying25 rfl) ?_
  refine vl_val rfl (.some rfl) (val_eq rfl rfl) ?_
  refine vl_val rfl (.some rfl) (val_move rfl) ?_
  refine vl_split (t := 24) rfl (fun hg24 => ?_) (fun hg24 => ?_)
  · (try replace hg24 := of_decide_eq_true hg24)
    refine vl_on rfl rfl rfl rfl ?_
    refine vl_val rfl (.some rfl) (val_move rfl) ?_
    refine vl_on rfl rfl rfl rfl ?_
    refine vl_val rfl (.some rfl) (val_move rfl) ?_
    refine vl_on rfl rfl rfl rfl ?_
    refine vl_val rfl (.some rfl) (val_lenSl Try.runUnderlying22 rfl) ?_
    refine vl_on rfl rfl rfl rfl ?_
    refine vl_val rfl (.some rfl) (val_eq rfl rfl) ?_
    refine vl_val rfl (.some rfl) (val_pick rfl rfl) ?_
    refine vl_val rfl (.some rfl) (val_move rfl) ?_
    refine vl_split (t := 30) rfl (fun hg30 => ?_) (fun hg30 => ?_)
    · (try replace hg30 := of_decide_eq_true hg30)
      refine vl_on rfl rfl rfl rfl ?_
      refine vl_val rfl (.some rfl) (val_move rfl) ?_
      refine vl_val rfl (.some rfl) (val_pick rfl rfl) ?_
      refine vl_val rfl (.some rfl) (val_move rfl) ?_
      refine vl_split (t := 33) rfl (fun hg33 => ?_) (fun hg33 => ?_)
      · (try replace hg33 := of_decide_eq_true hg33)
        refine vl_on rfl rfl rfl rfl ?_
        refine vl_val rfl (.some rfl) (val_move rfl) ?_
        refine vl_on rfl rfl rfl rfl ?_
        refine vl_val rfl (.some rfl) (val_not rfl) ?_
        refine vl_val rfl (.some rfl) (val_pick rfl rfl) ?_
        refine vl_val rfl (.some rfl) (val_move rfl) ?_
        refine vl_split (t := 37) rfl (fun hg37 => ?_) (fun hg37 => ?_)
        · (try replace hg37 := of_decide_eq_true hg37)
          refine vl_on rfl rfl rfl rfl ?_
          refine vl_val rfl (.some rfl) (val_buildSt (pl := #[(0, 1), (1, 1)]) (cs := (colV ([], 0)).toArray) Try.runUnderlying96 Try.zeroValue96 (fun w => by kernel_rfl) rfl rfl) ?_
          refine vl_on rfl rfl rfl rfl ?_
          refine vl_lit sT34 rfl rfl (.some rfl) rfl rfl rfl (by decide) (by decide) rfl rfl (fun r39 => ?_)
          refine vl_on rfl rfl rfl rfl ?_
          refine vl_val rfl (.some rfl) (val_buildSt (pl := #[(0, 1), (1, 1)]) (cs := #[.string ⟨#[]⟩, .slice (some ⟨r39, 0, none⟩) 1 1]) Try.runUnderlying36 Try.zeroValue36 (fun w => by kernel_rfl) rfl rfl) ?_
          refine vl_on rfl rfl rfl rfl ?_
          refine vl_val rfl (.some rfl) (val_buildSt (pl := #[(0, 1), (1, 2), (3, 4), (7, 1), (8, 1)]) (cs := (recC (liveM r39)).toArray) Try.runUnderlying43 Try.zeroValue43 (fun w => by kernel_rfl) rfl (by kernel_rfl)) ?_
          refine vl_on rfl rfl rfl rfl ?_
          refine vl_callV rfl rfl (.some rfl) Try.call27 rfl (fun w hw => xGoodR (liveM r39) (live_is r39).1 w ⟨rdw (rd_sl (by repeat constructor)) hw, reads_nilR rfl, reads_nilR rfl, reads_nilR rfl, fun q hq => by cases hq⟩) ?_
          rw [decide_eq_true (live_is r39).2]
          refine vl_val rfl (.some rfl) (val_pick rfl rfl) ?_
          refine vl_val rfl (.some rfl) (val_assign rfl) ?_
          refine vl_nil ?_
          refine vc_ret ?_
          first
            | (exact ⟨_, [], _, res1 Try.results14 rfl, (by repeat constructor), rfl, rfl⟩)
            | (exfalso; first | omega | exact absurd rfl (by assumption) | contradiction)
        · (try replace hg37 := of_decide_eq_false hg37)
          refine vl_off rfl rfl rfl rfl (.some rfl) ?_
          refine vl_off rfl rfl rfl rfl (.some rfl) ?_
          refine vl_off rfl rfl rfl rfl (.some rfl) ?_
          refine vl_off rfl rfl rfl rfl (.some rfl) ?_
          refine vl_off rfl rfl rfl rfl (.some rfl) ?_
          refine vl_val rfl (.some rfl) (val_pick rfl rfl) ?_
          refine vl_val rfl (.some rfl) (val_assign rfl) ?_
          refine vl_nil ?_
          refine vc_ret ?_
          first
            | (exact ⟨_, [], _, res1 Try.results14 rfl, (by repeat constructor), rfl, rfl⟩)
            | (exfalso; first | omega | exact absurd rfl (by assumption) | contradiction)
      · (try replace hg33 := of_decide_eq_false hg33)
        refine vl_off rfl rfl rfl rfl (.some rfl) ?_
        refine vl_off rfl rfl rfl rfl (.some rfl) ?_
        refine vl_val rfl (.some rfl) (val_pick rfl rfl) ?_
        refine vl_val rfl (.some rfl) (val_move rfl) ?_
        refine vl_off rfl rfl rfl rfl (.some rfl) ?_
        refine vl_off rfl rfl rfl rfl (.some rfl) ?_
        refine vl_off rfl rfl rfl rfl (.some rfl) ?_
        refine vl_off rfl rfl rfl rfl (.some rfl) ?_
        refine vl_off rfl rfl rfl rfl (.some rfl) ?_
        refine vl_val rfl (.some rfl) (val_pick rfl rfl) ?_
        refine vl_val rfl (.some rfl) (val_assign rfl) ?_
        refine vl_nil ?_
        refine vc_ret ?_
        first
          | (exact ⟨_, [], _, res1 Try.results14 rfl, (by repeat constructor), rfl, rfl⟩)
          | (exfalso; first | omega | exact absurd rfl (by assumption) | contradiction)
    · (try replace hg30 := of_decide_eq_false hg30)
      refine vl_off rfl rfl rfl rfl (.some rfl) ?_
      refine vl_val rfl (.some rfl) (val_pick rfl rfl) ?_
      refine vl_val rfl (.some rfl) (val_move rfl) ?_
      refine vl_off rfl rfl rfl rfl (.some rfl) ?_
      refine vl_off rfl rfl rfl rfl (.some rfl) ?_
      refine vl_val rfl (.some rfl) (val_pick rfl rfl) ?_
      refine vl_val rfl (.some rfl) (val_move rfl) ?_
      refine vl_off rfl rfl rfl rfl (.some rfl) ?_
      refine vl_off rfl rfl rfl rfl (.some rfl) ?_
      refine vl_off rfl rfl rfl rfl (.some rfl) ?_
      refine vl_off rfl rfl rfl rfl (.some rfl) ?_
      refine vl_off rfl rfl rfl rfl (.some rfl) ?_
      refine vl_val rfl (.some rfl) (val_pick rfl rfl) ?_
      refine vl_val rfl (.some rfl) (val_assign rfl) ?_
      refine vl_nil ?_
      refine vc_ret ?_
      first
        | (exact ⟨_, [], _, res1 Try.results14 rfl, (by repeat constructor), rfl, rfl⟩)
        | (exfalso; first | omega | exact absurd rfl (by assumption) | contradiction)
  · (try replace hg24 := of_decide_eq_false hg24)
    refine vl_off rfl rfl rfl rfl (.some rfl) ?_
    refine vl_off rfl rfl rfl rfl (.some rfl) ?_
    refine vl_off rfl rfl rfl rfl (.some rfl) ?_
    refine vl_off rfl rfl rfl rfl (.some rfl) ?_
    refine vl_val rfl (.some rfl) (val_pick rfl rfl) ?_
    refine vl_val rfl (.some rfl) (val_move rfl) ?_
    refine vl_off rfl rfl rfl rfl (.some rfl) ?_
    refine vl_val rfl (.some rfl) (val_pick rfl rfl) ?_
    refine vl_val rfl (.some rfl) (val_move rfl) ?_
    refine vl_off rfl rfl rfl rfl (.some rfl) ?_
    refine vl_off rfl rfl rfl rfl (.some rfl) ?_
    refine vl_val rfl (.some rfl) (val_pick rfl rfl) ?_
    refine vl_val rfl (.some rfl) (val_move rfl) ?_
    refine vl_off rfl rfl rfl rfl (.some rfl) ?_
    refine vl_off rfl rfl rfl rfl (.some rfl) ?_
    refine vl_off rfl rfl rfl rfl (.some rfl) ?_
    refine vl_off rfl rfl rfl rfl (.some rfl) ?_
    refine vl_off rfl rfl rfl rfl (.some rfl) ?_
    refine vl_val rfl (.some rfl) (val_pick rfl rfl) ?_
    refine vl_val rfl (.some rfl) (val_assign rfl) ?_
    refine vl_nil ?_
    refine vc_ret ?_
    first
      | (exact ⟨_, [], _, res1 Try.results14 rfl, (by repeat constructor), rfl, rfl⟩)
      | (exfalso; first | omega | exact absurd rfl (by assumption) | contradiction)




theorem enc_clean {l : List Vk} (h : ∀ v ∈ l, goodV v = true) : encV l = putN l.length ++ l.flatMap putV := by
  unfold encV
  have : ∀ l : List Vk, (∀ v ∈ l, goodV v = true) → (l.flatMap fun p => putV (clean p)) = l.flatMap putV := by
    intro l
    induction l with
    | nil => intro _; rfl
    | cons v l ih =>
      intro h
      rw [List.flatMap_cons, List.flatMap_cons, ih (fun v hv => h v (List.Mem.tail _ hv))]
      unfold clean
      rw [if_pos (h v (List.Mem.head _))]
  rw [this l h]
end Go.Proofs.Ytclnhfdgiaamhaa.K
