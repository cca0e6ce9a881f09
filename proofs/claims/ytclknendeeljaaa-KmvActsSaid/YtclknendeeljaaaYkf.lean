/- Walks of the program's functions, printed by a program of this session; Lean checks them. -/
import Derived.Test.YtclknendeeljaaaMe
import Derived.Test.YtclknendeeljaaaYke
namespace Go.Proofs.Ytclknendeeljaaa.K
open Go Go.RowKit Go.Proofs
set_option linter.unusedVariables false
set_option linter.unusedSimpArgs false


theorem fsSeed : (Try.prog.fieldsOf 81).toList = [⟨"A", 30, 0, false, "", "", 0⟩, ⟨"B", 30, 1, false, "", "", 8⟩] := by kernel_rfl
theorem seed_equal (p q : Nat × Nat) (w : World) : (Op.equal 81 (.agg #[.int .u64 (p.1 : Nat), .int .u64 (p.2 : Nat)]) (.agg #[.int .u64 (q.1 : Nat), .int .u64 (q.2 : Nat)])).run Try.prog w = .ok (decide (p = q)) w := by
  obtain ⟨a, b⟩ := p
  obtain ⟨a', b'⟩ := q
  unfold Op.equal
  rw [show Op.maxDepth = 9999 + 1 from rfl, run_equalIn_agg w 9999 81 _ _ (by kernel_rfl) (by kernel_rfl), fsSeed]
  have e3 : ∀ a b : Int, (Op.equalIn 9999 30 (.int .u64 a) (.int .u64 b)).run Try.prog w = .ok (decide (a = b)) w := fun a b => by
    rw [show (9999 : Nat) = 9998 + 1 from rfl, run_equalIn_int w 9998 30 .u64 .u64 a b Try.underlying30, int_beq]
  simp only [Op.eqFields, part, Sem.run_bind, Try.isAgg30, Result.andThen_ok]
  simp [e3]
  by_cases h1 : a = a'
  · subst h1; simp [e3]
    by_cases h2 : b = b' <;> simp [h2]; omega
  · have : ¬ (a : Int) = (a' : Int) := by omega
    simp [this, h1]
def mrgF (t : Nat) (V V' : List (List Nat)) (j : Nat) : List Nat := (V'.getD j []).foldl (putK t) (V.getD j [])
def mrgV (t : Nat) (V V' : List (List Nat)) : List (List Nat) := (List.range V.length).map (mrgF t V V')
theorem putsK_good {t : Nat} : ∀ {m l : List Nat}, Rise l → l.length ≤ t → Rise (m.foldl (putK t) l) ∧ (m.foldl (putK t) l).length ≤ t
  | [], _, h1, h2 => ⟨h1, h2⟩
  | x :: m, l, h1, h2 => putsK_good (m := m) (putK_rise h1 h2).1 (putK_rise h1 h2).2
theorem mrg_zero {f g : Nat → List Nat} {n i : Nat} (x : List Nat) (hx : x = g i) : (mixG f g n i).set i x = mixG f g n i := by
  subst hx
  apply List.ext_getElem
  · simp [mixG]
  · intro j h1 h2
    simp only [mixG, List.getElem_set, List.getElem_map, List.getElem_range]
    by_cases e : i = j
    · subst e; simp
    · rw [if_neg e]
theorem set_good {t : Nat} {V : List (List Nat)} {i : Nat} {x : List Nat} (h : GoodV t V) (hx : Rise x ∧ x.length ≤ t) : GoodV t (V.set i x) := by
  intro j hj
  rw [List.length_set] at hj
  by_cases hi : i < V.length
  · rw [getD_set hi]
    split
    · exact hx
    · exact h j hj
  · rw [List.set_eq_of_length_le (by omega)]; exact h j hj
theorem fold_take {t i : Nat} {l m : List Nat} (hi : i < m.length) : (m.take (i + 1)).foldl (putK t) l = putK t ((m.take i).foldl (putK t) l) (m.getD i 0) := by
  rw [List.take_add_one, List.getElem?_eq_getElem hi, List.foldl_append]
  simp [List.getD, hi]

set_option maxRecDepth 20000 in
theorem sEqSeed (A B : Option Addr) (c d : Nat) (S : List (Nat × Nat)) (hl : S.length ≤ 1000) (w : World) (hr : Reads w A (seedC S)) (hr2 : Reads w B (seedC S)) : FnV Try.prog 59 [.slice A S.length c, .slice B S.length d] (.bool true) w := by
  refine fn_enter Try.func59 rfl Try.ntmps59 rfl ?_
  refine vc_seq ?_
  refine vc_region ?_
  refine vl_val rfl (.some rfl) (val_assign rfl) ?_
  refine vl_nil ?_
  refine vc_seq ?_
  refine vc_seq ?_
  refine vc_region ?_
  refine vl_val rfl (.some rfl) (val_move rfl) ?_
  refine vl_val rfl (.some rfl) (val_lenSl Try.runUnderlying22 rfl) ?_
  refine vl_val rfl (.some rfl) (val_move rfl) ?_
  refine vl_val rfl (.some rfl) (val_lenSl Try.runUnderlying22 rfl) ?_
  refine vl_val rfl (.some rfl) (val_net rfl rfl (rfl)) ?_
  refine vl_nil ?_
  refine vc_cond rfl (fun h => by cases h) (fun _ => ?_)
  refine vc_skip ?_
  refine vc_seq ?_
  refine vc_seq ?_
  refine vc_region ?_
  refine vl_val rfl (.some rfl) (val_move rfl) ?_
  refine vl_val rfl (.some rfl) (val_lenSl Try.runUnderlying22 rfl) ?_
  refine vl_val rfl (.some rfl) (val_move rfl) ?_
  refine vl_nil ?_
  refine vc_block ?_
  refine vc_loopw (fun k E H => ∃ i : Nat, i ≤ S.length ∧ k = S.length - i ∧ E = [(0, .slice A S.length c), (1, .slice B S.length d), (12, .int .i64 S.length), (13, .int .i64 i)] ∧ H = []) (S.length) ⟨_, _, _, ⟨0, by omega, rfl, rfl, rfl⟩, (by repeat (first | exact trivial | refine ⟨rfl, ?_⟩ | refine ⟨le_item rfl (by first | rfl | (congr 1; omega) | (simp; done) | (simp; omega)), ?_⟩)), (by repeat (first | exact .nil | (apply Sub.cons; · repeat (first | exact .head | apply Take.tail))))⟩ ?_
  intro k E H hI
  obtain ⟨i, hi, rfl, rfl, rfl⟩ := hI
  refine vc_seq ?_
  refine vc_region ?_
  refine vl_val rfl (.some rfl) (val_lt rfl rfl) ?_
  refine vl_nil ?_
  refine vc_seq ?_
  refine vc_cond rfl (fun hc1 => ?_) (fun hc1 => ?_)
  · (try replace hc1 := of_decide_eq_true hc1)
    refine vc_skip ?_
    refine vc_seq ?_
    refine vc_block ?_
    refine vc_seq ?_
    refine vc_region ?_
    refine vl_val rfl (.some rfl) (val_move rfl) ?_
    refine vl_val rfl (.some rfl) (val_assign rfl) ?_
    refine vl_nil ?_
    refine vc_seq ?_
    refine vc_draws [0, 1, 2, 3, 4, 5, 6, 7, 8] [] [0, 1, 2, 3, 4, 5, 6, 7, 8] rfl (by kernel_rfl) (fun _ _ _ h => h) ?_
    refine vd_val rfl rfl rfl (.some rfl) (val_move rfl) ?_
    refine vd_val rfl rfl rfl (.some rfl) (val_move rfl) ?_
    refine vd_val rfl rfl rfl (.some rfl) (val_indexAddr Try.runUnderlying22 Try.sizeOf81 rfl rfl (rd_old hr rfl) (by omega) (by omega) (by rw [seedC_len, Int.toNat_natCast]; omega)) ?_
    refine vd_val rfl rfl rfl (.some rfl) (val_loadAgg Try.isAgg81 Try.sizeOf81 rfl (cells_rd (us := seedV (S.getD i (0, 0))) (rd_old hr rfl) (seed_at rfl (by omega))) rfl) ?_
    refine vd_val rfl rfl rfl (.some rfl) (val_move rfl) ?_
    refine vd_val rfl rfl rfl (.some rfl) (val_move rfl) ?_
    refine vd_val rfl rfl rfl (.some rfl) (val_indexAddr Try.runUnderlying22 Try.sizeOf81 rfl rfl (rd_old hr2 rfl) (by omega) (by omega) (by rw [seedC_len, Int.toNat_natCast]; omega)) ?_
    refine vd_val rfl rfl rfl (.some rfl) (val_loadAgg Try.isAgg81 Try.sizeOf81 rfl (cells_rd (us := seedV (S.getD i (0, 0))) (rd_old hr2 rfl) (seed_at rfl (by omega))) rfl) ?_
    refine vd_val rfl rfl rfl (.some rfl) (val_opO rfl rfl (fun w => run_eqGuard_agg w _ _ _ _ _ _ (by kernel_rfl)) (bin_agg_ne (b := true) (fun w => (seed_equal (S.getD i (0, 0)) (S.getD i (0, 0)) w).trans (by simp)))) ?_
    refine vd_nil ?_
    refine vc_cond rfl (fun h => by cases h) (fun _ => ?_)
    refine vc_skip ?_
    refine vc_region ?_
    refine vl_val rfl (.some rfl) (val_add rfl rfl (by first | exact w_i64 (by omega) (by omega) | rfl)) ?_
    refine vl_val rfl (.some rfl) (val_move rfl) ?_
    refine vl_nil ?_
    exact ⟨S.length - (i + 1), _, _, _, by omega, (by repeat (first | exact trivial | refine ⟨rfl, ?_⟩ | refine ⟨le_item rfl (by first | rfl | (congr 1; omega) | (simp; done) | (simp; omega)), ?_⟩)), (by repeat (first | exact .nil | (apply Sub.cons; · repeat (first | exact .head | apply Take.tail)))), ⟨i + 1, by omega, rfl, rfl, rfl⟩⟩
  · (try replace hc1 := of_decide_eq_false hc1)
    refine vc_exit ?_
    refine vc_seq ?_
    refine vc_region ?_
    refine vl_val rfl (.some rfl) (val_assign rfl) ?_
    refine vl_nil ?_
    refine vc_ret ?_
    refine ⟨_, [], _, res1 Try.results59 rfl, .nil, ?_⟩
    rfl
set_option maxRecDepth 20000 in
set_option maxHeartbeats 1000000 in
theorem kMerge (k : Sk) (ht1 : 0 < k.t) (ht : k.t ≤ 1000) (hSL : k.S.length = k.L.length) (hn : k.L.length ≤ 7) (hg : GoodV k.t (vals k.L)) (o : Sk) (hot : o.t = k.t) (hoS : o.S = k.S) (hon : o.L.length = k.L.length) (hgo : GoodV k.t (vals o.L)) (w : World) (hs : ReadsM w (fps (KH k ++ KH o)) k.As (seedC k.S)) (hs2 : ReadsM w (fps (KH k ++ KH o)) o.As (seedC o.S)) : Fn Try.prog 20 [kp k, kp o] (KH k ++ KH o) (ret fun u H' => u = .int .i64 0 ∧ ∃ L', vals L' = mrgV k.t (vals k.L) (vals o.L) ∧ H' = KH { k with L := L' } ++ KH o) w := by
  have hvl := vals_len k.L
  have hvo := vals_len o.L
  rw [hoS] at hs2
  have hoSl : o.S.length = k.S.length := by rw [hoS]
  refine fn_enter Try.func20 rfl Try.ntmps20 rfl ?_
  refine vc_seq ?_
  refine vc_region ?_
  refine vl_val rfl (.some rfl) (val_assign rfl) ?_
  refine vl_nil ?_
  refine vc_seq ?_
  refine vc_block ?_
  refine vc_seq ?_
  refine vc_region ?_
  refine vl_val rfl (.some rfl) (val_move rfl) ?_
  refine vl_callR [SKc k] rfl rfl (.some rfl) Try.call53 rfl (by repeat (first | exact .nil | (apply Sub.cons; · repeat (first | exact .head | apply Take.tail)))) (fun w hw => kMade k.b k.t k.As k.S.length k.cs k.Ac k.L.length k.cc ht1 w) ?_
  refine vl_val rfl (.some rfl) (val_not rfl) ?_
  refine vl_val rfl (.some rfl) (val_assign rfl) ?_
  refine vl_nil ?_
  refine vc_cond rfl (fun h => by cases h) (fun _ => ?_)
  refine vc_seq ?_
  refine vc_seq ?_
  refine vc_region ?_
  refine vl_val rfl (.some rfl) (val_move rfl) ?_
  refine vl_callR [SKc o] rfl rfl (.some rfl) Try.call53 rfl (by repeat (first | exact .nil | (apply Sub.cons; · repeat (first | exact .head | apply Take.tail)))) (fun w hw => kMade o.b o.t o.As o.S.length o.cs o.Ac o.L.length o.cc (by omega) w) ?_
  refine vl_val rfl (.some rfl) (val_not rfl) ?_
  refine vl_val rfl (.some rfl) (val_assign rfl) ?_
  refine vl_nil ?_
  refine vc_cond rfl (fun h => by cases h) (fun _ => ?_)
  refine vc_seq ?_
  refine vc_draws [0, 1, 2, 3, 4, 5, 6, 7, 8, 9] [] [0, 1, 2, 3, 4, 5, 6, 7, 8, 9] rfl (by kernel_rfl) (fun _ _ _ h => h) ?_
  refine vd_val rfl rfl rfl (.some rfl) (val_move rfl) ?_
  refine vd_val rfl rfl rfl (.some rfl) (val_nil rfl rfl) ?_
  refine vd_val rfl rfl rfl (.some rfl) (by first | exact val_fieldAddr Try.runUnderlying57 rfl Try.sizeOf3 rfl | exact val_fieldAddrR Try.runUnderlying57 rfl Try.sizeOf3 rfl) ?_
  refine vd_val rfl rfl rfl (.some rfl) (val_load Try.isAgg3 rfl (by first | exact cell_cells (by repeat (first | exact .head | apply In.tail | apply Take.tail | apply Upd.tail)) rfl | exact cell_rd (rd_sl (by repeat (first | exact .head | apply In.tail | apply Take.tail | apply Upd.tail))) (by first | exact bcells_at (by omega) | exact ucells_at (by omega) | exact icells_at (by omega) | exact tcells_at (by omega) | exact bcells_get (by omega) | exact icells_get (by omega) | exact tcells_get (by omega) | exact ucells_get (by omega)) | exact cell_rd (rd_old (by assumption) rfl) (by first | exact bcells_at (by omega) | exact ucells_at (by omega) | exact icells_at (by omega) | exact tcells_at (by omega) | exact bcells_get (by omega) | exact icells_get (by omega) | exact tcells_get (by omega) | exact ucells_get (by omega)) | exact cell_old (by assumption) (by simp [fps]))) ?_
  refine vd_val rfl rfl rfl (.some rfl) (val_move rfl) ?_
  refine vd_val rfl rfl rfl (.some rfl) (val_nil rfl rfl) ?_
  refine vd_val rfl rfl rfl (.some rfl) (by first | exact val_fieldAddr Try.runUnderlying57 rfl Try.sizeOf3 rfl | exact val_fieldAddrR Try.runUnderlying57 rfl Try.sizeOf3 rfl) ?_
  refine vd_val rfl rfl rfl (.some rfl) (val_load Try.isAgg3 rfl (by first | exact cell_cells (by repeat (first | exact .head | apply In.tail | apply Take.tail | apply Upd.tail)) rfl | exact cell_rd (rd_sl (by repeat (first | exact .head | apply In.tail | apply Take.tail | apply Upd.tail))) (by first | exact bcells_at (by omega) | exact ucells_at (by omega) | exact icells_at (by omega) | exact tcells_at (by omega) | exact bcells_get (by omega) | exact icells_get (by omega) | exact tcells_get (by omega) | exact ucells_get (by omega)) | exact cell_rd (rd_old (by assumption) rfl) (by first | exact bcells_at (by omega) | exact ucells_at (by omega) | exact icells_at (by omega) | exact tcells_at (by omega) | exact bcells_get (by omega) | exact icells_get (by omega) | exact tcells_get (by omega) | exact ucells_get (by omega)) | exact cell_old (by assumption) (by simp [fps]))) ?_
  refine vd_val rfl rfl rfl (.some rfl) (val_net rfl rfl (congrArg (fun n : Nat => (n : Int)) hot)) ?_
  refine vd_val rfl rfl rfl (.some rfl) (val_assign rfl) ?_
  refine vd_nil ?_
  refine vc_cond rfl (fun h => by cases h) (fun _ => ?_)
  refine vc_draws [0, 1, 2, 3, 4, 5, 6, 7, 9, 10] [] [0, 1, 2, 3, 4, 5, 6, 7, 8, 9, 10] rfl (by kernel_rfl) (fun _ _ _ h => h) ?_
  refine vd_val rfl rfl rfl (.some rfl) (val_move rfl) ?_
  refine vd_val rfl rfl rfl (.some rfl) (val_nil rfl rfl) ?_
  refine vd_val rfl rfl rfl (.some rfl) (by first | exact val_fieldAddr Try.runUnderlying57 rfl Try.sizeOf22 rfl | exact val_fieldAddrR Try.runUnderlying57 rfl Try.sizeOf22 rfl) ?_
  refine vd_val rfl rfl rfl (.some rfl) (val_load Try.isAgg22 rfl (by first | exact cell_cells (by repeat (first | exact .head | apply In.tail | apply Take.tail | apply Upd.tail)) rfl | exact cell_rd (rd_sl (by repeat (first | exact .head | apply In.tail | apply Take.tail | apply Upd.tail))) (by first | exact bcells_at (by omega) | exact ucells_at (by omega) | exact icells_at (by omega) | exact tcells_at (by omega) | exact bcells_get (by omega) | exact icells_get (by omega) | exact tcells_get (by omega) | exact ucells_get (by omega)) | exact cell_rd (rd_old (by assumption) rfl) (by first | exact bcells_at (by omega) | exact ucells_at (by omega) | exact icells_at (by omega) | exact tcells_at (by omega) | exact bcells_get (by omega) | exact icells_get (by omega) | exact tcells_get (by omega) | exact ucells_get (by omega)) | exact cell_old (by assumption) (by simp [fps]))) ?_
  refine vd_val rfl rfl rfl (.some rfl) (val_move rfl) ?_
  refine vd_val rfl rfl rfl (.some rfl) (val_nil rfl rfl) ?_
  refine vd_val rfl rfl rfl (.some rfl) (by first | exact val_fieldAddr Try.runUnderlying57 rfl Try.sizeOf22 rfl | exact val_fieldAddrR Try.runUnderlying57 rfl Try.sizeOf22 rfl) ?_
  refine vd_val rfl rfl rfl (.some rfl) (val_load Try.isAgg22 rfl (by first | exact cell_cells (by repeat (first | exact .head | apply In.tail | apply Take.tail | apply Upd.tail)) rfl | exact cell_rd (rd_sl (by repeat (first | exact .head | apply In.tail | apply Take.tail | apply Upd.tail))) (by first | exact bcells_at (by omega) | exact ucells_at (by omega) | exact icells_at (by omega) | exact tcells_at (by omega) | exact bcells_get (by omega) | exact icells_get (by omega) | exact tcells_get (by omega) | exact ucells_get (by omega)) | exact cell_rd (rd_old (by assumption) rfl) (by first | exact bcells_at (by omega) | exact ucells_at (by omega) | exact icells_at (by omega) | exact tcells_at (by omega) | exact bcells_get (by omega) | exact icells_get (by omega) | exact tcells_get (by omega) | exact ucells_get (by omega)) | exact cell_old (by assumption) (by simp [fps]))) ?_
  refine vd_op rfl rfl ?_
  rw [hoSl]
  refine vl_callV rfl rfl (.some rfl) Try.call59 rfl (fun w hw => sEqSeed o.As k.As o.cs k.cs k.S (by omega) w (rdw (rd_oldM hs2) hw) (rdw (rd_oldM hs) hw)) ?_
  refine vl_nil ?_
  refine ⟨fun _ => ⟨_, (by repeat (first | exact .nil | (apply Sub.cons; · repeat (first | exact .head | apply Take.tail))))⟩, ?_⟩
  refine vd_val rfl rfl rfl (.some rfl) (val_not rfl) ?_
  refine vd_val rfl rfl rfl (.some rfl) (val_assign rfl) ?_
  refine vd_nil ?_
  refine vc_cond rfl (fun h => by cases h) (fun _ => ?_)
  refine vc_seq ?_
  refine vc_region ?_
  refine vl_val rfl (.some rfl) (val_move rfl) ?_
  refine vl_val rfl (.some rfl) (val_move rfl) ?_
  refine vl_val rfl (.some rfl) (val_opW rfl rfl guard_ptr (fun w hw => ptr_two (te := 57) Try.underlying26 (j := Try.t57) Try.type57 (by decide) (by repeat (first | exact .head | apply In.tail | apply Take.tail | apply Upd.tail)) (by repeat (first | exact .head | apply In.tail | apply Take.tail | apply Upd.tail)) hw)) ?_
  refine vl_val rfl (.some rfl) (val_assign rfl) ?_
  refine vl_nil ?_
  refine vc_cond rfl (fun h => by cases h) (fun _ => ?_)
  refine vc_skip ?_
  refine vc_seq ?_
  refine vc_seq ?_
  refine vc_region ?_
  refine vl_val rfl (.some rfl) (val_move rfl) ?_
  refine vl_val rfl (.some rfl) (val_nil rfl rfl) ?_
  refine vl_val rfl (.some rfl) (by first | exact val_fieldAddr Try.runUnderlying57 rfl Try.sizeOf33 rfl | exact val_fieldAddrR Try.runUnderlying57 rfl Try.sizeOf33 rfl) ?_
  refine vl_val rfl (.some rfl) (val_load Try.isAgg33 rfl (by first | exact cell_cells (by repeat (first | exact .head | apply In.tail | apply Take.tail | apply Upd.tail)) rfl | exact cell_rd (rd_sl (by repeat (first | exact .head | apply In.tail | apply Take.tail | apply Upd.tail))) (by first | exact bcells_at (by omega) | exact ucells_at (by omega) | exact icells_at (by omega) | exact tcells_at (by omega) | exact bcells_get (by omega) | exact icells_get (by omega) | exact tcells_get (by omega) | exact ucells_get (by omega)) | exact cell_rd (rd_old (by assumption) rfl) (by first | exact bcells_at (by omega) | exact ucells_at (by omega) | exact icells_at (by omega) | exact tcells_at (by omega) | exact bcells_get (by omega) | exact icells_get (by omega) | exact tcells_get (by omega) | exact ucells_get (by omega)) | exact cell_old (by assumption) (by simp [fps]))) ?_
  refine vl_val rfl (.some rfl) (val_lenSl Try.runUnderlying33 rfl) ?_
  refine vl_val rfl (.some rfl) (val_move rfl) ?_
  refine vl_nil ?_
  refine vc_block ?_
  refine vc_loopw (fun m E H => ∃ (i : Nat) (L' : List (Sl Nat)), i ≤ k.L.length ∧ m = k.L.length - i ∧ L'.length = k.L.length ∧ vals L' = (mixG (mrgF k.t (vals k.L) (vals o.L)) (fun j => (vals k.L).getD j []) (vals k.L).length i) ∧ E = [(0, kp k), (43, .slice o.Ac o.L.length o.cc), (44, .int .i64 o.L.length), (45, .int .i64 i)] ∧ H = [SKc { k with L := L' }, SKh { k with L := L' }, SKr { k with L := L' }, SKc o, SKh o, SKr o]) (k.L.length) ⟨_, _, _, ⟨0, k.L, by omega, rfl, rfl, by rw [mixG_zero, range_getD], rfl, rfl⟩, (by repeat (first | exact trivial | refine ⟨rfl, ?_⟩ | refine ⟨le_item rfl (by first | rfl | (congr 1; omega) | (simp; done) | (simp; omega)), ?_⟩)), (by repeat (first | exact .nil | (apply Sub.cons; · repeat (first | exact .head | apply Take.tail))))⟩ ?_
  intro m E H hI
  obtain ⟨i, L', hi, rfl, hLl, hL', rfl, rfl⟩ := hI
  refine vc_seq ?_
  refine vc_region ?_
  refine vl_val rfl (.some rfl) (val_lt rfl rfl) ?_
  refine vl_nil ?_
  refine vc_seq ?_
  refine vc_cond rfl (fun hc5 => ?_) (fun hc5 => ?_)
  · (try replace hc5 := of_decide_eq_true hc5)
    obtain ⟨r, hr⟩ := row_at (L := o.L) (i := i) (by omega)
    have hri := vals_get hr
    have hrl := (hgo i (by omega)).2
    rw [hri] at hrl
    refine vc_skip ?_
    refine vc_seq ?_
    refine vc_block ?_
    refine vc_seq ?_
    refine vc_region ?_
    refine vl_val rfl (.some rfl) (val_move rfl) ?_
    refine vl_val rfl (.some rfl) (val_indexAddr Try.runUnderlying33 Try.sizeOf25 rfl rfl (rd_sl (vs := o.L.map hdr) (by repeat (first | exact .head | apply In.tail | apply Take.tail | apply Upd.tail))) (by omega) (by omega) (by rw [List.length_map]; omega)) ?_
    refine vl_val rfl (.some rfl) (val_load Try.isAgg25 rfl (cell_rd (rd_sl (vs := o.L.map hdr) (by repeat (first | exact .head | apply In.tail | apply Take.tail | apply Upd.tail))) (hdr_at hr))) ?_
    refine vl_val rfl (.some rfl) (val_assign rfl) ?_
    refine vl_val rfl (.some rfl) (val_assign rfl) ?_
    refine vl_nil ?_
    refine vc_seq ?_
    refine vc_region ?_
    refine vl_val rfl (.some rfl) (val_move rfl) ?_
    refine vl_val rfl (.some rfl) (val_lenSl Try.runUnderlying25 rfl) ?_
    refine vl_val rfl (.some rfl) (val_move rfl) ?_
    refine vl_nil ?_
    refine vc_block ?_
    refine vc_loopw (fun m E H => ∃ (j : Nat) (L' : List (Sl Nat)), j ≤ r.l.length ∧ m = r.l.length - j ∧ L'.length = k.L.length ∧ vals L' = (mixG (mrgF k.t (vals k.L) (vals o.L)) (fun j => (vals k.L).getD j []) (vals k.L).length i).set i ((r.l.take j).foldl (putK k.t) ((vals k.L).getD i [])) ∧ E = [(0, kp k), (5, .int .i64 i), (43, .slice o.Ac o.L.length o.cc), (44, .int .i64 o.L.length), (45, .int .i64 i), (50, hdr r), (51, .int .i64 r.l.length), (52, .int .i64 j)] ∧ H = [SKc { k with L := L' }, SKh { k with L := L' }, SKr { k with L := L' }, SKc o, SKh o, SKr o]) (r.l.length) ⟨_, _, _, ⟨0, L', by omega, rfl, hLl, by rw [hL']; exact (mrg_zero _ (by rfl)).symm, rfl, rfl⟩, (by repeat (first | exact trivial | refine ⟨rfl, ?_⟩ | refine ⟨le_item rfl (by first | rfl | (congr 1; omega) | (simp; done) | (simp; omega)), ?_⟩)), (by repeat (first | exact .nil | (apply Sub.cons; · repeat (first | exact .head | apply Take.tail))))⟩ ?_
    clear hLl hL'
    intro m E H hI
    obtain ⟨j, L', hj, rfl, hLl, hL', rfl, rfl⟩ := hI
    refine vc_seq ?_
    refine vc_region ?_
    refine vl_val rfl (.some rfl) (val_lt rfl rfl) ?_
    refine vl_nil ?_
    refine vc_seq ?_
    refine vc_cond rfl (fun hc6 => ?_) (fun hc6 => ?_)
    · (try replace hc6 := of_decide_eq_true hc6)
      refine vc_skip ?_
      refine vc_seq ?_
      refine vc_block ?_
      refine vc_seq ?_
      refine vc_region ?_
      refine vl_val rfl (.some rfl) (val_indexAddr Try.runUnderlying25 Try.sizeOf30 rfl rfl (vs := ucells r.l) (rd_big (n := r.l.length) (c := r.c) (e := 30) (sz := 1) (l := o.L.map rwC) (by repeat (first | exact .head | apply In.tail | apply Take.tail | apply Upd.tail)) (List.mem_map.2 ⟨r, List.mem_of_getElem? hr, rfl⟩)) (by omega) (by omega) (by rw [ucells_length]; omega)) ?_
      refine vl_val rfl (.some rfl) (val_load Try.isAgg30 rfl (cell_rd (rd_big (n := r.l.length) (c := r.c) (e := 30) (sz := 1) (l := o.L.map rwC) (by repeat (first | exact .head | apply In.tail | apply Take.tail | apply Upd.tail)) (List.mem_map.2 ⟨r, List.mem_of_getElem? hr, rfl⟩)) (ucells_at (by omega)))) ?_
      refine vl_val rfl (.some rfl) (val_assign rfl) ?_
      refine vl_nil ?_
      refine vc_region ?_
      refine vl_val rfl (.some rfl) (val_move rfl) ?_
      refine vl_val rfl (.some rfl) (val_move rfl) ?_
      refine vl_val rfl (.some rfl) (val_move rfl) ?_
      refine vl_call (C := KH { k with L := L' }) rfl rfl (.some rfl) Try.call54 rfl (by repeat (first | exact .nil | (apply Sub.cons; · repeat (first | exact .head | apply Take.tail)))) (fun w hw => kPut { k with L := L' } i (r.l.getD j 0) (by show i < L'.length; omega) ht (by show L'.length ≤ 1000; omega) (by show GoodV k.t (vals L'); rw [hL']; exact set_good (mix_good hg (fun j hj => putsK_good (hg j hj).1 (hg j hj).2)) (putsK_good (hg i (by omega)).1 (hg i (by omega)).2)) w) (fun v H' h => ?_)
      obtain ⟨L2, hL2, rfl⟩ := h
      change vals L2 = (vals L').set i (putK k.t ((vals L').getD i []) (r.l.getD j 0)) at hL2
      rw [hL', getD_set (by rw [mixG_len]; omega), if_pos rfl, ← fold_take (by omega), List.set_set] at hL2
      show VL _ _ _ _ _ (_ :: _ :: _ :: _)
      refine vl_nil ?_
      refine vc_region ?_
      refine vl_val rfl (.some rfl) (val_add rfl rfl (by first | exact w_i64 (by omega) (by omega) | rfl)) ?_
      refine vl_val rfl (.some rfl) (val_move rfl) ?_
      refine vl_nil ?_
      have hl2 : L2.length = k.L.length := by rw [← vals_len L2, hL2, List.length_set, mixG_len, vals_len]
      exact ⟨(r.l.length - (j + 1)), _, _, _, by omega, (by repeat (first | exact trivial | refine ⟨rfl, ?_⟩ | refine ⟨le_item rfl (by first | rfl | (congr 1; omega) | (simp; done) | (simp; omega)), ?_⟩)), (by repeat (first | exact .nil | (apply Sub.cons; · repeat (first | exact .head | apply Take.tail)))), ⟨j + 1, L2, by omega, rfl, hl2, hL2, rfl, rfl⟩⟩
    · (try replace hc6 := of_decide_eq_false hc6)
      refine vc_exit ?_
      refine vc_region ?_
      refine vl_val rfl (.some rfl) (val_add rfl rfl (by first | exact w_i64 (by omega) (by omega) | rfl)) ?_
      refine vl_val rfl (.some rfl) (val_move rfl) ?_
      refine vl_nil ?_
      exact ⟨(k.L.length - (i + 1)), _, _, _, by omega, (by repeat (first | exact trivial | refine ⟨rfl, ?_⟩ | refine ⟨le_item rfl (by first | rfl | (congr 1; omega) | (simp; done) | (simp; omega)), ?_⟩)), (by repeat (first | exact .nil | (apply Sub.cons; · repeat (first | exact .head | apply Take.tail)))), ⟨i + 1, L', by omega, rfl, hLl, by rw [hL', List.take_of_length_le (by omega)]; exact mixG_set (by unfold mrgF; rw [hri]), rfl, rfl⟩⟩
  · (try replace hc5 := of_decide_eq_false hc5)
    refine vc_exit ?_
    refine vc_seq ?_
    refine vc_region ?_
    refine vl_val rfl (.some rfl) (val_assign rfl) ?_
    refine vl_nil ?_
    refine vc_ret ?_
    refine ⟨_, [SKc { k with L := L' }, SKh { k with L := L' }, SKr { k with L := L' }, SKc o, SKh o, SKr o], _, res1 Try.results20 rfl, (by repeat (first | exact .nil | (apply Sub.cons; · repeat (first | exact .head | apply Take.tail)))), ?_⟩
    obtain rfl : i = k.L.length := by omega
    exact ⟨rfl, L', by rw [hL', ← hvl, mixG_all]; rfl, rfl⟩
set_option maxRecDepth 20000 in
theorem kMergeSelf (k : Sk) (ht1 : 0 < k.t) (ht : k.t ≤ 1000) (hSL : k.S.length = k.L.length) (hn : k.L.length ≤ 7) (hg : GoodV k.t (vals k.L)) (w : World) (hs : ReadsM w (fps (KH k)) k.As (seedC k.S)) (hsb : ∀ s ∈ k.S, s.1 < 18446744073709551616 ∧ s.2 < 18446744073709551616) : Fn Try.prog 20 [kp k, kp k] (KH k) (ret fun u H' => u = .int .i64 0 ∧ H' = KH k) w := by
  refine fn_enter Try.func20 rfl Try.ntmps20 rfl ?_
  refine vc_seq ?_
  refine vc_region ?_
  refine vl_val rfl (.some rfl) (val_assign rfl) ?_
  refine vl_nil ?_
  refine vc_seq ?_
  refine vc_block ?_
  refine vc_seq ?_
  refine vc_region ?_
  refine vl_val rfl (.some rfl) (val_move rfl) ?_
  refine vl_callR [SKc k] rfl rfl (.some rfl) Try.call53 rfl (by repeat (first | exact .nil | (apply Sub.cons; · repeat (first | exact .head | apply Take.tail)))) (fun w hw => kMade k.b k.t k.As k.S.length k.cs k.Ac k.L.length k.cc ht1 w) ?_
  refine vl_val rfl (.some rfl) (val_not rfl) ?_
  refine vl_val rfl (.some rfl) (val_assign rfl) ?_
  refine vl_nil ?_
  refine vc_cond rfl (fun h => by cases h) (fun _ => ?_)
  refine vc_seq ?_
  refine vc_seq ?_
  refine vc_region ?_
  refine vl_val rfl (.some rfl) (val_move rfl) ?_
  refine vl_callR [SKc k] rfl rfl (.some rfl) Try.call53 rfl (by repeat (first | exact .nil | (apply Sub.cons; · repeat (first | exact .head | apply Take.tail)))) (fun w hw => kMade k.b k.t k.As k.S.length k.cs k.Ac k.L.length k.cc ht1 w) ?_
  refine vl_val rfl (.some rfl) (val_not rfl) ?_
  refine vl_val rfl (.some rfl) (val_assign rfl) ?_
  refine vl_nil ?_
  refine vc_cond rfl (fun h => by cases h) (fun _ => ?_)
  refine vc_seq ?_
  refine vc_draws [0, 1, 2, 3, 4, 5, 6, 7, 8, 9] [] [0, 1, 2, 3, 4, 5, 6, 7, 8, 9] rfl (by kernel_rfl) (fun _ _ _ h => h) ?_
  refine vd_val rfl rfl rfl (.some rfl) (val_move rfl) ?_
  refine vd_val rfl rfl rfl (.some rfl) (val_nil rfl rfl) ?_
  refine vd_val rfl rfl rfl (.some rfl) (by first | exact val_fieldAddr Try.runUnderlying57 rfl Try.sizeOf3 rfl | exact val_fieldAddrR Try.runUnderlying57 rfl Try.sizeOf3 rfl) ?_
  refine vd_val rfl rfl rfl (.some rfl) (val_load Try.isAgg3 rfl (by first | exact cell_cells (by repeat (first | exact .head | apply In.tail | apply Take.tail | apply Upd.tail)) rfl | exact cell_rd (rd_sl (by repeat (first | exact .head | apply In.tail | apply Take.tail | apply Upd.tail))) (by first | exact bcells_at (by omega) | exact ucells_at (by omega) | exact icells_at (by omega) | exact tcells_at (by omega) | exact bcells_get (by omega) | exact icells_get (by omega) | exact tcells_get (by omega) | exact ucells_get (by omega)) | exact cell_rd (rd_old (by assumption) rfl) (by first | exact bcells_at (by omega) | exact ucells_at (by omega) | exact icells_at (by omega) | exact tcells_at (by omega) | exact bcells_get (by omega) | exact icells_get (by omega) | exact tcells_get (by omega) | exact ucells_get (by omega)) | exact cell_old (by assumption) (by simp [fps]))) ?_
  refine vd_val rfl rfl rfl (.some rfl) (val_move rfl) ?_
  refine vd_val rfl rfl rfl (.some rfl) (val_nil rfl rfl) ?_
  refine vd_val rfl rfl rfl (.some rfl) (by first | exact val_fieldAddr Try.runUnderlying57 rfl Try.sizeOf3 rfl | exact val_fieldAddrR Try.runUnderlying57 rfl Try.sizeOf3 rfl) ?_
  refine vd_val rfl rfl rfl (.some rfl) (val_load Try.isAgg3 rfl (by first | exact cell_cells (by repeat (first | exact .head | apply In.tail | apply Take.tail | apply Upd.tail)) rfl | exact cell_rd (rd_sl (by repeat (first | exact .head | apply In.tail | apply Take.tail | apply Upd.tail))) (by first | exact bcells_at (by omega) | exact ucells_at (by omega) | exact icells_at (by omega) | exact tcells_at (by omega) | exact bcells_get (by omega) | exact icells_get (by omega) | exact tcells_get (by omega) | exact ucells_get (by omega)) | exact cell_rd (rd_old (by assumption) rfl) (by first | exact bcells_at (by omega) | exact ucells_at (by omega) | exact icells_at (by omega) | exact tcells_at (by omega) | exact bcells_get (by omega) | exact icells_get (by omega) | exact tcells_get (by omega) | exact ucells_get (by omega)) | exact cell_old (by assumption) (by simp [fps]))) ?_
  refine vd_val rfl rfl rfl (.some rfl) (val_net rfl rfl (rfl)) ?_
  refine vd_val rfl rfl rfl (.some rfl) (val_assign rfl) ?_
  refine vd_nil ?_
  refine vc_cond rfl (fun h => by cases h) (fun _ => ?_)
  refine vc_draws [0, 1, 2, 3, 4, 5, 6, 7, 9, 10] [] [0, 1, 2, 3, 4, 5, 6, 7, 8, 9, 10] rfl (by kernel_rfl) (fun _ _ _ h => h) ?_
  refine vd_val rfl rfl rfl (.some rfl) (val_move rfl) ?_
  refine vd_val rfl rfl rfl (.some rfl) (val_nil rfl rfl) ?_
  refine vd_val rfl rfl rfl (.some rfl) (by first | exact val_fieldAddr Try.runUnderlying57 rfl Try.sizeOf22 rfl | exact val_fieldAddrR Try.runUnderlying57 rfl Try.sizeOf22 rfl) ?_
  refine vd_val rfl rfl rfl (.some rfl) (val_load Try.isAgg22 rfl (by first | exact cell_cells (by repeat (first | exact .head | apply In.tail | apply Take.tail | apply Upd.tail)) rfl | exact cell_rd (rd_sl (by repeat (first | exact .head | apply In.tail | apply Take.tail | apply Upd.tail))) (by first | exact bcells_at (by omega) | exact ucells_at (by omega) | exact icells_at (by omega) | exact tcells_at (by omega) | exact bcells_get (by omega) | exact icells_get (by omega) | exact tcells_get (by omega) | exact ucells_get (by omega)) | exact cell_rd (rd_old (by assumption) rfl) (by first | exact bcells_at (by omega) | exact ucells_at (by omega) | exact icells_at (by omega) | exact tcells_at (by omega) | exact bcells_get (by omega) | exact icells_get (by omega) | exact tcells_get (by omega) | exact ucells_get (by omega)) | exact cell_old (by assumption) (by simp [fps]))) ?_
  refine vd_val rfl rfl rfl (.some rfl) (val_move rfl) ?_
  refine vd_val rfl rfl rfl (.some rfl) (val_nil rfl rfl) ?_
  refine vd_val rfl rfl rfl (.some rfl) (by first | exact val_fieldAddr Try.runUnderlying57 rfl Try.sizeOf22 rfl | exact val_fieldAddrR Try.runUnderlying57 rfl Try.sizeOf22 rfl) ?_
  refine vd_val rfl rfl rfl (.some rfl) (val_load Try.isAgg22 rfl (by first | exact cell_cells (by repeat (first | exact .head | apply In.tail | apply Take.tail | apply Upd.tail)) rfl | exact cell_rd (rd_sl (by repeat (first | exact .head | apply In.tail | apply Take.tail | apply Upd.tail))) (by first | exact bcells_at (by omega) | exact ucells_at (by omega) | exact icells_at (by omega) | exact tcells_at (by omega) | exact bcells_get (by omega) | exact icells_get (by omega) | exact tcells_get (by omega) | exact ucells_get (by omega)) | exact cell_rd (rd_old (by assumption) rfl) (by first | exact bcells_at (by omega) | exact ucells_at (by omega) | exact icells_at (by omega) | exact tcells_at (by omega) | exact bcells_get (by omega) | exact icells_get (by omega) | exact tcells_get (by omega) | exact ucells_get (by omega)) | exact cell_old (by assumption) (by simp [fps]))) ?_
  refine vd_op rfl rfl ?_
  refine vl_callV rfl rfl (.some rfl) Try.call59 rfl (fun w hw => sEqSeed k.As k.As k.cs k.cs k.S (by omega) w (rdw (rd_oldM hs) hw) (rdw (rd_oldM hs) hw)) ?_
  refine vl_nil ?_
  refine ⟨fun _ => ⟨_, (by repeat (first | exact .nil | (apply Sub.cons; · repeat (first | exact .head | apply Take.tail))))⟩, ?_⟩
  refine vd_val rfl rfl rfl (.some rfl) (val_not rfl) ?_
  refine vd_val rfl rfl rfl (.some rfl) (val_assign rfl) ?_
  refine vd_nil ?_
  refine vc_cond rfl (fun h => by cases h) (fun _ => ?_)
  refine vc_seq ?_
  refine vc_region ?_
  refine vl_val rfl (.some rfl) (val_move rfl) ?_
  refine vl_val rfl (.some rfl) (val_move rfl) ?_
  refine vl_val rfl (.some rfl) (val_opO rfl rfl guard_ptr (fun w => by exact ptr_one (te := 57) Try.underlying26 (j := Try.t57) Try.type57 w)) ?_
  refine vl_val rfl (.some rfl) (val_assign rfl) ?_
  refine vl_nil ?_
  refine vc_cond rfl (fun _ => ?_) (fun h => by cases h)
  refine vc_seq ?_
  refine vc_region ?_
  refine vl_val rfl (.some rfl) (val_assign rfl) ?_
  refine vl_nil ?_
  refine vc_ret ?_
  refine ⟨_, KH k, _, res1 Try.results20 rfl, (by repeat (first | exact .nil | (apply Sub.cons; · repeat (first | exact .head | apply Take.tail)))), ?_⟩
  exact ⟨rfl, rfl⟩
set_option maxRecDepth 20000 in
theorem kBytes (k : Sk) (ht1 : 0 < k.t) (ht : k.t ≤ 1000) (hSL : k.S.length = k.L.length) (hn : k.L.length ≤ 7) (hg : GoodV k.t (vals k.L)) (hb : ∀ j, j < (vals k.L).length → ∀ x ∈ (vals k.L).getD j [], x < 18446744073709551616) (w : World) : Fn Try.prog 22 [kp k] (KH k) (ret fun u H' => ∃ A c, u = .slice A (bytesK (vals k.L)).length c ∧ H' = KH k ++ [BY A (bytesK (vals k.L)).length c (bytesK (vals k.L))]) w := by
  have hvl := vals_len k.L
  have hbl : ∀ i, (bytesK ((vals k.L).take i)).length ≤ 100000 := fun i => by
    have := bytesK_len (t := 1000) ((vals k.L).take i) (fun l hl => by obtain ⟨j, hj, e⟩ := mem_getD (d := []) (List.mem_of_mem_take hl); have := (hg j hj).2; rw [e] at this; omega)
    rw [List.length_take] at this
    omega
  refine fn_enter Try.func22 rfl Try.ntmps22 rfl ?_
  refine vc_seq ?_
  refine vc_region ?_
  refine vl_val rfl (.some rfl) (val_assign rfl) ?_
  refine vl_nil ?_
  refine vc_seq ?_
  refine vc_region ?_
  refine vl_val rfl (.some rfl) (val_assign rfl) ?_
  refine vl_nilSl 5 1 ?_
  refine vl_nil ?_
  refine vc_seq ?_
  refine vc_seq ?_
  refine vc_region ?_
  refine vl_val rfl (.some rfl) (val_move rfl) ?_
  refine vl_callR [SKc k] rfl rfl (.some rfl) Try.call53 rfl (by repeat (first | exact .nil | (apply Sub.cons; · repeat (first | exact .head | apply Take.tail)))) (fun w hw => kMade k.b k.t k.As k.S.length k.cs k.Ac k.L.length k.cc ht1 w) ?_
  refine vl_val rfl (.some rfl) (val_not rfl) ?_
  refine vl_nil ?_
  refine vc_cond rfl (fun h => by cases h) (fun _ => ?_)
  refine vc_skip ?_
  refine vc_seq ?_
  refine vc_seq ?_
  refine vc_region ?_
  refine vl_val rfl (.some rfl) (val_move rfl) ?_
  refine vl_val rfl (.some rfl) (val_nil rfl rfl) ?_
  refine vl_val rfl (.some rfl) (by first | exact val_fieldAddr Try.runUnderlying57 rfl Try.sizeOf33 rfl | exact val_fieldAddrR Try.runUnderlying57 rfl Try.sizeOf33 rfl) ?_
  refine vl_val rfl (.some rfl) (val_load Try.isAgg33 rfl (by first | exact cell_cells (by repeat (first | exact .head | apply In.tail | apply Take.tail | apply Upd.tail)) rfl | exact cell_rd (rd_sl (by repeat (first | exact .head | apply In.tail | apply Take.tail | apply Upd.tail))) (by first | exact bcells_at (by omega) | exact ucells_at (by omega) | exact icells_at (by omega) | exact tcells_at (by omega) | exact bcells_get (by omega) | exact icells_get (by omega) | exact tcells_get (by omega) | exact ucells_get (by omega)) | exact cell_rd (rd_old (by assumption) rfl) (by first | exact bcells_at (by omega) | exact ucells_at (by omega) | exact icells_at (by omega) | exact tcells_at (by omega) | exact bcells_get (by omega) | exact icells_get (by omega) | exact tcells_get (by omega) | exact ucells_get (by omega)) | exact cell_old (by assumption) (by simp [fps]))) ?_
  refine vl_val rfl (.some rfl) (val_lenSl Try.runUnderlying33 rfl) ?_
  refine vl_val rfl (.some rfl) (val_move rfl) ?_
  refine vl_nil ?_
  refine vc_block ?_
  refine vc_loopw (fun m E H => ∃ (i : Nat) (A : Option Addr) (c : Nat), i ≤ k.L.length ∧ m = k.L.length - i ∧ E = [(0, kp k), (3, .slice A (bytesK ((vals k.L).take i)).length c), (15, .slice k.Ac k.L.length k.cc), (16, .int .i64 k.L.length), (17, .int .i64 i)] ∧ H = [BY A (bytesK ((vals k.L).take i)).length c (bytesK ((vals k.L).take i)), SKc k, SKh k, SKr k]) (k.L.length) ⟨_, _, _, ⟨0, none, 0, by omega, rfl, rfl, rfl⟩, (by repeat (first | exact trivial | refine ⟨rfl, ?_⟩ | refine ⟨le_item rfl (by first | rfl | (congr 1; omega) | (simp; done) | (simp; omega)), ?_⟩)), (by repeat (first | exact .nil | (apply Sub.cons; · repeat (first | exact .head | apply Take.tail))))⟩ ?_
  intro m E H hI
  obtain ⟨i, A, c, hi, rfl, rfl, rfl⟩ := hI
  refine vc_seq ?_
  refine vc_region ?_
  refine vl_val rfl (.some rfl) (val_lt rfl rfl) ?_
  refine vl_nil ?_
  refine vc_seq ?_
  refine vc_cond rfl (fun hc1 => ?_) (fun hc1 => ?_)
  · (try replace hc1 := of_decide_eq_true hc1)
    obtain ⟨r, hr⟩ := row_at (L := k.L) (i := i) (by omega)
    have hri := vals_get hr
    have hrg := hg i (by omega)
    rw [hri] at hrg
    have hbi := hbl i
    have hpl := putN_len r.l.length
    refine vc_skip ?_
    refine vc_seq ?_
    refine vc_block ?_
    refine vc_seq ?_
    refine vc_region ?_
    refine vl_val rfl (.some rfl) (val_indexAddr Try.runUnderlying33 Try.sizeOf25 rfl rfl (rd_sl (vs := k.L.map hdr) (by repeat (first | exact .head | apply In.tail | apply Take.tail | apply Upd.tail))) (by omega) (by omega) (by rw [List.length_map]; omega)) ?_
    refine vl_val rfl (.some rfl) (val_load Try.isAgg25 rfl (cell_rd (rd_sl (vs := k.L.map hdr) (by repeat (first | exact .head | apply In.tail | apply Take.tail | apply Upd.tail))) (hdr_at hr))) ?_
    refine vl_val rfl (.some rfl) (val_assign rfl) ?_
    refine vl_nil ?_
    refine vc_seq ?_
    refine vc_region ?_
    refine vl_val rfl (.some rfl) (val_move rfl) ?_
    refine vl_val rfl (.some rfl) (val_move rfl) ?_
    refine vl_val rfl (.some rfl) (val_lenSl Try.runUnderlying25 rfl) ?_
    refine vl_val rfl (.some rfl) (val_convInt Try.runUnderlying3 Try.runUnderlying30 rfl (wN (by omega))) ?_
    refine vl_call (C := []) rfl rfl (.some rfl) Try.call60 rfl .nil (fun w hw => cPut A c (bytesK ((vals k.L).take i)) (r.l.length) (by omega) (by omega) w (rdw (rd_sl (vs := bcells (bytesK ((vals k.L).take i))) (by repeat (first | exact .head | apply In.tail | apply Take.tail | apply Upd.tail))) hw)) (fun v H' h => ?_)
    obtain ⟨A25, c25, rfl, rfl⟩ := h
    show VL _ _ _ _ _ (_ :: _)
    refine vl_val rfl (.some rfl) (val_assign rfl) ?_
    refine vl_nil ?_
    refine vc_seq ?_
    refine vc_region ?_
    refine vl_val rfl (.some rfl) (val_assign rfl) ?_
    refine vl_nil ?_
    refine vc_seq ?_
    refine vc_region ?_
    refine vl_val rfl (.some rfl) (val_move rfl) ?_
    refine vl_val rfl (.some rfl) (val_lenSl Try.runUnderlying25 rfl) ?_
    refine vl_val rfl (.some rfl) (val_move rfl) ?_
    refine vl_nil ?_
    refine vc_block ?_
    rw [show bytesK ((vals k.L).take i) ++ putN r.l.length = bytesK ((vals k.L).take i) ++ putN r.l.length ++ deltaB 0 (r.l.take 0) by simp [deltaB]]
    refine vc_loopw (fun m E H => ∃ (j : Nat) (A : Option Addr) (c : Nat), j ≤ r.l.length ∧ m = r.l.length - j ∧ E = [(0, kp k), (3, .slice A (bytesK ((vals k.L).take i) ++ putN r.l.length ++ deltaB 0 (r.l.take j)).length c), (6, .int .u64 ((r.l.take j).getLastD 0 : Nat)), (15, .slice k.Ac k.L.length k.cc), (16, .int .i64 k.L.length), (17, .int .i64 i), (26, hdr r), (27, .int .i64 r.l.length), (28, .int .i64 j)] ∧ H = [BY A (bytesK ((vals k.L).take i) ++ putN r.l.length ++ deltaB 0 (r.l.take j)).length c (bytesK ((vals k.L).take i) ++ putN r.l.length ++ deltaB 0 (r.l.take j)), SKc k, SKh k, SKr k]) (r.l.length) ⟨_, _, _, ⟨0, A25, c25, by omega, rfl, rfl, rfl⟩, (by repeat (first | exact trivial | refine ⟨rfl, ?_⟩ | refine ⟨le_item rfl (by first | rfl | (congr 1; omega) | (simp; done) | (simp; omega)), ?_⟩)), (by repeat (first | exact .nil | (apply Sub.cons; · repeat (first | exact .head | apply Take.tail))))⟩ ?_
    clear A c
    intro m E H hI
    obtain ⟨j, A, c, hj, rfl, rfl, rfl⟩ := hI
    refine vc_seq ?_
    refine vc_region ?_
    refine vl_val rfl (.some rfl) (val_lt rfl rfl) ?_
    refine vl_nil ?_
    refine vc_seq ?_
    refine vc_cond rfl (fun hc2 => ?_) (fun hc2 => ?_)
    · (try replace hc2 := of_decide_eq_true hc2)
      have hlast := rise_last hrg.1 (i := j) (by omega)
      have hdl := deltaB_len (r.l.take j) 0
      rw [List.length_take] at hdl
      have hx := hb i (by omega) (r.l.getD j 0) (by rw [hri]; exact getD_mem 0 (by omega))
      have hbl2 : (bytesK ((vals k.L).take i) ++ putN r.l.length ++ deltaB 0 (r.l.take j)).length ≤ 1000000 := by simp only [List.length_append]; omega
      refine vc_skip ?_
      refine vc_seq ?_
      refine vc_block ?_
      refine vc_seq ?_
      refine vc_region ?_
      refine vl_val rfl (.some rfl) (val_indexAddr Try.runUnderlying25 Try.sizeOf30 rfl rfl (vs := ucells r.l) (rd_big (n := r.l.length) (c := r.c) (e := 30) (sz := 1) (l := k.L.map rwC) (by repeat (first | exact .head | apply In.tail | apply Take.tail | apply Upd.tail)) (List.mem_map.2 ⟨r, List.mem_of_getElem? hr, rfl⟩)) (by omega) (by omega) (by rw [ucells_length]; omega)) ?_
      refine vl_val rfl (.some rfl) (val_load Try.isAgg30 rfl (cell_rd (rd_big (n := r.l.length) (c := r.c) (e := 30) (sz := 1) (l := k.L.map rwC) (by repeat (first | exact .head | apply In.tail | apply Take.tail | apply Upd.tail)) (List.mem_map.2 ⟨r, List.mem_of_getElem? hr, rfl⟩)) (ucells_at (by omega)))) ?_
      refine vl_val rfl (.some rfl) (val_assign rfl) ?_
      refine vl_nil ?_
      refine vc_seq ?_
      refine vc_region ?_
      refine vl_val rfl (.some rfl) (val_move rfl) ?_
      refine vl_val rfl (.some rfl) (val_move rfl) ?_
      refine vl_val rfl (.some rfl) (val_move rfl) ?_
      refine vl_val rfl (.some rfl) (val_sub rfl rfl (subN (a := r.l.getD j 0) (b := (r.l.take j).getLastD 0) hlast hx)) ?_
      refine vl_call (C := []) rfl rfl (.some rfl) Try.call60 rfl .nil (fun w hw => cPut A c (bytesK ((vals k.L).take i) ++ putN r.l.length ++ deltaB 0 (r.l.take j)) (r.l.getD j 0 - (r.l.take j).getLastD 0) (by omega) (by omega) w (rdw (rd_sl (vs := bcells (bytesK ((vals k.L).take i) ++ putN r.l.length ++ deltaB 0 (r.l.take j))) (by repeat (first | exact .head | apply In.tail | apply Take.tail | apply Upd.tail))) hw)) (fun v H' h => ?_)
      obtain ⟨A36, c36, rfl, rfl⟩ := h
      show VL _ _ _ _ _ (_ :: _)
      refine vl_val rfl (.some rfl) (val_assign rfl) ?_
      refine vl_nil ?_
      refine vc_region ?_
      refine vl_val rfl (.some rfl) (val_move rfl) ?_
      refine vl_val rfl (.some rfl) (val_assign rfl) ?_
      refine vl_nil ?_
      refine vc_region ?_
      refine vl_val rfl (.some rfl) (val_add rfl rfl (by first | exact w_i64 (by omega) (by omega) | rfl)) ?_
      refine vl_val rfl (.some rfl) (val_move rfl) ?_
      refine vl_nil ?_
      rw [List.append_assoc, delta_push (by omega), ← last_take (l := r.l) (i := j) (by omega)]
      exact ⟨(r.l.length - (j + 1)), _, _, _, by omega, (by repeat (first | exact trivial | refine ⟨rfl, ?_⟩ | refine ⟨le_item rfl (by first | rfl | (congr 1; omega) | (simp; done) | (simp; omega)), ?_⟩)), (by repeat (first | exact .nil | (apply Sub.cons; · repeat (first | exact .head | apply Take.tail)))), ⟨j + 1, A36, c36, by omega, rfl, rfl, rfl⟩⟩
    · (try replace hc2 := of_decide_eq_false hc2)
      refine vc_exit ?_
      refine vc_region ?_
      refine vl_val rfl (.some rfl) (val_add rfl rfl (by first | exact w_i64 (by omega) (by omega) | rfl)) ?_
      refine vl_val rfl (.some rfl) (val_move rfl) ?_
      refine vl_nil ?_
      obtain rfl : j = r.l.length := by omega
      rw [List.take_length, List.append_assoc, show putN r.l.length ++ deltaB 0 r.l = rowB r.l from rfl, bytesK_push (by omega) hri]
      exact ⟨(k.L.length - (i + 1)), _, _, _, by omega, (by repeat (first | exact trivial | refine ⟨rfl, ?_⟩ | refine ⟨le_item rfl (by first | rfl | (congr 1; omega) | (simp; done) | (simp; omega)), ?_⟩)), (by repeat (first | exact .nil | (apply Sub.cons; · repeat (first | exact .head | apply Take.tail)))), ⟨i + 1, A, c, by omega, rfl, rfl, rfl⟩⟩
  · (try replace hc1 := of_decide_eq_false hc1)
    refine vc_exit ?_
    refine vc_seq ?_
    refine vc_region ?_
    refine vl_val rfl (.some rfl) (val_move rfl) ?_
    refine vl_val rfl (.some rfl) (val_assign rfl) ?_
    refine vl_nil ?_
    refine vc_ret ?_
    refine ⟨_, [SKc k, SKh k, SKr k, BY A (bytesK ((vals k.L).take i)).length c (bytesK ((vals k.L).take i))], _, res1 Try.results22 rfl, (by repeat (first | exact .nil | (apply Sub.cons; · repeat (first | exact .head | apply Take.tail)))), ?_⟩
    obtain rfl : i = k.L.length := by omega
    rw [List.take_of_length_le (by omega)]
    exact ⟨A, c, rfl, rfl⟩

end Go.Proofs.Ytclknendeeljaaa.K
