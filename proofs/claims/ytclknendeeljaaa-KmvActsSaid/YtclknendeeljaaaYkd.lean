/- Walks of the program's functions, printed by a program of this session; Lean checks them. -/
import Derived.Test.YtclknendeeljaaaMc
import Derived.Test.YtclknendeeljaaaMd
import Derived.Test.YtclknendeeljaaaYkc
namespace Go.Proofs.Ytclknendeeljaaa.K
open Go Go.RowKit Go.Proofs
set_option linter.unusedVariables false
set_option linter.unusedSimpArgs false


theorem rows_open (L : List (Sl Nat)) (i : Nat) (r : Sl Nat) (hi : L[i]? = some r) (F : List Chunk) : Eqv (big (L.map rwC) :: F) (rwC r :: big ((L.take i ++ L.drop (i + 1)).map rwC) :: F) := by
  obtain ⟨h1, h2⟩ := List.getElem?_eq_some_iff.1 hi
  have e : L = L.take i ++ r :: L.drop (i + 1) := by rw [← h2, ← List.drop_eq_getElem_cons h1, List.take_append_drop]
  have := eqv_big_mid ((L.take i).map rwC) (rwC r) ((L.drop (i + 1)).map rwC) F
  rw [← List.map_append] at this
  rwa [show (L.take i).map rwC ++ rwC r :: (L.drop (i + 1)).map rwC = L.map rwC by conv => { rhs; rw [e] }; simp] at this
theorem rows_close (L : List (Sl Nat)) (i : Nat) (r : Sl Nat) (hi : i < L.length) (F : List Chunk) : Eqv (rwC r :: big ((L.take i ++ L.drop (i + 1)).map rwC) :: F) (big ((L.set i r).map rwC) :: F) := by
  have := (eqv_big_mid ((L.take i).map rwC) (rwC r) ((L.drop (i + 1)).map rwC) F).symm
  rw [← List.map_append] at this
  rwa [show (L.take i).map rwC ++ rwC r :: (L.drop (i + 1)).map rwC = (L.set i r).map rwC by rw [List.set_eq_take_append_cons_drop, if_pos hi]; simp] at this
def GoodV (t : Nat) (V : List (List Nat)) : Prop := ∀ j, j < V.length → Rise (V.getD j []) ∧ (V.getD j []).length ≤ t
def insF (t : Nat) (S : List (Nat × Nat)) (V : List (List Nat)) (x j : Nat) : List Nat := putK t (V.getD j []) (hashN (S.getD j (0, 0)) x)
def insV (t : Nat) (S : List (Nat × Nat)) (V : List (List Nat)) (x : Nat) : List (List Nat) := (List.range V.length).map (insF t S V x)
theorem vals_len (L : List (Sl Nat)) : (vals L).length = L.length := by simp [vals]
theorem vals_get {L : List (Sl Nat)} {i : Nat} {r : Sl Nat} (h : L[i]? = some r) : (vals L).getD i [] = r.l := by simp [vals, List.getD, h]
theorem row_at {L : List (Sl Nat)} {i : Nat} (h : i < L.length) : ∃ r, L[i]? = some r := ⟨L[i], List.getElem?_eq_getElem h⟩
theorem hdr_at {L : List (Sl Nat)} {i : Nat} {r : Sl Nat} (h : L[i]? = some r) : (L.map hdr)[Int.toNat (i : Int) * 1]? = some (hdr r) := by
  rw [Int.toNat_natCast, Nat.mul_one, List.getElem?_map, h]; rfl
theorem insV_good {t : Nat} {S : List (Nat × Nat)} {V : List (List Nat)} {x : Nat} (h : GoodV t V) : GoodV t (insV t S V x) := by
  intro j hj
  have hj' : j < V.length := by simpa [insV] using hj
  have e : (insV t S V x).getD j [] = insF t S V x j := by simp [insV, List.getD, hj']
  rw [e]
  exact putK_rise (h j hj').1 (h j hj').2
theorem mix_good {t : Nat} {V : List (List Nat)} {f : Nat → List Nat} {i : Nat} (h : GoodV t V) (hf : ∀ j, j < V.length → Rise (f j) ∧ (f j).length ≤ t) : GoodV t (mixG f (fun j => V.getD j []) V.length i) := by
  intro j hj
  rw [mixG_len] at hj
  rw [mixG_get hj]
  split
  · exact hf j hj
  · exact h j hj
/-- put, as the sketch sees it -/
theorem kPut (k : Sk) (i h : Nat) (hi : i < k.L.length) (ht : k.t ≤ 1000) (hn : k.L.length ≤ 1000) (hg : GoodV k.t (vals k.L)) (w : World) : Fn Try.prog 54 [kp k, .int .i64 i, .int .u64 h] (KH k) (ret fun u H' => ∃ L', vals L' = (vals k.L).set i (putK k.t ((vals k.L).getD i []) h) ∧ H' = KH { k with L := L' }) w := by
  obtain ⟨r, hr⟩ := row_at hi
  have hv := vals_get hr
  have hgi := hg i (by rw [vals_len]; exact hi)
  rw [hv] at hgi ⊢
  have h0 := kPut0 k.b k.t k.As k.S.length k.cs k.Ac k.cc (k.L.map hdr) i r.A r.c r.l h ht (by rw [List.length_map]; exact hn) (by rw [List.getElem?_map, hr]; rfl) hgi.1 hgi.2 w
  rw [List.length_map] at h0
  have h1 := (h0.frame (F := [big ((k.L.take i ++ k.L.drop (i + 1)).map rwC)])).eqv (((rows_open k.L i r hr []).cons (SKh k)).cons (SKc k))
  refine h1.out fun v H hh => ?_
  obtain ⟨H2, ⟨A', c', rfl⟩, rfl⟩ := hh
  refine ⟨KH { k with L := k.L.set i ⟨A', c', putK k.t r.l h⟩ }, [], ?_, k.L.set i ⟨A', c', putK k.t r.l h⟩, by simp [vals, List.map_set], rfl⟩
  have e1 : (k.L.set i ⟨A', c', putK k.t r.l h⟩).length = k.L.length := List.length_set
  have e2 : (k.L.set i ⟨A', c', putK k.t r.l h⟩).map hdr = (k.L.map hdr).set i (.slice A' (putK k.t r.l h).length c') := List.map_set
  show Eqv _ ([SKb k.b k.t k.As k.S.length k.cs k.Ac (k.L.set i ⟨A', c', putK k.t r.l h⟩).length k.cc, HR k.Ac (k.L.set i ⟨A', c', putK k.t r.l h⟩).length k.cc ((k.L.set i ⟨A', c', putK k.t r.l h⟩).map hdr), big ((k.L.set i ⟨A', c', putK k.t r.l h⟩).map rwC)] ++ [])
  rw [e1, e2, List.append_nil]
  exact ((rows_close k.L i ⟨A', c', putK k.t r.l h⟩ hi []).cons _).cons _

theorem copy_step {D : List (Sl Nat)} {n i c m : Nat} {A : Option Addr} {l : List Nat} (hD : D.length = i) (hi : i < n) (hm : m = l.length) : (D.map hdr ++ List.replicate (n - i) (Value.slice none 0 0)).set i (.slice A m c) = (D ++ [(⟨A, c, l⟩ : Sl Nat)]).map hdr ++ List.replicate (n - (i + 1)) (Value.slice none 0 0) := by
  subst hm
  rw [show n - i = (n - (i + 1)) + 1 by omega, List.replicate_succ, List.set_append, if_neg (by simp; omega)]
  simp [hD]
theorem vals_push {L D : List (Sl Nat)} {i c : Nat} {A : Option Addr} {r : Sl Nat} (hD : vals D = (vals L).take i) (hr : L[i]? = some r) : vals (D ++ [⟨A, c, r.l⟩]) = (vals L).take (i + 1) := by
  have : (vals L)[i]? = some r.l := by simp [vals, hr]
  rw [List.take_add_one, this, ← hD]
  simp [vals]

set_option maxRecDepth 20000 in
theorem kInsert (k : Sk) (ht1 : 0 < k.t) (ht : k.t ≤ 1000) (hSL : k.S.length = k.L.length) (hn : k.L.length ≤ 7) (hg : GoodV k.t (vals k.L)) (x : Nat) (hx : x < 18446744073709551616) (w : World) (hs : ReadsM w (fps (KH k)) k.As (seedC k.S)) (hsb : ∀ s ∈ k.S, s.1 < 18446744073709551616 ∧ s.2 < 18446744073709551616) : Fn Try.prog 15 [kp k, .int .u64 x] (KH k) (ret fun u H' => ∃ L', vals L' = insV k.t k.S (vals k.L) x ∧ H' = KH { k with L := L' }) w := by
  have hvl := vals_len k.L
  refine fn_enter Try.func15 rfl Try.ntmps15 rfl ?_
  refine vc_seq ?_
  refine vc_region ?_
  refine vl_val rfl (.some rfl) (val_move rfl) ?_
  refine vl_callR [SKc k] rfl rfl (.some rfl) Try.call53 rfl (by repeat (first | exact .nil | (apply Sub.cons; · repeat (first | exact .head | apply Take.tail)))) (fun w hw => kMade k.b k.t k.As k.S.length k.cs k.Ac k.L.length k.cc ht1 w) ?_
  refine vl_nil ?_
  refine vc_cond rfl (fun _ => ?_) (fun h => by cases h)
  refine vc_seq ?_
  refine vc_region ?_
  refine vl_val rfl (.some rfl) (val_move rfl) ?_
  refine vl_val rfl (.some rfl) (val_nil rfl rfl) ?_
  refine vl_val rfl (.some rfl) (by first | exact val_fieldAddr Try.runUnderlying57 rfl Try.sizeOf22 rfl | exact val_fieldAddrR Try.runUnderlying57 rfl Try.sizeOf22 rfl) ?_
  refine vl_val rfl (.some rfl) (val_load Try.isAgg22 rfl (by first | exact cell_cells (by repeat (first | exact .head | apply In.tail | apply Take.tail | apply Upd.tail)) rfl | exact cell_rd (rd_sl (by repeat (first | exact .head | apply In.tail | apply Take.tail | apply Upd.tail))) (by first | exact bcells_at (by omega) | exact ucells_at (by omega) | exact icells_at (by omega) | exact tcells_at (by omega) | exact bcells_get (by omega) | exact icells_get (by omega) | exact tcells_get (by omega) | exact ucells_get (by omega)) | exact cell_rd (rd_old (by assumption) rfl) (by first | exact bcells_at (by omega) | exact ucells_at (by omega) | exact icells_at (by omega) | exact tcells_at (by omega) | exact bcells_get (by omega) | exact icells_get (by omega) | exact tcells_get (by omega) | exact ucells_get (by omega)) | exact cell_old (by assumption) (by simp [fps]))) ?_
  refine vl_val rfl (.some rfl) (val_lenSl Try.runUnderlying22 rfl) ?_
  refine vl_val rfl (.some rfl) (val_move rfl) ?_
  refine vl_nil ?_
  refine vc_block ?_
  refine vc_loopw (fun m E H => ∃ (i : Nat) (L' : List (Sl Nat)), i ≤ k.L.length ∧ m = k.L.length - i ∧ L'.length = k.L.length ∧ vals L' = mixG (insF k.t k.S (vals k.L) x) (fun j => (vals k.L).getD j []) (vals k.L).length i ∧ E = [(0, kp k), (1, .int .u64 x), (11, .int .i64 k.S.length), (12, .int .i64 i)] ∧ H = KH { k with L := L' }) (k.L.length) ⟨_, _, _, ⟨0, k.L, by omega, rfl, rfl, by rw [mixG_zero, range_getD], rfl, rfl⟩, (by repeat (first | exact trivial | refine ⟨rfl, ?_⟩ | refine ⟨le_item rfl (by first | rfl | (congr 1; omega) | (simp; done) | (simp; omega)), ?_⟩)), (by repeat (first | exact .nil | (apply Sub.cons; · repeat (first | exact .head | apply Take.tail))))⟩ ?_
  intro m E H hI
  obtain ⟨i, L', hi, rfl, hLl, hL', rfl, rfl⟩ := hI
  refine vc_seq ?_
  refine vc_region ?_
  refine vl_val rfl (.some rfl) (val_lt rfl rfl) ?_
  refine vl_nil ?_
  refine vc_seq ?_
  refine vc_cond rfl (fun hc1 => ?_) (fun hc1 => ?_)
  · (try replace hc1 := of_decide_eq_true hc1)
    refine vc_skip ?_
    refine vc_seq ?_
    refine vc_block ?_
    refine vc_seq ?_
    refine vc_region ?_
    refine vl_val rfl (.some rfl) (val_move rfl) ?_
    refine vl_val rfl (.some rfl) (val_assign rfl) ?_
    refine vl_nil ?_
    refine vc_region ?_
    refine vl_val rfl (.some rfl) (val_move rfl) ?_
    refine vl_val rfl (.some rfl) (val_move rfl) ?_
    refine vl_val rfl (.some rfl) (val_move rfl) ?_
    refine vl_val rfl (.some rfl) (val_nil rfl rfl) ?_
    refine vl_val rfl (.some rfl) (by first | exact val_fieldAddr Try.runUnderlying57 rfl Try.sizeOf22 rfl | exact val_fieldAddrR Try.runUnderlying57 rfl Try.sizeOf22 rfl) ?_
    refine vl_val rfl (.some rfl) (val_load Try.isAgg22 rfl (by first | exact cell_cells (by repeat (first | exact .head | apply In.tail | apply Take.tail | apply Upd.tail)) rfl | exact cell_rd (rd_sl (by repeat (first | exact .head | apply In.tail | apply Take.tail | apply Upd.tail))) (by first | exact bcells_at (by omega) | exact ucells_at (by omega) | exact icells_at (by omega) | exact tcells_at (by omega) | exact bcells_get (by omega) | exact icells_get (by omega) | exact tcells_get (by omega) | exact ucells_get (by omega)) | exact cell_rd (rd_old (by assumption) rfl) (by first | exact bcells_at (by omega) | exact ucells_at (by omega) | exact icells_at (by omega) | exact tcells_at (by omega) | exact bcells_get (by omega) | exact icells_get (by omega) | exact tcells_get (by omega) | exact ucells_get (by omega)) | exact cell_old (by assumption) (by simp [fps]))) ?_
    refine vl_val rfl (.some rfl) (val_move rfl) ?_
    refine vl_val rfl (.some rfl) (val_indexAddr Try.runUnderlying22 Try.sizeOf81 rfl rfl (rd_oldM hs) (by omega) (by omega) (by rw [seedC_len, Int.toNat_natCast]; omega)) ?_
    refine vl_val rfl (.some rfl) (val_loadAgg Try.isAgg81 Try.sizeOf81 rfl (cells_rd (us := seedV (k.S.getD i (0, 0))) (rd_oldM hs) (seed_at rfl (by omega))) rfl) ?_
    refine vl_val rfl (.some rfl) (val_move rfl) ?_
    refine vl_callV rfl rfl (.some rfl) Try.call55 rfl (fun w hw => fHash (k.S.getD i (0, 0)).1 (k.S.getD i (0, 0)).2 x (hsb _ (getD_mem (0, 0) (by omega))).1 (hsb _ (getD_mem (0, 0) (by omega))).2 hx w) ?_
    refine vl_call (C := KH { k with L := L' }) rfl rfl (.some rfl) Try.call54 rfl (by repeat (first | exact .nil | (apply Sub.cons; · repeat (first | exact .head | apply Take.tail)))) (fun w hw => kPut { k with L := L' } i (hashN (k.S.getD i (0, 0)) x) (by show i < L'.length; omega) ht (by show L'.length ≤ 1000; omega) (by show GoodV k.t (vals L'); rw [hL']; exact mix_good hg (fun j hj => putK_rise (hg j hj).1 (hg j hj).2)) w) (fun v H' h => ?_)
    obtain ⟨L2, hL2, rfl⟩ := h
    change vals L2 = (vals L').set i (putK k.t ((vals L').getD i []) (hashN (k.S.getD i (0, 0)) x)) at hL2
    rw [hL', mixG_get (by omega), if_neg (by omega), mixG_set (by rfl)] at hL2
    show VL _ _ _ _ _ (_ :: _ :: _ :: _)
    refine vl_nil ?_
    refine vc_region ?_
    refine vl_val rfl (.some rfl) (val_add rfl rfl (by first | exact w_i64 (by omega) (by omega) | rfl)) ?_
    refine vl_val rfl (.some rfl) (val_move rfl) ?_
    refine vl_nil ?_
    have hl2 : L2.length = k.L.length := by rw [← vals_len L2, hL2, mixG_len, vals_len]
    exact ⟨(k.L.length - (i + 1)), _, _, _, by omega, (by repeat (first | exact trivial | refine ⟨rfl, ?_⟩ | refine ⟨le_item rfl (by first | rfl | (congr 1; omega) | (simp; done) | (simp; omega)), ?_⟩)), (by repeat (first | exact .nil | (apply Sub.cons; · repeat (first | exact .head | apply Take.tail)))), ⟨i + 1, L2, by omega, rfl, hl2, hL2, rfl, rfl⟩⟩
  · (try replace hc1 := of_decide_eq_false hc1)
    refine vc_exit ?_
    refine ⟨_, KH { k with L := L' }, _, res0 Try.results15, (by repeat (first | exact .nil | (apply Sub.cons; · repeat (first | exact .head | apply Take.tail)))), ?_⟩
    obtain rfl : i = k.L.length := by omega
    exact ⟨L', by rw [hL', ← hvl, mixG_all]; rfl, rfl⟩
set_option maxRecDepth 20000 in
theorem kCopies (k : Sk) (ht1 : 0 < k.t) (ht : k.t ≤ 1000) (hSL : k.S.length = k.L.length) (hn : k.L.length ≤ 7) (hg : GoodV k.t (vals k.L)) (w : World) : Fn Try.prog 17 [kp k] (KH k) (ret fun u H' => ∃ Ac cc D, u = .slice Ac D.length cc ∧ vals D = vals k.L ∧ H' = KH k ++ [HR Ac D.length cc (D.map hdr), big (D.map rwC)]) w := by
  have hvl := vals_len k.L
  refine fn_enter Try.func17 rfl Try.ntmps17 rfl ?_
  refine vc_seq ?_
  refine vc_region ?_
  refine vl_val rfl (.some rfl) (val_assign rfl) ?_
  refine vl_nil ?_
  refine vc_seq ?_
  refine vc_seq ?_
  refine vc_region ?_
  refine vl_val rfl (.some rfl) (val_move rfl) ?_
  refine vl_callR [SKc k] rfl rfl (.some rfl) Try.call53 rfl (by repeat (first | exact .nil | (apply Sub.cons; · repeat (first | exact .head | apply Take.tail)))) (fun w hw => kMade k.b k.t k.As k.S.length k.cs k.Ac k.L.length k.cc ht1 w) ?_
  refine vl_val rfl (.some rfl) (val_not rfl) ?_
  refine vl_nil ?_
  refine vc_cond rfl (fun h => by cases h) (fun _ => ?_)
  refine vc_skip ?_
  refine vc_seq ?_
  refine vc_region ?_
  refine vl_val rfl (.some rfl) (val_move rfl) ?_
  refine vl_val rfl (.some rfl) (val_nil rfl rfl) ?_
  refine vl_val rfl (.some rfl) (by first | exact val_fieldAddr Try.runUnderlying57 rfl Try.sizeOf33 rfl | exact val_fieldAddrR Try.runUnderlying57 rfl Try.sizeOf33 rfl) ?_
  refine vl_val rfl (.some rfl) (val_load Try.isAgg33 rfl (by first | exact cell_cells (by repeat (first | exact .head | apply In.tail | apply Take.tail | apply Upd.tail)) rfl | exact cell_rd (rd_sl (by repeat (first | exact .head | apply In.tail | apply Take.tail | apply Upd.tail))) (by first | exact bcells_at (by omega) | exact ucells_at (by omega) | exact icells_at (by omega) | exact tcells_at (by omega) | exact bcells_get (by omega) | exact icells_get (by omega) | exact tcells_get (by omega) | exact ucells_get (by omega)) | exact cell_rd (rd_old (by assumption) rfl) (by first | exact bcells_at (by omega) | exact ucells_at (by omega) | exact icells_at (by omega) | exact tcells_at (by omega) | exact bcells_get (by omega) | exact icells_get (by omega) | exact tcells_get (by omega) | exact ucells_get (by omega)) | exact cell_old (by assumption) (by simp [fps]))) ?_
  refine vl_val rfl (.some rfl) (val_lenSl Try.runUnderlying33 rfl) ?_
  refine vl_makeSlice sT33 rfl rfl (.some rfl) rfl rfl (by omega) (by omega) (by omega) (made_one rfl _) (fun r13 => ?_)
  rw [Int.toNat_natCast]
  refine vl_eqv (nils_eqv 0 _) ?_
  refine vl_val rfl (.some rfl) (val_assign rfl) ?_
  refine vl_nil ?_
  refine vc_seq ?_
  refine vc_seq ?_
  refine vc_region ?_
  refine vl_val rfl (.some rfl) (val_move rfl) ?_
  refine vl_val rfl (.some rfl) (val_lenSl Try.runUnderlying33 rfl) ?_
  refine vl_val rfl (.some rfl) (val_move rfl) ?_
  refine vl_nil ?_
  refine vc_block ?_
  refine vc_loopw (fun m E H => ∃ (i : Nat) (D : List (Sl Nat)), i ≤ k.L.length ∧ m = k.L.length - i ∧ D.length = i ∧ vals D = (vals k.L).take i ∧ E = [(0, kp k), (3, .slice (some ⟨r13, 0, none⟩) k.L.length k.L.length), (15, .int .i64 k.L.length), (16, .int .i64 i)] ∧ H = [big (D.map rwC), HR (some ⟨r13, 0, none⟩) k.L.length k.L.length (D.map hdr ++ List.replicate (k.L.length - i) (Value.slice none 0 0)), SKc k, SKh k, SKr k]) (k.L.length) ⟨_, _, _, ⟨0, [], by omega, rfl, rfl, rfl, rfl, rfl⟩, (by repeat (first | exact trivial | refine ⟨rfl, ?_⟩ | refine ⟨le_item rfl (by first | rfl | (congr 1; omega) | (simp; done) | (simp; omega)), ?_⟩)), (by repeat (first | exact .nil | (apply Sub.cons; · repeat (first | exact .head | apply Take.tail))))⟩ ?_
  intro m E H hI
  obtain ⟨i, D, hi, rfl, hDl, hD, rfl, rfl⟩ := hI
  refine vc_seq ?_
  refine vc_region ?_
  refine vl_val rfl (.some rfl) (val_lt rfl rfl) ?_
  refine vl_nil ?_
  refine vc_seq ?_
  refine vc_cond rfl (fun hc1 => ?_) (fun hc1 => ?_)
  · (try replace hc1 := of_decide_eq_true hc1)
    obtain ⟨r, hr⟩ := row_at (L := k.L) (i := i) (by omega)
    refine vc_skip ?_
    refine vc_seq ?_
    refine vc_block ?_
    refine vc_seq ?_
    refine vc_region ?_
    refine vl_val rfl (.some rfl) (val_move rfl) ?_
    refine vl_val rfl (.some rfl) (val_assign rfl) ?_
    refine vl_nil ?_
    refine vc_region ?_
    refine vl_val rfl (.some rfl) (val_move rfl) ?_
    refine vl_val rfl (.some rfl) (val_move rfl) ?_
    refine vl_val rfl (.some rfl) (val_move rfl) ?_
    refine vl_val rfl (.some rfl) (val_nil rfl rfl) ?_
    refine vl_val rfl (.some rfl) (by first | exact val_fieldAddr Try.runUnderlying57 rfl Try.sizeOf33 rfl | exact val_fieldAddrR Try.runUnderlying57 rfl Try.sizeOf33 rfl) ?_
    refine vl_val rfl (.some rfl) (val_load Try.isAgg33 rfl (by first | exact cell_cells (by repeat (first | exact .head | apply In.tail | apply Take.tail | apply Upd.tail)) rfl | exact cell_rd (rd_sl (by repeat (first | exact .head | apply In.tail | apply Take.tail | apply Upd.tail))) (by first | exact bcells_at (by omega) | exact ucells_at (by omega) | exact icells_at (by omega) | exact tcells_at (by omega) | exact bcells_get (by omega) | exact icells_get (by omega) | exact tcells_get (by omega) | exact ucells_get (by omega)) | exact cell_rd (rd_old (by assumption) rfl) (by first | exact bcells_at (by omega) | exact ucells_at (by omega) | exact icells_at (by omega) | exact tcells_at (by omega) | exact bcells_get (by omega) | exact icells_get (by omega) | exact tcells_get (by omega) | exact ucells_get (by omega)) | exact cell_old (by assumption) (by simp [fps]))) ?_
    refine vl_val rfl (.some rfl) (val_move rfl) ?_
    refine vl_val rfl (.some rfl) (val_indexAddr Try.runUnderlying33 Try.sizeOf25 rfl rfl (rd_sl (vs := k.L.map hdr) (by repeat (first | exact .head | apply In.tail | apply Take.tail | apply Upd.tail))) (by omega) (by omega) (by rw [List.length_map]; omega)) ?_
    refine vl_val rfl (.some rfl) (val_load Try.isAgg25 rfl (cell_rd (rd_sl (vs := k.L.map hdr) (by repeat (first | exact .head | apply In.tail | apply Take.tail | apply Upd.tail))) (hdr_at hr))) ?_
    refine vl_call (C := []) rfl rfl (.some rfl) Try.call56 rfl .nil (fun w hw => kClone r.A r.c r.l (by have := (hg i (by omega)).2; rw [vals_get hr] at this; omega) w (rdw (rd_big (n := r.l.length) (c := r.c) (e := 30) (sz := 1) (l := k.L.map rwC) (by repeat (first | exact .head | apply In.tail | apply Take.tail | apply Upd.tail)) (List.mem_map.2 ⟨r, List.mem_of_getElem? hr, rfl⟩)) hw)) (fun v H' h => ?_)
    obtain ⟨A28, c28, rfl, rfl⟩ := h
    show VL _ _ _ _ _ (_ :: _)
    refine vl_val rfl (.some rfl) (val_indexAddr Try.runUnderlying33 Try.sizeOf25 rfl rfl (rd_sl (A := some ⟨r13, 0, none⟩) (vs := D.map hdr ++ List.replicate (k.L.length - i) (Value.slice none 0 0)) (by repeat (first | exact .head | apply In.tail | apply Take.tail | apply Upd.tail))) (by omega) (by omega) (by simp; omega)) ?_
    refine vl_storeSl (A := some ⟨r13, 0, none⟩) (vs := D.map hdr ++ List.replicate (k.L.length - i) (Value.slice none 0 0)) rfl rfl .none rfl rfl Try.sizeOf25 rfl (by simp [Value.cells]) (by repeat (first | exact .head | apply In.tail | apply Take.tail | apply Upd.tail)) (by simp [Value.cells]; omega) ?_
    rw [set_laidS (hs := D.map hdr ++ List.replicate (k.L.length - i) (Value.slice none 0 0)) (i := i) (by simp; omega), copy_step (A := A28) (c := c28) hDl (by omega) rfl]
    refine vl_eqv (Eqv.perm (Take.perm (c := big (D.map rwC)) (by repeat (first | exact .head | apply In.tail | apply Take.tail | apply Upd.tail)))) ?_
    refine vl_eqv (Eqv.perm (Take.perm (c := rwC ⟨A28, c28, r.l⟩) (by repeat (first | exact .head | apply In.tail | apply Take.tail | apply Upd.tail)))) ?_
    refine vl_eqv (eqv_big_push _ _ _) ?_
    rw [show D.map rwC ++ [rwC ⟨A28, c28, r.l⟩] = (D ++ [(⟨A28, c28, r.l⟩ : Sl Nat)]).map rwC by simp]
    refine vl_nil ?_
    refine vc_region ?_
    refine vl_val rfl (.some rfl) (val_add rfl rfl (by first | exact w_i64 (by omega) (by omega) | rfl)) ?_
    refine vl_val rfl (.some rfl) (val_move rfl) ?_
    refine vl_nil ?_
    exact ⟨(k.L.length - (i + 1)), _, _, _, by omega, (by repeat (first | exact trivial | refine ⟨rfl, ?_⟩ | refine ⟨le_item rfl (by first | rfl | (congr 1; omega) | (simp; done) | (simp; omega)), ?_⟩)), (by repeat (first | exact .nil | (apply Sub.cons; · repeat (first | exact .head | apply Take.tail)))), ⟨i + 1, D ++ [⟨A28, c28, r.l⟩], by omega, rfl, by simp [hDl], vals_push hD hr, rfl, rfl⟩⟩
  · (try replace hc1 := of_decide_eq_false hc1)
    refine vc_exit ?_
    refine vc_seq ?_
    refine vc_region ?_
    refine vl_val rfl (.some rfl) (val_move rfl) ?_
    refine vl_val rfl (.some rfl) (val_assign rfl) ?_
    refine vl_nil ?_
    refine vc_ret ?_
    refine ⟨_, [SKc k, SKh k, SKr k, HR (some ⟨r13, 0, none⟩) k.L.length k.L.length (D.map hdr ++ List.replicate (k.L.length - i) (Value.slice none 0 0)), big (D.map rwC)], _, res1 Try.results17 rfl, (by repeat (first | exact .nil | (apply Sub.cons; · repeat (first | exact .head | apply Take.tail)))), ?_⟩
    obtain rfl : i = k.L.length := by omega
    exact ⟨_, _, D, by rw [hDl], by rw [hD, List.take_of_length_le (by omega)], by rw [Nat.sub_self, hDl, List.replicate_zero, List.append_nil]; rfl⟩

end Go.Proofs.Ytclknendeeljaaa.K
