/- Walks of the program's functions, printed by a program of this session; Lean checks them. -/
import Derived.Test.YtclknendeeljaaaYkn
namespace Go.Proofs.Ytclknendeeljaaa.K
open Go Go.RowKit Go.Proofs
set_option linter.unusedVariables false
set_option linter.unusedSimpArgs false


theorem mid_some {l : List Int} (h0 : 0 < l.length) : ∃ i, i < l.length ∧ midB l (l.getD i 0) = true := by
  have hp := List.mergeSort_perm l (fun a b => decide (a ≤ b))
  have hs := List.pairwise_mergeSort (le := fun a b : Int => decide (a ≤ b)) (by simp; omega) (by simp; omega) l
  have hs2 : SrtG (l.mergeSort fun a b => decide (a ≤ b)) (l.mergeSort fun a b => decide (a ≤ b)).length := fun p q h1 h2 => by
    have h3 : p < (l.mergeSort fun a b => decide (a ≤ b)).length := by omega
    have := List.pairwise_iff_getElem.1 hs p q h3 h2 h1
    simp only [List.getD, List.getElem?_eq_getElem h3, List.getElem?_eq_getElem h2, Option.getD_some]
    exact of_decide_eq_true this
  have hl := hp.length_eq
  have hm := mid_sorted hs2 (by omega)
  rw [midB_perm hp] at hm
  obtain ⟨i, hi, e⟩ := mem_getD (d := 0) (hp.mem_iff.1 (getD_mem 0 (show (l.mergeSort fun a b => decide (a ≤ b)).length / 2 < (l.mergeSort fun a b => decide (a ≤ b)).length by omega)))
  exact ⟨i, hi, by rw [e]; exact hm⟩
theorem count_step {l : List Int} {j : Nat} {p : Int → Bool} (hj : j < l.length) : (l.take (j + 1)).countP p = (l.take j).countP p + if p (l.getD j 0) = true then 1 else 0 := by
  rw [List.take_add_one, List.getElem?_eq_getElem hj, List.countP_append]
  simp [List.getD, hj, List.countP_cons]

set_option maxRecDepth 20000 in
set_option maxHeartbeats 1000000 in
theorem wInsert (b t : Nat) (As : Option Addr) (cs : Nat) (S : List (Nat × Nat)) (Al : Option Addr) (cl : Nat) (L : List (Sl Nat)) (V : List (List Nat)) (hL : vals L = V) (hK : OkK t S V) (x : Nat) (hx : x < 18446744073709551616) (w : World) (hs : ReadsM w (fps (RQ b t As cs S Al cl L)) As (seedC S)) : Fn Try.prog 25 [.pointer (some ⟨b, 0, none⟩), .int .u64 x] (RQ b t As cs S Al cl L) (ret fun u H' => ∃ L', vals L' = insV t S V x ∧ H' = RQ b t As cs S Al cl L') w := by
  have hvl := vals_len L
  rw [hL] at hvl
  have hSn := hK.n
  have hn7 := hK.n7
  have ht2 := hK.t2
  have ht64 := hK.t64
  refine fn_enter Try.func25 rfl Try.ntmps25 rfl ?_
  refine vc_seq ?_
  refine vc_region ?_
  refine vl_val rfl (.some rfl) (val_move rfl) ?_
  refine vl_val rfl (.some rfl) (val_nil rfl rfl) ?_
  refine vl_val rfl (.some rfl) (by first | exact val_fieldAddr Try.runUnderlying96 rfl Try.sizeOf22 rfl | exact val_fieldAddrR Try.runUnderlying96 rfl Try.sizeOf22 rfl) ?_
  refine vl_val rfl (.some rfl) (val_load Try.isAgg22 rfl (by first | exact cell_cells (by repeat (first | exact .head | apply In.tail | apply Take.tail | apply Upd.tail)) rfl | exact cell_rd (rd_sl (by repeat (first | exact .head | apply In.tail | apply Take.tail | apply Upd.tail))) (by first | exact bcells_at (by omega) | exact ucells_at (by omega) | exact icells_at (by omega) | exact tcells_at (by omega) | exact bcells_get (by omega) | exact icells_get (by omega) | exact tcells_get (by omega) | exact ucells_get (by omega)) | exact cell_rd (rd_old (by assumption) rfl) (by first | exact bcells_at (by omega) | exact ucells_at (by omega) | exact icells_at (by omega) | exact tcells_at (by omega) | exact bcells_get (by omega) | exact icells_get (by omega) | exact tcells_get (by omega) | exact ucells_get (by omega)) | exact cell_old (by assumption) (by simp [fps]))) ?_
  refine vl_val rfl (.some rfl) (val_lenSl Try.runUnderlying22 rfl) ?_
  refine vl_val rfl (.some rfl) (val_move rfl) ?_
  refine vl_nil ?_
  refine vc_block ?_
  refine vc_loopw (fun m E H => ∃ (i : Nat) (L' : List (Sl Nat)), i ≤ S.length ∧ m = S.length - i ∧ L'.length = S.length ∧ vals L' = mixG (insF t S V x) (fun j => V.getD j []) V.length i ∧ E = [(0, .pointer (some ⟨b, 0, none⟩)), (1, .int .u64 x), (9, .slice As S.length cs), (10, .int .i64 S.length), (11, .int .i64 i)] ∧ H = [RKb b t As S.length cs Al L'.length cl, HR Al L'.length cl (L'.map hdr), big (L'.map rwC)]) (S.length) ⟨_, _, _, ⟨0, L, by omega, rfl, by omega, by rw [mixG_zero, range_getD]; exact hL, rfl, rfl⟩, (by repeat (first | exact trivial | refine ⟨rfl, ?_⟩ | refine ⟨le_item rfl (by first | rfl | (congr 1; omega) | (simp; done) | (simp; omega)), ?_⟩)), (by repeat (first | exact .nil | (apply Sub.cons; · repeat (first | exact .head | apply Take.tail))))⟩ ?_
  intro m E H hI
  obtain ⟨i, L', hi, rfl, hLl, hL', rfl, rfl⟩ := hI
  refine vc_seq ?_
  refine vc_region ?_
  refine vl_val rfl (.some rfl) (val_lt rfl rfl) ?_
  refine vl_nil ?_
  refine vc_seq ?_
  refine vc_cond rfl (fun hc0 => ?_) (fun hc0 => ?_)
  · (try replace hc0 := of_decide_eq_true hc0)
    obtain ⟨r, hr⟩ := row_at (L := L') (i := i) (by omega)
    have hrv : r.l = V.getD i [] := by have := vals_get hr; rw [hL', mixG_get (by omega), if_neg (by omega)] at this; exact this.symm
    have hrg := hK.good i (by omega)
    rw [← hrv] at hrg
    refine vc_skip ?_
    refine vc_seq ?_
    refine vc_block ?_
    refine vc_seq ?_
    refine vc_region ?_
    refine vl_val rfl (.some rfl) (val_move rfl) ?_
    refine vl_val rfl (.some rfl) (val_indexAddr Try.runUnderlying22 Try.sizeOf81 rfl rfl (rd_oldM hs) (by omega) (by omega) (by rw [seedC_len, Int.toNat_natCast]; omega)) ?_
    refine vl_val rfl (.some rfl) (val_loadAgg Try.isAgg81 Try.sizeOf81 rfl (cells_rd (us := seedV (S.getD i (0, 0))) (rd_oldM hs) (seed_at rfl (by omega))) rfl) ?_
    refine vl_alloc rfl rfl (.some rfl) Try.zeroValue81 (fun r5 => ?_)
    refine vl_val rfl (.some rfl) (val_assign rfl) ?_
    first | refine vl_store rfl rfl .none rfl rfl Try.sizeOf81 rfl (by repeat (first | exact .head | apply In.tail | apply Take.tail | apply Upd.tail)) (by first | decide | exact Nat.le_refl _ | exact Nat.le_of_ble_eq_true rfl | (simp; omega)) ?_ | refine vl_storeSl rfl rfl .none rfl rfl Try.sizeOf81 rfl (by simp [Value.cells]) (by repeat (first | exact .head | apply In.tail | apply Take.tail | apply Upd.tail)) (by first | decide | (simp [Value.cells]; omega)) ?_
    refine vl_nil ?_
    refine vc_drawsS [0, 1, 2, 3, 4, 5, 6, 7, 8, 9, 10, 11, 12, 13, 15, 16, 17, 18, 20] [21] [0, 1, 2, 3, 4, 5, 6, 7, 8, 9, 10, 11, 12, 13, 15, 16, 17, 18, 14, 19, 20, 21] [RKb b t As S.length cs Al L'.length cl, HR Al L'.length cl (L'.map hdr), big (L'.map rwC), cells r5 [.int .u64 (S.getD i (0, 0)).1, .int .u64 (S.getD i (0, 0)).2] 81] (by repeat (first | exact .nil | (apply Sub.cons; · repeat (first | exact .head | apply Take.tail)))) rfl (by kernel_rfl) (fun _ _ _ h => h) ?_
    refine vd_val rfl rfl rfl (.some rfl) (val_move rfl) ?_
    refine vd_val rfl rfl rfl (.some rfl) (val_nil rfl rfl) ?_
    refine vd_val rfl rfl rfl (.some rfl) (by first | exact val_fieldAddr Try.runUnderlying96 rfl Try.sizeOf33 rfl | exact val_fieldAddrR Try.runUnderlying96 rfl Try.sizeOf33 rfl) ?_
    refine vd_val rfl rfl rfl (.some rfl) (val_load Try.isAgg33 rfl (by first | exact cell_cells (by repeat (first | exact .head | apply In.tail | apply Take.tail | apply Upd.tail)) rfl | exact cell_rd (rd_sl (by repeat (first | exact .head | apply In.tail | apply Take.tail | apply Upd.tail))) (by first | exact bcells_at (by omega) | exact ucells_at (by omega) | exact icells_at (by omega) | exact tcells_at (by omega) | exact bcells_get (by omega) | exact icells_get (by omega) | exact tcells_get (by omega) | exact ucells_get (by omega)) | exact cell_rd (rd_old (by assumption) rfl) (by first | exact bcells_at (by omega) | exact ucells_at (by omega) | exact icells_at (by omega) | exact tcells_at (by omega) | exact bcells_get (by omega) | exact icells_get (by omega) | exact tcells_get (by omega) | exact ucells_get (by omega)) | exact cell_old (by assumption) (by simp [fps]))) ?_
    refine vd_val rfl rfl rfl (.some rfl) (val_move rfl) ?_
    refine vd_val rfl rfl rfl (.some rfl) (val_move rfl) ?_
    refine vd_val rfl rfl rfl (.some rfl) (val_nil rfl rfl) ?_
    refine vd_val rfl rfl rfl (.some rfl) (by first | exact val_fieldAddr Try.runUnderlying96 rfl Try.sizeOf33 rfl | exact val_fieldAddrR Try.runUnderlying96 rfl Try.sizeOf33 rfl) ?_
    refine vd_val rfl rfl rfl (.some rfl) (val_load Try.isAgg33 rfl (by first | exact cell_cells (by repeat (first | exact .head | apply In.tail | apply Take.tail | apply Upd.tail)) rfl | exact cell_rd (rd_sl (by repeat (first | exact .head | apply In.tail | apply Take.tail | apply Upd.tail))) (by first | exact bcells_at (by omega) | exact ucells_at (by omega) | exact icells_at (by omega) | exact tcells_at (by omega) | exact bcells_get (by omega) | exact icells_get (by omega) | exact tcells_get (by omega) | exact ucells_get (by omega)) | exact cell_rd (rd_old (by assumption) rfl) (by first | exact bcells_at (by omega) | exact ucells_at (by omega) | exact icells_at (by omega) | exact tcells_at (by omega) | exact bcells_get (by omega) | exact icells_get (by omega) | exact tcells_get (by omega) | exact ucells_get (by omega)) | exact cell_old (by assumption) (by simp [fps]))) ?_
    refine vd_val rfl rfl rfl (.some rfl) (val_move rfl) ?_
    refine vd_val rfl rfl rfl (.some rfl) (val_indexAddr Try.runUnderlying33 Try.sizeOf25 rfl rfl (rd_sl (vs := L'.map hdr) (by repeat (first | exact .head | apply In.tail | apply Take.tail | apply Upd.tail))) (by omega) (by omega) (by rw [List.length_map]; omega)) ?_
    refine vd_val rfl rfl rfl (.some rfl) (val_load Try.isAgg25 rfl (cell_rd (rd_sl (vs := L'.map hdr) (by repeat (first | exact .head | apply In.tail | apply Take.tail | apply Upd.tail))) (hdr_at hr))) ?_
    refine vd_val rfl rfl rfl (.some rfl) (val_loadAgg Try.isAgg81 Try.sizeOf81 rfl (by first | exact cells_whole (by repeat (first | exact .head | apply In.tail | apply Take.tail | apply Upd.tail)) | exact cells_part (by repeat (first | exact .head | apply In.tail | apply Take.tail | apply Upd.tail)) rfl) rfl) ?_
    refine vd_val rfl rfl rfl (.some rfl) (val_move rfl) ?_
    refine vd_val rfl rfl rfl (.some rfl) (val_move rfl) ?_
    refine vd_val rfl rfl rfl (.some rfl) (val_nil rfl rfl) ?_
    refine vd_val rfl rfl rfl (.some rfl) (by first | exact val_fieldAddr Try.runUnderlying96 rfl Try.sizeOf3 rfl | exact val_fieldAddrR Try.runUnderlying96 rfl Try.sizeOf3 rfl) ?_
    refine vd_val rfl rfl rfl (.some rfl) (val_load Try.isAgg3 rfl (by first | exact cell_cells (by repeat (first | exact .head | apply In.tail | apply Take.tail | apply Upd.tail)) rfl | exact cell_rd (rd_sl (by repeat (first | exact .head | apply In.tail | apply Take.tail | apply Upd.tail))) (by first | exact bcells_at (by omega) | exact ucells_at (by omega) | exact icells_at (by omega) | exact tcells_at (by omega) | exact bcells_get (by omega) | exact icells_get (by omega) | exact tcells_get (by omega) | exact ucells_get (by omega)) | exact cell_rd (rd_old (by assumption) rfl) (by first | exact bcells_at (by omega) | exact ucells_at (by omega) | exact icells_at (by omega) | exact tcells_at (by omega) | exact bcells_get (by omega) | exact icells_get (by omega) | exact tcells_get (by omega) | exact ucells_get (by omega)) | exact cell_old (by assumption) (by simp [fps]))) ?_
    refine vd_op rfl rfl ?_
    refine vl_callV rfl rfl (.some rfl) Try.call62 rfl (fun w hw => gHash (S.getD i (0, 0)).1 (S.getD i (0, 0)).2 x (hK.seeds _ (getD_mem (0, 0) (by omega))).1 (hK.seeds _ (getD_mem (0, 0) (by omega))).2 hx w) ?_
    refine vl_nil ?_
    refine ⟨fun _ => ⟨_, (by repeat (first | exact .nil | (apply Sub.cons; · repeat (first | exact .head | apply Take.tail))))⟩, ?_⟩
    refine vd_op rfl rfl ?_
    refine vl_call (C := []) rfl rfl (.some rfl) Try.call61 rfl .nil (fun w hw => wAdd r.A r.c r.l (hashN (S.getD i (0, 0)) x) t hrg.1 hrg.2 (by omega) (by omega) (Nat.lt_trans (hashN_lt _ _) (by decide)) w (rdw (rd_big (n := r.l.length) (c := r.c) (e := 30) (sz := 1) (l := L'.map rwC) (by repeat (first | exact .head | apply In.tail | apply Take.tail | apply Upd.tail)) (List.mem_map.2 ⟨r, List.mem_of_getElem? hr, rfl⟩)) hw)) (fun v H' h => ?_)
    obtain ⟨A35, c35, rfl, rfl⟩ := h
    show VL _ _ _ _ _ (_ :: _)
    refine vl_nil ?_
    refine ⟨fun _ => ⟨_, (by repeat (first | exact .nil | (apply Sub.cons; · repeat (first | exact .head | apply Take.tail))))⟩, ?_⟩
    refine vd_val rfl rfl rfl (.some rfl) (val_indexAddr Try.runUnderlying33 Try.sizeOf25 rfl rfl (rd_sl (vs := L'.map hdr) (by repeat (first | exact .head | apply In.tail | apply Take.tail | apply Upd.tail))) (by omega) (by omega) (by rw [List.length_map]; omega)) ?_
    refine vd_op rfl rfl ?_
    refine vl_storeSl (vs := L'.map hdr) rfl rfl .none rfl rfl Try.sizeOf25 rfl (by simp [Value.cells]) (by repeat (first | exact .head | apply In.tail | apply Take.tail | apply Upd.tail)) (by rw [List.length_map]; show Int.toNat (i : Int) * 1 + 1 ≤ _; omega) ?_
    rw [set_laidS (hs := L'.map hdr) (i := i) (by rw [List.length_map]; omega)]
    refine vl_eqv (Eqv.perm (Take.perm (c := big (L'.map rwC)) (by repeat (first | exact .head | apply In.tail | apply Take.tail | apply Upd.tail)))) ?_
    refine vl_eqv (rows_open L' i r hr _) ?_
    refine vl_sub (sub_skip (sub_self _)) ?_
    refine vl_eqv (Eqv.perm (Take.perm (c := rwC ⟨A35, c35, putK t r.l (hashN (S.getD i (0, 0)) x)⟩) (by repeat (first | exact .head | apply In.tail | apply Take.tail | apply Upd.tail)))) ?_
    refine vl_eqv (rows_close L' i ⟨A35, c35, putK t r.l (hashN (S.getD i (0, 0)) x)⟩ (by omega) _) ?_
    obtain ⟨L2, hL2⟩ : ∃ Lq, L'.set i ⟨A35, c35, putK t r.l (hashN (S.getD i (0, 0)) x)⟩ = Lq := ⟨_, rfl⟩
    have hL2h : (L'.map hdr).set i (.slice A35 (putK t r.l (hashN (S.getD i (0, 0)) x)).length c35) = L2.map hdr := by rw [← hL2, List.map_set]
    have hL2l : L2.length = L'.length := by rw [← hL2, List.length_set]
    have hL2v : vals L2 = (vals L').set i (putK t r.l (hashN (S.getD i (0, 0)) x)) := by rw [← hL2]; unfold vals; rw [List.map_set]
    rw [hL2, hL2h, ← hL2l]
    rw [hL', hrv, mixG_set (show putK t (V.getD i []) (hashN (S.getD i (0, 0)) x) = insF t S V x i from rfl)] at hL2v
    refine vl_nil ?_
    refine ⟨fun h => (by cases h), ?_⟩
    refine vd_nil ?_
    refine vc_region ?_
    refine vl_val rfl (.some rfl) (val_add rfl rfl (by first | exact w_i64 (by omega) (by omega) | rfl)) ?_
    refine vl_val rfl (.some rfl) (val_move rfl) ?_
    refine vl_nil ?_
    exact ⟨(S.length - (i + 1)), _, _, _, by omega, (by repeat (first | exact trivial | refine ⟨rfl, ?_⟩ | refine ⟨le_item rfl (by first | rfl | (congr 1; omega) | (simp; done) | (simp; omega)), ?_⟩)), (by repeat (first | exact .nil | (apply Sub.cons; · repeat (first | exact .head | apply Take.tail)))), ⟨i + 1, L2, by omega, rfl, by omega, hL2v, rfl, rfl⟩⟩
  · (try replace hc0 := of_decide_eq_false hc0)
    refine vc_exit ?_
    refine ⟨_, RQ b t As cs S Al cl L', _, res0 Try.results25, (by repeat (first | exact .nil | (apply Sub.cons; · repeat (first | exact .head | apply Take.tail)))), ?_⟩
    obtain rfl : i = S.length := by omega
    exact ⟨L', by rw [hL', hSn, mixG_all]; rfl, rfl⟩
set_option maxRecDepth 20000 in
theorem wSame (b b2 t : Nat) (As As2 : Option Addr) (cs cs2 : Nat) (S : List (Nat × Nat)) (Al Al2 : Option Addr) (cl cl2 n1 n2 : Nat) (hSn : S.length ≤ 1000) (w : World) (hs : ReadsM w (fps [RKb b t As S.length cs Al n1 cl, RKb b2 t As2 S.length cs2 Al2 n2 cl2]) As (seedC S)) (hs2 : ReadsM w (fps [RKb b t As S.length cs Al n1 cl, RKb b2 t As2 S.length cs2 Al2 n2 cl2]) As2 (seedC S)) : FnR Try.prog 63 [.pointer (some ⟨b, 0, none⟩), .pointer (some ⟨b2, 0, none⟩)] [RKb b t As S.length cs Al n1 cl, RKb b2 t As2 S.length cs2 Al2 n2 cl2] (.bool true) w := by
  refine fn_enter Try.func63 rfl Try.ntmps63 rfl ?_
  refine vc_seq ?_
  refine vc_region ?_
  refine vl_val rfl (.some rfl) (val_assign rfl) ?_
  refine vl_nil ?_
  refine vc_seq ?_
  refine vc_seq ?_
  refine vc_draws [0, 1, 2, 3, 4, 5, 6, 7, 8, 9, 10, 11, 12, 13, 14, 15, 16, 17, 18, 19, 20, 21] [] [0, 1, 2, 3, 4, 5, 6, 7, 8, 9, 10, 11, 12, 13, 14, 15, 16, 17, 18, 19, 20, 21] rfl (by kernel_rfl) (fun _ _ _ h => h) ?_
  refine vd_val rfl rfl rfl (.some rfl) (val_move rfl) ?_
  refine vd_val rfl rfl rfl (.some rfl) (val_nil rfl rfl) ?_
  refine vd_val rfl rfl rfl (.some rfl) (by first | exact val_fieldAddr Try.runUnderlying96 rfl Try.sizeOf3 rfl | exact val_fieldAddrR Try.runUnderlying96 rfl Try.sizeOf3 rfl) ?_
  refine vd_val rfl rfl rfl (.some rfl) (val_load Try.isAgg3 rfl (by first | exact cell_cells (by repeat (first | exact .head | apply In.tail | apply Take.tail | apply Upd.tail)) rfl | exact cell_rd (rd_sl (by repeat (first | exact .head | apply In.tail | apply Take.tail | apply Upd.tail))) (by first | exact bcells_at (by omega) | exact ucells_at (by omega) | exact icells_at (by omega) | exact tcells_at (by omega) | exact bcells_get (by omega) | exact icells_get (by omega) | exact tcells_get (by omega) | exact ucells_get (by omega)) | exact cell_rd (rd_old (by assumption) rfl) (by first | exact bcells_at (by omega) | exact ucells_at (by omega) | exact icells_at (by omega) | exact tcells_at (by omega) | exact bcells_get (by omega) | exact icells_get (by omega) | exact tcells_get (by omega) | exact ucells_get (by omega)) | exact cell_old (by assumption) (by simp [fps]))) ?_
  refine vd_val rfl rfl rfl (.some rfl) (val_move rfl) ?_
  refine vd_val rfl rfl rfl (.some rfl) (val_nil rfl rfl) ?_
  refine vd_val rfl rfl rfl (.some rfl) (by first | exact val_fieldAddr Try.runUnderlying96 rfl Try.sizeOf3 rfl | exact val_fieldAddrR Try.runUnderlying96 rfl Try.sizeOf3 rfl) ?_
  refine vd_val rfl rfl rfl (.some rfl) (val_load Try.isAgg3 rfl (by first | exact cell_cells (by repeat (first | exact .head | apply In.tail | apply Take.tail | apply Upd.tail)) rfl | exact cell_rd (rd_sl (by repeat (first | exact .head | apply In.tail | apply Take.tail | apply Upd.tail))) (by first | exact bcells_at (by omega) | exact ucells_at (by omega) | exact icells_at (by omega) | exact tcells_at (by omega) | exact bcells_get (by omega) | exact icells_get (by omega) | exact tcells_get (by omega) | exact ucells_get (by omega)) | exact cell_rd (rd_old (by assumption) rfl) (by first | exact bcells_at (by omega) | exact ucells_at (by omega) | exact icells_at (by omega) | exact tcells_at (by omega) | exact bcells_get (by omega) | exact icells_get (by omega) | exact tcells_get (by omega) | exact ucells_get (by omega)) | exact cell_old (by assumption) (by simp [fps]))) ?_
  refine vd_val rfl rfl rfl (.some rfl) (val_net rfl rfl (rfl)) ?_
  refine vd_val rfl rfl rfl (.some rfl) (val_move rfl) ?_
  refine vd_on rfl rfl rfl rfl rfl rfl (.some rfl) (val_move rfl) ?_
  refine vd_on rfl rfl rfl rfl rfl rfl (.some rfl) (val_nil rfl rfl) ?_
  refine vd_on rfl rfl rfl rfl rfl rfl (.some rfl) (by first | exact val_fieldAddr Try.runUnderlying96 rfl Try.sizeOf22 rfl | exact val_fieldAddrR Try.runUnderlying96 rfl Try.sizeOf22 rfl) ?_
  refine vd_on rfl rfl rfl rfl rfl rfl (.some rfl) (val_load Try.isAgg22 rfl (by first | exact cell_cells (by repeat (first | exact .head | apply In.tail | apply Take.tail | apply Upd.tail)) rfl | exact cell_rd (rd_sl (by repeat (first | exact .head | apply In.tail | apply Take.tail | apply Upd.tail))) (by first | exact bcells_at (by omega) | exact ucells_at (by omega) | exact icells_at (by omega) | exact tcells_at (by omega) | exact bcells_get (by omega) | exact icells_get (by omega) | exact tcells_get (by omega) | exact ucells_get (by omega)) | exact cell_rd (rd_old (by assumption) rfl) (by first | exact bcells_at (by omega) | exact ucells_at (by omega) | exact icells_at (by omega) | exact tcells_at (by omega) | exact bcells_get (by omega) | exact icells_get (by omega) | exact tcells_get (by omega) | exact ucells_get (by omega)) | exact cell_old (by assumption) (by simp [fps]))) ?_
  refine vd_on rfl rfl rfl rfl rfl rfl (.some rfl) (val_lenSl Try.runUnderlying22 rfl) ?_
  refine vd_on rfl rfl rfl rfl rfl rfl (.some rfl) (val_move rfl) ?_
  refine vd_on rfl rfl rfl rfl rfl rfl (.some rfl) (val_nil rfl rfl) ?_
  refine vd_on rfl rfl rfl rfl rfl rfl (.some rfl) (by first | exact val_fieldAddr Try.runUnderlying96 rfl Try.sizeOf22 rfl | exact val_fieldAddrR Try.runUnderlying96 rfl Try.sizeOf22 rfl) ?_
  refine vd_on rfl rfl rfl rfl rfl rfl (.some rfl) (val_load Try.isAgg22 rfl (by first | exact cell_cells (by repeat (first | exact .head | apply In.tail | apply Take.tail | apply Upd.tail)) rfl | exact cell_rd (rd_sl (by repeat (first | exact .head | apply In.tail | apply Take.tail | apply Upd.tail))) (by first | exact bcells_at (by omega) | exact ucells_at (by omega) | exact icells_at (by omega) | exact tcells_at (by omega) | exact bcells_get (by omega) | exact icells_get (by omega) | exact tcells_get (by omega) | exact ucells_get (by omega)) | exact cell_rd (rd_old (by assumption) rfl) (by first | exact bcells_at (by omega) | exact ucells_at (by omega) | exact icells_at (by omega) | exact tcells_at (by omega) | exact bcells_get (by omega) | exact icells_get (by omega) | exact tcells_get (by omega) | exact ucells_get (by omega)) | exact cell_old (by assumption) (by simp [fps]))) ?_
  refine vd_on rfl rfl rfl rfl rfl rfl (.some rfl) (val_lenSl Try.runUnderlying22 rfl) ?_
  refine vd_on rfl rfl rfl rfl rfl rfl (.some rfl) (val_net rfl rfl (rfl)) ?_
  refine vd_val rfl rfl rfl (.some rfl) (val_pick rfl rfl) ?_
  refine vd_nil ?_
  refine vc_cond rfl (fun h => by cases h) (fun _ => ?_)
  refine vc_skip ?_
  refine vc_seq ?_
  refine vc_seq ?_
  refine vc_region ?_
  refine vl_val rfl (.some rfl) (val_move rfl) ?_
  refine vl_val rfl (.some rfl) (val_nil rfl rfl) ?_
  refine vl_val rfl (.some rfl) (by first | exact val_fieldAddr Try.runUnderlying96 rfl Try.sizeOf22 rfl | exact val_fieldAddrR Try.runUnderlying96 rfl Try.sizeOf22 rfl) ?_
  refine vl_val rfl (.some rfl) (val_load Try.isAgg22 rfl (by first | exact cell_cells (by repeat (first | exact .head | apply In.tail | apply Take.tail | apply Upd.tail)) rfl | exact cell_rd (rd_sl (by repeat (first | exact .head | apply In.tail | apply Take.tail | apply Upd.tail))) (by first | exact bcells_at (by omega) | exact ucells_at (by omega) | exact icells_at (by omega) | exact tcells_at (by omega) | exact bcells_get (by omega) | exact icells_get (by omega) | exact tcells_get (by omega) | exact ucells_get (by omega)) | exact cell_rd (rd_old (by assumption) rfl) (by first | exact bcells_at (by omega) | exact ucells_at (by omega) | exact icells_at (by omega) | exact tcells_at (by omega) | exact bcells_get (by omega) | exact icells_get (by omega) | exact tcells_get (by omega) | exact ucells_get (by omega)) | exact cell_old (by assumption) (by simp [fps]))) ?_
  refine vl_val rfl (.some rfl) (val_lenSl Try.runUnderlying22 rfl) ?_
  refine vl_val rfl (.some rfl) (val_move rfl) ?_
  refine vl_nil ?_
  refine vc_block ?_
  refine vc_loopw (fun k E H => ∃ i : Nat, i ≤ S.length ∧ k = S.length - i ∧ E = [(0, .pointer (some ⟨b, 0, none⟩)), (1, .pointer (some ⟨b2, 0, none⟩)), (32, .int .i64 S.length), (33, .int .i64 i)] ∧ H = [RKb b t As S.length cs Al n1 cl, RKb b2 t As2 S.length cs2 Al2 n2 cl2]) (S.length) ⟨_, _, _, ⟨0, by omega, rfl, rfl, rfl⟩, (by repeat (first | exact trivial | refine ⟨rfl, ?_⟩ | refine ⟨le_item rfl (by first | rfl | (congr 1; omega) | (simp; done) | (simp; omega)), ?_⟩)), (by repeat (first | exact .nil | (apply Sub.cons; · repeat (first | exact .head | apply Take.tail))))⟩ ?_
  intro k E H hI
  obtain ⟨i, hi, rfl, rfl, rfl⟩ := hI
  refine vc_seq ?_
  refine vc_region ?_
  refine vl_val rfl (.some rfl) (val_lt rfl rfl) ?_
  refine vl_nil ?_
  refine vc_seq ?_
  refine vc_cond rfl (fun hc1 => ?_) (fun hc1 => ?_)
  · (try replace hc1 := of_decide_eq_true hc1)
    refine vc_skip ?_
    refine vc_seq ?_
    refine vc_block ?_
    refine vc_seq ?_
    refine vc_region ?_
    refine vl_val rfl (.some rfl) (val_move rfl) ?_
    refine vl_val rfl (.some rfl) (val_assign rfl) ?_
    refine vl_nil ?_
    refine vc_seq ?_
    refine vc_draws [0, 1, 2, 3, 4, 5, 6, 7, 8, 9, 10, 11, 12, 13, 14] [] [0, 1, 2, 3, 4, 5, 6, 7, 8, 9, 10, 11, 12, 13, 14] rfl (by kernel_rfl) (fun _ _ _ h => h) ?_
    refine vd_val rfl rfl rfl (.some rfl) (val_move rfl) ?_
    refine vd_val rfl rfl rfl (.some rfl) (val_nil rfl rfl) ?_
    refine vd_val rfl rfl rfl (.some rfl) (by first | exact val_fieldAddr Try.runUnderlying96 rfl Try.sizeOf22 rfl | exact val_fieldAddrR Try.runUnderlying96 rfl Try.sizeOf22 rfl) ?_
    refine vd_val rfl rfl rfl (.some rfl) (val_load Try.isAgg22 rfl (by first | exact cell_cells (by repeat (first | exact .head | apply In.tail | apply Take.tail | apply Upd.tail)) rfl | exact cell_rd (rd_sl (by repeat (first | exact .head | apply In.tail | apply Take.tail | apply Upd.tail))) (by first | exact bcells_at (by omega) | exact ucells_at (by omega) | exact icells_at (by omega) | exact tcells_at (by omega) | exact bcells_get (by omega) | exact icells_get (by omega) | exact tcells_get (by omega) | exact ucells_get (by omega)) | exact cell_rd (rd_old (by assumption) rfl) (by first | exact bcells_at (by omega) | exact ucells_at (by omega) | exact icells_at (by omega) | exact tcells_at (by omega) | exact bcells_get (by omega) | exact icells_get (by omega) | exact tcells_get (by omega) | exact ucells_get (by omega)) | exact cell_old (by assumption) (by simp [fps]))) ?_
    refine vd_val rfl rfl rfl (.some rfl) (val_move rfl) ?_
    refine vd_val rfl rfl rfl (.some rfl) (val_indexAddr Try.runUnderlying22 Try.sizeOf81 rfl rfl (rd_oldM hs) (by omega) (by omega) (by rw [seedC_len, Int.toNat_natCast]; omega)) ?_
    refine vd_val rfl rfl rfl (.some rfl) (val_loadAgg Try.isAgg81 Try.sizeOf81 rfl (cells_rd (us := seedV (S.getD i (0, 0))) (rd_oldM hs) (seed_at rfl (by omega))) rfl) ?_
    refine vd_val rfl rfl rfl (.some rfl) (val_move rfl) ?_
    refine vd_val rfl rfl rfl (.some rfl) (val_nil rfl rfl) ?_
    refine vd_val rfl rfl rfl (.some rfl) (by first | exact val_fieldAddr Try.runUnderlying96 rfl Try.sizeOf22 rfl | exact val_fieldAddrR Try.runUnderlying96 rfl Try.sizeOf22 rfl) ?_
    refine vd_val rfl rfl rfl (.some rfl) (val_load Try.isAgg22 rfl (by first | exact cell_cells (by repeat (first | exact .head | apply In.tail | apply Take.tail | apply Upd.tail)) rfl | exact cell_rd (rd_sl (by repeat (first | exact .head | apply In.tail | apply Take.tail | apply Upd.tail))) (by first | exact bcells_at (by omega) | exact ucells_at (by omega) | exact icells_at (by omega) | exact tcells_at (by omega) | exact bcells_get (by omega) | exact icells_get (by omega) | exact tcells_get (by omega) | exact ucells_get (by omega)) | exact cell_rd (rd_old (by assumption) rfl) (by first | exact bcells_at (by omega) | exact ucells_at (by omega) | exact icells_at (by omega) | exact tcells_at (by omega) | exact bcells_get (by omega) | exact icells_get (by omega) | exact tcells_get (by omega) | exact ucells_get (by omega)) | exact cell_old (by assumption) (by simp [fps]))) ?_
    refine vd_val rfl rfl rfl (.some rfl) (val_move rfl) ?_
    refine vd_val rfl rfl rfl (.some rfl) (val_indexAddr Try.runUnderlying22 Try.sizeOf81 rfl rfl (rd_oldM hs2) (by omega) (by omega) (by rw [seedC_len, Int.toNat_natCast]; omega)) ?_
    refine vd_val rfl rfl rfl (.some rfl) (val_loadAgg Try.isAgg81 Try.sizeOf81 rfl (cells_rd (us := seedV (S.getD i (0, 0))) (rd_oldM hs2) (seed_at rfl (by omega))) rfl) ?_
    refine vd_val rfl rfl rfl (.some rfl) (val_opO rfl rfl (fun w => run_eqGuard_agg w _ _ _ _ _ _ (by kernel_rfl)) (bin_agg_ne (b := true) (fun w => (seed_equal (S.getD i (0, 0)) (S.getD i (0, 0)) w).trans (by simp)))) ?_
    refine vd_nil ?_
    refine vc_cond rfl (fun h => by cases h) (fun _ => ?_)
    refine vc_skip ?_
    refine vc_region ?_
    refine vl_val rfl (.some rfl) (val_add rfl rfl (by first | exact w_i64 (by omega) (by omega) | rfl)) ?_
    refine vl_val rfl (.some rfl) (val_move rfl) ?_
    refine vl_nil ?_
    exact ⟨S.length - (i + 1), _, _, _, by omega, (by repeat (first | exact trivial | refine ⟨rfl, ?_⟩ | refine ⟨le_item rfl (by first | rfl | (congr 1; omega) | (simp; done) | (simp; omega)), ?_⟩)), (by repeat (first | exact .nil | (apply Sub.cons; · repeat (first | exact .head | apply Take.tail)))), ⟨i + 1, by omega, rfl, rfl, rfl⟩⟩
  · (try replace hc1 := of_decide_eq_false hc1)
    refine vc_exit ?_
    refine vc_seq ?_
    refine vc_region ?_
    refine vl_val rfl (.some rfl) (val_assign rfl) ?_
    refine vl_nil ?_
    refine vc_ret ?_
    refine ⟨_, [RKb b t As S.length cs Al n1 cl, RKb b2 t As2 S.length cs2 Al2 n2 cl2], _, res1 Try.results63 rfl, (by repeat (first | exact .nil | (apply Sub.cons; · repeat (first | exact .head | apply Take.tail)))), ?_⟩
    exact ⟨rfl, rfl⟩
set_option maxRecDepth 20000 in
set_option maxHeartbeats 1000000 in
theorem wMerge (b t : Nat) (As : Option Addr) (cs : Nat) (S : List (Nat × Nat)) (Al : Option Addr) (cl : Nat) (L : List (Sl Nat)) (V : List (List Nat)) (hL : vals L = V) (hK : OkK t S V) (b2 : Nat) (As2 : Option Addr) (cs2 : Nat) (Al2 : Option Addr) (cl2 : Nat) (L2 : List (Sl Nat)) (V2 : List (List Nat)) (hL2 : vals L2 = V2) (hK2 : OkK t S V2) (w : World) (hs : ReadsM w (fps (RQ b t As cs S Al cl L ++ RQ b2 t As2 cs2 S Al2 cl2 L2)) As (seedC S)) (hs2 : ReadsM w (fps (RQ b t As cs S Al cl L ++ RQ b2 t As2 cs2 S Al2 cl2 L2)) As2 (seedC S)) : Fn Try.prog 26 [.pointer (some ⟨b, 0, none⟩), .pointer (some ⟨b2, 0, none⟩)] (RQ b t As cs S Al cl L ++ RQ b2 t As2 cs2 S Al2 cl2 L2) (ret fun u H' => u = .int .i64 0 ∧ ∃ L', vals L' = mrgV t V V2 ∧ H' = RQ b t As cs S Al cl L' ++ RQ b2 t As2 cs2 S Al2 cl2 L2) w := by
  have hvl := vals_len L
  rw [hL] at hvl
  have hSn := hK.n
  have hn7 := hK.n7
  have ht2 := hK.t2
  have ht64 := hK.t64
  have hvl2 := vals_len L2
  rw [hL2] at hvl2
  have hSn2 := hK2.n
  refine fn_enter Try.func26 rfl Try.ntmps26 rfl ?_
  refine vc_seq ?_
  refine vc_region ?_
  refine vl_val rfl (.some rfl) (val_assign rfl) ?_
  refine vl_nil ?_
  refine vc_seq ?_
  refine vc_seq ?_
  refine vc_region ?_
  refine vl_val rfl (.some rfl) (val_move rfl) ?_
  refine vl_val rfl (.some rfl) (val_opO rfl rfl guard_ptr (bin_ptr_eq Try.runUnderlying47)) ?_
  refine vl_val rfl (.some rfl) (val_move rfl) ?_
  refine vl_on rfl rfl rfl rfl ?_
  refine vl_val rfl (.some rfl) (val_move rfl) ?_
  refine vl_on rfl rfl rfl rfl ?_
  refine vl_val rfl (.some rfl) (val_move rfl) ?_
  refine vl_on rfl rfl rfl rfl ?_
  refine vl_callR [RKb b t As S.length cs Al L.length cl, RKb b2 t As2 S.length cs2 Al2 L2.length cl2] rfl rfl (.some rfl) Try.call63 rfl (by repeat (first | exact .nil | (apply Sub.cons; · repeat (first | exact .head | apply Take.tail)))) (fun w hw => wSame b b2 t As As2 cs cs2 S Al Al2 cl cl2 L.length L2.length (by omega) w (readsM_old (C := [RKb b t As S.length cs Al L.length cl, RKb b2 t As2 S.length cs2 Al2 L2.length cl2]) hs (by repeat (first | exact .nil | (apply Sub.cons; · repeat (first | exact .head | apply Take.tail)))) hw) (readsM_old (C := [RKb b t As S.length cs Al L.length cl, RKb b2 t As2 S.length cs2 Al2 L2.length cl2]) hs2 (by repeat (first | exact .nil | (apply Sub.cons; · repeat (first | exact .head | apply Take.tail)))) hw)) ?_
  refine vl_on rfl rfl rfl rfl ?_
  refine vl_val rfl (.some rfl) (val_not rfl) ?_
  refine vl_val rfl (.some rfl) (val_pick rfl rfl) ?_
  refine vl_nil ?_
  refine vc_cond rfl (fun h => by cases h) (fun _ => ?_)
  refine vc_skip ?_
  refine vc_seq ?_
  refine vc_seq ?_
  refine vc_region ?_
  refine vl_val rfl (.some rfl) (val_move rfl) ?_
  refine vl_val rfl (.some rfl) (val_nil rfl rfl) ?_
  refine vl_val rfl (.some rfl) (by first | exact val_fieldAddr Try.runUnderlying96 rfl Try.sizeOf33 rfl | exact val_fieldAddrR Try.runUnderlying96 rfl Try.sizeOf33 rfl) ?_
  refine vl_val rfl (.some rfl) (val_load Try.isAgg33 rfl (by first | exact cell_cells (by repeat (first | exact .head | apply In.tail | apply Take.tail | apply Upd.tail)) rfl | exact cell_rd (rd_sl (by repeat (first | exact .head | apply In.tail | apply Take.tail | apply Upd.tail))) (by first | exact bcells_at (by omega) | exact ucells_at (by omega) | exact icells_at (by omega) | exact tcells_at (by omega) | exact bcells_get (by omega) | exact icells_get (by omega) | exact tcells_get (by omega) | exact ucells_get (by omega)) | exact cell_rd (rd_old (by assumption) rfl) (by first | exact bcells_at (by omega) | exact ucells_at (by omega) | exact icells_at (by omega) | exact tcells_at (by omega) | exact bcells_get (by omega) | exact icells_get (by omega) | exact tcells_get (by omega) | exact ucells_get (by omega)) | exact cell_old (by assumption) (by simp [fps]))) ?_
  refine vl_val rfl (.some rfl) (val_lenSl Try.runUnderlying33 rfl) ?_
  refine vl_val rfl (.some rfl) (val_move rfl) ?_
  refine vl_nil ?_
  refine vc_block ?_
  have hLS : L.length = S.length := by omega
  have hEx : ((L.length : Nat) : Int) = ((S.length : Nat) : Int) := by rw [hLS]
  refine vc_loopw (fun m E H => ∃ (i : Nat) (L' : List (Sl Nat)), i ≤ S.length ∧ m = S.length - i ∧ L'.length = S.length ∧ vals L' = (mixG (mrgF t V V2) (fun j => V.getD j []) V.length i) ∧ E = [(0, .pointer (some ⟨b, 0, none⟩)), (1, .pointer (some ⟨b2, 0, none⟩)), (20, .int .i64 S.length), (21, .int .i64 i)] ∧ H = [RKb b t As S.length cs Al L'.length cl, HR Al L'.length cl (L'.map hdr), big (L'.map rwC), RKb b2 t As2 S.length cs2 Al2 L2.length cl2, HR Al2 L2.length cl2 (L2.map hdr), big (L2.map rwC)]) (S.length) ⟨_, _, _, ⟨0, L, by omega, rfl, by omega, by rw [mixG_zero, range_getD]; exact hL, rfl, rfl⟩, (by repeat (first | exact trivial | refine ⟨rfl, ?_⟩ | refine ⟨le_item rfl (by first | rfl | (congr 1; omega) | (simp; done) | (simp; omega)), ?_⟩)), (by repeat (first | exact .nil | (apply Sub.cons; · repeat (first | exact .head | apply Take.tail))))⟩ ?_
  intro m E H hI
  obtain ⟨i, L', hi, rfl, hLl, hL', rfl, rfl⟩ := hI
  refine vc_seq ?_
  refine vc_region ?_
  refine vl_val rfl (.some rfl) (val_lt rfl rfl) ?_
  refine vl_nil ?_
  refine vc_seq ?_
  refine vc_cond rfl (fun hc1 => ?_) (fun hc1 => ?_)
  · (try replace hc1 := of_decide_eq_true hc1)
    obtain ⟨r, hr⟩ := row_at (L := L2) (i := i) (by omega)
    have hri := vals_get hr
    rw [hL2] at hri
    have hrl := (hK2.good i (by omega)).2
    rw [hri] at hrl
    refine vc_skip ?_
    refine vc_seq ?_
    refine vc_block ?_
    refine vc_seq ?_
    refine vc_region ?_
    refine vl_val rfl (.some rfl) (val_move rfl) ?_
    refine vl_val rfl (.some rfl) (val_assign rfl) ?_
    refine vl_nil ?_
    refine vc_seq ?_
    refine vc_region ?_
    refine vl_val rfl (.some rfl) (val_move rfl) ?_
    refine vl_val rfl (.some rfl) (val_nil rfl rfl) ?_
    refine vl_val rfl (.some rfl) (by first | exact val_fieldAddr Try.runUnderlying96 rfl Try.sizeOf33 rfl | exact val_fieldAddrR Try.runUnderlying96 rfl Try.sizeOf33 rfl) ?_
    refine vl_val rfl (.some rfl) (val_load Try.isAgg33 rfl (by first | exact cell_cells (by repeat (first | exact .head | apply In.tail | apply Take.tail | apply Upd.tail)) rfl | exact cell_rd (rd_sl (by repeat (first | exact .head | apply In.tail | apply Take.tail | apply Upd.tail))) (by first | exact bcells_at (by omega) | exact ucells_at (by omega) | exact icells_at (by omega) | exact tcells_at (by omega) | exact bcells_get (by omega) | exact icells_get (by omega) | exact tcells_get (by omega) | exact ucells_get (by omega)) | exact cell_rd (rd_old (by assumption) rfl) (by first | exact bcells_at (by omega) | exact ucells_at (by omega) | exact icells_at (by omega) | exact tcells_at (by omega) | exact bcells_get (by omega) | exact icells_get (by omega) | exact tcells_get (by omega) | exact ucells_get (by omega)) | exact cell_old (by assumption) (by simp [fps]))) ?_
    refine vl_val rfl (.some rfl) (val_move rfl) ?_
    refine vl_val rfl (.some rfl) (val_indexAddr Try.runUnderlying33 Try.sizeOf25 rfl rfl (rd_sl (vs := L2.map hdr) (by repeat (first | exact .head | apply In.tail | apply Take.tail | apply Upd.tail))) (by omega) (by omega) (by rw [List.length_map]; omega)) ?_
    refine vl_val rfl (.some rfl) (val_load Try.isAgg25 rfl (cell_rd (rd_sl (vs := L2.map hdr) (by repeat (first | exact .head | apply In.tail | apply Take.tail | apply Upd.tail))) (hdr_at hr))) ?_
    refine vl_val rfl (.some rfl) (val_lenSl Try.runUnderlying25 rfl) ?_
    refine vl_val rfl (.some rfl) (val_move rfl) ?_
    refine vl_nil ?_
    refine vc_block ?_
    refine vc_loopw (fun m E H => ∃ (j : Nat) (L' : List (Sl Nat)), j ≤ r.l.length ∧ m = r.l.length - j ∧ L'.length = S.length ∧ vals L' = (mixG (mrgF t V V2) (fun j => V.getD j []) V.length i).set i ((r.l.take j).foldl (putK t) (V.getD i [])) ∧ E = [(0, .pointer (some ⟨b, 0, none⟩)), (1, .pointer (some ⟨b2, 0, none⟩)), (5, .int .i64 i), (20, .int .i64 S.length), (21, .int .i64 i), (30, hdr r), (31, .int .i64 r.l.length), (32, .int .i64 j)] ∧ H = [RKb b t As S.length cs Al L'.length cl, HR Al L'.length cl (L'.map hdr), big (L'.map rwC), RKb b2 t As2 S.length cs2 Al2 L2.length cl2, HR Al2 L2.length cl2 (L2.map hdr), big (L2.map rwC)]) (r.l.length) ⟨_, _, _, ⟨0, L', by omega, rfl, hLl, by rw [hL']; exact (mrg_zero _ (by rfl)).symm, rfl, rfl⟩, (by repeat (first | exact trivial | refine ⟨rfl, ?_⟩ | refine ⟨le_item rfl (by first | rfl | (congr 1; omega) | (simp; done) | (simp; omega)), ?_⟩)), (by repeat (first | exact .nil | (apply Sub.cons; · repeat (first | exact .head | apply Take.tail))))⟩ ?_
    clear hLl hL'
    intro m E H hI
    obtain ⟨j, L', hj, rfl, hLl, hL', rfl, rfl⟩ := hI
    refine vc_seq ?_
    refine vc_region ?_
    refine vl_val rfl (.some rfl) (val_lt rfl rfl) ?_
    refine vl_nil ?_
    refine vc_seq ?_
    refine vc_cond rfl (fun hc2 => ?_) (fun hc2 => ?_)
    · (try replace hc2 := of_decide_eq_true hc2)
      obtain ⟨q, hq⟩ := row_at (L := L') (i := i) (by omega)
      have hqv : q.l = (r.l.take j).foldl (putK t) (V.getD i []) := by have := vals_get hq; rw [hL', getD_set (by rw [mixG_len]; omega), if_pos rfl] at this; exact this.symm
      have hqg := putsK_good (m := r.l.take j) (hK.good i (by omega)).1 (hK.good i (by omega)).2
      rw [← hqv] at hqg
      refine vc_skip ?_
      refine vc_seq ?_
      refine vc_block ?_
      refine vc_seq ?_
      refine vc_region ?_
      refine vl_val rfl (.some rfl) (val_indexAddr Try.runUnderlying25 Try.sizeOf30 rfl rfl (vs := ucells r.l) (rd_big (n := r.l.length) (c := r.c) (e := 30) (sz := 1) (l := L2.map rwC) (by repeat (first | exact .head | apply In.tail | apply Take.tail | apply Upd.tail)) (List.mem_map.2 ⟨r, List.mem_of_getElem? hr, rfl⟩)) (by omega) (by omega) (by rw [ucells_length]; omega)) ?_
      refine vl_val rfl (.some rfl) (val_load Try.isAgg30 rfl (cell_rd (rd_big (n := r.l.length) (c := r.c) (e := 30) (sz := 1) (l := L2.map rwC) (by repeat (first | exact .head | apply In.tail | apply Take.tail | apply Upd.tail)) (List.mem_map.2 ⟨r, List.mem_of_getElem? hr, rfl⟩)) (ucells_at (by omega)))) ?_
      refine vl_val rfl (.some rfl) (val_assign rfl) ?_
      refine vl_nil ?_
      refine vc_drawsS [0, 1, 2, 3, 4, 5, 6, 7, 8, 9, 10, 11, 12, 13, 14, 15, 16, 18] [19] [0, 1, 2, 3, 4, 5, 6, 7, 8, 9, 10, 11, 12, 13, 14, 15, 16, 17, 18, 19] [RKb b t As S.length cs Al L'.length cl, HR Al L'.length cl (L'.map hdr), big (L'.map rwC)] (by repeat (first | exact .nil | (apply Sub.cons; · repeat (first | exact .head | apply Take.tail)))) rfl (by kernel_rfl) (fun _ _ _ h => h) ?_
      refine vd_val rfl rfl rfl (.some rfl) (val_move rfl) ?_
      refine vd_val rfl rfl rfl (.some rfl) (val_nil rfl rfl) ?_
      refine vd_val rfl rfl rfl (.some rfl) (by first | exact val_fieldAddr Try.runUnderlying96 rfl Try.sizeOf33 rfl | exact val_fieldAddrR Try.runUnderlying96 rfl Try.sizeOf33 rfl) ?_
      refine vd_val rfl rfl rfl (.some rfl) (val_load Try.isAgg33 rfl (by first | exact cell_cells (by repeat (first | exact .head | apply In.tail | apply Take.tail | apply Upd.tail)) rfl | exact cell_rd (rd_sl (by repeat (first | exact .head | apply In.tail | apply Take.tail | apply Upd.tail))) (by first | exact bcells_at (by omega) | exact ucells_at (by omega) | exact icells_at (by omega) | exact tcells_at (by omega) | exact bcells_get (by omega) | exact icells_get (by omega) | exact tcells_get (by omega) | exact ucells_get (by omega)) | exact cell_rd (rd_old (by assumption) rfl) (by first | exact bcells_at (by omega) | exact ucells_at (by omega) | exact icells_at (by omega) | exact tcells_at (by omega) | exact bcells_get (by omega) | exact icells_get (by omega) | exact tcells_get (by omega) | exact ucells_get (by omega)) | exact cell_old (by assumption) (by simp [fps]))) ?_
      refine vd_val rfl rfl rfl (.some rfl) (val_move rfl) ?_
      refine vd_val rfl rfl rfl (.some rfl) (val_move rfl) ?_
      refine vd_val rfl rfl rfl (.some rfl) (val_nil rfl rfl) ?_
      refine vd_val rfl rfl rfl (.some rfl) (by first | exact val_fieldAddr Try.runUnderlying96 rfl Try.sizeOf33 rfl | exact val_fieldAddrR Try.runUnderlying96 rfl Try.sizeOf33 rfl) ?_
      refine vd_val rfl rfl rfl (.some rfl) (val_load Try.isAgg33 rfl (by first | exact cell_cells (by repeat (first | exact .head | apply In.tail | apply Take.tail | apply Upd.tail)) rfl | exact cell_rd (rd_sl (by repeat (first | exact .head | apply In.tail | apply Take.tail | apply Upd.tail))) (by first | exact bcells_at (by omega) | exact ucells_at (by omega) | exact icells_at (by omega) | exact tcells_at (by omega) | exact bcells_get (by omega) | exact icells_get (by omega) | exact tcells_get (by omega) | exact ucells_get (by omega)) | exact cell_rd (rd_old (by assumption) rfl) (by first | exact bcells_at (by omega) | exact ucells_at (by omega) | exact icells_at (by omega) | exact tcells_at (by omega) | exact bcells_get (by omega) | exact icells_get (by omega) | exact tcells_get (by omega) | exact ucells_get (by omega)) | exact cell_old (by assumption) (by simp [fps]))) ?_
      refine vd_val rfl rfl rfl (.some rfl) (val_move rfl) ?_
      refine vd_val rfl rfl rfl (.some rfl) (val_indexAddr Try.runUnderlying33 Try.sizeOf25 rfl rfl (rd_sl (vs := L'.map hdr) (by repeat (first | exact .head | apply In.tail | apply Take.tail | apply Upd.tail))) (by omega) (by omega) (by rw [List.length_map]; omega)) ?_
      refine vd_val rfl rfl rfl (.some rfl) (val_load Try.isAgg25 rfl (cell_rd (rd_sl (vs := L'.map hdr) (by repeat (first | exact .head | apply In.tail | apply Take.tail | apply Upd.tail))) (hdr_at hq))) ?_
      refine vd_val rfl rfl rfl (.some rfl) (val_move rfl) ?_
      refine vd_val rfl rfl rfl (.some rfl) (val_move rfl) ?_
      refine vd_val rfl rfl rfl (.some rfl) (val_nil rfl rfl) ?_
      refine vd_val rfl rfl rfl (.some rfl) (by first | exact val_fieldAddr Try.runUnderlying96 rfl Try.sizeOf3 rfl | exact val_fieldAddrR Try.runUnderlying96 rfl Try.sizeOf3 rfl) ?_
      refine vd_val rfl rfl rfl (.some rfl) (val_load Try.isAgg3 rfl (by first | exact cell_cells (by repeat (first | exact .head | apply In.tail | apply Take.tail | apply Upd.tail)) rfl | exact cell_rd (rd_sl (by repeat (first | exact .head | apply In.tail | apply Take.tail | apply Upd.tail))) (by first | exact bcells_at (by omega) | exact ucells_at (by omega) | exact icells_at (by omega) | exact tcells_at (by omega) | exact bcells_get (by omega) | exact icells_get (by omega) | exact tcells_get (by omega) | exact ucells_get (by omega)) | exact cell_rd (rd_old (by assumption) rfl) (by first | exact bcells_at (by omega) | exact ucells_at (by omega) | exact icells_at (by omega) | exact tcells_at (by omega) | exact bcells_get (by omega) | exact icells_get (by omega) | exact tcells_get (by omega) | exact ucells_get (by omega)) | exact cell_old (by assumption) (by simp [fps]))) ?_
      refine vd_op rfl rfl ?_
      refine vl_call (C := []) rfl rfl (.some rfl) Try.call61 rfl .nil (fun w hw => wAdd q.A q.c q.l (r.l.getD j 0) t hqg.1 hqg.2 (by omega) (by omega) (Nat.lt_trans (hK2.small i (by omega) _ (by rw [hri]; exact getD_mem 0 (by omega))) (by decide)) w (rdw (rd_big (n := q.l.length) (c := q.c) (e := 30) (sz := 1) (l := L'.map rwC) (by repeat (first | exact .head | apply In.tail | apply Take.tail | apply Upd.tail)) (List.mem_map.2 ⟨q, List.mem_of_getElem? hq, rfl⟩)) hw)) (fun v H' h => ?_)
      obtain ⟨A53, c53, rfl, rfl⟩ := h
      show VL _ _ _ _ _ (_ :: _)
      refine vl_nil ?_
      refine ⟨fun _ => ⟨_, (by repeat (first | exact .nil | (apply Sub.cons; · repeat (first | exact .head | apply Take.tail))))⟩, ?_⟩
      refine vd_val rfl rfl rfl (.some rfl) (val_indexAddr Try.runUnderlying33 Try.sizeOf25 rfl rfl (rd_sl (vs := L'.map hdr) (by repeat (first | exact .head | apply In.tail | apply Take.tail | apply Upd.tail))) (by omega) (by omega) (by rw [List.length_map]; omega)) ?_
      refine vd_op rfl rfl ?_
      refine vl_storeSl (vs := L'.map hdr) rfl rfl .none rfl rfl Try.sizeOf25 rfl (by simp [Value.cells]) (by repeat (first | exact .head | apply In.tail | apply Take.tail | apply Upd.tail)) (by rw [List.length_map]; show Int.toNat (i : Int) * 1 + 1 ≤ _; omega) ?_
      rw [set_laidS (hs := L'.map hdr) (i := i) (by rw [List.length_map]; omega)]
      refine vl_eqv (Eqv.perm (Take.perm (c := big (L'.map rwC)) (by repeat (first | exact .head | apply In.tail | apply Take.tail | apply Upd.tail)))) ?_
      refine vl_eqv (rows_open L' i q hq _) ?_
      refine vl_sub (sub_skip (sub_self _)) ?_
      refine vl_eqv (Eqv.perm (Take.perm (c := rwC ⟨A53, c53, putK t q.l (r.l.getD j 0)⟩) (by repeat (first | exact .head | apply In.tail | apply Take.tail | apply Upd.tail)))) ?_
      refine vl_eqv (rows_close L' i ⟨A53, c53, putK t q.l (r.l.getD j 0)⟩ (by omega) _) ?_
      obtain ⟨L3, hL3⟩ : ∃ Lq, L'.set i ⟨A53, c53, putK t q.l (r.l.getD j 0)⟩ = Lq := ⟨_, rfl⟩
      have hL3h : (L'.map hdr).set i (.slice A53 (putK t q.l (r.l.getD j 0)).length c53) = L3.map hdr := by rw [← hL3, List.map_set]
      have hL3l : L3.length = L'.length := by rw [← hL3, List.length_set]
      have hL3v : vals L3 = (vals L').set i (putK t q.l (r.l.getD j 0)) := by rw [← hL3]; unfold vals; rw [List.map_set]
      rw [hL3, hL3h, ← hL3l]
      rw [hL', hqv, List.set_set, ← fold_take (by omega)] at hL3v
      refine vl_nil ?_
      refine ⟨fun h => (by cases h), ?_⟩
      refine vd_nil ?_
      refine vc_region ?_
      refine vl_val rfl (.some rfl) (val_add rfl rfl (by first | exact w_i64 (by omega) (by omega) | rfl)) ?_
      refine vl_val rfl (.some rfl) (val_move rfl) ?_
      refine vl_nil ?_
      exact ⟨(r.l.length - (j + 1)), _, _, _, by omega, (by repeat (first | exact trivial | refine ⟨rfl, ?_⟩ | refine ⟨le_item rfl (by first | rfl | (congr 1; omega) | (simp; done) | (simp; omega)), ?_⟩)), (by repeat (first | exact .nil | (apply Sub.cons; · repeat (first | exact .head | apply Take.tail)))), ⟨j + 1, L3, by omega, rfl, by omega, hL3v, rfl, rfl⟩⟩
    · (try replace hc2 := of_decide_eq_false hc2)
      refine vc_exit ?_
      refine vc_region ?_
      refine vl_val rfl (.some rfl) (val_add rfl rfl (by first | exact w_i64 (by omega) (by omega) | rfl)) ?_
      refine vl_val rfl (.some rfl) (val_move rfl) ?_
      refine vl_nil ?_
      exact ⟨(S.length - (i + 1)), _, _, _, by omega, (by repeat (first | exact trivial | refine ⟨rfl, ?_⟩ | refine ⟨le_item rfl (by first | rfl | (congr 1; omega) | (simp; done) | (simp; omega)), ?_⟩)), (by repeat (first | exact .nil | (apply Sub.cons; · repeat (first | exact .head | apply Take.tail)))), ⟨i + 1, L', by omega, rfl, hLl, by rw [hL', List.take_of_length_le (by omega)]; exact mixG_set (by unfold mrgF; rw [hri]), rfl, rfl⟩⟩
  · (try replace hc1 := of_decide_eq_false hc1)
    refine vc_exit ?_
    refine vc_seq ?_
    refine vc_region ?_
    refine vl_val rfl (.some rfl) (val_assign rfl) ?_
    refine vl_nil ?_
    refine vc_ret ?_
    refine ⟨_, RQ b t As cs S Al cl L' ++ RQ b2 t As2 cs2 S Al2 cl2 L2, _, res1 Try.results26 rfl, (by repeat (first | exact .nil | (apply Sub.cons; · repeat (first | exact .head | apply Take.tail)))), ?_⟩
    obtain rfl : i = S.length := by omega
    exact ⟨rfl, L', by rw [hL', hSn, mixG_all]; rfl, rfl⟩
set_option maxRecDepth 20000 in
set_option maxHeartbeats 1000000 in
theorem wCopy (b t : Nat) (As : Option Addr) (cs : Nat) (S : List (Nat × Nat)) (Al : Option Addr) (cl : Nat) (L : List (Sl Nat)) (V : List (List Nat)) (hL : vals L = V) (hK : OkK t S V) (w : World) : Fn Try.prog 27 [.pointer (some ⟨b, 0, none⟩)] (RQ b t As cs S Al cl L) (ret fun u H' => ∃ b2 Al2 cl2 L2, u = .pointer (some ⟨b2, 0, none⟩) ∧ vals L2 = V ∧ H' = RQ b t As cs S Al cl L ++ RQ b2 t As cs S Al2 cl2 L2) w := by
  have hvl := vals_len L
  rw [hL] at hvl
  have hSn := hK.n
  have hn7 := hK.n7
  have ht2 := hK.t2
  have ht64 := hK.t64
  refine fn_enter Try.func27 rfl Try.ntmps27 rfl ?_
  refine vc_seq ?_
  refine vc_region ?_
  refine vl_val rfl (.some rfl) (val_assign rfl) ?_
  refine vl_nil ?_
  refine vc_seq ?_
  refine vc_drawsS [0, 1, 2, 3, 4, 5, 6, 7, 8, 10] [] [0, 1, 2, 3, 4, 5, 6, 7, 8, 9, 10] [RKb b t As S.length cs Al L.length cl] (by repeat (first | exact .nil | (apply Sub.cons; · repeat (first | exact .head | apply Take.tail)))) rfl (by kernel_rfl) (fun _ _ _ h => h) ?_
  refine vd_val rfl rfl rfl (.some rfl) (val_move rfl) ?_
  refine vd_val rfl rfl rfl (.some rfl) (val_nil rfl rfl) ?_
  refine vd_val rfl rfl rfl (.some rfl) (by first | exact val_fieldAddr Try.runUnderlying96 rfl Try.sizeOf3 rfl | exact val_fieldAddrR Try.runUnderlying96 rfl Try.sizeOf3 rfl) ?_
  refine vd_val rfl rfl rfl (.some rfl) (val_load Try.isAgg3 rfl (by first | exact cell_cells (by repeat (first | exact .head | apply In.tail | apply Take.tail | apply Upd.tail)) rfl | exact cell_rd (rd_sl (by repeat (first | exact .head | apply In.tail | apply Take.tail | apply Upd.tail))) (by first | exact bcells_at (by omega) | exact ucells_at (by omega) | exact icells_at (by omega) | exact tcells_at (by omega) | exact bcells_get (by omega) | exact icells_get (by omega) | exact tcells_get (by omega) | exact ucells_get (by omega)) | exact cell_rd (rd_old (by assumption) rfl) (by first | exact bcells_at (by omega) | exact ucells_at (by omega) | exact icells_at (by omega) | exact tcells_at (by omega) | exact bcells_get (by omega) | exact icells_get (by omega) | exact tcells_get (by omega) | exact ucells_get (by omega)) | exact cell_old (by assumption) (by simp [fps]))) ?_
  refine vd_val rfl rfl rfl (.some rfl) (val_move rfl) ?_
  refine vd_val rfl rfl rfl (.some rfl) (val_nil rfl rfl) ?_
  refine vd_val rfl rfl rfl (.some rfl) (by first | exact val_fieldAddr Try.runUnderlying96 rfl Try.sizeOf22 rfl | exact val_fieldAddrR Try.runUnderlying96 rfl Try.sizeOf22 rfl) ?_
  refine vd_val rfl rfl rfl (.some rfl) (val_load Try.isAgg22 rfl (by first | exact cell_cells (by repeat (first | exact .head | apply In.tail | apply Take.tail | apply Upd.tail)) rfl | exact cell_rd (rd_sl (by repeat (first | exact .head | apply In.tail | apply Take.tail | apply Upd.tail))) (by first | exact bcells_at (by omega) | exact ucells_at (by omega) | exact icells_at (by omega) | exact tcells_at (by omega) | exact bcells_get (by omega) | exact icells_get (by omega) | exact tcells_get (by omega) | exact ucells_get (by omega)) | exact cell_rd (rd_old (by assumption) rfl) (by first | exact bcells_at (by omega) | exact ucells_at (by omega) | exact icells_at (by omega) | exact tcells_at (by omega) | exact bcells_get (by omega) | exact icells_get (by omega) | exact tcells_get (by omega) | exact ucells_get (by omega)) | exact cell_old (by assumption) (by simp [fps]))) ?_
  refine vd_val rfl rfl rfl (.some rfl) (val_buildSt (pl := #[(0, 1), (1, 1), (2, 1)]) (cs := #[.int .i64 (t : Nat), .slice As S.length cs, .slice none 0 0]) Try.runUnderlying96 Try.zeroValue96 (fun w => by kernel_rfl) rfl rfl) ?_
  refine vd_op rfl rfl ?_
  refine vl_box rfl rfl (.some rfl) rfl (fun r15 => ?_)
  refine vl_nil ?_
  refine ⟨fun _ => ⟨_, (by repeat (first | exact .nil | (apply Sub.cons; · repeat (first | exact .head | apply Take.tail))))⟩, ?_⟩
  refine vd_val rfl rfl rfl (.some rfl) (val_assign rfl) ?_
  refine vd_nil ?_
  refine vc_seq ?_
  refine vc_seq ?_
  refine vc_region ?_
  refine vl_val rfl (.some rfl) (val_move rfl) ?_
  refine vl_val rfl (.some rfl) (val_nil rfl rfl) ?_
  refine vl_val rfl (.some rfl) (by first | exact val_fieldAddr Try.runUnderlying96 rfl Try.sizeOf33 rfl | exact val_fieldAddrR Try.runUnderlying96 rfl Try.sizeOf33 rfl) ?_
  refine vl_val rfl (.some rfl) (val_load Try.isAgg33 rfl (by first | exact cell_cells (by repeat (first | exact .head | apply In.tail | apply Take.tail | apply Upd.tail)) rfl | exact cell_rd (rd_sl (by repeat (first | exact .head | apply In.tail | apply Take.tail | apply Upd.tail))) (by first | exact bcells_at (by omega) | exact ucells_at (by omega) | exact icells_at (by omega) | exact tcells_at (by omega) | exact bcells_get (by omega) | exact icells_get (by omega) | exact tcells_get (by omega) | exact ucells_get (by omega)) | exact cell_rd (rd_old (by assumption) rfl) (by first | exact bcells_at (by omega) | exact ucells_at (by omega) | exact icells_at (by omega) | exact tcells_at (by omega) | exact bcells_get (by omega) | exact icells_get (by omega) | exact tcells_get (by omega) | exact ucells_get (by omega)) | exact cell_old (by assumption) (by simp [fps]))) ?_
  refine vl_val rfl (.some rfl) (val_lenSl Try.runUnderlying33 rfl) ?_
  refine vl_val rfl (.some rfl) (val_move rfl) ?_
  refine vl_nil ?_
  refine vc_block ?_
  refine vc_eqv (nil_row _) ?_
  refine vc_eqv (nils_eqv 0 _) ?_
  refine vc_loopw (fun m E H => ∃ (i : Nat) (D : List (Sl Nat)) (Ad : Option Addr) (cd : Nat), i ≤ S.length ∧ m = S.length - i ∧ D.length = i ∧ vals D = V.take i ∧ E = [(3, .pointer (some ⟨r15, 0, none⟩)), (19, .slice Al L.length cl), (20, .int .i64 L.length), (21, .int .i64 i)] ∧ H = [big (D.map rwC), HR Ad D.length cd (D.map hdr), RKb r15 t As S.length cs Ad D.length cd, RKb b t As S.length cs Al L.length cl, HR Al L.length cl (L.map hdr), big (L.map rwC)]) (S.length) ⟨_, _, _, ⟨0, [], none, 0, by omega, rfl, rfl, rfl, rfl, rfl⟩, (by repeat (first | exact trivial | refine ⟨rfl, ?_⟩ | refine ⟨le_item rfl (by first | rfl | (congr 1; omega) | (simp; done) | (simp; omega)), ?_⟩)), (by repeat (first | exact .nil | (apply Sub.cons; · repeat (first | exact .head | apply Take.tail))))⟩ ?_
  intro m E H hI
  obtain ⟨i, D, Ad, cd, hi, rfl, hDl, hD, rfl, rfl⟩ := hI
  refine vc_seq ?_
  refine vc_region ?_
  refine vl_val rfl (.some rfl) (val_lt rfl rfl) ?_
  refine vl_nil ?_
  refine vc_seq ?_
  refine vc_cond rfl (fun hc0 => ?_) (fun hc0 => ?_)
  · (try replace hc0 := of_decide_eq_true hc0)
    obtain ⟨r, hr⟩ := row_at (L := L) (i := i) (by omega)
    have hrl := (hK.good i (by omega)).2
    have hrv := vals_get hr
    rw [hL] at hrv
    rw [hrv] at hrl
    refine vc_skip ?_
    refine vc_seq ?_
    refine vc_block ?_
    refine vc_seq ?_
    refine vc_region ?_
    refine vl_val rfl (.some rfl) (val_indexAddr Try.runUnderlying33 Try.sizeOf25 rfl rfl (rd_sl (vs := L.map hdr) (by repeat (first | exact .head | apply In.tail | apply Take.tail | apply Upd.tail))) (by omega) (by omega) (by rw [List.length_map]; omega)) ?_
    refine vl_val rfl (.some rfl) (val_load Try.isAgg25 rfl (cell_rd (rd_sl (vs := L.map hdr) (by repeat (first | exact .head | apply In.tail | apply Take.tail | apply Upd.tail))) (hdr_at hr))) ?_
    refine vl_val rfl (.some rfl) (val_assign rfl) ?_
    refine vl_nil ?_
    refine vc_drawsS [0, 1, 2, 3, 4, 6, 11] [12] [0, 1, 2, 3, 4, 6, 5, 7, 8, 9, 10, 11, 12] [RKb r15 t As S.length cs Ad D.length cd] (by repeat (first | exact .nil | (apply Sub.cons; · repeat (first | exact .head | apply Take.tail)))) rfl (by kernel_rfl) (fun _ _ _ h => h) ?_
    refine vd_val rfl rfl rfl (.some rfl) (val_move rfl) ?_
    refine vd_val rfl rfl rfl (.some rfl) (val_move rfl) ?_
    refine vd_val rfl rfl rfl (.some rfl) (val_nil rfl rfl) ?_
    refine vd_val rfl rfl rfl (.some rfl) (by first | exact val_fieldAddr Try.runUnderlying96 rfl Try.sizeOf33 rfl | exact val_fieldAddrR Try.runUnderlying96 rfl Try.sizeOf33 rfl) ?_
    refine vd_val rfl rfl rfl (.some rfl) (val_load Try.isAgg33 rfl (by first | exact cell_cells (by repeat (first | exact .head | apply In.tail | apply Take.tail | apply Upd.tail)) rfl | exact cell_rd (rd_sl (by repeat (first | exact .head | apply In.tail | apply Take.tail | apply Upd.tail))) (by first | exact bcells_at (by omega) | exact ucells_at (by omega) | exact icells_at (by omega) | exact tcells_at (by omega) | exact bcells_get (by omega) | exact icells_get (by omega) | exact tcells_get (by omega) | exact ucells_get (by omega)) | exact cell_rd (rd_old (by assumption) rfl) (by first | exact bcells_at (by omega) | exact ucells_at (by omega) | exact icells_at (by omega) | exact tcells_at (by omega) | exact bcells_get (by omega) | exact icells_get (by omega) | exact tcells_get (by omega) | exact ucells_get (by omega)) | exact cell_old (by assumption) (by simp [fps]))) ?_
    refine vd_val rfl rfl rfl (.some rfl) (val_move rfl) ?_
    refine vd_op rfl rfl ?_
    refine vl_lit0 sT25 Try.sizeOf30 rfl rfl (.some rfl) (fun r30 => ?_)
    refine vl_nil ?_
    refine ⟨fun _ => ⟨_, (by repeat (first | exact .nil | (apply Sub.cons; · repeat (first | exact .head | apply Take.tail))))⟩, ?_⟩
    refine vd_op rfl rfl ?_
    refine vl_append sT25 rfl rfl (.some rfl) rfl rfl (vs := []) (rd_big (n := r.l.length) (c := r.c) (e := 30) (sz := 1) (l := L.map rwC) (by repeat (first | exact .head | apply In.tail | apply Take.tail | apply Upd.tail)) (List.mem_map.2 ⟨r, List.mem_of_getElem? hr, rfl⟩)) (by rw [ucells_length]; omega) (one_u _) (by omega) (by omega) (by repeat (first | exact .head | apply In.tail | apply Take.tail | apply Upd.tail)) (fun A32 k32 => ?_)
    rw [Nat.zero_add, List.nil_append]
    refine vl_nil ?_
    refine ⟨fun _ => ⟨_, (by repeat (first | exact .nil | (apply Sub.cons; · repeat (first | exact .head | apply Take.tail))))⟩, ?_⟩
    refine vd_op rfl rfl ?_
    refine vl_lit sT33 rfl rfl (.some rfl) rfl rfl rfl (by decide) (by decide) rfl (show _ = [hdr ⟨A32, k32, r.l⟩] from rfl) (fun r33 => ?_)
    refine vl_nil ?_
    refine ⟨fun _ => ⟨_, (by repeat (first | exact .nil | (apply Sub.cons; · repeat (first | exact .head | apply Take.tail))))⟩, ?_⟩
    refine vd_op rfl rfl ?_
    refine vl_append (A := Ad) (n := D.length) (c := cd) (vs := D.map hdr) sT33 rfl rfl (.some rfl) rfl rfl (rd_sl (A := some ⟨r33, 0, none⟩) (vs := [hdr ⟨A32, k32, r.l⟩]) (by repeat (first | exact .head | apply In.tail | apply Take.tail | apply Upd.tail))) rfl rfl (by omega) (by omega) (by repeat (first | exact .head | apply In.tail | apply Take.tail | apply Upd.tail)) (fun A34 k34 => ?_)
    rw [show D.map hdr ++ [hdr ⟨A32, k32, r.l⟩] = (D ++ [(⟨A32, k32, r.l⟩ : Sl Nat)]).map hdr by simp, show D.length + 1 = (D ++ [(⟨A32, k32, r.l⟩ : Sl Nat)]).length by simp]
    refine vl_nil ?_
    refine ⟨fun _ => ⟨_, (by repeat (first | exact .nil | (apply Sub.cons; · repeat (first | exact .head | apply Take.tail))))⟩, ?_⟩
    refine vd_op rfl rfl ?_
    refine vl_val rfl (.some rfl) (val_nil rfl rfl) ?_
    refine vl_nil ?_
    refine ⟨fun _ => ⟨_, (by repeat (first | exact .nil | (apply Sub.cons; · repeat (first | exact .head | apply Take.tail))))⟩, ?_⟩
    refine vd_val rfl rfl rfl (.some rfl) (by first | exact val_fieldAddr Try.runUnderlying96 rfl Try.sizeOf33 rfl | exact val_fieldAddrR Try.runUnderlying96 rfl Try.sizeOf33 rfl) ?_
    refine vd_op rfl rfl ?_
    refine vl_store rfl rfl .none rfl rfl Try.sizeOf33 rfl (by repeat (first | exact .head | apply In.tail | apply Take.tail | apply Upd.tail)) (by first | decide | exact Nat.le_refl _ | exact Nat.le_of_ble_eq_true rfl | (simp; omega)) ?_
    refine vl_eqv (Eqv.perm (Take.perm (c := big (D.map rwC)) (by repeat (first | exact .head | apply In.tail | apply Take.tail | apply Upd.tail)))) ?_
    refine vl_eqv (Eqv.perm (Take.perm (c := rwC ⟨A32, k32, r.l⟩) (by repeat (first | exact .head | apply In.tail | apply Take.tail | apply Upd.tail)))) ?_
    refine vl_eqv (eqv_big_push _ _ _) ?_
    rw [show D.map rwC ++ [rwC ⟨A32, k32, r.l⟩] = (D ++ [(⟨A32, k32, r.l⟩ : Sl Nat)]).map rwC by simp]
    refine vl_nil ?_
    refine ⟨fun h => (by cases h), ?_⟩
    refine vd_nil ?_
    refine vc_region ?_
    refine vl_val rfl (.some rfl) (val_add rfl rfl (by first | exact w_i64 (by omega) (by omega) | rfl)) ?_
    refine vl_val rfl (.some rfl) (val_move rfl) ?_
    refine vl_nil ?_
    exact ⟨(S.length - (i + 1)), _, _, _, by omega, (by repeat (first | exact trivial | refine ⟨rfl, ?_⟩ | refine ⟨le_item rfl (by first | rfl | (congr 1; omega) | (simp; done) | (simp; omega)), ?_⟩)), (by repeat (first | exact .nil | (apply Sub.cons; · repeat (first | exact .head | apply Take.tail)))), ⟨i + 1, D ++ [⟨A32, k32, r.l⟩], A34, k34, by omega, rfl, by simp [hDl], by have := vals_push (D := D) (A := A32) (c := k32) (by rw [hL]; exact hD) hr; rw [hL] at this; exact this, rfl, rfl⟩⟩
  · (try replace hc0 := of_decide_eq_false hc0)
    refine vc_exit ?_
    refine vc_seq ?_
    refine vc_region ?_
    refine vl_val rfl (.some rfl) (val_move rfl) ?_
    refine vl_val rfl (.some rfl) (val_assign rfl) ?_
    refine vl_nil ?_
    refine vc_ret ?_
    refine ⟨_, [RKb b t As S.length cs Al L.length cl, HR Al L.length cl (L.map hdr), big (L.map rwC), RKb r15 t As S.length cs Ad D.length cd, HR Ad D.length cd (D.map hdr), big (D.map rwC)], _, res1 Try.results27 rfl, (by repeat (first | exact .nil | (apply Sub.cons; · repeat (first | exact .head | apply Take.tail)))), ?_⟩
    obtain rfl : i = S.length := by omega
    exact ⟨r15, Ad, cd, D, rfl, by rw [hD, List.take_of_length_le (by omega)], rfl⟩

end Go.Proofs.Ytclknendeeljaaa.K
