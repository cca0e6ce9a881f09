/- Walks of the program's functions, printed by a program of this session; Lean checks them. -/
import Derived.Test.YtdehjgpdcdjhjaaMk
import Derived.Test.YtdehjgpdcdjhjaaYha
namespace Go.Proofs.Ytdehjgpdcdjhjaa.K
open Go Go.RowKit Go.Proofs
set_option linter.unusedVariables false
set_option linter.unusedSimpArgs false


set_option maxRecDepth 20000 in
theorem cFour (A : Option Addr) (c : Nat) (b : List UInt8) (hb : b.length ≤ 1000000000000) (n : Nat) (w : World) : Fn Try.prog 79 [.slice A b.length c, .int .u32 n] [BY A b.length c b] (ret fun v H' => ∃ A' c', v = .slice A' (b ++ four4 n).length c' ∧ H' = [BY A' (b ++ four4 n).length c' (b ++ four4 n)]) w := by
  refine fn_enter Try.func79 rfl Try.ntmps79 rfl ?_
  refine vc_seq ?_
  refine vc_region ?_
  refine vl_val rfl (.some rfl) (val_assign rfl) ?_
  refine vl_nil ?_
  refine vc_seq ?_
  refine vc_region ?_
  refine vl_val rfl (.some rfl) (val_move rfl) ?_
  refine vl_val rfl (.some rfl) (val_move rfl) ?_
  refine vl_val rfl (.some rfl) (val_convInt Try.runUnderlying151 Try.runUnderlying5 rfl (wr_u8 (n))) ?_
  refine vl_val rfl (.some rfl) (val_move rfl) ?_
  refine vl_val rfl (.some rfl) (val_shr rfl rfl (by decide) (show _ = ((n / 256 : Nat) : Int) from shr_nat (j := 8) (by decide))) ?_
  refine vl_val rfl (.some rfl) (val_convInt Try.runUnderlying151 Try.runUnderlying5 rfl (wr_u8 (n / 256))) ?_
  refine vl_val rfl (.some rfl) (val_move rfl) ?_
  refine vl_val rfl (.some rfl) (val_shr rfl rfl (by decide) (show _ = ((n / 65536 : Nat) : Int) from shr_nat (j := 16) (by decide))) ?_
  refine vl_val rfl (.some rfl) (val_convInt Try.runUnderlying151 Try.runUnderlying5 rfl (wr_u8 (n / 65536))) ?_
  refine vl_val rfl (.some rfl) (val_move rfl) ?_
  refine vl_val rfl (.some rfl) (val_shr rfl rfl (by decide) (show _ = ((n / 16777216 : Nat) : Int) from shr_nat (j := 24) (by decide))) ?_
  refine vl_val rfl (.some rfl) (val_convInt Try.runUnderlying151 Try.runUnderlying5 rfl (wr_u8 (n / 16777216))) ?_
  refine vl_lit sT58 rfl rfl (.some rfl) rfl rfl rfl (by decide) (by decide) rfl (flat_one rfl) (fun r17 => ?_)
  rw [four_cells n]
  refine vl_append (us := bcells (four4 n)) sT58 rfl rfl (.some rfl) rfl rfl (rd_sl (by repeat constructor)) rfl (one_b _) (by omega) (by omega) (by repeat constructor) (fun A18 k18 => ?_)
  rw [show bcells b ++ bcells (four4 n) = bcells (b ++ four4 n) by simp [bcells], show b.length + 4 = (b ++ four4 n).length by rw [List.length_append]; rfl]
  refine vl_val rfl (.some rfl) (val_assign rfl) ?_
  refine vl_nil ?_
  refine vc_ret ?_
  refine ⟨_, [BY A18 (b ++ four4 n).length k18 (b ++ four4 n)], _, res1 Try.results79 rfl, (by repeat constructor), ?_⟩
  exact ⟨A18, k18, rfl, rfl⟩
theorem bcells_app (a b : List UInt8) : bcells a ++ bcells b = bcells (a ++ b) := by simp [bcells]
theorem frame_no {b : List UInt8} (h : 262144 < b.length) : frameL b = [] := if_pos h
theorem frame_is {b : List UInt8} (h : ¬ 262144 < b.length) : frameL b = (four4 b.length ++ b) ++ four4 (sumS (four4 b.length ++ b)) := if_neg h

set_option maxRecDepth 20000 in
theorem cFrame (A : Option Addr) (c : Nat) (b : List UInt8) (hb : b.length ≤ 1000000000000) (w : World) (hr : Reads w A (bcells b)) : Fn Try.prog 46 [.slice A b.length c] [] (ret fun v H' => ∃ A' c', v = .slice A' (frameL b).length c' ∧ H' = [BY A' (frameL b).length c' (frameL b)]) w := by
  refine fn_enter Try.func46 rfl Try.ntmps46 rfl ?_
  refine vc_seq ?_
  refine vc_region ?_
  refine vl_val rfl (.some rfl) (val_assign rfl) ?_
  refine vl_nil ?_
  refine vc_seq ?_
  refine vc_seq ?_
  refine vc_region ?_
  refine vl_val rfl (.some rfl) (val_move rfl) ?_
  refine vl_val rfl (.some rfl) (val_lenSl Try.runUnderlying58 rfl) ?_
  refine vl_val rfl (.some rfl) (val_gt rfl rfl) ?_
  refine vl_nil ?_
  refine vc_cond rfl (fun hc0 => ?_) (fun hc0 => ?_)
  · (try replace hc0 := of_decide_eq_true hc0)
    refine vc_seq ?_
    refine vc_region ?_
    refine vl_val rfl (.some rfl) (val_assign rfl) ?_
    refine vl_nilSl 5 1 ?_
    refine vl_nil ?_
    refine vc_ret ?_
    refine ⟨_, [BY none 0 0 []], _, res1 Try.results46 rfl, (by repeat constructor), ?_⟩
    rw [frame_no (by omega)]
    exact ⟨none, 0, rfl, rfl⟩
  · (try replace hc0 := of_decide_eq_false hc0)
    refine vc_skip ?_
    refine vc_seq ?_
    refine vc_region ?_
    refine vl_val rfl (.some rfl) (val_move rfl) ?_
    refine vl_val rfl (.some rfl) (val_lenSl Try.runUnderlying58 rfl) ?_
    refine vl_val rfl (.some rfl) (val_add rfl rfl (by first | exact w_i64 (by omega) (by omega) | rfl)) ?_
    refine vl_make0 (n := b.length + 8) sT58 rfl rfl (.some rfl) rfl rfl rfl (by omega) (by omega) (by omega) (fun r10 => ?_)
    refine vl_val rfl (.some rfl) (val_move rfl) ?_
    refine vl_val rfl (.some rfl) (val_lenSl Try.runUnderlying58 rfl) ?_
    refine vl_val rfl (.some rfl) (val_convInt Try.runUnderlying3 Try.runUnderlying151 rfl (by first | exact w_u32 (by omega) (by omega) | rfl)) ?_
    refine vl_call (C := [BY (some ⟨r10, 0, none⟩) ([]).length (b.length + 8) ([])]) rfl rfl (.some rfl) Try.call79 rfl (by repeat constructor) (fun w hw => cFour (some ⟨r10, 0, none⟩) (b.length + 8) ([]) (by first | decide | (simp only [List.length_append, four_len]; omega)) (b.length) w) (fun v H' h => ?_)
    obtain ⟨A14, c14, rfl, rfl⟩ := h
    show VL _ _ _ _ _ (_ :: _)
    rw [List.nil_append]
    refine vl_val rfl (.some rfl) (val_move rfl) ?_
    refine vl_append (us := bcells b) sT58 rfl rfl (.some rfl) rfl rfl (rd_old hr rfl) (by rw [bcells_length]; omega) (one_b _) (by rw [four_len]; omega) (by rw [four_len]; omega) (by repeat constructor) (fun A16 k16 => ?_)
    rw [bcells_app, show (four4 b.length).length + b.length = (four4 b.length ++ b).length from List.length_append.symm]
    refine vl_val rfl (.some rfl) (val_assign rfl) ?_
    refine vl_nil ?_
    refine vc_seq ?_
    refine vc_region ?_
    refine vl_val rfl (.some rfl) (val_move rfl) ?_
    refine vl_val rfl (.some rfl) (val_move rfl) ?_
    have ho4 : (four4 b.length ++ b).length = b.length + 4 := by rw [List.length_append, four_len]; omega
    refine vl_callV rfl rfl (.some rfl) Try.call80 rfl (fun w hw => cSum A16 k16 (four4 b.length ++ b) (by omega) w (rdw (rd_sl (by repeat constructor)) hw)) ?_
    refine vl_call (C := [BY A16 (four4 b.length ++ b).length k16 (four4 b.length ++ b)]) rfl rfl (.some rfl) Try.call79 rfl (by repeat constructor) (fun w hw => cFour A16 k16 (four4 b.length ++ b) (by first | decide | (simp only [List.length_append, four_len]; omega)) (sumS (four4 b.length ++ b)) w) (fun v H' h => ?_)
    obtain ⟨A20, c20, rfl, rfl⟩ := h
    show VL _ _ _ _ _ (_ :: _)
    rw [← frame_is (b := b) (by omega)]
    refine vl_val rfl (.some rfl) (val_assign rfl) ?_
    refine vl_nil ?_
    refine vc_ret ?_
    refine ⟨_, [BY A20 (frameL b).length c20 (frameL b)], _, res1 Try.results46 rfl, (by repeat constructor), ?_⟩
    exact ⟨A20, c20, rfl, rfl⟩
/-- Bytes behind their count. -/
def partL (x : List UInt8) : List UInt8 := putN x.length ++ x
def colB (c : List Bool × List Int) (z : Zn) : List UInt8 := partL (bytesV c.1 c.2) ++ partL (encV [z.lo, z.hi])
def outS (s : Sg) : Nat → List UInt8
  | 0 => putN s.n.toNat ++ putN s.cs.length
  | i + 1 => outS s i ++ colB (s.cs.getD i ([], [])) (s.zs.getD i zn0)
def segB (s : Sg) : List UInt8 := outS s s.cs.length
def segL (s : Sg) : List UInt8 := if goodSg s then frameL (segB s) else []
def segE (s : Sg) : Int := if goodSg s then 0 else 2
theorem partL_len (x : List UInt8) : (partL x).length ≤ 10 + x.length := by
  unfold partL; rw [List.length_append]; have := putN_len x.length; omega
theorem enc2_len (p q : Vk) : (encV [p, q]).length ≤ 210 := by
  have h := outV_len [p, q] 2 (Nat.le_refl _)
  rw [← outV_all]; exact h
theorem bytesV_len {nl : List Bool} {il : List Int} (h : okV nl il) : (bytesV nl il).length ≤ 1400 := by
  have h1 := headV_len h
  have h2 := bestV_len h
  show (headV nl il ++ bestV il).length ≤ _
  rw [List.length_append]; omega
theorem colB_len {c : List Bool × List Int} {z : Zn} (h : okV c.1 c.2) : (colB c z).length ≤ 1700 := by
  unfold colB
  have h1 := partL_len (bytesV c.1 c.2)
  have h2 := partL_len (encV [z.lo, z.hi])
  have h3 := bytesV_len h
  have h4 := enc2_len z.lo z.hi
  rw [List.length_append]; omega
theorem outS_len {s : Sg} (h : goodSg s) : ∀ i, i ≤ s.cs.length → (outS s i).length ≤ 20 + 1700 * i := by
  intro i
  induction i with
  | zero => intro _; have h1 := putN_len s.n.toNat; have h2 := putN_len s.cs.length; show (putN _ ++ putN _).length ≤ _; rw [List.length_append]; omega
  | succ i ih =>
    intro hi
    have h1 := ih (by omega)
    have h2 := colB_len (z := s.zs.getD i zn0) (h.2.2.2 i (by omega)).1
    show (outS s i ++ _).length ≤ _
    rw [List.length_append]; omega
theorem bytesL_ok {nl : List Bool} {il : List Int} (h : okV nl il) : bytesL nl il = bytesV nl il := if_pos h
theorem sgR_same {X : Cx} {H : List Chunk} {vs : List Vc} {zs : List Zn} {Ac Az : Option Addr} {w : World} (hM : X.M = []) (h : SgR X.w0 Ac vs Az zs) (hw : Holds X.w0 X.M H w) : SgR w Ac vs Az zs :=
  ⟨rdw (rd_old h.cs hM) hw, rdw (rd_old h.zs hM) hw, fun v hv => ⟨rdw (rd_old (h.col v hv).nu hM) hw, rdw (rd_old (h.col v hv).ids hM) hw, (h.col v hv).ln, (h.col v hv).li⟩⟩
theorem wz2 {z : Zn} (h : WV z.lo ∧ WV z.hi) : ∀ p ∈ [z.lo, z.hi], WV p := fun p hp => by
  rcases List.mem_cons.1 hp with rfl | hp
  · exact h.1
  · rw [List.mem_singleton.1 hp]; exact h.2
theorem zn_lo {zs : List Zn} {i : Nat} (h : i < zs.length) : ((zs.flatMap znC).drop (i * 7 + 1)).take 3 = [.int .i64 (zs.getD i zn0).lo.k, .int .i64 (zs.getD i zn0).lo.n, .string (zs.getD i zn0).lo.s] := by
  have h2 := congrArg (fun l : List Value => (l.drop 1).take 3) (flat_atM znC_len zn0 zs i h)
  simp only [List.drop_take, List.drop_drop, List.take_take] at h2
  exact h2
theorem zn_hi {zs : List Zn} {i : Nat} (h : i < zs.length) : ((zs.flatMap znC).drop (i * 7 + 4)).take 3 = [.int .i64 (zs.getD i zn0).hi.k, .int .i64 (zs.getD i zn0).hi.n, .string (zs.getD i zn0).hi.s] := by
  have h2 := congrArg (fun l : List Value => (l.drop 4).take 3) (flat_atM znC_len zn0 zs i h)
  simp only [List.drop_take, List.drop_drop, List.take_take] at h2
  exact h2

set_option maxRecDepth 20000 in
theorem gPart (A : Option Addr) (c : Nat) (b : List UInt8) (B : Option Addr) (d : Nat) (x : List UInt8) (hb : b.length ≤ 1000000000) (hx : x.length ≤ 1000000000) (w : World) (hr : Reads w A (bcells b)) (hrx : Reads w B (bcells x)) : Fn Try.prog 44 [.slice A b.length c, .slice B x.length d] [] (ret fun v H' => ∃ A' c', v = .slice A' (b ++ partL x).length c' ∧ H' = [BY A' (b ++ partL x).length c' (b ++ partL x)]) w := by
  have hpl := putN_len x.length
  refine fn_enter Try.func44 rfl Try.ntmps44 rfl ?_
  refine vc_seq ?_
  refine vc_region ?_
  refine vl_val rfl (.some rfl) (val_assign rfl) ?_
  refine vl_nil ?_
  refine vc_seq ?_
  refine vc_region ?_
  refine vl_val rfl (.some rfl) (val_move rfl) ?_
  refine vl_val rfl (.some rfl) (val_move rfl) ?_
  refine vl_val rfl (.some rfl) (val_lenSl Try.runUnderlying58 rfl) ?_
  refine vl_val rfl (.some rfl) (val_convInt Try.runUnderlying3 Try.runUnderlying107 rfl (show _ = ((x.length : Nat) : Int) from w_u64 (by omega) (by omega))) ?_
  refine vl_call (C := []) rfl rfl (.some rfl) Try.call42 rfl .nil (fun w hw => cPut A c b x.length (by omega) (by omega) w (rdw (rd_old hr rfl) hw)) (fun v H' h => ?_)
  obtain ⟨A9, c9, rfl, rfl⟩ := h
  show VL _ _ _ _ _ (_ :: _)
  refine vl_val rfl (.some rfl) (val_move rfl) ?_
  refine vl_append sT58 rfl rfl (.some rfl) rfl rfl (rd_old hrx rfl) (by simp [bcells_length]) (one_b _) (by simp only [List.length_append]; omega) (by simp only [List.length_append]; omega) (by repeat constructor) (fun A11 k11 => ?_)
  rw [bapp, List.append_assoc, ← List.length_append, List.append_assoc, show putN x.length ++ x = partL x from rfl]
  refine vl_val rfl (.some rfl) (val_assign rfl) ?_
  refine vl_nil ?_
  refine vc_ret ?_
  refine ⟨_, [BY A11 (b ++ partL x).length k11 (b ++ partL x)], _, res1 Try.results44 rfl, (by repeat constructor), ?_⟩
  exact ⟨A11, k11, rfl, rfl⟩
set_option maxRecDepth 20000 in
set_option maxHeartbeats 1000000 in
theorem gBytes (n : Int) (Ac : Option Addr) (cc : Nat) (vs : List Vc) (Az : Option Addr) (cz : Nat) (zs : List Zn) (hlc : vs.length < 4611686018427387904) (hlz : zs.length < 4611686018427387904) (hwz : ∀ z ∈ zs, WV z.lo ∧ WV z.hi) (w : World) (hrs : SgR w Ac vs Az zs) : Fn Try.prog 17 [sgV n Ac cc vs Az cz zs] [] (ret fun v H' => ∃ A' c', v = .tuple #[.slice A' (segL ⟨n, vs.map vcP, zs⟩).length c', .int .i64 (segE ⟨n, vs.map vcP, zs⟩)] ∧ H' = [BY A' (segL ⟨n, vs.map vcP, zs⟩).length c' (segL ⟨n, vs.map vcP, zs⟩)]) w := by
  have hml : (vs.map vcP).length = vs.length := List.length_map _
  have hmg : ∀ i, (vs.map vcP).getD i ([], []) = vcP (vs.getD i vc0) := fun i => map_getDs vc0 ([], []) rfl
  refine fn_enter Try.func17 rfl Try.ntmps17 rfl ?_
  refine vc_seq ?_
  refine vc_region ?_
  refine vl_box rfl rfl (.some rfl) rfl (fun r1 => ?_)
  refine vl_val rfl (.some rfl) (val_assign rfl) ?_
  refine vl_val rfl (.some rfl) (val_assign rfl) ?_
  refine vl_nil ?_
  refine vc_seq ?_
  refine vc_seq ?_
  refine vc_region ?_
  refine vl_val rfl (.some rfl) (val_loadAgg Try.isAgg34 Try.sizeOf34 rfl (by first | exact cells_whole (by repeat constructor) | exact cells_part (by repeat constructor) rfl) rfl) ?_
  refine vl_callV rfl rfl (.some rfl) Try.call24 rfl (fun w hw => gGood n Ac cc vs Az cz zs hlc hlz w (sgR_same rfl hrs hw)) ?_
  refine vl_val rfl (.some rfl) (val_not rfl) ?_
  refine vl_nil ?_
  refine vc_cond rfl (fun hc0 => ?_) (fun hc0 => ?_)
  · (try replace hc0 := of_decide_eq_true hc0)
    have hok : ¬ goodSg ⟨n, vs.map vcP, zs⟩ := by simpa using hc0
    refine vc_seq ?_
    refine vc_region ?_
    refine vl_val rfl (.some rfl) (val_assign rfl) ?_
    refine vl_nilSl 5 1 ?_
    refine vl_val rfl (.some rfl) (val_assign rfl) ?_
    refine vl_nil ?_
    refine vc_ret ?_
    refine ⟨_, [BY none 0 0 []], _, res2 Try.results17 rfl rfl, (by repeat constructor), ?_⟩
    show ∃ A' c', _ ∧ _
    unfold segL segE
    rw [if_neg hok, if_neg hok]
    exact ⟨none, 0, rfl, rfl⟩
  · (try replace hc0 := of_decide_eq_false hc0)
    have hok : goodSg ⟨n, vs.map vcP, zs⟩ := by simpa using hc0
    have h1 := hok.1
    have h2 := hok.2.1
    have h3 := hok.2.2.1
    simp only [hml] at h1 h2 h3
    have hpn := putN_len n.toNat
    refine vc_skip ?_
    refine vc_seq ?_
    refine vc_draws [0, 1, 2, 4, 5, 6, 7, 9] [] [0, 1, 2, 4, 5, 6, 7, 3, 8, 9] rfl (by kernel_rfl) (fun _ _ _ h => h) ?_
    refine vd_val rfl rfl rfl (.some rfl) (by first | exact val_fieldAddr Try.runUnderlying34 rfl Try.sizeOf3 rfl | exact val_fieldAddrR Try.runUnderlying34 rfl Try.sizeOf3 rfl) ?_
    refine vd_val rfl rfl rfl (.some rfl) (val_load Try.isAgg3 rfl (by first | exact cell_cells (by repeat constructor) rfl | exact cell_rd (by first | exact rd_sl (by repeat constructor) | exact rd_old (by assumption) rfl) (by first | exact bcells_at (by omega) | exact ucells_at (by omega) | exact icells_at (by omega) | exact tcells_at (by omega) | exact bcells_get (by omega) | exact icells_get (by omega) | exact tcells_get (by omega) | exact ucells_get (by omega)) | exact cell_old (by assumption) (by simp [fps]))) ?_
    refine vd_val rfl rfl rfl (.some rfl) (val_convInt Try.runUnderlying3 Try.runUnderlying107 rfl (show _ = ((n.toNat : Nat) : Int) by rw [w_u64 (by omega) (by omega)]; try omega)) ?_
    refine vd_val rfl rfl rfl (.some rfl) (by first | exact val_fieldAddr Try.runUnderlying34 rfl Try.sizeOf31 rfl | exact val_fieldAddrR Try.runUnderlying34 rfl Try.sizeOf31 rfl) ?_
    refine vd_val rfl rfl rfl (.some rfl) (val_load Try.isAgg31 rfl (by first | exact cell_cells (by repeat constructor) rfl | exact cell_rd (by first | exact rd_sl (by repeat constructor) | exact rd_old (by assumption) rfl) (by first | exact bcells_at (by omega) | exact ucells_at (by omega) | exact icells_at (by omega) | exact tcells_at (by omega) | exact bcells_get (by omega) | exact icells_get (by omega) | exact tcells_get (by omega) | exact ucells_get (by omega)) | exact cell_old (by assumption) (by simp [fps]))) ?_
    refine vd_val rfl rfl rfl (.some rfl) (val_lenSl Try.runUnderlying31 rfl) ?_
    refine vd_val rfl rfl rfl (.some rfl) (val_convInt Try.runUnderlying3 Try.runUnderlying107 rfl (show _ = ((vs.length : Nat) : Int) by rw [w_u64 (by omega) (by omega)]; try omega)) ?_
    refine vd_op rfl rfl ?_
    refine vl_call (C := []) rfl rfl (.some rfl) Try.call42 rfl .nil (fun w hw => cPut none 0 [] (n.toNat) (by omega) (by first | decide | omega) w (rdw (by first | exact rd_sl (by repeat constructor) | exact rd_slr (by repeat constructor) | exact rd_old (by assumption) rfl | exact rd_slq (by repeat constructor) | exact rd_nil) hw)) (fun v H' h => ?_)
    obtain ⟨A15, c15, rfl, rfl⟩ := h
    rw [List.nil_append]
    show VL _ _ _ _ _ (_ :: _)
    refine vl_nil ?_
    refine ⟨fun _ => ⟨_, (by repeat (first | exact .nil | exact sub_self _ | exact sub_skip (sub_self _) | exact sub_skip (sub_skip (sub_self _)) | exact sub_skip (sub_skip (sub_skip (sub_self _))) | (apply Sub.cons; · repeat (first | exact .head | apply Take.tail))))⟩, ?_⟩
    refine vd_op rfl rfl ?_
    refine vl_call (C := []) rfl rfl (.some rfl) Try.call42 rfl .nil (fun w hw => cPut A15 c15 (putN n.toNat) (vs.length) (by omega) (by first | decide | omega) w (rdw (rd_sl (by repeat constructor)) hw)) (fun v H' h => ?_)
    obtain ⟨A20, c20, rfl, rfl⟩ := h
    rw [show putN n.toNat ++ putN vs.length = outS ⟨n, vs.map vcP, zs⟩ 0 by show _ = putN n.toNat ++ putN (vs.map vcP).length; rw [hml]]
    show VL _ _ _ _ _ (_ :: _)
    refine vl_nil ?_
    refine ⟨fun _ => ⟨_, (by repeat (first | exact .nil | exact sub_self _ | exact sub_skip (sub_self _) | exact sub_skip (sub_skip (sub_self _)) | exact sub_skip (sub_skip (sub_skip (sub_self _))) | (apply Sub.cons; · repeat (first | exact .head | apply Take.tail))))⟩, ?_⟩
    refine vd_val rfl rfl rfl (.some rfl) (val_assign rfl) ?_
    refine vd_nil ?_
    refine vc_seq ?_
    refine vc_seq ?_
    refine vc_region ?_
    refine vl_val rfl (.some rfl) (by first | exact val_fieldAddr Try.runUnderlying34 rfl Try.sizeOf31 rfl | exact val_fieldAddrR Try.runUnderlying34 rfl Try.sizeOf31 rfl) ?_
    refine vl_val rfl (.some rfl) (val_load Try.isAgg31 rfl (by first | exact cell_cells (by repeat constructor) rfl | exact cell_rd (by first | exact rd_sl (by repeat constructor) | exact rd_old (by assumption) rfl) (by first | exact bcells_at (by omega) | exact ucells_at (by omega) | exact icells_at (by omega) | exact tcells_at (by omega) | exact bcells_get (by omega) | exact icells_get (by omega) | exact tcells_get (by omega) | exact ucells_get (by omega)) | exact cell_old (by assumption) (by simp [fps]))) ?_
    refine vl_val rfl (.some rfl) (val_lenSl Try.runUnderlying31 rfl) ?_
    refine vl_val rfl (.some rfl) (val_move rfl) ?_
    refine vl_nil ?_
    refine vc_block ?_
    refine vc_loopw (fun k E H => ∃ (i : Nat) (A4 : Option Addr) (c4 : Nat), i ≤ vs.length ∧ k = vs.length - i ∧ E = [(1, .pointer (some ⟨r1, 0, none⟩)), (4, .slice A4 (outS ⟨n, vs.map vcP, zs⟩ i).length c4), (22, .slice Ac vs.length cc), (23, .int .i64 vs.length), (24, .int .i64 i)] ∧ H = [BY A4 (outS ⟨n, vs.map vcP, zs⟩ i).length c4 (outS ⟨n, vs.map vcP, zs⟩ i), cells r1 [.int .i64 n, .slice Ac vs.length cc, .slice Az zs.length cz] 34]) (vs.length) ⟨_, _, _, ⟨0, A20, c20, by omega, rfl, rfl, rfl⟩, (by repeat (first | exact trivial | refine ⟨rfl, ?_⟩ | refine ⟨le_item rfl (by first | rfl | (congr 1; omega) | (simp; done) | (simp; omega)), ?_⟩)), (by repeat constructor)⟩ ?_
    intro k E H hI
    obtain ⟨i, A4, c4, hi, rfl, rfl, rfl⟩ := hI
    refine vc_seq ?_
    refine vc_region ?_
    refine vl_val rfl (.some rfl) (val_lt rfl rfl) ?_
    refine vl_nil ?_
    refine vc_seq ?_
    refine vc_cond rfl (fun hc1 => ?_) (fun hc1 => ?_)
    · (try replace hc1 := of_decide_eq_true hc1)
      have hi8 : i < vs.length := by omega
      have hcr := hrs.col _ (mem_getD vc0 hi8)
      have hl1 := hcr.ln
      have hl2 := hcr.li
      have hco := hok.2.2.2 i (by rw [hml]; exact hi8)
      rw [hmg] at hco
      have hov := hco.1
      have hol := outS_len hok i (by rw [hml]; omega)
      have hbv : (bytesV (vs.getD i vc0).nu (vs.getD i vc0).ids).length ≤ 1400 := bytesV_len hov
      have hev := enc2_len (zs.getD i zn0).lo (zs.getD i zn0).hi
      have hpl := partL_len (bytesV (vs.getD i vc0).nu (vs.getD i vc0).ids)
      have hoa : (outS ⟨n, vs.map vcP, zs⟩ i ++ partL (bytesV (vs.getD i vc0).nu (vs.getD i vc0).ids)).length ≤ 20 + 1700 * i + 1410 := by rw [List.length_append]; omega
      have hst : outS ⟨n, vs.map vcP, zs⟩ i ++ partL (bytesV (vs.getD i vc0).nu (vs.getD i vc0).ids) ++ partL (encV [(zs.getD i zn0).lo, (zs.getD i zn0).hi]) = outS ⟨n, vs.map vcP, zs⟩ (i + 1) := by show _ = outS _ i ++ colB ((vs.map vcP).getD i ([], [])) (zs.getD i zn0); rw [hmg, List.append_assoc]; rfl
      refine vc_skip ?_
      refine vc_seq ?_
      refine vc_block ?_
      refine vc_seq ?_
      refine vc_region ?_
      refine vl_val rfl (.some rfl) (val_move rfl) ?_
      refine vl_val rfl (.some rfl) (val_indexAddr Try.runUnderlying31 Try.sizeOf81 rfl rfl (rd_old hrs.cs rfl) (by omega) (by omega) (by rw [flatS_len vcC_len]; omega)) ?_
      refine vl_val rfl (.some rfl) (val_loadAgg Try.isAgg81 Try.sizeOf81 rfl (cells_rd (us := vcC (vs.getD i vc0)) (rd_old hrs.cs rfl) (by rw [Int.toNat_natCast]; exact flat_atM vcC_len vc0 _ _ (by omega))) rfl) ?_
      refine vl_alloc rfl rfl (.some rfl) Try.zeroValue81 (fun r6 => ?_)
      refine vl_val rfl (.some rfl) (val_assign rfl) ?_
      first | refine vl_store rfl rfl .none rfl rfl Try.sizeOf81 rfl (by repeat constructor) (by first | decide | exact Nat.le_refl _ | exact Nat.le_of_ble_eq_true rfl | (simp; omega)) ?_ | refine vl_storeSl rfl rfl .none rfl rfl Try.sizeOf81 rfl (by simp [Value.cells]) (by repeat constructor) (by first | decide | (simp [Value.cells]; omega)) ?_
      refine vl_nil ?_
      refine vc_seq ?_
      refine vc_region ?_
      refine vl_val rfl (.some rfl) (val_loadAgg Try.isAgg81 Try.sizeOf81 rfl (by first | exact cells_whole (by repeat constructor) | exact cells_part (by repeat constructor) rfl) rfl) ?_
      refine vl_call (C := []) rfl rfl (.some rfl) Try.call43 rfl .nil (fun w hw => cBytes (vs.getD i vc0).A (vs.getD i vc0).B (vs.getD i vc0).c (vs.getD i vc0).d (vs.getD i vc0).nu (vs.getD i vc0).ids (by omega) (by omega) w (rdw (rd_old hcr.nu rfl) hw) (rdw (rd_old hcr.ids rfl) hw)) (fun v H' h => ?_)
      obtain ⟨A31, c31, rfl, rfl⟩ := h
      rw [bytesL_ok hov]
      show VL _ _ _ _ _ (_ :: _)
      refine vl_val rfl (.some rfl) (val_move rfl) ?_
      refine vl_val rfl (.some rfl) (val_extract rfl rfl) ?_
      refine vl_val rfl (.some rfl) (val_extract rfl rfl) ?_
      refine vl_val rfl (.some rfl) (val_assign rfl) ?_
      refine vl_val rfl (.some rfl) (val_assign rfl) ?_
      refine vl_nil ?_
      refine vc_drawsT 19 [0, 1, 3, 4, 5, 6, 7, 8, 9, 10, 11, 12, 13, 14, 18] ([cells r1 [.int .i64 n, .slice Ac vs.length cc, .slice Az zs.length cz] 34]) (by repeat constructor) rfl (by kernel_rfl) rfl (fun _ _ _ h => h) ?_
      refine vt_val 0 rfl rfl (by kernel_rfl) rfl (.some rfl) (val_move rfl) ?_
      refine vt_val 1 rfl rfl (by kernel_rfl) rfl (.some rfl) (val_move rfl) ?_
      refine vt_val 3 rfl rfl (by kernel_rfl) rfl (.some rfl) (by first | exact val_fieldAddr Try.runUnderlying34 rfl Try.sizeOf32 rfl | exact val_fieldAddrR Try.runUnderlying34 rfl Try.sizeOf32 rfl) ?_
      refine vt_val 4 rfl rfl (by kernel_rfl) rfl (.some rfl) (val_load Try.isAgg32 rfl (by first | exact cell_cells (by repeat constructor) rfl | exact cell_rd (by first | exact rd_sl (by repeat constructor) | exact rd_old (by assumption) rfl) (by first | exact bcells_at (by omega) | exact ucells_at (by omega) | exact icells_at (by omega) | exact tcells_at (by omega) | exact bcells_get (by omega) | exact icells_get (by omega) | exact tcells_get (by omega) | exact ucells_get (by omega)) | exact cell_old (by assumption) (by simp [fps]))) ?_
      refine vt_val 5 rfl rfl (by kernel_rfl) rfl (.some rfl) (val_move rfl) ?_
      refine vt_val 6 rfl rfl (by kernel_rfl) rfl (.some rfl) (val_indexAddr Try.runUnderlying32 Try.sizeOf64 rfl rfl (rd_old hrs.zs rfl) (by omega) (by omega) (by rw [flatS_len znC_len]; omega)) ?_
      refine vt_val 7 rfl rfl (by kernel_rfl) rfl (.some rfl) (by first | exact val_fieldAddr Try.runUnderlying64 rfl Try.sizeOf62 rfl | exact val_fieldAddrR Try.runUnderlying64 rfl Try.sizeOf62 rfl) ?_
      refine vt_val 8 rfl rfl (by kernel_rfl) rfl (.some rfl) (val_loadAgg Try.isAgg62 Try.sizeOf62 rfl (cells_rd (us := [.int .i64 (zs.getD i zn0).lo.k, .int .i64 (zs.getD i zn0).lo.n, .string (zs.getD i zn0).lo.s]) (rd_old hrs.zs rfl) (by rw [Int.toNat_natCast]; exact zn_lo (by omega))) rfl) ?_
      refine vt_val 9 rfl rfl (by kernel_rfl) rfl (.some rfl) (by first | exact val_fieldAddr Try.runUnderlying34 rfl Try.sizeOf32 rfl | exact val_fieldAddrR Try.runUnderlying34 rfl Try.sizeOf32 rfl) ?_
      refine vt_val 10 rfl rfl (by kernel_rfl) rfl (.some rfl) (val_load Try.isAgg32 rfl (by first | exact cell_cells (by repeat constructor) rfl | exact cell_rd (by first | exact rd_sl (by repeat constructor) | exact rd_old (by assumption) rfl) (by first | exact bcells_at (by omega) | exact ucells_at (by omega) | exact icells_at (by omega) | exact tcells_at (by omega) | exact bcells_get (by omega) | exact icells_get (by omega) | exact tcells_get (by omega) | exact ucells_get (by omega)) | exact cell_old (by assumption) (by simp [fps]))) ?_
      refine vt_val 11 rfl rfl (by kernel_rfl) rfl (.some rfl) (val_move rfl) ?_
      refine vt_val 12 rfl rfl (by kernel_rfl) rfl (.some rfl) (val_indexAddr Try.runUnderlying32 Try.sizeOf64 rfl rfl (rd_old hrs.zs rfl) (by omega) (by omega) (by rw [flatS_len znC_len]; omega)) ?_
      refine vt_val 13 rfl rfl (by kernel_rfl) rfl (.some rfl) (by first | exact val_fieldAddr Try.runUnderlying64 rfl Try.sizeOf62 rfl | exact val_fieldAddrR Try.runUnderlying64 rfl Try.sizeOf62 rfl) ?_
      refine vt_val 14 rfl rfl (by kernel_rfl) rfl (.some rfl) (val_loadAgg Try.isAgg62 Try.sizeOf62 rfl (cells_rd (us := [.int .i64 (zs.getD i zn0).hi.k, .int .i64 (zs.getD i zn0).hi.n, .string (zs.getD i zn0).hi.s]) (rd_old hrs.zs rfl) (by rw [Int.toNat_natCast]; exact zn_hi (by omega))) rfl) ?_
      refine vt_fork2 2 15 (by kernel_rfl) ?_ ?_
      · refine vt_op rfl ?_
        refine vl_call (C := []) rfl rfl (.some rfl) Try.call44 rfl .nil (fun w hw => gPart A4 c4 (outS ⟨n, vs.map vcP, zs⟩ i) A31 c31 (bytesV (vs.getD i vc0).nu (vs.getD i vc0).ids) (by omega) (by omega) w (rdw (rd_sl (by repeat constructor)) hw) (rdw (rd_sl (by repeat constructor)) hw)) (fun v H' h => ?_)
        obtain ⟨A36, c36, rfl, rfl⟩ := h
        show VL _ _ _ _ _ (_ :: _)
        refine vl_nil ?_
        refine ⟨⟨_, (by repeat constructor)⟩, ?_⟩
        refine vt_fork1 15 (by kernel_rfl) ?_
        · refine vt_op rfl ?_
          refine vl_lit (us := [vk (zs.getD i zn0).lo, vk (zs.getD i zn0).hi]) sT53 rfl rfl (.some rfl) rfl rfl rfl (by decide) (by decide) rfl rfl (fun r49 => ?_)
          refine vl_nil ?_
          refine ⟨⟨_, (by repeat constructor)⟩, ?_⟩
          refine vt_fork1 16 (by kernel_rfl) ?_
          · refine vt_op rfl ?_
            refine vl_call (C := []) rfl rfl (.some rfl) Try.call45 rfl .nil (fun w hw => vBytes (some ⟨r49, 0, none⟩) 2 [(zs.getD i zn0).lo, (zs.getD i zn0).hi] (by show 2 ≤ 1000000; decide) (wz2 (hwz _ (mem_getD zn0 (by omega)))) w (rdw (rd_sl (by repeat constructor)) hw)) (fun v H' h => ?_)
            obtain ⟨A50, c50, rfl, rfl⟩ := h
            show VL _ _ _ _ _ (_ :: _)
            refine vl_nil ?_
            refine ⟨⟨_, (by repeat constructor)⟩, ?_⟩
            refine vt_fork1 17 (by kernel_rfl) ?_
            · refine vt_op rfl ?_
              refine vl_call (C := []) rfl rfl (.some rfl) Try.call44 rfl .nil (fun w hw => gPart A36 c36 (outS ⟨n, vs.map vcP, zs⟩ i ++ partL (bytesV (vs.getD i vc0).nu (vs.getD i vc0).ids)) A50 c50 (encV [(zs.getD i zn0).lo, (zs.getD i zn0).hi]) (by omega) (by omega) w (rdw (rd_sl (by repeat constructor)) hw) (rdw (rd_sl (by repeat constructor)) hw)) (fun v H' h => ?_)
              obtain ⟨A51, c51, rfl, rfl⟩ := h
              show VL _ _ _ _ _ (_ :: _)
              rw [hst]
              refine vl_nil ?_
              refine ⟨⟨_, (by repeat constructor)⟩, ?_⟩
              refine vt_val 18 rfl rfl (by kernel_rfl) rfl (.some rfl) (val_assign rfl) ?_
              refine vt_nil (by kernel_rfl) ?_
              refine vc_region ?_
              refine vl_val rfl (.some rfl) (val_add rfl rfl (by first | exact w_i64 (by omega) (by omega) | rfl)) ?_
              refine vl_val rfl (.some rfl) (val_move rfl) ?_
              refine vl_nil ?_
              exact ⟨vs.length - (i + 1), _, _, _, by omega, (by repeat (first | exact trivial | refine ⟨rfl, ?_⟩ | refine ⟨le_item rfl (by first | rfl | (congr 1; omega) | (simp; done) | (simp; omega)), ?_⟩)), (by repeat constructor), ⟨i + 1, A51, c51, by omega, rfl, rfl, rfl⟩⟩
      · refine vt_op rfl ?_
        refine vl_lit (us := [vk (zs.getD i zn0).lo, vk (zs.getD i zn0).hi]) sT53 rfl rfl (.some rfl) rfl rfl rfl (by decide) (by decide) rfl rfl (fun r49 => ?_)
        refine vl_nil ?_
        refine ⟨⟨_, (by repeat constructor)⟩, ?_⟩
        refine vt_fork1 2 (by kernel_rfl) ?_
        · refine vt_op rfl ?_
          refine vl_call (C := []) rfl rfl (.some rfl) Try.call44 rfl .nil (fun w hw => gPart A4 c4 (outS ⟨n, vs.map vcP, zs⟩ i) A31 c31 (bytesV (vs.getD i vc0).nu (vs.getD i vc0).ids) (by omega) (by omega) w (rdw (rd_sl (by repeat constructor)) hw) (rdw (rd_sl (by repeat constructor)) hw)) (fun v H' h => ?_)
          obtain ⟨A36, c36, rfl, rfl⟩ := h
          show VL _ _ _ _ _ (_ :: _)
          refine vl_nil ?_
          refine ⟨⟨_, (by repeat constructor)⟩, ?_⟩
          refine vt_fork1 16 (by kernel_rfl) ?_
          · refine vt_op rfl ?_
            refine vl_call (C := []) rfl rfl (.some rfl) Try.call45 rfl .nil (fun w hw => vBytes (some ⟨r49, 0, none⟩) 2 [(zs.getD i zn0).lo, (zs.getD i zn0).hi] (by show 2 ≤ 1000000; decide) (wz2 (hwz _ (mem_getD zn0 (by omega)))) w (rdw (rd_sl (by repeat constructor)) hw)) (fun v H' h => ?_)
            obtain ⟨A50, c50, rfl, rfl⟩ := h
            show VL _ _ _ _ _ (_ :: _)
            refine vl_nil ?_
            refine ⟨⟨_, (by repeat constructor)⟩, ?_⟩
            refine vt_fork1 17 (by kernel_rfl) ?_
            · refine vt_op rfl ?_
              refine vl_call (C := []) rfl rfl (.some rfl) Try.call44 rfl .nil (fun w hw => gPart A36 c36 (outS ⟨n, vs.map vcP, zs⟩ i ++ partL (bytesV (vs.getD i vc0).nu (vs.getD i vc0).ids)) A50 c50 (encV [(zs.getD i zn0).lo, (zs.getD i zn0).hi]) (by omega) (by omega) w (rdw (rd_sl (by repeat constructor)) hw) (rdw (rd_sl (by repeat constructor)) hw)) (fun v H' h => ?_)
              obtain ⟨A51, c51, rfl, rfl⟩ := h
              show VL _ _ _ _ _ (_ :: _)
              rw [hst]
              refine vl_nil ?_
              refine ⟨⟨_, (by repeat constructor)⟩, ?_⟩
              refine vt_val 18 rfl rfl (by kernel_rfl) rfl (.some rfl) (val_assign rfl) ?_
              refine vt_nil (by kernel_rfl) ?_
              refine vc_region ?_
              refine vl_val rfl (.some rfl) (val_add rfl rfl (by first | exact w_i64 (by omega) (by omega) | rfl)) ?_
              refine vl_val rfl (.some rfl) (val_move rfl) ?_
              refine vl_nil ?_
              exact ⟨vs.length - (i + 1), _, _, _, by omega, (by repeat (first | exact trivial | refine ⟨rfl, ?_⟩ | refine ⟨le_item rfl (by first | rfl | (congr 1; omega) | (simp; done) | (simp; omega)), ?_⟩)), (by repeat constructor), ⟨i + 1, A51, c51, by omega, rfl, rfl, rfl⟩⟩
    · (try replace hc1 := of_decide_eq_false hc1)
      obtain rfl : i = vs.length := by omega
      have hol := outS_len hok vs.length (by rw [hml]; omega)
      rw [show outS ⟨n, vs.map vcP, zs⟩ vs.length = segB ⟨n, vs.map vcP, zs⟩ by show _ = outS _ (vs.map vcP).length; rw [hml]]
      refine vc_exit ?_
      refine vc_seq ?_
      refine vc_region ?_
      refine vl_val rfl (.some rfl) (val_move rfl) ?_
      refine vl_call (C := []) rfl rfl (.some rfl) Try.call46 rfl .nil (fun w hw => cFrame A4 c4 (segB ⟨n, vs.map vcP, zs⟩) (by show (outS _ (vs.map vcP).length).length ≤ _; rw [hml]; omega) w (rdw (rd_sl (by repeat constructor)) hw)) (fun v H' h => ?_)
      obtain ⟨A54, c54, rfl, rfl⟩ := h
      show VL _ _ _ _ _ (_ :: _)
      refine vl_val rfl (.some rfl) (val_assign rfl) ?_
      refine vl_val rfl (.some rfl) (val_assign rfl) ?_
      refine vl_nil ?_
      refine vc_ret ?_
      refine ⟨_, [BY A54 (frameL (segB ⟨n, vs.map vcP, zs⟩)).length c54 (frameL (segB ⟨n, vs.map vcP, zs⟩))], _, res2 Try.results17 rfl rfl, (by repeat constructor), ?_⟩
      show ∃ A' c', _ ∧ _
      unfold segL segE
      rw [if_pos hok, if_pos hok]
      exact ⟨A54, c54, rfl, rfl⟩



/-! Which value comes first: it is an order. -/
theorem sgn_neg (a b : Int) : sgnI a b = - sgnI b a := by unfold sgnI; (repeat' split) <;> omega
theorem sgn_trans {a b c : Int} (h1 : sgnI a b ≤ 0) (h2 : sgnI b c ≤ 0) : sgnI a c ≤ 0 := by
  unfold sgnI at *
  split at h1 <;> split at h2 <;> (repeat' split) <;> omega
theorem cmpS_neg (a b : Nat) : cmpS a b = - cmpS b a := by
  unfold cmpS
  by_cases ha : isN a <;> by_cases hb : isN b <;> simp [ha, hb]
  (repeat' split) <;> omega
theorem cmpS_trans {a b c : Nat} (h1 : cmpS a b ≤ 0) (h2 : cmpS b c ≤ 0) : cmpS a c ≤ 0 := by
  unfold cmpS at *
  by_cases ha : isN a <;> by_cases hb : isN b <;> by_cases hc : isN c <;> simp [ha, hb, hc] at h1 h2 ⊢
  revert h1 h2
  (repeat' split) <;> intros <;> omega
theorem cl_neg : ∀ a b : List UInt8, Lib.compareBytes a b = - Lib.compareBytes b a
  | [], [] => by simp [Lib.compareBytes]
  | [], _ :: _ => by simp [Lib.compareBytes]
  | _ :: _, [] => by simp [Lib.compareBytes]
  | a :: xs, b :: ys => by
    unfold Lib.compareBytes
    by_cases h : a < b
    · have : ¬ b < a := fun h2 => UInt8.lt_irrefl a (UInt8.lt_trans h h2)
      simp [h, this]
    · by_cases h2 : b < a
      · simp [h, h2]
      · rw [if_neg h, if_neg h2, if_neg h2, if_neg h]; exact cl_neg xs ys
theorem cl_trans : ∀ {a b c : List UInt8}, Lib.compareBytes a b ≤ 0 → Lib.compareBytes b c ≤ 0 → Lib.compareBytes a c ≤ 0
  | [], _, [], _, _ => by simp [Lib.compareBytes]
  | [], _, _ :: _, _, _ => by simp [Lib.compareBytes]
  | _ :: _, [], _, h, _ => by simp [Lib.compareBytes] at h
  | _ :: _, _ :: _, [], _, h => by simp [Lib.compareBytes] at h
  | a :: xs, b :: ys, c :: zs, h1, h2 => by
    unfold Lib.compareBytes at h1 h2 ⊢
    by_cases hab : a < b
    · by_cases hbc : b < c
      · rw [if_pos (UInt8.lt_trans hab hbc)]; decide
      · by_cases hcb : c < b
        · rw [if_neg hbc, if_pos hcb] at h2; exact absurd h2 (by decide)
        · have : b = c := UInt8.le_antisymm (UInt8.not_lt.1 hcb) (UInt8.not_lt.1 hbc)
          subst this
          rw [if_pos hab]; decide
    · by_cases hba : b < a
      · rw [if_neg hab, if_pos hba] at h1; exact absurd h1 (by decide)
      · have : a = b := UInt8.le_antisymm (UInt8.not_lt.1 hba) (UInt8.not_lt.1 hab)
        subst this
        rw [if_neg hab, if_neg hab] at h1
        by_cases hbc : a < c
        · rw [if_pos hbc]; decide
        · by_cases hcb : c < a
          · rw [if_neg hbc, if_pos hcb] at h2; exact absurd h2 (by decide)
          · rw [if_neg hbc, if_neg hcb] at h2 ⊢
            exact cl_trans h1 h2
theorem cmpV_neg (p q : Vk) : cmpV p q = - cmpV q p := by
  unfold cmpV
  by_cases h : p.k = q.k
  · have hn1 : ¬ p.k ≠ q.k := fun e => e h
    have hn2 : ¬ q.k ≠ p.k := fun e => e h.symm
    rw [if_neg hn1, if_neg hn2, h]
    by_cases c0 : q.k = 0
    · rw [if_pos c0, if_pos c0]; rfl
    · rw [if_neg c0, if_neg c0]
      by_cases c2 : q.k = 2
      · rw [if_pos c2, if_pos c2]; exact cmpS_neg _ _
      · rw [if_neg c2, if_neg c2]
        by_cases c3 : q.k = 3
        · rw [if_pos c3, if_pos c3]; exact cl_neg _ _
        · rw [if_neg c3, if_neg c3]; exact sgn_neg _ _
  · rw [if_pos h, if_pos (Ne.symm h)]
    exact sgn_neg _ _
theorem sgn_ne {a b : Int} (h : a ≠ b) (h1 : sgnI a b ≤ 0) : a < b := by unfold sgnI at h1; split at h1; assumption; split at h1 <;> omega
theorem sgn_lt {a b : Int} (h : a < b) : sgnI a b ≤ 0 := by unfold sgnI; rw [if_pos h]; decide
theorem cmpV_trans {p q r : Vk} (h1 : cmpV p q ≤ 0) (h2 : cmpV q r ≤ 0) : cmpV p r ≤ 0 := by
  unfold cmpV at *
  by_cases a : p.k = q.k
  · by_cases b : q.k = r.k
    · rw [if_neg (by simp [a])] at h1
      rw [if_neg (by simp [b])] at h2
      rw [if_neg (by simp [a, b])]
      rw [a] at h1 ⊢
      by_cases c0 : q.k = 0
      · rw [if_pos c0]; decide
      · rw [if_neg c0] at h1 h2 ⊢
        by_cases c2 : q.k = 2
        · rw [if_pos c2] at h1 h2 ⊢; exact cmpS_trans h1 h2
        · rw [if_neg c2] at h1 h2 ⊢
          by_cases c3 : q.k = 3
          · rw [if_pos c3] at h1 h2 ⊢; exact cl_trans h1 h2
          · rw [if_neg c3] at h1 h2 ⊢; exact sgn_trans h1 h2
    · rw [if_pos b] at h2
      have := sgn_ne b h2
      rw [if_pos (by rw [a]; exact b), a]
      exact h2
  · rw [if_pos a] at h1
    have ha := sgn_ne a h1
    by_cases b : q.k = r.k
    · rw [if_pos (by rw [← b]; exact a), ← b]; exact h1
    · rw [if_pos b] at h2
      have hb := sgn_ne b h2
      rw [if_pos (by omega)]
      exact sgn_lt (by omega)
/-! ### What Make makes -/
theorem cmpV_refl (p : Vk) : cmpV p p = 0 := by have := cmpV_neg p p; omega
/-- What a column's values lead to. -/
structure InvC (kd : Int) (D : List Vk) (seen : List Vk) (c : Co × List Vk) : Prop where
  nu : c.1.nu = seen.map (fun v => decide (v.k = 0))
  n : c.1.z.n = ((c.1.nu.count true : Nat) : Int)
  ll : c.1.ids.length = seen.length
  ids : ∀ i, i < seen.length → ((seen.getD i z3).k = 0 → c.1.ids.getD i 0 = 0) ∧ (0 ≤ c.1.ids.getD i 0 ∧ c.1.ids.getD i 0 < 512) ∧ ((seen.getD i z3).k ≠ 0 → c.1.ids.getD i 0 < c.2.length ∧ c.2.getD (c.1.ids.getD i 0).toNat z3 = seen.getD i z3)
  dict : c.2 = D ++ newsT kd D seen []
  le : c.2.length ≤ 512
  no : (∀ v ∈ seen, v.k = 0) → c.1.z.lo = z3 ∧ c.1.z.hi = z3
  lo : (∃ v ∈ seen, v.k ≠ 0) → (c.1.z.lo ∈ seen ∧ c.1.z.lo.k ≠ 0) ∧ (c.1.z.hi ∈ seen ∧ c.1.z.hi.k ≠ 0)
  bd : ∀ v ∈ seen, v.k ≠ 0 → cmpV c.1.z.lo v ≤ 0 ∧ cmpV v c.1.z.hi ≤ 0
theorem getD_snoc {α : Type} (d : α) {l : List α} {x : α} {i : Nat} (h : i < (l ++ [x]).length) : (i < l.length ∧ (l ++ [x]).getD i d = l.getD i d) ∨ (i = l.length ∧ (l ++ [x]).getD i d = x) := by
  by_cases hi : i < l.length
  · exact .inl ⟨hi, by simp [List.getD, List.getElem?_append_left hi]⟩
  · have : i = l.length := by rw [List.length_append] at h; simp at h; omega
    exact .inr ⟨this, by subst this; simp [List.getD]⟩
theorem dadd_ok {kd : Int} {xs : List Vk} {p : Vk} (ht : takesB kd p = true) (hne : (dadd kd xs p).1.2 ≠ 7) (hl : xs.length ≤ 512) : ∃ (j : Nat) (t : List Vk), (dadd kd xs p).1.1 = (j : Int) ∧ j < (dadd kd xs p).2.length ∧ j < 512 ∧ (dadd kd xs p).2 = xs ++ t ∧ (dadd kd xs p).2.getD j z3 = p := by
  have hn : ¬ takesB kd p = false := by rw [ht]; simp
  by_cases hm : p ∈ xs
  · have e : dadd kd xs p = ((((xs.idxOf p : Nat) : Int), 0), xs) := by unfold dadd; rw [if_neg hn, if_pos hm]
    have hlt : xs.idxOf p < xs.length := List.idxOf_lt_length_of_mem hm
    rw [e]
    refine ⟨xs.idxOf p, [], rfl, hlt, by omega, by simp, ?_⟩
    simp [List.getD, List.getElem?_eq_getElem hlt]
  · by_cases hb : 512 ≤ xs.length
    · have e : dadd kd xs p = ((0, 7), xs) := by unfold dadd; rw [if_neg hn, if_neg hm, if_pos hb]
      rw [e] at hne
      exact absurd rfl hne
    · have e : dadd kd xs p = ((((xs.length : Nat) : Int), 0), xs ++ [p]) := by unfold dadd; rw [if_neg hn, if_neg hm, if_neg hb]
      rw [e]
      refine ⟨xs.length, [p], rfl, by simp, by omega, rfl, by simp [List.getD]⟩
theorem getD_front {xs t : List Vk} {j : Nat} (h : j < xs.length) : (xs ++ t).getD j z3 = xs.getD j z3 := by simp [List.getD, List.getElem?_append_left h]
theorem fits_takes {kd : Int} {v : Vk} (h : fitsB v kd = true) (h0 : v.k ≠ 0) : takesB kd v = true := by
  unfold fitsB at h
  unfold takesB
  simp only [Bool.and_eq_true, Bool.or_eq_true, decide_eq_true_eq] at h ⊢
  rcases h.2 with e | e
  · exact ⟨e, h.1⟩
  · exact absurd e h0
theorem invC_nil {kd : Int} {D : List Vk} (h : D.length ≤ 512) : InvC kd D [] (co0, D) :=
  ⟨rfl, rfl, rfl, fun i hi => absurd hi (Nat.not_lt_zero _), by simp [newsT], h, fun _ => ⟨rfl, rfl⟩, fun ⟨v, hv, _⟩ => (by cases hv), fun v hv => (by cases hv)⟩
theorem invC_null {kd : Int} {D seen : List Vk} {c : Co × List Vk} {v : Vk} (hk : okK kd) (h : InvC kd D seen c) (hv : v.k = 0) : InvC kd D (seen ++ [v]) (takeC kd c v) := by
  have et : takeC kd c v = (⟨⟨c.1.z.n + 1, c.1.z.lo, c.1.z.hi⟩, c.1.nu ++ [true], c.1.ids ++ [0]⟩, c.2) := by unfold takeC takeZ; rw [if_pos hv, if_pos hv]
  have hnt : takesB kd v = false := by unfold takesB; rw [hv, decide_eq_false (by omega)]; rfl
  have hnw : newsT kd D (seen ++ [v]) [] = newsT kd D seen [] := by rw [newsT_snoc, if_pos (.inr (.inl hnt))]
  rw [et]
  refine ⟨?_, ?_, ?_, fun i hi => ?_, ?_, h.le, fun ha => ?_, fun ⟨u, hu, hu0⟩ => ?_, fun u hu hu0 => ?_⟩
  · show c.1.nu ++ [true] = _
    rw [h.nu, List.map_append]; simp [hv]
  · show c.1.z.n + 1 = (((c.1.nu ++ [true]).count true : Nat) : Int)
    rw [h.n, List.count_append]; simp
  · show (c.1.ids ++ [0]).length = _
    rw [List.length_append, List.length_append, h.ll]; rfl
  · rcases getD_snoc z3 hi with ⟨hi2, e⟩ | ⟨hi2, e⟩
    · have := h.ids i hi2
      rw [e, show (c.1.ids ++ [(0 : Int)]).getD i 0 = c.1.ids.getD i 0 by simp [List.getD, List.getElem?_append_left (show i < c.1.ids.length by rw [h.ll]; exact hi2)]]
      exact this
    · rw [e, show (c.1.ids ++ [(0 : Int)]).getD i 0 = 0 by rw [hi2, ← h.ll]; simp [List.getD]]
      exact ⟨fun _ => rfl, by decide, fun hne => absurd hv hne⟩
  · rw [hnw]; exact h.dict
  · exact h.no fun u hu => ha u (List.mem_append_left _ hu)
  · have hus : u ∈ seen := by
      rcases List.mem_append.1 hu with h1 | h1
      · exact h1
      · rw [List.mem_singleton.1 h1] at hu0; exact absurd hv hu0
    have := h.lo ⟨u, hus, hu0⟩
    exact ⟨⟨List.mem_append_left _ this.1.1, this.1.2⟩, ⟨List.mem_append_left _ this.2.1, this.2.2⟩⟩
  · have hus : u ∈ seen := by
      rcases List.mem_append.1 hu with h1 | h1
      · exact h1
      · rw [List.mem_singleton.1 h1] at hu0; exact absurd hv hu0
    exact h.bd u hus hu0
theorem invC_val {kd : Int} {D seen : List Vk} {c : Co × List Vk} {v : Vk} (h : InvC kd D seen c) (hf : fitsB v kd = true) (hv : v.k ≠ 0) (hroom : D.length + (newsT kd D (seen ++ [v]) []).length ≤ 512) : InvC kd D (seen ++ [v]) (takeC kd c v) := by
  have hn := dadd_news (p := v) h.dict h.le
  have hne : (dadd kd c.2 v).1.2 ≠ 7 := fun e => by have := hn.1 e; omega
  obtain ⟨hd, hdl⟩ := hn.2 hne
  obtain ⟨j, t, ej, hj, hj5, hfr, hat⟩ := dadd_ok (fits_takes hf hv) hne h.le
  have et : takeC kd c v = (⟨⟨c.1.z.n, if c.1.z.lo.k = 0 ∨ cmpV v c.1.z.lo < 0 then v else c.1.z.lo, if c.1.z.hi.k = 0 ∨ 0 < cmpV v c.1.z.hi then v else c.1.z.hi⟩, c.1.nu ++ [false], c.1.ids ++ [(j : Int)]⟩, (dadd kd c.2 v).2) := by unfold takeC takeZ; rw [if_neg hv, if_neg hv, ej]
  have hall : ∀ u ∈ seen, u.k ≠ 0 → c.1.z.lo.k ≠ 0 ∧ c.1.z.hi.k ≠ 0 := fun u hu hu0 => ⟨(h.lo ⟨u, hu, hu0⟩).1.2, (h.lo ⟨u, hu, hu0⟩).2.2⟩
  have hmemlo : c.1.z.lo.k ≠ 0 → c.1.z.lo ∈ seen := fun h0 => by
    by_cases ha : ∀ u ∈ seen, u.k = 0
    · rw [(h.no ha).1] at h0; exact absurd rfl h0
    · obtain ⟨u, hu⟩ := Classical.not_forall.1 ha
      obtain ⟨hu1, hu2⟩ := Classical.not_imp.1 hu
      exact (h.lo ⟨u, hu1, hu2⟩).1.1
  have hmemhi : c.1.z.hi.k ≠ 0 → c.1.z.hi ∈ seen := fun h0 => by
    by_cases ha : ∀ u ∈ seen, u.k = 0
    · rw [(h.no ha).2] at h0; exact absurd rfl h0
    · obtain ⟨u, hu⟩ := Classical.not_forall.1 ha
      obtain ⟨hu1, hu2⟩ := Classical.not_imp.1 hu
      exact (h.lo ⟨u, hu1, hu2⟩).2.1
  rw [et]
  refine ⟨?_, ?_, ?_, fun i hi => ?_, hd, hdl, fun ha => absurd (ha v (List.mem_append_right _ (List.mem_singleton_self _))) hv, fun _ => ⟨?_, ?_⟩, fun u hu hu0 => ⟨?_, ?_⟩⟩
  · show c.1.nu ++ [false] = _
    rw [h.nu, List.map_append]; simp [hv]
  · show c.1.z.n = (((c.1.nu ++ [false]).count true : Nat) : Int)
    rw [h.n, List.count_append]; simp
  · show (c.1.ids ++ [(j : Int)]).length = _
    rw [List.length_append, List.length_append, h.ll]; rfl
  · rcases getD_snoc z3 hi with ⟨hi2, e⟩ | ⟨hi2, e⟩
    · have hh := h.ids i hi2
      rw [e, show (c.1.ids ++ [(j : Int)]).getD i 0 = c.1.ids.getD i 0 by simp [List.getD, List.getElem?_append_left (show i < c.1.ids.length by rw [h.ll]; exact hi2)]]
      refine ⟨hh.1, hh.2.1, fun h0 => ?_⟩
      obtain ⟨h1, h2⟩ := hh.2.2 h0
      have hlt : (c.1.ids.getD i 0).toNat < c.2.length := by have := hh.2.1; omega
      show _ < (((dadd kd c.2 v).2.length : Nat) : Int) ∧ (dadd kd c.2 v).2.getD _ z3 = _
      rw [hfr]
      exact ⟨by rw [List.length_append]; omega, by rw [getD_front hlt]; exact h2⟩
    · rw [e, show (c.1.ids ++ [(j : Int)]).getD i 0 = (j : Int) by rw [hi2, ← h.ll]; simp [List.getD]]
      refine ⟨fun h0 => absurd h0 hv, by omega, fun _ => ⟨by show _ < (((dadd kd c.2 v).2.length : Nat) : Int); omega, ?_⟩⟩
      rw [Int.toNat_natCast]; exact hat
  · show (if _ then v else c.1.z.lo) ∈ _ ∧ (if _ then v else c.1.z.lo).k ≠ 0
    split
    · exact ⟨List.mem_append_right _ (List.mem_singleton_self _), hv⟩
    · rename_i hc
      have h0 : c.1.z.lo.k ≠ 0 := fun e => hc (.inl e)
      exact ⟨List.mem_append_left _ (hmemlo h0), h0⟩
  · show (if _ then v else c.1.z.hi) ∈ _ ∧ (if _ then v else c.1.z.hi).k ≠ 0
    split
    · exact ⟨List.mem_append_right _ (List.mem_singleton_self _), hv⟩
    · rename_i hc
      have h0 : c.1.z.hi.k ≠ 0 := fun e => hc (.inl e)
      exact ⟨List.mem_append_left _ (hmemhi h0), h0⟩
  · show cmpV (if _ then v else c.1.z.lo) u ≤ 0
    rcases List.mem_append.1 hu with h1 | h1
    · have hb := (h.bd u h1 hu0).1
      split
      · rename_i hc
        rcases hc with hc | hc
        · exact absurd hc (hall u h1 hu0).1
        · exact cmpV_trans (Int.le_of_lt hc) hb
      · exact hb
    · rw [List.mem_singleton.1 h1]
      split
      · rw [cmpV_refl]; decide
      · rename_i hc
        have h2 : ¬ cmpV v c.1.z.lo < 0 := fun e => hc (.inr e)
        have := cmpV_neg c.1.z.lo v
        omega
  · show cmpV u (if _ then v else c.1.z.hi) ≤ 0
    rcases List.mem_append.1 hu with h1 | h1
    · have hb := (h.bd u h1 hu0).2
      split
      · rename_i hc
        rcases hc with hc | hc
        · exact absurd hc (hall u h1 hu0).2
        · exact cmpV_trans hb (by have := cmpV_neg c.1.z.hi v; omega)
      · exact hb
    · rw [List.mem_singleton.1 h1]
      split
      · rw [cmpV_refl]; decide
      · rename_i hc
        have h2 : ¬ 0 < cmpV v c.1.z.hi := fun e => hc (.inr e)
        omega
theorem invC_all {kd : Int} {D : List Vk} (hk : okK kd) : ∀ (us seen : List Vk) (c : Co × List Vk), InvC kd D seen c → (∀ v ∈ us, fitsB v kd = true) → D.length + (newsT kd D (seen ++ us) []).length ≤ 512 → InvC kd D (seen ++ us) (us.foldl (takeC kd) c)
  | [], seen, c, h, _, _ => by rw [List.append_nil]; exact h
  | v :: us, seen, c, h, hf, hr => by
    have e : seen ++ v :: us = (seen ++ [v]) ++ us := by simp
    rw [e] at hr ⊢
    have h1 : (newsT kd D (seen ++ [v]) []).length ≤ (newsT kd D ((seen ++ [v]) ++ us) []).length := by
      rw [newsT_app (seen ++ [v]) us []]; exact (newsT_ge _ _).1
    refine invC_all hk us (seen ++ [v]) _ ?_ (fun u hu => hf u (List.mem_cons_of_mem _ hu)) hr
    by_cases hv : v.k = 0
    · exact invC_null hk h hv
    · exact invC_val h (hf v List.mem_cons_self) hv (by omega)
theorem colF_inv {kd : Int} {D vs : List Vk} (hk : okK kd) (hl : D.length ≤ 512) (hf : ∀ v ∈ vs, fitsB v kd = true) (hr : roomT kd D vs = true) : InvC kd D vs (colF kd D vs) := by
  have h := invC_all hk vs [] (co0, D) (invC_nil hl) hf (by simpa [roomT] using hr)
  exact h
theorem mayE_room {ks : List Int} {Ds : List (List Vk)} {rows : Rws} (h : mayE ks Ds rows = 0) : ∀ i, i < ks.length → roomT (ks.getD i 0) (Ds.getD i []) (colR rows i) = true := by
  obtain ⟨h0, h1, h2⟩ := mayE_zero h
  intro i hi
  cases hb : roomT (ks.getD i 0) (Ds.getD i []) (colR rows i) with
  | true => rfl
  | false =>
    have := mayE_full (by omega) h1 h2 hi hb
    rw [h] at this; cases this
/-- What is made without an error: of each column, what its values lead to. -/
structure MadeOk (ks : List Int) (Ds : List (List Vk)) (RS : Rws) (n : Int) (vs : List Vc) (zs : List Zn) (Ds2 : List (List Vk)) : Prop where
  n : n = (RS.length : Int)
  rl : 1 ≤ RS.length ∧ RS.length ≤ 1000
  kl : 1 ≤ ks.length ∧ ks.length ≤ 8
  vl : vs.length = ks.length
  zl : zs.length = ks.length
  dl : Ds2.length = ks.length
  row : ∀ r, r < RS.length → (RS.getD r []).length = ks.length
  kd : ∀ i, i < ks.length → okK (ks.getD i 0)
  fits : ∀ i, i < ks.length → ∀ v ∈ colR RS i, fitsB v (ks.getD i 0) = true
  inv : ∀ i, i < ks.length → InvC (ks.getD i 0) (Ds.getD i []) (colR RS i) (⟨zs.getD i zn0, (vs.getD i vc0).nu, (vs.getD i vc0).ids⟩, Ds2.getD i [])
theorem made_err {ks : List Int} {Ds : List (List Vk)} {RS : Rws} {n : Int} {vs : List Vc} {zs : List Zn} {e : Int} {Ds2 : List (List Vk)} (h : MadeS ks Ds RS n vs zs e Ds2) : e = mayE ks Ds RS := by
  unfold MadeS makeP at h
  split at h
  · simp only [Prod.mk.injEq] at h; exact h.1.1.symm
  · rename_i h0
    simp only [Prod.mk.injEq] at h
    rw [← h.1.1]; exact (by simpa using h0 : mayE ks Ds RS = 0).symm
theorem made_ok {ks : List Int} {Ds : List (List Vk)} {RS : Rws} {n : Int} {vs : List Vc} {zs : List Zn} {Ds2 : List (List Vk)} (h : MadeS ks Ds RS n vs zs 0 Ds2) (hD : ∀ i, (Ds.getD i []).length ≤ 512) : MadeOk ks Ds RS n vs zs Ds2 := by
  have h0 := (made_err h).symm
  obtain ⟨hl, hk, hrow⟩ := mayE_zero h0
  have hroom := mayE_room h0
  unfold MadeS makeP at h
  rw [if_neg (by rw [h0]; simp)] at h
  simp only [Prod.mk.injEq, Sg.mk.injEq] at h
  obtain ⟨⟨_, hn, h1, h2⟩, h3⟩ := h
  have hcl : (colsP ks Ds RS).length = ks.length := by unfold colsP; rw [List.length_map, List.length_range]
  have hvl : vs.length = ks.length := by rw [← List.length_map (f := vcP), ← h1, List.length_map, hcl]
  have hzl : zs.length = ks.length := by rw [← h2, List.length_map, hcl]
  have hrow2 : ∀ r, r < RS.length → (RS.getD r []).length = ks.length := fun r hr => Decidable.byContradiction fun hne => hrow r hr (.inl hne)
  have hfit : ∀ i, i < ks.length → ∀ v ∈ colR RS i, fitsB v (ks.getD i 0) = true := fun i hi v hv => by
    unfold colR at hv
    obtain ⟨r, hr, rfl⟩ := List.mem_map.1 hv
    obtain ⟨j, hj, rfl⟩ := List.mem_iff_getElem.1 hr
    cases hb : fitsB ((RS[j]).getD i z3) (ks.getD i 0) with
    | true => rfl
    | false => exact absurd (.inr ⟨i, hi, by simpa [List.getD, List.getElem?_eq_getElem hj] using hb⟩) (hrow j hj)
  refine ⟨hn.symm, by omega, by omega, hvl, hzl, by rw [← h3, List.length_map, hcl], hrow2, hk, hfit, fun i hi => ?_⟩
  have hc : (colsP ks Ds RS).getD i (co0, []) = colF (ks.getD i 0) (Ds.getD i []) (colR RS i) := by unfold colsP; simp [List.getD, hi]
  have e1 : vcP (vs.getD i vc0) = ((colF (ks.getD i 0) (Ds.getD i []) (colR RS i)).1.nu, (colF (ks.getD i 0) (Ds.getD i []) (colR RS i)).1.ids) := by
    rw [← map_getDs (f := vcP) vc0 ([], []) rfl, ← h1, map_getDs (f := fun c : Co × List Vk => (c.1.nu, c.1.ids)) (co0, []) ([], []) rfl, hc]
  have e2 : zs.getD i zn0 = (colF (ks.getD i 0) (Ds.getD i []) (colR RS i)).1.z := by
    rw [← h2, map_getDs (f := fun c : Co × List Vk => c.1.z) (co0, []) zn0 rfl, hc]
  have e3 : Ds2.getD i [] = (colF (ks.getD i 0) (Ds.getD i []) (colR RS i)).2 := by
    rw [← h3, map_getDs (f := fun c : Co × List Vk => c.2) (co0, []) [] rfl, hc]
  simp only [Prod.mk.injEq] at e1
  rw [e1.1, e1.2, e2, e3]
  exact colF_inv (hk i hi) (hD i) (hfit i hi) (hroom i hi)
theorem InvC.all {kd : Int} {D seen : List Vk} {c : Co × List Vk} (h : InvC kd D seen c) : c.1.z.n = (seen.length : Int) ↔ ∀ v ∈ seen, v.k = 0 := by
  have hl : c.1.nu.length = seen.length := by rw [h.nu, List.length_map]
  rw [h.n]
  constructor
  · intro he v hv
    have h1 : c.1.nu.count true = c.1.nu.length := by omega
    have h2 := List.count_eq_length.1 h1 (decide (v.k = 0)) (by rw [h.nu]; exact List.mem_map.2 ⟨v, hv, rfl⟩)
    exact of_decide_eq_true h2.symm
  · intro ha
    have h1 : c.1.nu.count true = c.1.nu.length := List.count_eq_length.2 fun b hb => by
      rw [h.nu] at hb
      obtain ⟨v, hv, rfl⟩ := List.mem_map.1 hb
      exact (decide_eq_true (ha v hv)).symm
    omega
theorem InvC.some {kd : Int} {D seen : List Vk} {c : Co × List Vk} (h : InvC kd D seen c) (hn : c.1.z.n ≠ (seen.length : Int)) : ∃ v ∈ seen, v.k ≠ 0 := by
  have : ¬ ∀ v ∈ seen, v.k = 0 := fun ha => hn (h.all.2 ha)
  obtain ⟨v, hv⟩ := Classical.not_forall.1 this
  obtain ⟨h1, h2⟩ := Classical.not_imp.1 hv
  exact ⟨v, h1, h2⟩
theorem made_good {ks : List Int} {Ds : List (List Vk)} {RS : Rws} {n : Int} {vs : List Vc} {zs : List Zn} {Ds2 : List (List Vk)} (h : MadeOk ks Ds RS n vs zs Ds2) : goodSg ⟨n, vs.map vcP, zs⟩ := by
  have hrl := h.rl
  have hkl := h.kl
  have hn := h.n
  refine ⟨by show 1 ≤ n ∧ n ≤ 1000; omega, by show 1 ≤ (vs.map vcP).length ∧ (vs.map vcP).length ≤ 8; rw [List.length_map, h.vl]; exact hkl, by show zs.length = (vs.map vcP).length; rw [List.length_map, h.vl, h.zl], fun i hi => ?_⟩
  have hi2 : i < ks.length := by rw [← h.vl]; simpa using hi
  show colOk n ((vs.map vcP).getD i ([], [])) (zs.getD i zn0)
  rw [map_getDs (f := vcP) vc0 ([], []) rfl]
  have hv := h.inv i hi2
  have hf := h.fits i hi2
  have hcl := colR_len RS i
  have hnl : (vs.getD i vc0).nu.length = RS.length := by have := hv.nu; simp only at this; rw [this, List.length_map, hcl]
  have hil : (vs.getD i vc0).ids.length = RS.length := by have := hv.ll; simp only at this; rw [this, hcl]
  refine ⟨⟨by show (vs.getD i vc0).nu.length = (vs.getD i vc0).ids.length; omega, by show (vs.getD i vc0).ids.length ≤ 1000; omega, fun r hr => ?_⟩, by show (((vs.getD i vc0).ids.length : Nat) : Int) = n; omega, ?_⟩
  · have hr2 : r < (colR RS i).length := by rw [hcl]; have : r < (vs.getD i vc0).ids.length := hr; omega
    obtain ⟨a1, a2, a3⟩ := hv.ids r hr2
    refine ⟨a2.1, a2.2, fun hb => a1 ?_⟩
    have hnu := hv.nu
    simp only at hnu
    have hb2 : (vs.getD i vc0).nu.getD r false = true := hb
    rw [hnu] at hb2
    have : ((colR RS i).map (fun v => decide (v.k = 0))).getD r false = decide (((colR RS i).getD r z3).k = 0) := by simp [List.getD, List.getElem?_eq_getElem hr2]
    rw [this] at hb2
    exact of_decide_eq_true hb2
  · have hzn := hv.n
    simp only at hzn
    unfold soundZ
    rw [if_neg (show ¬ (zs.getD i zn0).n ≠ (((vcP (vs.getD i vc0)).1.count true : Nat) : Int) from fun hne => hne hzn)]
    have hall := hv.all
    simp only at hall
    rw [hcl, ← hn] at hall
    split
    · rename_i he
      have := hv.no (hall.1 he)
      simp only at this
      rw [this.1, this.2]; rfl
    · rename_i he
      obtain ⟨u, hu, hu0⟩ := hv.some (by simp only; rw [hcl, ← hn]; exact he)
      obtain ⟨⟨l1, l2⟩, ⟨l3, l4⟩⟩ := hv.lo ⟨u, hu, hu0⟩
      simp only at l1 l2 l3 l4
      have f1 := fits_takes (hf _ l1) l2
      have f2 := fits_takes (hf _ l3) l4
      unfold takesB at f1 f2
      simp only [Bool.and_eq_true, decide_eq_true_eq] at f1 f2
      have hb := (hv.bd _ l3 l4).1
      simp only at hb
      simp only [Bool.and_eq_true, decide_eq_true_eq]
      exact ⟨⟨⟨⟨l2, by rw [f1.1, f2.1]⟩, f1.2⟩, f2.2⟩, hb⟩
theorem made_zone {ks : List Int} {Ds : List (List Vk)} {RS : Rws} {n : Int} {vs : List Vc} {zs : List Zn} {Ds2 : List (List Vk)} (h : MadeOk ks Ds RS n vs zs Ds2) {i : Nat} (hi : i < ks.length) : ((zs.getD i zn0).n = (RS.length : Int) ↔ (zs.getD i zn0).lo = z3) ∧ 0 ≤ (zs.getD i zn0).n := by
  have hv := h.inv i hi
  have hall := hv.all
  have hn := hv.n
  simp only at hall hn
  rw [colR_len] at hall
  refine ⟨⟨fun he => (hv.no (hall.1 he)).1, fun he => ?_⟩, by rw [hn]; omega⟩
  refine Decidable.byContradiction fun hne => ?_
  obtain ⟨u, hu, hu0⟩ := hv.some (by simp only; rw [colR_len]; exact hne)
  have := (hv.lo ⟨u, hu, hu0⟩).1.2
  simp only at this
  rw [he] at this
  exact this rfl
theorem dadd_copy {kd : Int} {vs : List Vk} {i : Nat} (ht : ∀ q ∈ vs, takesB kd q = true) (hn : vs.Nodup) (hl : vs.length ≤ 512) (hi : i < vs.length) : dadd kd (vs.take i) (vs.getD i z3) = (((i : Int), 0), vs.take (i + 1)) := by
  have e : vs.getD i z3 = vs[i] := by simp [List.getD, List.getElem?_eq_getElem hi]
  rw [e]
  have hm : vs[i] ∉ vs.take i := by
    intro h
    obtain ⟨j, hj, hje⟩ := List.mem_iff_getElem.1 h
    rw [List.length_take] at hj
    rw [List.getElem_take] at hje
    exact List.pairwise_iff_getElem.1 hn j i (by omega) hi (by omega) hje
  unfold dadd
  rw [if_neg (by rw [ht _ (List.getElem_mem hi)]; simp), if_neg hm, if_neg (by rw [List.length_take]; omega)]
  congr 1
  · rw [List.length_take, Nat.min_eq_left (by omega)]
  · rw [List.take_add_one, List.getElem?_eq_getElem hi]; rfl
set_option maxRecDepth 20000 in
set_option maxHeartbeats 400000 in
theorem dCopy (r m : Nat) (kd : Int) (A : Option Addr) (c : Nat) (vs : List Vk) (hk : 1 ≤ kd ∧ kd ≤ 4) (ht : ∀ q ∈ vs, takesB kd q = true) (hn : vs.Nodup) (hl : vs.length ≤ 512) (w : World) : Fn Try.prog 16 [.pointer (some ⟨r, 0, none⟩)] [DC r m kd A vs.length c, DS A c vs] (ret fun u H' => ∃ r' m' A' c', u = .pointer (some ⟨r', 0, none⟩) ∧ H' = [DC r m kd A vs.length c, DS A c vs, DC r' m' kd A' vs.length c', DM m' vs, DS A' c' vs]) w := by
  refine fn_enter Try.func16 rfl Try.ntmps16 rfl ?_
  refine vc_seq ?_
  refine vc_region ?_
  refine vl_val rfl (.some rfl) (val_assign rfl) ?_
  refine vl_nil ?_
  refine vc_seq ?_
  refine vc_seq ?_
  refine vc_region ?_
  refine vl_val rfl (.some rfl) (val_move rfl) ?_
  refine vl_callR [DC r m kd A vs.length c] rfl rfl (.some rfl) Try.call40 rfl (by repeat constructor) (fun w hw => dMade r m kd A vs.length c w) ?_
  refine vl_val rfl (.some rfl) (val_not rfl) ?_
  refine vl_nil ?_
  refine vc_cond rfl (fun h => by cases h) (fun _ => ?_)
  refine vc_skip ?_
  refine vc_seq ?_
  refine vc_region ?_
  refine vl_val rfl (.some rfl) (val_move rfl) ?_
  refine vl_val rfl (.some rfl) (val_nil rfl rfl) ?_
  refine vl_val rfl (.some rfl) (by first | exact val_fieldAddr Try.runUnderlying103 rfl Try.sizeOf3 rfl | exact val_fieldAddrR Try.runUnderlying103 rfl Try.sizeOf3 rfl) ?_
  refine vl_val rfl (.some rfl) (val_load Try.isAgg3 rfl (by first | exact cell_cells (by repeat constructor) rfl | exact cell_rd (by first | exact rd_sl (by repeat constructor) | exact rd_old (by assumption) rfl) (by first | exact bcells_at (by omega) | exact ucells_at (by omega) | exact icells_at (by omega) | exact tcells_at (by omega) | exact bcells_get (by omega) | exact icells_get (by omega) | exact tcells_get (by omega) | exact ucells_get (by omega)) | exact cell_old (by assumption) (by simp [fps]))) ?_
  refine vl_call rfl rfl (.some rfl) Try.call22 rfl .nil (fun w hw => dNew kd hk.1 hk.2 w) (fun v H' h => ?_)
  obtain ⟨r2, m2, rfl, rfl⟩ := h
  show VL _ _ _ _ _ (_ :: _ :: _ :: _)
  refine vl_val rfl (.some rfl) (val_assign rfl) ?_
  refine vl_nil ?_
  refine vc_seq ?_
  refine vc_seq ?_
  refine vc_region ?_
  refine vl_val rfl (.some rfl) (val_move rfl) ?_
  refine vl_val rfl (.some rfl) (val_nil rfl rfl) ?_
  refine vl_val rfl (.some rfl) (by first | exact val_fieldAddr Try.runUnderlying103 rfl Try.sizeOf53 rfl | exact val_fieldAddrR Try.runUnderlying103 rfl Try.sizeOf53 rfl) ?_
  refine vl_val rfl (.some rfl) (val_load Try.isAgg53 rfl (by first | exact cell_cells (by repeat constructor) rfl | exact cell_rd (by first | exact rd_sl (by repeat constructor) | exact rd_old (by assumption) rfl) (by first | exact bcells_at (by omega) | exact ucells_at (by omega) | exact icells_at (by omega) | exact tcells_at (by omega) | exact bcells_get (by omega) | exact icells_get (by omega) | exact tcells_get (by omega) | exact ucells_get (by omega)) | exact cell_old (by assumption) (by simp [fps]))) ?_
  refine vl_val rfl (.some rfl) (val_lenSl Try.runUnderlying53 rfl) ?_
  refine vl_val rfl (.some rfl) (val_move rfl) ?_
  refine vl_nil ?_
  refine vc_block ?_
  refine vc_loopw (fun k E H => ∃ (i : Nat) (A2 : Option Addr) (c2 : Nat), i ≤ vs.length ∧ k = vs.length - i ∧ E = [(3, .pointer (some ⟨r2, 0, none⟩)), (17, .slice A vs.length c), (18, .int .i64 vs.length), (19, .int .i64 i)] ∧ H = [DC r m kd A vs.length c, DS A c vs, DC r2 m2 kd A2 (vs.take i).length c2, DM m2 (vs.take i), DS A2 c2 (vs.take i)]) (vs.length) ⟨_, _, _, ⟨0, none, 0, by omega, rfl, rfl, rfl⟩, (by repeat (first | exact trivial | refine ⟨rfl, ?_⟩ | refine ⟨le_item rfl (by first | rfl | (congr 1; omega) | (simp; done) | (simp; omega)), ?_⟩)), (by repeat constructor)⟩ ?_
  intro k E H hI
  obtain ⟨i, A2, c2, hi, rfl, rfl, rfl⟩ := hI
  refine vc_seq ?_
  refine vc_region ?_
  refine vl_val rfl (.some rfl) (val_lt rfl rfl) ?_
  refine vl_nil ?_
  refine vc_seq ?_
  refine vc_cond rfl (fun hc1 => ?_) (fun hc1 => ?_)
  · (try replace hc1 := of_decide_eq_true hc1)
    have hf := flat_at vs i (by omega)
    obtain ⟨p, hp⟩ : ∃ p, vs.getD i z3 = p := ⟨_, rfl⟩
    rw [hp] at hf
    refine vc_skip ?_
    refine vc_seq ?_
    refine vc_block ?_
    refine vc_seq ?_
    refine vc_region ?_
    refine vl_val rfl (.some rfl) (val_indexAddr Try.runUnderlying53 Try.sizeOf62 rfl rfl (rd_sl (A := A) (n := vs.length) (c := c) (e := 62) (sz := 3) (vs := flat vs) (by repeat constructor)) (by omega) (by omega) (by rw [vflat_len]; omega)) ?_
    refine vl_val rfl (.some rfl) (val_loadAgg Try.isAgg62 Try.sizeOf62 rfl (rd_part (us := [.int .i64 p.k, .int .i64 p.n, .string p.s]) (rd_sl (A := A) (n := vs.length) (c := c) (e := 62) (sz := 3) (vs := flat vs) (by repeat constructor)) hf) rfl) ?_
    refine vl_alloc rfl rfl (.some rfl) Try.zeroValue62 (fun r5 => ?_)
    first | refine vl_store rfl rfl .none rfl rfl Try.sizeOf62 rfl (by repeat constructor) (by first | decide | exact Nat.le_refl _ | exact Nat.le_of_ble_eq_true rfl | (simp; omega)) ?_ | refine vl_storeSl rfl rfl .none rfl rfl Try.sizeOf62 rfl (by simp [Value.cells]) (by repeat constructor) (by first | decide | (simp [Value.cells]; omega)) ?_
    refine vl_nil ?_
    refine vc_region ?_
    refine vl_val rfl (.some rfl) (val_move rfl) ?_
    refine vl_val rfl (.some rfl) (val_loadAgg Try.isAgg62 Try.sizeOf62 rfl (by first | exact cells_whole (by repeat constructor) | exact cells_part (by repeat constructor) rfl) rfl) ?_
    refine vl_call (C := DH r2 m2 kd A2 c2 (vs.take i)) rfl rfl (.some rfl) Try.call41 rfl (by repeat constructor) (fun w hw => dAdd r2 m2 kd A2 c2 (vs.take i) p w) (fun v H' h => ?_)
    obtain ⟨A3, c3, rfl, rfl⟩ := h
    rw [← hp, dadd_copy ht hn hl (by omega)]
    show VL _ _ _ _ _ (DC r2 m2 kd A3 (vs.take (i + 1)).length c3 :: DM m2 (vs.take (i + 1)) :: DS A3 c3 (vs.take (i + 1)) :: _)
    refine vl_nil ?_
    refine vc_region ?_
    refine vl_val rfl (.some rfl) (val_add rfl rfl (by first | exact w_i64 (by omega) (by omega) | rfl)) ?_
    refine vl_val rfl (.some rfl) (val_move rfl) ?_
    refine vl_nil ?_
    exact ⟨vs.length - (i + 1), _, _, _, by omega, (by repeat (first | exact trivial | refine ⟨rfl, ?_⟩ | refine ⟨le_item rfl (by first | rfl | (congr 1; omega) | (simp; done) | (simp; omega)), ?_⟩)), (by repeat constructor), ⟨i + 1, A3, c3, by omega, rfl, rfl, rfl⟩⟩
  · (try replace hc1 := of_decide_eq_false hc1)
    obtain rfl : i = vs.length := by omega
    rw [List.take_length]
    refine vc_exit ?_
    refine vc_seq ?_
    refine vc_region ?_
    refine vl_val rfl (.some rfl) (val_move rfl) ?_
    refine vl_val rfl (.some rfl) (val_assign rfl) ?_
    refine vl_nil ?_
    refine vc_ret ?_
    refine ⟨_, [DC r m kd A vs.length c, DS A c vs, DC r2 m2 kd A2 vs.length c2, DM m2 vs, DS A2 c2 vs], _, res1 Try.results16 rfl, (by repeat constructor), ?_⟩
    exact ⟨r2, m2, A2, c2, rfl, rfl⟩
set_option maxRecDepth 20000 in
theorem dCopy0 (w : World) : FnV Try.prog 16 [.pointer none] (.pointer none) w := by
  refine fn_enter Try.func16 rfl Try.ntmps16 rfl ?_
  refine vc_seq ?_
  refine vc_region ?_
  refine vl_val rfl (.some rfl) (val_assign rfl) ?_
  refine vl_nil ?_
  refine vc_seq ?_
  refine vc_seq ?_
  refine vc_region ?_
  refine vl_val rfl (.some rfl) (val_move rfl) ?_
  refine vl_callV rfl rfl (.some rfl) Try.call40 rfl (fun w hw => dMade0 w) ?_
  refine vl_val rfl (.some rfl) (val_not rfl) ?_
  refine vl_nil ?_
  refine vc_cond rfl (fun hc0 => ?_) (fun hc0 => False.elim (by (try replace hc0 := of_decide_eq_false hc0); cases hc0))
  (try replace hc0 := of_decide_eq_true hc0)
  refine vc_seq ?_
  refine vc_region ?_
  refine vl_val rfl (.some rfl) (val_assign rfl) ?_
  refine vl_nil ?_
  refine vc_ret ?_
  refine ⟨_, [], _, res1 Try.results16 rfl, .nil, ?_⟩
  rfl

theorem dbCopy {ds : List Dd} {i : Nat} (hi : i < ds.length) (ht : ∀ q ∈ (ds.getD i dd0).vs, takesB (ds.getD i dd0).kd q = true) (hn : (ds.getD i dd0).vs.Nodup) (hl : (ds.getD i dd0).vs.length ≤ 512) (w : World) : Fn Try.prog 16 [ddP (ds.getD i dd0)] [DB ds] (ret fun u H' => ∃ d : Dd, (d.kd = (ds.getD i dd0).kd ∧ d.vs = (ds.getD i dd0).vs ∧ u = ddP d) ∧ H' = ddH d ++ [DB ds]) w := by
  by_cases hk : okK (ds.getD i dd0).kd
  · have h0 := dCopy (ds.getD i dd0).r (ds.getD i dd0).m (ds.getD i dd0).kd (ds.getD i dd0).A (ds.getD i dd0).c (ds.getD i dd0).vs hk ht hn hl w
    have e : Eqv [DB ds] ([DC (ds.getD i dd0).r (ds.getD i dd0).m (ds.getD i dd0).kd (ds.getD i dd0).A (ds.getD i dd0).vs.length (ds.getD i dd0).c, DS (ds.getD i dd0).A (ds.getD i dd0).c (ds.getD i dd0).vs] ++ [DM (ds.getD i dd0).m (ds.getD i dd0).vs, big (restL ddH ds i)]) := by
      refine (eqv_open ddH dd0 hi []).trans ?_
      rw [ddH_ok hk]
      exact Eqv.cons _ (Eqv.perm (.swap _ _ _))
    rw [ddP_ok hk]
    refine Fn.eqv ?_ e
    refine (Fn.frame (F := [DM (ds.getD i dd0).m (ds.getD i dd0).vs, big (restL ddH ds i)]) h0).out fun u H ⟨H2, ⟨r2, m2, A2, c2, e1, e2⟩, e3⟩ => ?_
    subst e2 e3
    refine ⟨ddH ⟨r2, m2, (ds.getD i dd0).kd, A2, c2, (ds.getD i dd0).vs⟩ ++ [DB ds], [], ?_, ⟨r2, m2, (ds.getD i dd0).kd, A2, c2, (ds.getD i dd0).vs⟩, ⟨rfl, rfl, ?_⟩, rfl⟩
    · rw [List.append_nil, ddH_ok (by exact hk)]
      refine Eqv.trans ?_ (Eqv.pre _ e.symm)
      refine Eqv.perm ?_
      exact (List.perm_append_comm (l₁ := [DC (ds.getD i dd0).r (ds.getD i dd0).m (ds.getD i dd0).kd (ds.getD i dd0).A (ds.getD i dd0).vs.length (ds.getD i dd0).c, DS (ds.getD i dd0).A (ds.getD i dd0).c (ds.getD i dd0).vs]) (l₂ := [DC r2 m2 (ds.getD i dd0).kd A2 (ds.getD i dd0).vs.length c2, DM m2 (ds.getD i dd0).vs, DS A2 c2 (ds.getD i dd0).vs])).append_right [DM (ds.getD i dd0).m (ds.getD i dd0).vs, big (restL ddH ds i)] |>.trans (by rw [List.append_assoc])
    · rw [e1, ddP_ok (by exact hk)]
  · rw [ddP_no hk]
    refine (Fn.frame (F := [DB ds]) (dCopy0 w)).out fun u H ⟨H2, e1, e3⟩ => ?_
    subst e1 e3
    refine ⟨[DB ds], H2, Eqv.perm List.perm_append_comm, ⟨0, 0, (ds.getD i dd0).kd, none, 0, (ds.getD i dd0).vs⟩, ⟨rfl, rfl, ?_⟩, ?_⟩
    · rw [ddP_no (by exact hk)]
    · unfold ddH; rw [if_neg (by exact hk)]; rfl


end Go.Proofs.Ytdehjgpdcdjhjaa.K
