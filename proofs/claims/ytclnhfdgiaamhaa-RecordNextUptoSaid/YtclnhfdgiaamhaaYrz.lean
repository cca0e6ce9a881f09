/- Walks of the program's functions, printed by a program of this session; Lean checks them. -/
import Derived.Test.YtclnhfdgiaamhaaCg
import Derived.Test.YtclnhfdgiaamhaaMp
import Derived.Test.YtclnhfdgiaamhaaYrp
namespace Go.Proofs.Ytclnhfdgiaamhaa.K
open Go Go.RowKit Go.Proofs
set_option linter.unusedVariables false
set_option linter.unusedSimpArgs false


/-! Frames in a row are scanned one by one. -/
theorem frame_len {p : Tx} (h : ¬ 262144 < p.length) : (frameL p).length = p.length + 8 := by
  rw [frame_is h]
  simp only [List.length_append, four_len]
  omega
theorem unfr_frame {p : Tx} (hp : ¬ 262144 < p.length) (t : Tx) : unfrE (frameL p ++ t) = 0 ∧ unfrL (frameL p ++ t) = p ∧ unfrN (frameL p ++ t) = (frameL p).length := by
  have hl := frame_len hp
  have e : frameL p ++ t = four4 p.length ++ (p ++ (four4 (sumS (four4 p.length ++ p)) ++ t)) := by rw [frame_is hp]; simp only [List.append_assoc]
  have e2 : frameL p ++ t = (four4 p.length ++ p) ++ (four4 (sumS (four4 p.length ++ p)) ++ t) := by rw [e]; simp only [List.append_assoc]
  have hq : (four4 p.length ++ p).length = p.length + 4 := by rw [List.length_append, four_len]; omega
  have hn : fourN (frameL p ++ t) = p.length := by rw [e]; exact four_back (by omega) _
  have hbl : (frameL p ++ t).length = p.length + 8 + t.length := by rw [List.length_append, hl]
  have hd : (frameL p ++ t).drop (p.length + 4) = four4 (sumS (four4 p.length ++ p)) ++ t := by rw [e2]; exact List.drop_left' hq
  have ht : (frameL p ++ t).take (p.length + 4) = four4 p.length ++ p := by rw [e2]; exact List.take_left' hq
  have h0 : unfrE (frameL p ++ t) = 0 := unfr_0 (by omega) (by omega) (by omega) (by rw [hn, hd, ht]; exact four_back (sumS_lt _) _)
  obtain ⟨o1, o2⟩ := unfr_ok h0
  refine ⟨h0, ?_, by rw [o2, hn, hl]⟩
  rw [o1, hn, e, List.drop_left' (four_len _), List.take_left]
def OKr (x : Rec) : Prop := goodRec x ∧ RecW x ∧ ¬ 262144 < (recB x).length
abbrev frR (x : Rec) : Tx := frameL (recB x)
def bsL (ks : List Rec) : Tx := beginL 3 ++ ks.flatMap frR
theorem bs_snoc (ks : List Rec) (x : Rec) : bsL ks ++ frameL (recB x) = bsL (ks ++ [x]) := by unfold bsL; simp
theorem scan_frames : ∀ (ks : List Rec) (f : Nat) (mo : Tx), (∀ x ∈ ks, OKr x) → mo.length < 4 → ks.length ≤ f → scanF f (ks.flatMap frR ++ mo) = (ks, (ks.flatMap frR).length)
  | [], f, mo, _, hm, _ => scan_bad (by
      show unfrE mo ≠ 0
      rw [unfr_1 hm]; decide)
  | x :: ks, 0, mo, _, _, hf => by simp at hf
  | x :: ks, f + 1, mo, h, hm, hf => by
    obtain ⟨o1, o2, o3⟩ := h x (List.Mem.head _)
    have e : (x :: ks).flatMap frR ++ mo = frameL (recB x) ++ (ks.flatMap frR ++ mo) := by rw [List.flatMap_cons, List.append_assoc]
    obtain ⟨u1, u2, u3⟩ := unfr_frame o3 (ks.flatMap frR ++ mo)
    rw [e, scan_some (x := x) u1 (by rw [u2]; exact (load_rec o1 o2 o3).1), u3, List.drop_left, scan_frames ks f mo (fun y hy => h y (List.Mem.tail _ hy)) hm (by simp at hf; omega), List.flatMap_cons, List.length_append]
theorem scan_bs {ks : List Rec} {mo : Tx} (h : ∀ x ∈ ks, OKr x) (hm : mo.length < 4) : scO 3 (bsL ks ++ mo) = true ∧ scL 3 (bsL ks ++ mo) = ks ∧ scN 3 (bsL ks ++ mo) = (bsL ks).length := by
  have e : bsL ks ++ mo = beginL 3 ++ (ks.flatMap frR ++ mo) := List.append_assoc _ _ _
  have ho : scO 3 (bsL ks ++ mo) = true := decide_eq_true (by rw [e, List.take_left])
  have hf := flat_pos (p := frR) (l := ks) (fun x hx => by
    show 1 ≤ (frameL (recB x)).length
    rw [frame_len (h x hx).2.2]; omega)
  have hs : scanF (bsL ks ++ mo).length ((bsL ks ++ mo).drop (beginL 3).length) = (ks, (ks.flatMap frR).length) := by
    rw [e, List.drop_left]
    exact scan_frames ks _ mo h hm (by rw [List.length_append, List.length_append]; omega)
  obtain ⟨e1, e2⟩ := sc_2 ho hs
  exact ⟨ho, e1, by rw [e2]; unfold bsL; rw [List.length_append]⟩
theorem one_recs (l : List RecM) : (l.flatMap recC).all (·.oneCell') = true := by
  induction l with
  | nil => rfl
  | cons x l ih => rw [List.flatMap_cons, List.all_append, ih]; rfl
theorem nrecs_at {l : List RecM} {i : Nat} (h : i < l.length) : ((l.flatMap recC).drop (Int.toNat (i : Int) * 9)).take 9 = recC (l.getD i rec0M) := by
  rw [Int.toNat_natCast]
  exact flat_atM (m := 9) (f := recC) (fun _ => rfl) rec0M l i h
theorem nrecs_in {l : List RecM} {i : Nat} (h : i < l.length) : l.getD i rec0M ∈ l := by simp [List.getD, h]
/-- What is known of each record that a law is given. -/
structure RecK (m : RecM) : Prop where
  s : RecS m
  b : RecB m
  w : RecW (recOf m)
theorem byt_zero {x : Rec} (h : bytE x = 0) : goodRec x ∧ ¬ 262144 < (recB x).length := by
  by_cases hg : goodRec x
  · by_cases h2 : 262144 < (recB x).length
    · rw [(byt_full hg h2).2] at h; exact absurd h (by decide)
    · exact ⟨hg, h2⟩
  · rw [(byt_bad hg).2] at h; exact absurd h (by decide)
theorem beg3 : (beginL 3).length ≤ 30 := by decide +kernel

set_option maxRecDepth 20000 in
set_option maxHeartbeats 1000000 in
theorem xNext (A : Option Addr) (c : Nat) (l : List RecM) (rc : RecM) (M : Option Addr) (cm : Nat) (mo : Tx) (hl : l.length ≤ 1048576) (hK : ∀ m ∈ l ++ [rc], RecK m) (hmc : mo.length ≤ cm) (hmm : mo.length ≤ 1048576) (w : World) (hr : Reads w A (l.flatMap recC)) (hRR : ∀ m ∈ l ++ [rc], RecR w m) (hrm : Reads w M (bcells mo)) : FnV Try.prog 7 [.slice A l.length c, recA rc, .slice M mo.length cm] (.bool true) w := by
  have hb3 := beg3
  refine fn_enter Try.func7 rfl Try.ntmps7 rfl ?_
  refine vc_seq ?_
  refine vc_region ?_
  refine vl_box rfl rfl (.some rfl) rfl (fun r4 => ?_)
  refine vl_val rfl (.some rfl) (val_assign rfl) ?_
  refine vl_nil ?_
  refine vc_seq ?_
  refine vc_region ?_
  refine vl_call (C := []) rfl rfl (.some rfl) Try.call18 rfl .nil (fun w hw => xBegin 3 (by decide) w) (fun v H' h => ?_)
  obtain ⟨B7, d7, rfl, rfl⟩ := h
  show VL _ _ _ _ _ (_ :: _)
  rw [show beginL 3 = bsL [] by unfold bsL; simp]
  refine vl_val rfl (.some rfl) (val_assign rfl) ?_
  refine vl_nil ?_
  refine vc_seq ?_
  refine vc_region ?_
  refine vl_val rfl (.some rfl) (val_assign rfl) ?_
  refine vl_nil ?_
  refine vc_seq ?_
  refine vc_seq ?_
  refine vc_drawsT 8 [1, 3, 6, 7] ([cells r4 (recC rc) 43]) (by repeat constructor) rfl (by kernel_rfl) rfl (fun _ _ _ h => h) ?_
  refine vt_val 1 rfl rfl (by kernel_rfl) rfl (.some rfl) (val_move rfl) ?_
  refine vt_val 3 rfl rfl (by kernel_rfl) rfl (.some rfl) (val_loadAgg Try.isAgg43 Try.sizeOf43 rfl (by first | exact cells_whole (by repeat constructor) | exact cells_part (by repeat constructor) rfl) rfl) ?_
  refine vt_val 7 rfl rfl (by kernel_rfl) rfl (.some rfl) (val_move rfl) ?_
  refine vt_fork2 0 4 (by kernel_rfl) ?_ ?_
  · refine vt_op rfl ?_
    refine vl_lit0 sT25 Try.sizeOf43 rfl rfl (.some rfl) (fun r17 => ?_)
    refine vl_nil ?_
    refine ⟨⟨_, (by repeat constructor)⟩, ?_⟩
    refine vt_fork2 2 4 (by kernel_rfl) ?_ ?_
    · refine vt_op rfl ?_
      refine vl_append (vs := []) (us := l.flatMap recC) sT25 rfl rfl (.some rfl) rfl rfl (rd_old hr rfl) (recs_len l) (one_recs l) (by omega) (by omega) (by repeat constructor) (fun A19 k19 => ?_)
      rw [List.nil_append, Nat.zero_add]
      refine vl_nil ?_
      refine ⟨⟨_, (by repeat constructor)⟩, ?_⟩
      refine vt_fork1 4 (by kernel_rfl) ?_
      · refine vt_op rfl ?_
        refine vl_lit sT25 rfl rfl (.some rfl) rfl rfl rfl (by decide) (by decide) rfl rfl (fun r21 => ?_)
        refine vl_nil ?_
        refine ⟨⟨_, (by repeat constructor)⟩, ?_⟩
        refine vt_fork1 5 (by kernel_rfl) ?_
        · refine vt_op rfl ?_
          refine vl_append (vs := l.flatMap recC) (us := recC rc) sT25 rfl rfl (.some rfl) rfl rfl (rd_sl (by repeat constructor)) rfl rfl (by omega) (by omega) (by repeat constructor) (fun A22 k22 => ?_)
          rw [show l.flatMap recC ++ recC rc = (l ++ [rc]).flatMap recC by simp, show l.length + 1 = (l ++ [rc]).length by simp]
          have hlr0 : (l ++ [rc]).length ≤ 1048577 := by rw [List.length_append, List.length_singleton]; omega
          obtain ⟨lr, hlr⟩ : ∃ lr, l ++ [rc] = lr := ⟨_, rfl⟩
          rw [hlr] at hK hRR hlr0 ⊢
          refine vl_nil ?_
          refine ⟨⟨_, (by repeat constructor)⟩, ?_⟩
          refine vt_val 6 rfl rfl (by kernel_rfl) rfl (.some rfl) (val_lenSl Try.runUnderlying25 rfl) ?_
          refine vt_nil (by kernel_rfl) ?_
          refine vc_block ?_
          refine vc_loopw (fun q E H => ∃ (i : Nat) (ks : List Rec) (A7 : Option Addr) (c7 : Nat), i ≤ lr.length ∧ q = lr.length - i ∧ ks.length ≤ i ∧ (∀ x ∈ ks, OKr x) ∧ (bsL ks).length ≤ 800000 ∧ E = [(2, .slice M mo.length cm), (7, .slice A7 (bsL ks).length c7), (8, .int .i64 (ks.length : Nat)), (22, .slice A22 lr.length k22), (23, .int .i64 (lr.length : Nat)), (24, .int .i64 i)] ∧ H = [BY A7 (bsL ks).length c7 (bsL ks), sl A22 lr.length k22 43 9 (lr.flatMap recC)]) (lr.length) ⟨_, _, _, ⟨0, [], B7, d7, by omega, rfl, Nat.le_refl _, (fun x hx => by cases hx), (by unfold bsL; simp; omega), rfl, rfl⟩, (by repeat (first | exact trivial | refine ⟨rfl, ?_⟩ | refine ⟨le_item rfl (by first | rfl | (congr 1; omega) | (simp; done) | (simp; omega)), ?_⟩)), (by repeat constructor)⟩ ?_
          intro q E H hI
          obtain ⟨i, ks, A7, c7, hi, rfl, hki, hks, hlb, rfl, rfl⟩ := hI
          refine vc_seq ?_
          refine vc_region ?_
          refine vl_val rfl (.some rfl) (val_lt rfl rfl) ?_
          refine vl_nil ?_
          refine vc_seq ?_
          refine vc_cond rfl (fun hc0 => ?_) (fun hc0 => ?_)
          · (try replace hc0 := of_decide_eq_true hc0)
            refine vc_skip ?_
            refine vc_seq ?_
            refine vc_block ?_
            refine vc_seq ?_
            refine vc_region ?_
            refine vl_val rfl (.some rfl) (val_indexAddr Try.runUnderlying25 Try.sizeOf43 rfl rfl (vs := lr.flatMap recC) (rd_sl (by repeat constructor)) (by omega) (by omega) (by rw [recs_len, Int.toNat_natCast]; omega)) ?_
            refine vl_val rfl (.some rfl) (val_loadAgg Try.isAgg43 Try.sizeOf43 rfl (cells_rd (us := recC (lr.getD i rec0M)) (rd_sl (by repeat constructor)) (nrecs_at (by omega))) rfl) ?_
            refine vl_alloc rfl rfl (.some rfl) Try.zeroValue43 (fun r10 => ?_)
            first | refine vl_store rfl rfl .none rfl rfl Try.sizeOf43 rfl (by repeat constructor) (by first | decide | exact Nat.le_refl _ | exact Nat.le_of_ble_eq_true rfl | (simp; omega)) ?_ | refine vl_storeSl rfl rfl .none rfl rfl Try.sizeOf43 rfl (by simp [Value.cells]) (by repeat constructor) (by first | decide | (simp [Value.cells]; omega)) ?_
            refine vl_nil ?_
            refine vc_seq ?_
            refine vc_region ?_
            refine vl_val rfl (.some rfl) (val_loadAgg Try.isAgg43 Try.sizeOf43 rfl (by first | exact cells_whole (by repeat constructor) | exact cells_part (by repeat constructor) rfl) rfl) ?_
            have hKi := hK _ (nrecs_in (l := lr) (i := i) (by omega))
            have hRi := hRR _ (nrecs_in (l := lr) (i := i) (by omega))
            refine vl_call (C := []) rfl rfl (.some rfl) Try.call22 rfl .nil (fun w hw => xBytesR (lr.getD i rec0M) hKi.s.recL (fun _ => hKi.b) w (rec_here hRi hw)) (fun v H' h => ?_)
            obtain ⟨A11, c11, rfl, rfl⟩ := h
            show VL _ _ _ _ _ (_ :: _)
            refine vl_val rfl (.some rfl) (val_move rfl) ?_
            refine vl_val rfl (.some rfl) (val_extract rfl rfl) ?_
            refine vl_val rfl (.some rfl) (val_extract rfl rfl) ?_
            refine vl_val rfl (.some rfl) (val_assign rfl) ?_
            refine vl_val rfl (.some rfl) (val_assign rfl) ?_
            refine vl_nil ?_
            refine vc_seq ?_
            refine vc_seq ?_
            refine vc_region ?_
            refine vl_val rfl (.some rfl) (val_move rfl) ?_
            refine vl_val rfl (.some rfl) (val_ne rfl rfl) ?_
            refine vl_val rfl (.some rfl) (val_move rfl) ?_
            refine vl_split (t := 35) rfl (fun hg35 => ?_) (fun hg35 => ?_)
            · (try replace hg35 := of_decide_eq_true hg35)
              refine vl_off rfl rfl rfl rfl (.some rfl) ?_
              refine vl_off rfl rfl rfl rfl (.some rfl) ?_
              refine vl_val rfl (.some rfl) (val_pick rfl rfl) ?_
              refine vl_val rfl (.some rfl) (val_move rfl) ?_
              refine vl_off rfl rfl rfl rfl (.some rfl) ?_
              refine vl_off rfl rfl rfl rfl (.some rfl) ?_
              refine vl_off rfl rfl rfl rfl (.some rfl) ?_
              refine vl_val rfl (.some rfl) (val_pick rfl rfl) ?_
              refine vl_nil ?_
              refine vc_cond rfl (fun _ => ?_) (fun h => by cases h)
              refine vc_exit ?_
              refine vc_region ?_
              refine vl_val rfl (.some rfl) (val_add rfl rfl (by first | exact w_i64 (by omega) (by omega) | rfl)) ?_
              refine vl_val rfl (.some rfl) (val_move rfl) ?_
              refine vl_nil ?_
              first
                | exact ⟨(lr.length - (i + 1)), _, _, _, by omega, (by repeat (first | exact trivial | refine ⟨rfl, ?_⟩ | refine ⟨le_item rfl (by first | rfl | (congr 1; omega) | (simp; done) | (simp; omega)), ?_⟩)), (by repeat constructor), ⟨i + 1, ks ++ [recOf (lr.getD i rec0M)], A49, k49, by omega, rfl, (List.length_append ▸ Nat.succ_le_succ hki), (fun x hx => (List.mem_append.1 hx).elim (hks x) (fun h => by rw [List.mem_singleton.1 h]; exact hok)), (by rw [← bs_snoc, List.length_append]; omega), rfl, rfl⟩⟩
                | exact ⟨(lr.length - (i + 1)), _, _, _, by omega, (by repeat (first | exact trivial | refine ⟨rfl, ?_⟩ | refine ⟨le_item rfl (by first | rfl | (congr 1; omega) | (simp; done) | (simp; omega)), ?_⟩)), (by repeat constructor), ⟨i + 1, ks, A7, c7, by omega, rfl, by omega, hks, hlb, rfl, rfl⟩⟩
            · (try replace hg35 := of_decide_eq_false hg35)
              refine vl_on rfl rfl rfl rfl ?_
              refine vl_val rfl (.some rfl) (val_loadAgg Try.isAgg43 Try.sizeOf43 rfl (by first | exact cells_whole (by repeat constructor) | exact cells_part (by repeat constructor) rfl) rfl) ?_
              refine vl_on rfl rfl rfl rfl ?_
              refine vl_call (C := []) rfl rfl (.some rfl) Try.call21 rfl .nil (fun w hw => xGreat (lr.getD i rec0M) hKi.s w (rec_here hRi hw)) (fun v H' h => ?_)
              obtain ⟨gr, rfl, _, rfl⟩ := h
              show VL _ _ _ _ _ _
              refine vl_val rfl (.some rfl) (val_pick rfl rfl) ?_
              refine vl_val rfl (.some rfl) (val_move rfl) ?_
              refine vl_split (t := 39) rfl (fun hg39 => ?_) (fun hg39 => ?_)
              · (try replace hg39 := of_decide_eq_true hg39)
                refine vl_off rfl rfl rfl rfl (.some rfl) ?_
                refine vl_off rfl rfl rfl rfl (.some rfl) ?_
                refine vl_off rfl rfl rfl rfl (.some rfl) ?_
                refine vl_val rfl (.some rfl) (val_pick rfl rfl) ?_
                refine vl_nil ?_
                refine vc_cond rfl (fun _ => ?_) (fun h => by cases h)
                refine vc_exit ?_
                refine vc_region ?_
                refine vl_val rfl (.some rfl) (val_add rfl rfl (by first | exact w_i64 (by omega) (by omega) | rfl)) ?_
                refine vl_val rfl (.some rfl) (val_move rfl) ?_
                refine vl_nil ?_
                first
                  | exact ⟨(lr.length - (i + 1)), _, _, _, by omega, (by repeat (first | exact trivial | refine ⟨rfl, ?_⟩ | refine ⟨le_item rfl (by first | rfl | (congr 1; omega) | (simp; done) | (simp; omega)), ?_⟩)), (by repeat constructor), ⟨i + 1, ks ++ [recOf (lr.getD i rec0M)], A49, k49, by omega, rfl, (List.length_append ▸ Nat.succ_le_succ hki), (fun x hx => (List.mem_append.1 hx).elim (hks x) (fun h => by rw [List.mem_singleton.1 h]; exact hok)), (by rw [← bs_snoc, List.length_append]; omega), rfl, rfl⟩⟩
                  | exact ⟨(lr.length - (i + 1)), _, _, _, by omega, (by repeat (first | exact trivial | refine ⟨rfl, ?_⟩ | refine ⟨le_item rfl (by first | rfl | (congr 1; omega) | (simp; done) | (simp; omega)), ?_⟩)), (by repeat constructor), ⟨i + 1, ks, A7, c7, by omega, rfl, by omega, hks, hlb, rfl, rfl⟩⟩
              · (try replace hg39 := of_decide_eq_false hg39)
                refine vl_on rfl rfl rfl rfl ?_
                refine vl_val rfl (.some rfl) (val_move rfl) ?_
                refine vl_on rfl rfl rfl rfl ?_
                refine vl_val rfl (.some rfl) (val_lenSl Try.runUnderlying22 rfl) ?_
                refine vl_on rfl rfl rfl rfl ?_
                refine vl_val rfl (.some rfl) (val_gt rfl rfl) ?_
                refine vl_val rfl (.some rfl) (val_pick rfl rfl) ?_
                refine vl_nil ?_
                refine vc_cond rfl (fun hc1 => ?_) (fun hc1 => ?_)
                · (try replace hc1 := of_decide_eq_true hc1)
                  refine vc_exit ?_
                  refine vc_region ?_
                  refine vl_val rfl (.some rfl) (val_add rfl rfl (by first | exact w_i64 (by omega) (by omega) | rfl)) ?_
                  refine vl_val rfl (.some rfl) (val_move rfl) ?_
                  refine vl_nil ?_
                  first
                    | exact ⟨(lr.length - (i + 1)), _, _, _, by omega, (by repeat (first | exact trivial | refine ⟨rfl, ?_⟩ | refine ⟨le_item rfl (by first | rfl | (congr 1; omega) | (simp; done) | (simp; omega)), ?_⟩)), (by repeat constructor), ⟨i + 1, ks ++ [recOf (lr.getD i rec0M)], A49, k49, by omega, rfl, (List.length_append ▸ Nat.succ_le_succ hki), (fun x hx => (List.mem_append.1 hx).elim (hks x) (fun h => by rw [List.mem_singleton.1 h]; exact hok)), (by rw [← bs_snoc, List.length_append]; omega), rfl, rfl⟩⟩
                    | exact ⟨(lr.length - (i + 1)), _, _, _, by omega, (by repeat (first | exact trivial | refine ⟨rfl, ?_⟩ | refine ⟨le_item rfl (by first | rfl | (congr 1; omega) | (simp; done) | (simp; omega)), ?_⟩)), (by repeat constructor), ⟨i + 1, ks, A7, c7, by omega, rfl, by omega, hks, hlb, rfl, rfl⟩⟩
                · (try replace hc1 := of_decide_eq_false hc1)
                  obtain ⟨hok1, hok2⟩ := byt_zero (x := recOf (lr.getD i rec0M)) (by omega)
                  obtain ⟨e1, e2⟩ := byt_ok hok1 hok2
                  have hok : OKr (recOf (lr.getD i rec0M)) := ⟨hok1, hKi.w, hok2⟩
                  rw [e1]
                  have hlb2 : (bsL ks).length ≤ 500000 := by omega
                  refine vc_skip ?_
                  refine vc_seq ?_
                  refine vc_region ?_
                  refine vl_lit0 sT22 Try.sizeOf5 rfl rfl (.some rfl) (fun r44 => ?_)
                  refine vl_val rfl (.some rfl) (val_move rfl) ?_
                  refine vl_append (vs := []) (us := bcells (bsL ks)) sT22 rfl rfl (.some rfl) rfl rfl (rd_sl (vs := bcells (bsL ks)) (by repeat constructor)) (by rw [bcells_length, Nat.mul_one]) (one_b _) (by omega) (by omega) (by repeat constructor) (fun A46 k46 => ?_)
                  rw [List.nil_append, Nat.zero_add]
                  refine vl_val rfl (.some rfl) (val_move rfl) ?_
                  refine vl_call (C := []) rfl rfl (.some rfl) Try.call29 rfl .nil (fun w hw => cFrame A11 c11 (recB (recOf (lr.getD i rec0M))) (by omega) w (rdw (rd_sl (vs := bcells (recB (recOf (lr.getD i rec0M)))) (by repeat constructor)) hw)) (fun v H' h => ?_)
                  obtain ⟨A48, c48, rfl, rfl⟩ := h
                  show VL _ _ _ _ _ (_ :: _)
                  have hfl := frame_len hok.2.2
                  refine vl_append (us := bcells (frameL (recB (recOf (lr.getD i rec0M))))) sT22 rfl rfl (.some rfl) rfl rfl (rd_sl (by repeat constructor)) (by rw [bcells_length, Nat.mul_one]) (one_b _) (by omega) (by omega) (by repeat constructor) (fun A49 k49 => ?_)
                  rw [bcells_app, ← List.length_append, bs_snoc]
                  refine vl_val rfl (.some rfl) (val_assign rfl) ?_
                  refine vl_nil ?_
                  refine vc_region ?_
                  refine vl_val rfl (.some rfl) (val_move rfl) ?_
                  refine vl_val rfl (.some rfl) (val_add rfl rfl (by first | exact w_i64 (by omega) (by omega) | rfl)) ?_
                  refine vl_val rfl (.some rfl) (val_assign rfl) ?_
                  refine vl_nil ?_
                  refine vc_region ?_
                  refine vl_val rfl (.some rfl) (val_add rfl rfl (by first | exact w_i64 (by omega) (by omega) | rfl)) ?_
                  refine vl_val rfl (.some rfl) (val_move rfl) ?_
                  refine vl_nil ?_
                  first
                    | exact ⟨(lr.length - (i + 1)), _, _, _, by omega, (by repeat (first | exact trivial | refine ⟨rfl, ?_⟩ | refine ⟨le_item rfl (by first | rfl | (congr 1; omega) | (simp; done) | (simp; omega)), ?_⟩)), (by repeat constructor), ⟨i + 1, ks ++ [recOf (lr.getD i rec0M)], A49, k49, by omega, rfl, (List.length_append ▸ Nat.succ_le_succ hki), (fun x hx => (List.mem_append.1 hx).elim (hks x) (fun h => by rw [List.mem_singleton.1 h]; exact hok)), (by rw [← bs_snoc, List.length_append]; omega), rfl, rfl⟩⟩
                    | exact ⟨(lr.length - (i + 1)), _, _, _, by omega, (by repeat (first | exact trivial | refine ⟨rfl, ?_⟩ | refine ⟨le_item rfl (by first | rfl | (congr 1; omega) | (simp; done) | (simp; omega)), ?_⟩)), (by repeat constructor), ⟨i + 1, ks, A7, c7, by omega, rfl, by omega, hks, hlb, rfl, rfl⟩⟩
          · (try replace hc0 := of_decide_eq_false hc0)
            have hlb2 := hlb
            refine vc_exit ?_
            refine vc_cut (fun E H => ∃ E0 H0 F, Env.le E0 E ∧ Sub H0 H F ∧ (fun E H => ∃ m2 : Tx, m2.length < 4 ∧ m2.length ≤ cm ∧ Reads w M (bcells m2) ∧ E = [(2, .slice M m2.length cm), (7, .slice A7 (bsL ks).length c7), (8, .int .i64 (ks.length : Nat))] ∧ H = [BY A7 (bsL ks).length c7 (bsL ks)]) E0 H0) ?_ (fun E H h => ?_)
            ·
              refine vc_seq ?_
              refine vc_region ?_
              refine vl_val rfl (.some rfl) (val_move rfl) ?_
              refine vl_val rfl (.some rfl) (val_lenSl Try.runUnderlying22 rfl) ?_
              refine vl_val rfl (.some rfl) (val_gt rfl rfl) ?_
              refine vl_nil ?_
              refine vc_cond rfl (fun hc2 => ?_) (fun hc2 => ?_)
              · (try replace hc2 := of_decide_eq_true hc2)
                refine vc_region ?_
                refine vl_val rfl (.some rfl) (val_move rfl) ?_
                refine vl_val rfl (.some rfl) (val_cutTo Try.runUnderlying22 Try.sizeOf5 rfl rfl (by omega) (by omega)) ?_
                rw [show (Int.toNat 3) = (mo.take 3).length by rw [List.length_take]; show 3 = _; omega]
                refine vl_val rfl (.some rfl) (val_assign rfl) ?_
                refine vl_nil ?_
                first
                  | exact ⟨_, _, _, (by repeat (first | exact trivial | refine ⟨rfl, ?_⟩ | refine ⟨le_item rfl (by first | rfl | (congr 1; omega) | (simp; done) | (simp; omega)), ?_⟩)), (by repeat constructor), ⟨mo.take 3, (List.length_take ▸ (Nat.lt_of_le_of_lt (Nat.min_le_left 3 mo.length) (Nat.lt_succ_self 3))), Nat.le_trans (List.length_take_le' 3 mo) hmc, reads_takeB hrm 3, rfl, rfl⟩⟩
                  | exact ⟨_, _, _, (by repeat (first | exact trivial | refine ⟨rfl, ?_⟩ | refine ⟨le_item rfl (by first | rfl | (congr 1; omega) | (simp; done) | (simp; omega)), ?_⟩)), (by repeat constructor), ⟨mo, Nat.lt_of_not_le (fun h5 => hc2 (Int.ofNat_lt.2 h5)), hmc, hrm, rfl, rfl⟩⟩
              · (try replace hc2 := of_decide_eq_false hc2)
                refine vc_skip ?_
                first
                  | exact ⟨_, _, _, (by repeat (first | exact trivial | refine ⟨rfl, ?_⟩ | refine ⟨le_item rfl (by first | rfl | (congr 1; omega) | (simp; done) | (simp; omega)), ?_⟩)), (by repeat constructor), ⟨mo.take 3, (List.length_take ▸ (Nat.lt_of_le_of_lt (Nat.min_le_left 3 mo.length) (Nat.lt_succ_self 3))), Nat.le_trans (List.length_take_le' 3 mo) hmc, reads_takeB hrm 3, rfl, rfl⟩⟩
                  | exact ⟨_, _, _, (by repeat (first | exact trivial | refine ⟨rfl, ?_⟩ | refine ⟨le_item rfl (by first | rfl | (congr 1; omega) | (simp; done) | (simp; omega)), ?_⟩)), (by repeat constructor), ⟨mo, Nat.lt_of_not_le (fun h5 => hc2 (Int.ofNat_lt.2 h5)), hmc, hrm, rfl, rfl⟩⟩
            · obtain ⟨E0, H0, F, hE0, hH0, hJ⟩ := h
              obtain ⟨m2, h24, h2c, hm2, rfl, rfl⟩ := hJ
              refine vc_weak hE0 hH0 ?_
              refine vc_seq ?_
              refine vc_region ?_
              refine vl_lit0 sT22 Try.sizeOf5 rfl rfl (.some rfl) (fun r59 => ?_)
              refine vl_val rfl (.some rfl) (val_move rfl) ?_
              refine vl_append (vs := []) (us := bcells (bsL ks)) sT22 rfl rfl (.some rfl) rfl rfl (rd_sl (vs := bcells (bsL ks)) (by repeat constructor)) (by rw [bcells_length, Nat.mul_one]) (one_b _) (by omega) (by omega) (by repeat constructor) (fun A61 k61 => ?_)
              rw [List.nil_append, Nat.zero_add]
              refine vl_val rfl (.some rfl) (val_move rfl) ?_
              refine vl_append (us := bcells m2) sT22 rfl rfl (.some rfl) rfl rfl (rd_old hm2 rfl) (by rw [bcells_length, Nat.mul_one]) (one_b _) (by omega) (by omega) (by repeat constructor) (fun A63 k63 => ?_)
              rw [bcells_app, ← List.length_append]
              have hsl : (bsL ks ++ m2).length = (bsL ks).length + m2.length := List.length_append
              refine vl_slCap (A := A63) (n := (bsL ks ++ m2).length) (c := k63) (sz := 1) (e := 5) (vs := bcells (bsL ks ++ m2)) (by repeat constructor) (fun hcap => ?_)
              refine vl_call (C := []) rfl rfl (.some rfl) Try.call15 rfl .nil (fun w hw => xScan A63 k63 (bsL ks ++ m2) (by omega) hcap 3 (by decide) w (rdw (rd_sl (by repeat constructor)) hw)) (fun v H' h => ?_)
              obtain ⟨ms, A13, c13, l13, rfl, hms, _, hH⟩ := h
              rw [hH]
              refine vl_eqv (eqv_big l13 _).symm ?_
              obtain ⟨f1, f2, f3⟩ := scan_bs hks h24
              rw [f2] at hms
              have hml : ms.length = ks.length := by rw [← hms, List.length_map]
              rw [f1, f3, hml]
              refine vl_val rfl (.some rfl) (val_move rfl) ?_
              refine vl_val rfl (.some rfl) (val_extract rfl rfl) ?_
              refine vl_val rfl (.some rfl) (val_extract rfl rfl) ?_
              refine vl_val rfl (.some rfl) (val_extract rfl rfl) ?_
              refine vl_val rfl (.some rfl) (val_assign rfl) ?_
              refine vl_val rfl (.some rfl) (val_assign rfl) ?_
              refine vl_val rfl (.some rfl) (val_assign rfl) ?_
              refine vl_nil ?_
              refine vc_seq ?_
              refine vc_region ?_
              refine vl_val rfl (.some rfl) (val_move rfl) ?_
              refine vl_val rfl (.some rfl) (val_move rfl) ?_
              refine vl_split (t := 69) rfl (fun hg69 => ?_) (fun hg69 => ?_)
              · (try replace hg69 := of_decide_eq_true hg69)
                refine vl_on rfl rfl rfl rfl ?_
                refine vl_val rfl (.some rfl) (val_move rfl) ?_
                refine vl_on rfl rfl rfl rfl ?_
                refine vl_val rfl (.some rfl) (val_lenSl Try.runUnderlying25 rfl) ?_
                refine vl_on rfl rfl rfl rfl ?_
                refine vl_val rfl (.some rfl) (val_move rfl) ?_
                refine vl_on rfl rfl rfl rfl ?_
                refine vl_val rfl (.some rfl) (val_eqt rfl rfl (rfl)) ?_
                refine vl_val rfl (.some rfl) (val_pick rfl rfl) ?_
                refine vl_val rfl (.some rfl) (val_move rfl) ?_
                refine vl_on rfl rfl rfl rfl ?_
                refine vl_val rfl (.some rfl) (val_move rfl) ?_
                refine vl_on rfl rfl rfl rfl ?_
                refine vl_val rfl (.some rfl) (val_move rfl) ?_
                refine vl_on rfl rfl rfl rfl ?_
                refine vl_val rfl (.some rfl) (val_lenSl Try.runUnderlying22 rfl) ?_
                refine vl_on rfl rfl rfl rfl ?_
                refine vl_val rfl (.some rfl) (val_eqt rfl rfl (rfl)) ?_
                refine vl_val rfl (.some rfl) (val_pick rfl rfl) ?_
                refine vl_val rfl (.some rfl) (val_move rfl) ?_
                refine vl_on rfl rfl rfl rfl ?_
                refine vl_call (C := []) rfl rfl (.some rfl) Try.call14 rfl .nil (fun w hw => xLives w) (fun v H' h => ?_)
                obtain ⟨rfl, rfl⟩ := h
                show VL _ _ _ _ _ _
                refine vl_val rfl (.some rfl) (val_pick rfl rfl) ?_
                refine vl_val rfl (.some rfl) (val_assign rfl) ?_
                refine vl_nil ?_
                refine vc_ret ?_
                refine ⟨_, [], _, res1 Try.results7 rfl, .nil, ?_⟩
                first | rfl | (exfalso; first | contradiction | exact absurd rfl (by assumption))
              · (try replace hg69 := of_decide_eq_false hg69)
                refine vl_off rfl rfl rfl rfl (.some rfl) ?_
                refine vl_off rfl rfl rfl rfl (.some rfl) ?_
                refine vl_off rfl rfl rfl rfl (.some rfl) ?_
                refine vl_off rfl rfl rfl rfl (.some rfl) ?_
                refine vl_val rfl (.some rfl) (val_pick rfl rfl) ?_
                refine vl_val rfl (.some rfl) (val_move rfl) ?_
                refine vl_off rfl rfl rfl rfl (.some rfl) ?_
                refine vl_off rfl rfl rfl rfl (.some rfl) ?_
                refine vl_off rfl rfl rfl rfl (.some rfl) ?_
                refine vl_off rfl rfl rfl rfl (.some rfl) ?_
                refine vl_val rfl (.some rfl) (val_pick rfl rfl) ?_
                refine vl_val rfl (.some rfl) (val_move rfl) ?_
                refine vl_off rfl rfl rfl rfl (.some rfl) ?_
                refine vl_val rfl (.some rfl) (val_pick rfl rfl) ?_
                refine vl_val rfl (.some rfl) (val_assign rfl) ?_
                refine vl_nil ?_
                refine vc_ret ?_
                refine ⟨_, [], _, res1 Try.results7 rfl, .nil, ?_⟩
                first | rfl | (exfalso; first | contradiction | exact absurd rfl (by assumption))
    · refine vt_op rfl ?_
      refine vl_lit sT25 rfl rfl (.some rfl) rfl rfl rfl (by decide) (by decide) rfl rfl (fun r21 => ?_)
      refine vl_nil ?_
      refine ⟨⟨_, (by repeat constructor)⟩, ?_⟩
      refine vt_fork1 2 (by kernel_rfl) ?_
      · refine vt_op rfl ?_
        refine vl_append (vs := []) (us := l.flatMap recC) sT25 rfl rfl (.some rfl) rfl rfl (rd_old hr rfl) (recs_len l) (one_recs l) (by omega) (by omega) (by repeat constructor) (fun A19 k19 => ?_)
        rw [List.nil_append, Nat.zero_add]
        refine vl_nil ?_
        refine ⟨⟨_, (by repeat constructor)⟩, ?_⟩
        refine vt_fork1 5 (by kernel_rfl) ?_
        · refine vt_op rfl ?_
          refine vl_append (vs := l.flatMap recC) (us := recC rc) sT25 rfl rfl (.some rfl) rfl rfl (rd_sl (by repeat constructor)) rfl rfl (by omega) (by omega) (by repeat constructor) (fun A22 k22 => ?_)
          rw [show l.flatMap recC ++ recC rc = (l ++ [rc]).flatMap recC by simp, show l.length + 1 = (l ++ [rc]).length by simp]
          have hlr0 : (l ++ [rc]).length ≤ 1048577 := by rw [List.length_append, List.length_singleton]; omega
          obtain ⟨lr, hlr⟩ : ∃ lr, l ++ [rc] = lr := ⟨_, rfl⟩
          rw [hlr] at hK hRR hlr0 ⊢
          refine vl_nil ?_
          refine ⟨⟨_, (by repeat constructor)⟩, ?_⟩
          refine vt_val 6 rfl rfl (by kernel_rfl) rfl (.some rfl) (val_lenSl Try.runUnderlying25 rfl) ?_
          refine vt_nil (by kernel_rfl) ?_
          refine vc_block ?_
          refine vc_loopw (fun q E H => ∃ (i : Nat) (ks : List Rec) (A7 : Option Addr) (c7 : Nat), i ≤ lr.length ∧ q = lr.length - i ∧ ks.length ≤ i ∧ (∀ x ∈ ks, OKr x) ∧ (bsL ks).length ≤ 800000 ∧ E = [(2, .slice M mo.length cm), (7, .slice A7 (bsL ks).length c7), (8, .int .i64 (ks.length : Nat)), (22, .slice A22 lr.length k22), (23, .int .i64 (lr.length : Nat)), (24, .int .i64 i)] ∧ H = [BY A7 (bsL ks).length c7 (bsL ks), sl A22 lr.length k22 43 9 (lr.flatMap recC)]) (lr.length) ⟨_, _, _, ⟨0, [], B7, d7, by omega, rfl, Nat.le_refl _, (fun x hx => by cases hx), (by unfold bsL; simp; omega), rfl, rfl⟩, (by repeat (first | exact trivial | refine ⟨rfl, ?_⟩ | refine ⟨le_item rfl (by first | rfl | (congr 1; omega) | (simp; done) | (simp; omega)), ?_⟩)), (by repeat constructor)⟩ ?_
          intro q E H hI
          obtain ⟨i, ks, A7, c7, hi, rfl, hki, hks, hlb, rfl, rfl⟩ := hI
          refine vc_seq ?_
          refine vc_region ?_
          refine vl_val rfl (.some rfl) (val_lt rfl rfl) ?_
          refine vl_nil ?_
          refine vc_seq ?_
          refine vc_cond rfl (fun hc0 => ?_) (fun hc0 => ?_)
          · (try replace hc0 := of_decide_eq_true hc0)
            refine vc_skip ?_
            refine vc_seq ?_
            refine vc_block ?_
            refine vc_seq ?_
            refine vc_region ?_
            refine vl_val rfl (.some rfl) (val_indexAddr Try.runUnderlying25 Try.sizeOf43 rfl rfl (vs := lr.flatMap recC) (rd_sl (by repeat constructor)) (by omega) (by omega) (by rw [recs_len, Int.toNat_natCast]; omega)) ?_
            refine vl_val rfl (.some rfl) (val_loadAgg Try.isAgg43 Try.sizeOf43 rfl (cells_rd (us := recC (lr.getD i rec0M)) (rd_sl (by repeat constructor)) (nrecs_at (by omega))) rfl) ?_
            refine vl_alloc rfl rfl (.some rfl) Try.zeroValue43 (fun r10 => ?_)
            first | refine vl_store rfl rfl .none rfl rfl Try.sizeOf43 rfl (by repeat constructor) (by first | decide | exact Nat.le_refl _ | exact Nat.le_of_ble_eq_true rfl | (simp; omega)) ?_ | refine vl_storeSl rfl rfl .none rfl rfl Try.sizeOf43 rfl (by simp [Value.cells]) (by repeat constructor) (by first | decide | (simp [Value.cells]; omega)) ?_
            refine vl_nil ?_
            refine vc_seq ?_
            refine vc_region ?_
            refine vl_val rfl (.some rfl) (val_loadAgg Try.isAgg43 Try.sizeOf43 rfl (by first | exact cells_whole (by repeat constructor) | exact cells_part (by repeat constructor) rfl) rfl) ?_
            have hKi := hK _ (nrecs_in (l := lr) (i := i) (by omega))
            have hRi := hRR _ (nrecs_in (l := lr) (i := i) (by omega))
            refine vl_call (C := []) rfl rfl (.some rfl) Try.call22 rfl .nil (fun w hw => xBytesR (lr.getD i rec0M) hKi.s.recL (fun _ => hKi.b) w (rec_here hRi hw)) (fun v H' h => ?_)
            obtain ⟨A11, c11, rfl, rfl⟩ := h
            show VL _ _ _ _ _ (_ :: _)
            refine vl_val rfl (.some rfl) (val_move rfl) ?_
            refine vl_val rfl (.some rfl) (val_extract rfl rfl) ?_
            refine vl_val rfl (.some rfl) (val_extract rfl rfl) ?_
            refine vl_val rfl (.some rfl) (val_assign rfl) ?_
            refine vl_val rfl (.some rfl) (val_assign rfl) ?_
            refine vl_nil ?_
            refine vc_seq ?_
            refine vc_seq ?_
            refine vc_region ?_
            refine vl_val rfl (.some rfl) (val_move rfl) ?_
            refine vl_val rfl (.some rfl) (val_ne rfl rfl) ?_
            refine vl_val rfl (.some rfl) (val_move rfl) ?_
            refine vl_split (t := 35) rfl (fun hg35 => ?_) (fun hg35 => ?_)
            · (try replace hg35 := of_decide_eq_true hg35)
              refine vl_off rfl rfl rfl rfl (.some rfl) ?_
              refine vl_off rfl rfl rfl rfl (.some rfl) ?_
              refine vl_val rfl (.some rfl) (val_pick rfl rfl) ?_
              refine vl_val rfl (.some rfl) (val_move rfl) ?_
              refine vl_off rfl rfl rfl rfl (.some rfl) ?_
              refine vl_off rfl rfl rfl rfl (.some rfl) ?_
              refine vl_off rfl rfl rfl rfl (.some rfl) ?_
              refine vl_val rfl (.some rfl) (val_pick rfl rfl) ?_
              refine vl_nil ?_
              refine vc_cond rfl (fun _ => ?_) (fun h => by cases h)
              refine vc_exit ?_
              refine vc_region ?_
              refine vl_val rfl (.some rfl) (val_add rfl rfl (by first | exact w_i64 (by omega) (by omega) | rfl)) ?_
              refine vl_val rfl (.some rfl) (val_move rfl) ?_
              refine vl_nil ?_
              first
                | exact ⟨(lr.length - (i + 1)), _, _, _, by omega, (by repeat (first | exact trivial | refine ⟨rfl, ?_⟩ | refine ⟨le_item rfl (by first | rfl | (congr 1; omega) | (simp; done) | (simp; omega)), ?_⟩)), (by repeat constructor), ⟨i + 1, ks ++ [recOf (lr.getD i rec0M)], A49, k49, by omega, rfl, (List.length_append ▸ Nat.succ_le_succ hki), (fun x hx => (List.mem_append.1 hx).elim (hks x) (fun h => by rw [List.mem_singleton.1 h]; exact hok)), (by rw [← bs_snoc, List.length_append]; omega), rfl, rfl⟩⟩
                | exact ⟨(lr.length - (i + 1)), _, _, _, by omega, (by repeat (first | exact trivial | refine ⟨rfl, ?_⟩ | refine ⟨le_item rfl (by first | rfl | (congr 1; omega) | (simp; done) | (simp; omega)), ?_⟩)), (by repeat constructor), ⟨i + 1, ks, A7, c7, by omega, rfl, by omega, hks, hlb, rfl, rfl⟩⟩
            · (try replace hg35 := of_decide_eq_false hg35)
              refine vl_on rfl rfl rfl rfl ?_
              refine vl_val rfl (.some rfl) (val_loadAgg Try.isAgg43 Try.sizeOf43 rfl (by first | exact cells_whole (by repeat constructor) | exact cells_part (by repeat constructor) rfl) rfl) ?_
              refine vl_on rfl rfl rfl rfl ?_
              refine vl_call (C := []) rfl rfl (.some rfl) Try.call21 rfl .nil (fun w hw => xGreat (lr.getD i rec0M) hKi.s w (rec_here hRi hw)) (fun v H' h => ?_)
              obtain ⟨gr, rfl, _, rfl⟩ := h
              show VL _ _ _ _ _ _
              refine vl_val rfl (.some rfl) (val_pick rfl rfl) ?_
              refine vl_val rfl (.some rfl) (val_move rfl) ?_
              refine vl_split (t := 39) rfl (fun hg39 => ?_) (fun hg39 => ?_)
              · (try replace hg39 := of_decide_eq_true hg39)
                refine vl_off rfl rfl rfl rfl (.some rfl) ?_
                refine vl_off rfl rfl rfl rfl (.some rfl) ?_
                refine vl_off rfl rfl rfl rfl (.some rfl) ?_
                refine vl_val rfl (.some rfl) (val_pick rfl rfl) ?_
                refine vl_nil ?_
                refine vc_cond rfl (fun _ => ?_) (fun h => by cases h)
                refine vc_exit ?_
                refine vc_region ?_
                refine vl_val rfl (.some rfl) (val_add rfl rfl (by first | exact w_i64 (by omega) (by omega) | rfl)) ?_
                refine vl_val rfl (.some rfl) (val_move rfl) ?_
                refine vl_nil ?_
                first
                  | exact ⟨(lr.length - (i + 1)), _, _, _, by omega, (by repeat (first | exact trivial | refine ⟨rfl, ?_⟩ | refine ⟨le_item rfl (by first | rfl | (congr 1; omega) | (simp; done) | (simp; omega)), ?_⟩)), (by repeat constructor), ⟨i + 1, ks ++ [recOf (lr.getD i rec0M)], A49, k49, by omega, rfl, (List.length_append ▸ Nat.succ_le_succ hki), (fun x hx => (List.mem_append.1 hx).elim (hks x) (fun h => by rw [List.mem_singleton.1 h]; exact hok)), (by rw [← bs_snoc, List.length_append]; omega), rfl, rfl⟩⟩
                  | exact ⟨(lr.length - (i + 1)), _, _, _, by omega, (by repeat (first | exact trivial | refine ⟨rfl, ?_⟩ | refine ⟨le_item rfl (by first | rfl | (congr 1; omega) | (simp; done) | (simp; omega)), ?_⟩)), (by repeat constructor), ⟨i + 1, ks, A7, c7, by omega, rfl, by omega, hks, hlb, rfl, rfl⟩⟩
              · (try replace hg39 := of_decide_eq_false hg39)
                refine vl_on rfl rfl rfl rfl ?_
                refine vl_val rfl (.some rfl) (val_move rfl) ?_
                refine vl_on rfl rfl rfl rfl ?_
                refine vl_val rfl (.some rfl) (val_lenSl Try.runUnderlying22 rfl) ?_
                refine vl_on rfl rfl rfl rfl ?_
                refine vl_val rfl (.some rfl) (val_gt rfl rfl) ?_
                refine vl_val rfl (.some rfl) (val_pick rfl rfl) ?_
                refine vl_nil ?_
                refine vc_cond rfl (fun hc1 => ?_) (fun hc1 => ?_)
                · (try replace hc1 := of_decide_eq_true hc1)
                  refine vc_exit ?_
                  refine vc_region ?_
                  refine vl_val rfl (.some rfl) (val_add rfl rfl (by first | exact w_i64 (by omega) (by omega) | rfl)) ?_
                  refine vl_val rfl (.some rfl) (val_move rfl) ?_
                  refine vl_nil ?_
                  first
                    | exact ⟨(lr.length - (i + 1)), _, _, _, by omega, (by repeat (first | exact trivial | refine ⟨rfl, ?_⟩ | refine ⟨le_item rfl (by first | rfl | (congr 1; omega) | (simp; done) | (simp; omega)), ?_⟩)), (by repeat constructor), ⟨i + 1, ks ++ [recOf (lr.getD i rec0M)], A49, k49, by omega, rfl, (List.length_append ▸ Nat.succ_le_succ hki), (fun x hx => (List.mem_append.1 hx).elim (hks x) (fun h => by rw [List.mem_singleton.1 h]; exact hok)), (by rw [← bs_snoc, List.length_append]; omega), rfl, rfl⟩⟩
                    | exact ⟨(lr.length - (i + 1)), _, _, _, by omega, (by repeat (first | exact trivial | refine ⟨rfl, ?_⟩ | refine ⟨le_item rfl (by first | rfl | (congr 1; omega) | (simp; done) | (simp; omega)), ?_⟩)), (by repeat constructor), ⟨i + 1, ks, A7, c7, by omega, rfl, by omega, hks, hlb, rfl, rfl⟩⟩
                · (try replace hc1 := of_decide_eq_false hc1)
                  obtain ⟨hok1, hok2⟩ := byt_zero (x := recOf (lr.getD i rec0M)) (by omega)
                  obtain ⟨e1, e2⟩ := byt_ok hok1 hok2
                  have hok : OKr (recOf (lr.getD i rec0M)) := ⟨hok1, hKi.w, hok2⟩
                  rw [e1]
                  have hlb2 : (bsL ks).length ≤ 500000 := by omega
                  refine vc_skip ?_
                  refine vc_seq ?_
                  refine vc_region ?_
                  refine vl_lit0 sT22 Try.sizeOf5 rfl rfl (.some rfl) (fun r44 => ?_)
                  refine vl_val rfl (.some rfl) (val_move rfl) ?_
                  refine vl_append (vs := []) (us := bcells (bsL ks)) sT22 rfl rfl (.some rfl) rfl rfl (rd_sl (vs := bcells (bsL ks)) (by repeat constructor)) (by rw [bcells_length, Nat.mul_one]) (one_b _) (by omega) (by omega) (by repeat constructor) (fun A46 k46 => ?_)
                  rw [List.nil_append, Nat.zero_add]
                  refine vl_val rfl (.some rfl) (val_move rfl) ?_
                  refine vl_call (C := []) rfl rfl (.some rfl) Try.call29 rfl .nil (fun w hw => cFrame A11 c11 (recB (recOf (lr.getD i rec0M))) (by omega) w (rdw (rd_sl (vs := bcells (recB (recOf (lr.getD i rec0M)))) (by repeat constructor)) hw)) (fun v H' h => ?_)
                  obtain ⟨A48, c48, rfl, rfl⟩ := h
                  show VL _ _ _ _ _ (_ :: _)
                  have hfl := frame_len hok.2.2
                  refine vl_append (us := bcells (frameL (recB (recOf (lr.getD i rec0M))))) sT22 rfl rfl (.some rfl) rfl rfl (rd_sl (by repeat constructor)) (by rw [bcells_length, Nat.mul_one]) (one_b _) (by omega) (by omega) (by repeat constructor) (fun A49 k49 => ?_)
                  rw [bcells_app, ← List.length_append, bs_snoc]
                  refine vl_val rfl (.some rfl) (val_assign rfl) ?_
                  refine vl_nil ?_
                  refine vc_region ?_
                  refine vl_val rfl (.some rfl) (val_move rfl) ?_
                  refine vl_val rfl (.some rfl) (val_add rfl rfl (by first | exact w_i64 (by omega) (by omega) | rfl)) ?_
                  refine vl_val rfl (.some rfl) (val_assign rfl) ?_
                  refine vl_nil ?_
                  refine vc_region ?_
                  refine vl_val rfl (.some rfl) (val_add rfl rfl (by first | exact w_i64 (by omega) (by omega) | rfl)) ?_
                  refine vl_val rfl (.some rfl) (val_move rfl) ?_
                  refine vl_nil ?_
                  first
                    | exact ⟨(lr.length - (i + 1)), _, _, _, by omega, (by repeat (first | exact trivial | refine ⟨rfl, ?_⟩ | refine ⟨le_item rfl (by first | rfl | (congr 1; omega) | (simp; done) | (simp; omega)), ?_⟩)), (by repeat constructor), ⟨i + 1, ks ++ [recOf (lr.getD i rec0M)], A49, k49, by omega, rfl, (List.length_append ▸ Nat.succ_le_succ hki), (fun x hx => (List.mem_append.1 hx).elim (hks x) (fun h => by rw [List.mem_singleton.1 h]; exact hok)), (by rw [← bs_snoc, List.length_append]; omega), rfl, rfl⟩⟩
                    | exact ⟨(lr.length - (i + 1)), _, _, _, by omega, (by repeat (first | exact trivial | refine ⟨rfl, ?_⟩ | refine ⟨le_item rfl (by first | rfl | (congr 1; omega) | (simp; done) | (simp; omega)), ?_⟩)), (by repeat constructor), ⟨i + 1, ks, A7, c7, by omega, rfl, by omega, hks, hlb, rfl, rfl⟩⟩
          · (try replace hc0 := of_decide_eq_false hc0)
            have hlb2 := hlb
            refine vc_exit ?_
            refine vc_cut (fun E H => ∃ E0 H0 F, Env.le E0 E ∧ Sub H0 H F ∧ (fun E H => ∃ m2 : Tx, m2.length < 4 ∧ m2.length ≤ cm ∧ Reads w M (bcells m2) ∧ E = [(2, .slice M m2.length cm), (7, .slice A7 (bsL ks).length c7), (8, .int .i64 (ks.length : Nat))] ∧ H = [BY A7 (bsL ks).length c7 (bsL ks)]) E0 H0) ?_ (fun E H h => ?_)
            ·
              refine vc_seq ?_
              refine vc_region ?_
              refine vl_val rfl (.some rfl) (val_move rfl) ?_
              refine vl_val rfl (.some rfl) (val_lenSl Try.runUnderlying22 rfl) ?_
              refine vl_val rfl (.some rfl) (val_gt rfl rfl) ?_
              refine vl_nil ?_
              refine vc_cond rfl (fun hc2 => ?_) (fun hc2 => ?_)
              · (try replace hc2 := of_decide_eq_true hc2)
                refine vc_region ?_
                refine vl_val rfl (.some rfl) (val_move rfl) ?_
                refine vl_val rfl (.some rfl) (val_cutTo Try.runUnderlying22 Try.sizeOf5 rfl rfl (by omega) (by omega)) ?_
                rw [show (Int.toNat 3) = (mo.take 3).length by rw [List.length_take]; show 3 = _; omega]
                refine vl_val rfl (.some rfl) (val_assign rfl) ?_
                refine vl_nil ?_
                first
                  | exact ⟨_, _, _, (by repeat (first | exact trivial | refine ⟨rfl, ?_⟩ | refine ⟨le_item rfl (by first | rfl | (congr 1; omega) | (simp; done) | (simp; omega)), ?_⟩)), (by repeat constructor), ⟨mo.take 3, (List.length_take ▸ (Nat.lt_of_le_of_lt (Nat.min_le_left 3 mo.length) (Nat.lt_succ_self 3))), Nat.le_trans (List.length_take_le' 3 mo) hmc, reads_takeB hrm 3, rfl, rfl⟩⟩
                  | exact ⟨_, _, _, (by repeat (first | exact trivial | refine ⟨rfl, ?_⟩ | refine ⟨le_item rfl (by first | rfl | (congr 1; omega) | (simp; done) | (simp; omega)), ?_⟩)), (by repeat constructor), ⟨mo, Nat.lt_of_not_le (fun h5 => hc2 (Int.ofNat_lt.2 h5)), hmc, hrm, rfl, rfl⟩⟩
              · (try replace hc2 := of_decide_eq_false hc2)
                refine vc_skip ?_
                first
                  | exact ⟨_, _, _, (by repeat (first | exact trivial | refine ⟨rfl, ?_⟩ | refine ⟨le_item rfl (by first | rfl | (congr 1; omega) | (simp; done) | (simp; omega)), ?_⟩)), (by repeat constructor), ⟨mo.take 3, (List.length_take ▸ (Nat.lt_of_le_of_lt (Nat.min_le_left 3 mo.length) (Nat.lt_succ_self 3))), Nat.le_trans (List.length_take_le' 3 mo) hmc, reads_takeB hrm 3, rfl, rfl⟩⟩
                  | exact ⟨_, _, _, (by repeat (first | exact trivial | refine ⟨rfl, ?_⟩ | refine ⟨le_item rfl (by first | rfl | (congr 1; omega) | (simp; done) | (simp; omega)), ?_⟩)), (by repeat constructor), ⟨mo, Nat.lt_of_not_le (fun h5 => hc2 (Int.ofNat_lt.2 h5)), hmc, hrm, rfl, rfl⟩⟩
            · obtain ⟨E0, H0, F, hE0, hH0, hJ⟩ := h
              obtain ⟨m2, h24, h2c, hm2, rfl, rfl⟩ := hJ
              refine vc_weak hE0 hH0 ?_
              refine vc_seq ?_
              refine vc_region ?_
              refine vl_lit0 sT22 Try.sizeOf5 rfl rfl (.some rfl) (fun r59 => ?_)
              refine vl_val rfl (.some rfl) (val_move rfl) ?_
              refine vl_append (vs := []) (us := bcells (bsL ks)) sT22 rfl rfl (.some rfl) rfl rfl (rd_sl (vs := bcells (bsL ks)) (by repeat constructor)) (by rw [bcells_length, Nat.mul_one]) (one_b _) (by omega) (by omega) (by repeat constructor) (fun A61 k61 => ?_)
              rw [List.nil_append, Nat.zero_add]
              refine vl_val rfl (.some rfl) (val_move rfl) ?_
              refine vl_append (us := bcells m2) sT22 rfl rfl (.some rfl) rfl rfl (rd_old hm2 rfl) (by rw [bcells_length, Nat.mul_one]) (one_b _) (by omega) (by omega) (by repeat constructor) (fun A63 k63 => ?_)
              rw [bcells_app, ← List.length_append]
              have hsl : (bsL ks ++ m2).length = (bsL ks).length + m2.length := List.length_append
              refine vl_slCap (A := A63) (n := (bsL ks ++ m2).length) (c := k63) (sz := 1) (e := 5) (vs := bcells (bsL ks ++ m2)) (by repeat constructor) (fun hcap => ?_)
              refine vl_call (C := []) rfl rfl (.some rfl) Try.call15 rfl .nil (fun w hw => xScan A63 k63 (bsL ks ++ m2) (by omega) hcap 3 (by decide) w (rdw (rd_sl (by repeat constructor)) hw)) (fun v H' h => ?_)
              obtain ⟨ms, A13, c13, l13, rfl, hms, _, hH⟩ := h
              rw [hH]
              refine vl_eqv (eqv_big l13 _).symm ?_
              obtain ⟨f1, f2, f3⟩ := scan_bs hks h24
              rw [f2] at hms
              have hml : ms.length = ks.length := by rw [← hms, List.length_map]
              rw [f1, f3, hml]
              refine vl_val rfl (.some rfl) (val_move rfl) ?_
              refine vl_val rfl (.some rfl) (val_extract rfl rfl) ?_
              refine vl_val rfl (.some rfl) (val_extract rfl rfl) ?_
              refine vl_val rfl (.some rfl) (val_extract rfl rfl) ?_
              refine vl_val rfl (.some rfl) (val_assign rfl) ?_
              refine vl_val rfl (.some rfl) (val_assign rfl) ?_
              refine vl_val rfl (.some rfl) (val_assign rfl) ?_
              refine vl_nil ?_
              refine vc_seq ?_
              refine vc_region ?_
              refine vl_val rfl (.some rfl) (val_move rfl) ?_
              refine vl_val rfl (.some rfl) (val_move rfl) ?_
              refine vl_split (t := 69) rfl (fun hg69 => ?_) (fun hg69 => ?_)
              · (try replace hg69 := of_decide_eq_true hg69)
                refine vl_on rfl rfl rfl rfl ?_
                refine vl_val rfl (.some rfl) (val_move rfl) ?_
                refine vl_on rfl rfl rfl rfl ?_
                refine vl_val rfl (.some rfl) (val_lenSl Try.runUnderlying25 rfl) ?_
                refine vl_on rfl rfl rfl rfl ?_
                refine vl_val rfl (.some rfl) (val_move rfl) ?_
                refine vl_on rfl rfl rfl rfl ?_
                refine vl_val rfl (.some rfl) (val_eqt rfl rfl (rfl)) ?_
                refine vl_val rfl (.some rfl) (val_pick rfl rfl) ?_
                refine vl_val rfl (.some rfl) (val_move rfl) ?_
                refine vl_on rfl rfl rfl rfl ?_
                refine vl_val rfl (.some rfl) (val_move rfl) ?_
                refine vl_on rfl rfl rfl rfl ?_
                refine vl_val rfl (.some rfl) (val_move rfl) ?_
                refine vl_on rfl rfl rfl rfl ?_
                refine vl_val rfl (.some rfl) (val_lenSl Try.runUnderlying22 rfl) ?_
                refine vl_on rfl rfl rfl rfl ?_
                refine vl_val rfl (.some rfl) (val_eqt rfl rfl (rfl)) ?_
                refine vl_val rfl (.some rfl) (val_pick rfl rfl) ?_
                refine vl_val rfl (.some rfl) (val_move rfl) ?_
                refine vl_on rfl rfl rfl rfl ?_
                refine vl_call (C := []) rfl rfl (.some rfl) Try.call14 rfl .nil (fun w hw => xLives w) (fun v H' h => ?_)
                obtain ⟨rfl, rfl⟩ := h
                show VL _ _ _ _ _ _
                refine vl_val rfl (.some rfl) (val_pick rfl rfl) ?_
                refine vl_val rfl (.some rfl) (val_assign rfl) ?_
                refine vl_nil ?_
                refine vc_ret ?_
                refine ⟨_, [], _, res1 Try.results7 rfl, .nil, ?_⟩
                first | rfl | (exfalso; first | contradiction | exact absurd rfl (by assumption))
              · (try replace hg69 := of_decide_eq_false hg69)
                refine vl_off rfl rfl rfl rfl (.some rfl) ?_
                refine vl_off rfl rfl rfl rfl (.some rfl) ?_
                refine vl_off rfl rfl rfl rfl (.some rfl) ?_
                refine vl_off rfl rfl rfl rfl (.some rfl) ?_
                refine vl_val rfl (.some rfl) (val_pick rfl rfl) ?_
                refine vl_val rfl (.some rfl) (val_move rfl) ?_
                refine vl_off rfl rfl rfl rfl (.some rfl) ?_
                refine vl_off rfl rfl rfl rfl (.some rfl) ?_
                refine vl_off rfl rfl rfl rfl (.some rfl) ?_
                refine vl_off rfl rfl rfl rfl (.some rfl) ?_
                refine vl_val rfl (.some rfl) (val_pick rfl rfl) ?_
                refine vl_val rfl (.some rfl) (val_move rfl) ?_
                refine vl_off rfl rfl rfl rfl (.some rfl) ?_
                refine vl_val rfl (.some rfl) (val_pick rfl rfl) ?_
                refine vl_val rfl (.some rfl) (val_assign rfl) ?_
                refine vl_nil ?_
                refine vc_ret ?_
                refine ⟨_, [], _, res1 Try.results7 rfl, .nil, ?_⟩
                first | rfl | (exfalso; first | contradiction | exact absurd rfl (by assumption))
  · refine vt_op rfl ?_
    refine vl_lit sT25 rfl rfl (.some rfl) rfl rfl rfl (by decide) (by decide) rfl rfl (fun r21 => ?_)
    refine vl_nil ?_
    refine ⟨⟨_, (by repeat constructor)⟩, ?_⟩
    refine vt_fork1 0 (by kernel_rfl) ?_
    · refine vt_op rfl ?_
      refine vl_lit0 sT25 Try.sizeOf43 rfl rfl (.some rfl) (fun r17 => ?_)
      refine vl_nil ?_
      refine ⟨⟨_, (by repeat constructor)⟩, ?_⟩
      refine vt_fork1 2 (by kernel_rfl) ?_
      · refine vt_op rfl ?_
        refine vl_append (vs := []) (us := l.flatMap recC) sT25 rfl rfl (.some rfl) rfl rfl (rd_old hr rfl) (recs_len l) (one_recs l) (by omega) (by omega) (by repeat constructor) (fun A19 k19 => ?_)
        rw [List.nil_append, Nat.zero_add]
        refine vl_nil ?_
        refine ⟨⟨_, (by repeat constructor)⟩, ?_⟩
        refine vt_fork1 5 (by kernel_rfl) ?_
        · refine vt_op rfl ?_
          refine vl_append (vs := l.flatMap recC) (us := recC rc) sT25 rfl rfl (.some rfl) rfl rfl (rd_sl (by repeat constructor)) rfl rfl (by omega) (by omega) (by repeat constructor) (fun A22 k22 => ?_)
          rw [show l.flatMap recC ++ recC rc = (l ++ [rc]).flatMap recC by simp, show l.length + 1 = (l ++ [rc]).length by simp]
          have hlr0 : (l ++ [rc]).length ≤ 1048577 := by rw [List.length_append, List.length_singleton]; omega
          obtain ⟨lr, hlr⟩ : ∃ lr, l ++ [rc] = lr := ⟨_, rfl⟩
          rw [hlr] at hK hRR hlr0 ⊢
          refine vl_nil ?_
          refine ⟨⟨_, (by repeat constructor)⟩, ?_⟩
          refine vt_val 6 rfl rfl (by kernel_rfl) rfl (.some rfl) (val_lenSl Try.runUnderlying25 rfl) ?_
          refine vt_nil (by kernel_rfl) ?_
          refine vc_block ?_
          refine vc_loopw (fun q E H => ∃ (i : Nat) (ks : List Rec) (A7 : Option Addr) (c7 : Nat), i ≤ lr.length ∧ q = lr.length - i ∧ ks.length ≤ i ∧ (∀ x ∈ ks, OKr x) ∧ (bsL ks).length ≤ 800000 ∧ E = [(2, .slice M mo.length cm), (7, .slice A7 (bsL ks).length c7), (8, .int .i64 (ks.length : Nat)), (22, .slice A22 lr.length k22), (23, .int .i64 (lr.length : Nat)), (24, .int .i64 i)] ∧ H = [BY A7 (bsL ks).length c7 (bsL ks), sl A22 lr.length k22 43 9 (lr.flatMap recC)]) (lr.length) ⟨_, _, _, ⟨0, [], B7, d7, by omega, rfl, Nat.le_refl _, (fun x hx => by cases hx), (by unfold bsL; simp; omega), rfl, rfl⟩, (by repeat (first | exact trivial | refine ⟨rfl, ?_⟩ | refine ⟨le_item rfl (by first | rfl | (congr 1; omega) | (simp; done) | (simp; omega)), ?_⟩)), (by repeat constructor)⟩ ?_
          intro q E H hI
          obtain ⟨i, ks, A7, c7, hi, rfl, hki, hks, hlb, rfl, rfl⟩ := hI
          refine vc_seq ?_
          refine vc_region ?_
          refine vl_val rfl (.some rfl) (val_lt rfl rfl) ?_
          refine vl_nil ?_
          refine vc_seq ?_
          refine vc_cond rfl (fun hc0 => ?_) (fun hc0 => ?_)
          · (try replace hc0 := of_decide_eq_true hc0)
            refine vc_skip ?_
            refine vc_seq ?_
            refine vc_block ?_
            refine vc_seq ?_
            refine vc_region ?_
            refine vl_val rfl (.some rfl) (val_indexAddr Try.runUnderlying25 Try.sizeOf43 rfl rfl (vs := lr.flatMap recC) (rd_sl (by repeat constructor)) (by omega) (by omega) (by rw [recs_len, Int.toNat_natCast]; omega)) ?_
            refine vl_val rfl (.some rfl) (val_loadAgg Try.isAgg43 Try.sizeOf43 rfl (cells_rd (us := recC (lr.getD i rec0M)) (rd_sl (by repeat constructor)) (nrecs_at (by omega))) rfl) ?_
            refine vl_alloc rfl rfl (.some rfl) Try.zeroValue43 (fun r10 => ?_)
            first | refine vl_store rfl rfl .none rfl rfl Try.sizeOf43 rfl (by repeat constructor) (by first | decide | exact Nat.le_refl _ | exact Nat.le_of_ble_eq_true rfl | (simp; omega)) ?_ | refine vl_storeSl rfl rfl .none rfl rfl Try.sizeOf43 rfl (by simp [Value.cells]) (by repeat constructor) (by first | decide | (simp [Value.cells]; omega)) ?_
            refine vl_nil ?_
            refine vc_seq ?_
            refine vc_region ?_
            refine vl_val rfl (.some rfl) (val_loadAgg Try.isAgg43 Try.sizeOf43 rfl (by first | exact cells_whole (by repeat constructor) | exact cells_part (by repeat constructor) rfl) rfl) ?_
            have hKi := hK _ (nrecs_in (l := lr) (i := i) (by omega))
            have hRi := hRR _ (nrecs_in (l := lr) (i := i) (by omega))
            refine vl_call (C := []) rfl rfl (.some rfl) Try.call22 rfl .nil (fun w hw => xBytesR (lr.getD i rec0M) hKi.s.recL (fun _ => hKi.b) w (rec_here hRi hw)) (fun v H' h => ?_)
            obtain ⟨A11, c11, rfl, rfl⟩ := h
            show VL _ _ _ _ _ (_ :: _)
            refine vl_val rfl (.some rfl) (val_move rfl) ?_
            refine vl_val rfl (.some rfl) (val_extract rfl rfl) ?_
            refine vl_val rfl (.some rfl) (val_extract rfl rfl) ?_
            refine vl_val rfl (.some rfl) (val_assign rfl) ?_
            refine vl_val rfl (.some rfl) (val_assign rfl) ?_
            refine vl_nil ?_
            refine vc_seq ?_
            refine vc_seq ?_
            refine vc_region ?_
            refine vl_val rfl (.some rfl) (val_move rfl) ?_
            refine vl_val rfl (.some rfl) (val_ne rfl rfl) ?_
            refine vl_val rfl (.some rfl) (val_move rfl) ?_
            refine vl_split (t := 35) rfl (fun hg35 => ?_) (fun hg35 => ?_)
            · (try replace hg35 := of_decide_eq_true hg35)
              refine vl_off rfl rfl rfl rfl (.some rfl) ?_
              refine vl_off rfl rfl rfl rfl (.some rfl) ?_
              refine vl_val rfl (.some rfl) (val_pick rfl rfl) ?_
              refine vl_val rfl (.some rfl) (val_move rfl) ?_
              refine vl_off rfl rfl rfl rfl (.some rfl) ?_
              refine vl_off rfl rfl rfl rfl (.some rfl) ?_
              refine vl_off rfl rfl rfl rfl (.some rfl) ?_
              refine vl_val rfl (.some rfl) (val_pick rfl rfl) ?_
              refine vl_nil ?_
              refine vc_cond rfl (fun _ => ?_) (fun h => by cases h)
              refine vc_exit ?_
              refine vc_region ?_
              refine vl_val rfl (.some rfl) (val_add rfl rfl (by first | exact w_i64 (by omega) (by omega) | rfl)) ?_
              refine vl_val rfl (.some rfl) (val_move rfl) ?_
              refine vl_nil ?_
              first
                | exact ⟨(lr.length - (i + 1)), _, _, _, by omega, (by repeat (first | exact trivial | refine ⟨rfl, ?_⟩ | refine ⟨le_item rfl (by first | rfl | (congr 1; omega) | (simp; done) | (simp; omega)), ?_⟩)), (by repeat constructor), ⟨i + 1, ks ++ [recOf (lr.getD i rec0M)], A49, k49, by omega, rfl, (List.length_append ▸ Nat.succ_le_succ hki), (fun x hx => (List.mem_append.1 hx).elim (hks x) (fun h => by rw [List.mem_singleton.1 h]; exact hok)), (by rw [← bs_snoc, List.length_append]; omega), rfl, rfl⟩⟩
                | exact ⟨(lr.length - (i + 1)), _, _, _, by omega, (by repeat (first | exact trivial | refine ⟨rfl, ?_⟩ | refine ⟨le_item rfl (by first | rfl | (congr 1; omega) | (simp; done) | (simp; omega)), ?_⟩)), (by repeat constructor), ⟨i + 1, ks, A7, c7, by omega, rfl, by omega, hks, hlb, rfl, rfl⟩⟩
            · (try replace hg35 := of_decide_eq_false hg35)
              refine vl_on rfl rfl rfl rfl ?_
              refine vl_val rfl (.some rfl) (val_loadAgg Try.isAgg43 Try.sizeOf43 rfl (by first | exact cells_whole (by repeat constructor) | exact cells_part (by repeat constructor) rfl) rfl) ?_
              refine vl_on rfl rfl rfl rfl ?_
              refine vl_call (C := []) rfl rfl (.some rfl) Try.call21 rfl .nil (fun w hw => xGreat (lr.getD i rec0M) hKi.s w (rec_here hRi hw)) (fun v H' h => ?_)
              obtain ⟨gr, rfl, _, rfl⟩ := h
              show VL _ _ _ _ _ _
              refine vl_val rfl (.some rfl) (val_pick rfl rfl) ?_
              refine vl_val rfl (.some rfl) (val_move rfl) ?_
              refine vl_split (t := 39) rfl (fun hg39 => ?_) (fun hg39 => ?_)
              · (try replace hg39 := of_decide_eq_true hg39)
                refine vl_off rfl rfl rfl rfl (.some rfl) ?_
                refine vl_off rfl rfl rfl rfl (.some rfl) ?_
                refine vl_off rfl rfl rfl rfl (.some rfl) ?_
                refine vl_val rfl (.some rfl) (val_pick rfl rfl) ?_
                refine vl_nil ?_
                refine vc_cond rfl (fun _ => ?_) (fun h => by cases h)
                refine vc_exit ?_
                refine vc_region ?_
                refine vl_val rfl (.some rfl) (val_add rfl rfl (by first | exact w_i64 (by omega) (by omega) | rfl)) ?_
                refine vl_val rfl (.some rfl) (val_move rfl) ?_
                refine vl_nil ?_
                first
                  | exact ⟨(lr.length - (i + 1)), _, _, _, by omega, (by repeat (first | exact trivial | refine ⟨rfl, ?_⟩ | refine ⟨le_item rfl (by first | rfl | (congr 1; omega) | (simp; done) | (simp; omega)), ?_⟩)), (by repeat constructor), ⟨i + 1, ks ++ [recOf (lr.getD i rec0M)], A49, k49, by omega, rfl, (List.length_append ▸ Nat.succ_le_succ hki), (fun x hx => (List.mem_append.1 hx).elim (hks x) (fun h => by rw [List.mem_singleton.1 h]; exact hok)), (by rw [← bs_snoc, List.length_append]; omega), rfl, rfl⟩⟩
                  | exact ⟨(lr.length - (i + 1)), _, _, _, by omega, (by repeat (first | exact trivial | refine ⟨rfl, ?_⟩ | refine ⟨le_item rfl (by first | rfl | (congr 1; omega) | (simp; done) | (simp; omega)), ?_⟩)), (by repeat constructor), ⟨i + 1, ks, A7, c7, by omega, rfl, by omega, hks, hlb, rfl, rfl⟩⟩
              · (try replace hg39 := of_decide_eq_false hg39)
                refine vl_on rfl rfl rfl rfl ?_
                refine vl_val rfl (.some rfl) (val_move rfl) ?_
                refine vl_on rfl rfl rfl rfl ?_
                refine vl_val rfl (.some rfl) (val_lenSl Try.runUnderlying22 rfl) ?_
                refine vl_on rfl rfl rfl rfl ?_
                refine vl_val rfl (.some rfl) (val_gt rfl rfl) ?_
                refine vl_val rfl (.some rfl) (val_pick rfl rfl) ?_
                refine vl_nil ?_
                refine vc_cond rfl (fun hc1 => ?_) (fun hc1 => ?_)
                · (try replace hc1 := of_decide_eq_true hc1)
                  refine vc_exit ?_
                  refine vc_region ?_
                  refine vl_val rfl (.some rfl) (val_add rfl rfl (by first | exact w_i64 (by omega) (by omega) | rfl)) ?_
                  refine vl_val rfl (.some rfl) (val_move rfl) ?_
                  refine vl_nil ?_
                  first
                    | exact ⟨(lr.length - (i + 1)), _, _, _, by omega, (by repeat (first | exact trivial | refine ⟨rfl, ?_⟩ | refine ⟨le_item rfl (by first | rfl | (congr 1; omega) | (simp; done) | (simp; omega)), ?_⟩)), (by repeat constructor), ⟨i + 1, ks ++ [recOf (lr.getD i rec0M)], A49, k49, by omega, rfl, (List.length_append ▸ Nat.succ_le_succ hki), (fun x hx => (List.mem_append.1 hx).elim (hks x) (fun h => by rw [List.mem_singleton.1 h]; exact hok)), (by rw [← bs_snoc, List.length_append]; omega), rfl, rfl⟩⟩
                    | exact ⟨(lr.length - (i + 1)), _, _, _, by omega, (by repeat (first | exact trivial | refine ⟨rfl, ?_⟩ | refine ⟨le_item rfl (by first | rfl | (congr 1; omega) | (simp; done) | (simp; omega)), ?_⟩)), (by repeat constructor), ⟨i + 1, ks, A7, c7, by omega, rfl, by omega, hks, hlb, rfl, rfl⟩⟩
                · (try replace hc1 := of_decide_eq_false hc1)
                  obtain ⟨hok1, hok2⟩ := byt_zero (x := recOf (lr.getD i rec0M)) (by omega)
                  obtain ⟨e1, e2⟩ := byt_ok hok1 hok2
                  have hok : OKr (recOf (lr.getD i rec0M)) := ⟨hok1, hKi.w, hok2⟩
                  rw [e1]
                  have hlb2 : (bsL ks).length ≤ 500000 := by omega
                  refine vc_skip ?_
                  refine vc_seq ?_
                  refine vc_region ?_
                  refine vl_lit0 sT22 Try.sizeOf5 rfl rfl (.some rfl) (fun r44 => ?_)
                  refine vl_val rfl (.some rfl) (val_move rfl) ?_
                  refine vl_append (vs := []) (us := bcells (bsL ks)) sT22 rfl rfl (.some rfl) rfl rfl (rd_sl (vs := bcells (bsL ks)) (by repeat constructor)) (by rw [bcells_length, Nat.mul_one]) (one_b _) (by omega) (by omega) (by repeat constructor) (fun A46 k46 => ?_)
                  rw [List.nil_append, Nat.zero_add]
                  refine vl_val rfl (.some rfl) (val_move rfl) ?_
                  refine vl_call (C := []) rfl rfl (.some rfl) Try.call29 rfl .nil (fun w hw => cFrame A11 c11 (recB (recOf (lr.getD i rec0M))) (by omega) w (rdw (rd_sl (vs := bcells (recB (recOf (lr.getD i rec0M)))) (by repeat constructor)) hw)) (fun v H' h => ?_)
                  obtain ⟨A48, c48, rfl, rfl⟩ := h
                  show VL _ _ _ _ _ (_ :: _)
                  have hfl := frame_len hok.2.2
                  refine vl_append (us := bcells (frameL (recB (recOf (lr.getD i rec0M))))) sT22 rfl rfl (.some rfl) rfl rfl (rd_sl (by repeat constructor)) (by rw [bcells_length, Nat.mul_one]) (one_b _) (by omega) (by omega) (by repeat constructor) (fun A49 k49 => ?_)
                  rw [bcells_app, ← List.length_append, bs_snoc]
                  refine vl_val rfl (.some rfl) (val_assign rfl) ?_
                  refine vl_nil ?_
                  refine vc_region ?_
                  refine vl_val rfl (.some rfl) (val_move rfl) ?_
                  refine vl_val rfl (.some rfl) (val_add rfl rfl (by first | exact w_i64 (by omega) (by omega) | rfl)) ?_
                  refine vl_val rfl (.some rfl) (val_assign rfl) ?_
                  refine vl_nil ?_
                  refine vc_region ?_
                  refine vl_val rfl (.some rfl) (val_add rfl rfl (by first | exact w_i64 (by omega) (by omega) | rfl)) ?_
                  refine vl_val rfl (.some rfl) (val_move rfl) ?_
                  refine vl_nil ?_
                  first
                    | exact ⟨(lr.length - (i + 1)), _, _, _, by omega, (by repeat (first | exact trivial | refine ⟨rfl, ?_⟩ | refine ⟨le_item rfl (by first | rfl | (congr 1; omega) | (simp; done) | (simp; omega)), ?_⟩)), (by repeat constructor), ⟨i + 1, ks ++ [recOf (lr.getD i rec0M)], A49, k49, by omega, rfl, (List.length_append ▸ Nat.succ_le_succ hki), (fun x hx => (List.mem_append.1 hx).elim (hks x) (fun h => by rw [List.mem_singleton.1 h]; exact hok)), (by rw [← bs_snoc, List.length_append]; omega), rfl, rfl⟩⟩
                    | exact ⟨(lr.length - (i + 1)), _, _, _, by omega, (by repeat (first | exact trivial | refine ⟨rfl, ?_⟩ | refine ⟨le_item rfl (by first | rfl | (congr 1; omega) | (simp; done) | (simp; omega)), ?_⟩)), (by repeat constructor), ⟨i + 1, ks, A7, c7, by omega, rfl, by omega, hks, hlb, rfl, rfl⟩⟩
          · (try replace hc0 := of_decide_eq_false hc0)
            have hlb2 := hlb
            refine vc_exit ?_
            refine vc_cut (fun E H => ∃ E0 H0 F, Env.le E0 E ∧ Sub H0 H F ∧ (fun E H => ∃ m2 : Tx, m2.length < 4 ∧ m2.length ≤ cm ∧ Reads w M (bcells m2) ∧ E = [(2, .slice M m2.length cm), (7, .slice A7 (bsL ks).length c7), (8, .int .i64 (ks.length : Nat))] ∧ H = [BY A7 (bsL ks).length c7 (bsL ks)]) E0 H0) ?_ (fun E H h => ?_)
            ·
              refine vc_seq ?_
              refine vc_region ?_
              refine vl_val rfl (.some rfl) (val_move rfl) ?_
              refine vl_val rfl (.some rfl) (val_lenSl Try.runUnderlying22 rfl) ?_
              refine vl_val rfl (.some rfl) (val_gt rfl rfl) ?_
              refine vl_nil ?_
              refine vc_cond rfl (fun hc2 => ?_) (fun hc2 => ?_)
              · (try replace hc2 := of_decide_eq_true hc2)
                refine vc_region ?_
                refine vl_val rfl (.some rfl) (val_move rfl) ?_
                refine vl_val rfl (.some rfl) (val_cutTo Try.runUnderlying22 Try.sizeOf5 rfl rfl (by omega) (by omega)) ?_
                rw [show (Int.toNat 3) = (mo.take 3).length by rw [List.length_take]; show 3 = _; omega]
                refine vl_val rfl (.some rfl) (val_assign rfl) ?_
                refine vl_nil ?_
                first
                  | exact ⟨_, _, _, (by repeat (first | exact trivial | refine ⟨rfl, ?_⟩ | refine ⟨le_item rfl (by first | rfl | (congr 1; omega) | (simp; done) | (simp; omega)), ?_⟩)), (by repeat constructor), ⟨mo.take 3, (List.length_take ▸ (Nat.lt_of_le_of_lt (Nat.min_le_left 3 mo.length) (Nat.lt_succ_self 3))), Nat.le_trans (List.length_take_le' 3 mo) hmc, reads_takeB hrm 3, rfl, rfl⟩⟩
                  | exact ⟨_, _, _, (by repeat (first | exact trivial | refine ⟨rfl, ?_⟩ | refine ⟨le_item rfl (by first | rfl | (congr 1; omega) | (simp; done) | (simp; omega)), ?_⟩)), (by repeat constructor), ⟨mo, Nat.lt_of_not_le (fun h5 => hc2 (Int.ofNat_lt.2 h5)), hmc, hrm, rfl, rfl⟩⟩
              · (try replace hc2 := of_decide_eq_false hc2)
                refine vc_skip ?_
                first
                  | exact ⟨_, _, _, (by repeat (first | exact trivial | refine ⟨rfl, ?_⟩ | refine ⟨le_item rfl (by first | rfl | (congr 1; omega) | (simp; done) | (simp; omega)), ?_⟩)), (by repeat constructor), ⟨mo.take 3, (List.length_take ▸ (Nat.lt_of_le_of_lt (Nat.min_le_left 3 mo.length) (Nat.lt_succ_self 3))), Nat.le_trans (List.length_take_le' 3 mo) hmc, reads_takeB hrm 3, rfl, rfl⟩⟩
                  | exact ⟨_, _, _, (by repeat (first | exact trivial | refine ⟨rfl, ?_⟩ | refine ⟨le_item rfl (by first | rfl | (congr 1; omega) | (simp; done) | (simp; omega)), ?_⟩)), (by repeat constructor), ⟨mo, Nat.lt_of_not_le (fun h5 => hc2 (Int.ofNat_lt.2 h5)), hmc, hrm, rfl, rfl⟩⟩
            · obtain ⟨E0, H0, F, hE0, hH0, hJ⟩ := h
              obtain ⟨m2, h24, h2c, hm2, rfl, rfl⟩ := hJ
              refine vc_weak hE0 hH0 ?_
              refine vc_seq ?_
              refine vc_region ?_
              refine vl_lit0 sT22 Try.sizeOf5 rfl rfl (.some rfl) (fun r59 => ?_)
              refine vl_val rfl (.some rfl) (val_move rfl) ?_
              refine vl_append (vs := []) (us := bcells (bsL ks)) sT22 rfl rfl (.some rfl) rfl rfl (rd_sl (vs := bcells (bsL ks)) (by repeat constructor)) (by rw [bcells_length, Nat.mul_one]) (one_b _) (by omega) (by omega) (by repeat constructor) (fun A61 k61 => ?_)
              rw [List.nil_append, Nat.zero_add]
              refine vl_val rfl (.some rfl) (val_move rfl) ?_
              refine vl_append (us := bcells m2) sT22 rfl rfl (.some rfl) rfl rfl (rd_old hm2 rfl) (by rw [bcells_length, Nat.mul_one]) (one_b _) (by omega) (by omega) (by repeat constructor) (fun A63 k63 => ?_)
              rw [bcells_app, ← List.length_append]
              have hsl : (bsL ks ++ m2).length = (bsL ks).length + m2.length := List.length_append
              refine vl_slCap (A := A63) (n := (bsL ks ++ m2).length) (c := k63) (sz := 1) (e := 5) (vs := bcells (bsL ks ++ m2)) (by repeat constructor) (fun hcap => ?_)
              refine vl_call (C := []) rfl rfl (.some rfl) Try.call15 rfl .nil (fun w hw => xScan A63 k63 (bsL ks ++ m2) (by omega) hcap 3 (by decide) w (rdw (rd_sl (by repeat constructor)) hw)) (fun v H' h => ?_)
              obtain ⟨ms, A13, c13, l13, rfl, hms, _, hH⟩ := h
              rw [hH]
              refine vl_eqv (eqv_big l13 _).symm ?_
              obtain ⟨f1, f2, f3⟩ := scan_bs hks h24
              rw [f2] at hms
              have hml : ms.length = ks.length := by rw [← hms, List.length_map]
              rw [f1, f3, hml]
              refine vl_val rfl (.some rfl) (val_move rfl) ?_
              refine vl_val rfl (.some rfl) (val_extract rfl rfl) ?_
              refine vl_val rfl (.some rfl) (val_extract rfl rfl) ?_
              refine vl_val rfl (.some rfl) (val_extract rfl rfl) ?_
              refine vl_val rfl (.some rfl) (val_assign rfl) ?_
              refine vl_val rfl (.some rfl) (val_assign rfl) ?_
              refine vl_val rfl (.some rfl) (val_assign rfl) ?_
              refine vl_nil ?_
              refine vc_seq ?_
              refine vc_region ?_
              refine vl_val rfl (.some rfl) (val_move rfl) ?_
              refine vl_val rfl (.some rfl) (val_move rfl) ?_
              refine vl_split (t := 69) rfl (fun hg69 => ?_) (fun hg69 => ?_)
              · (try replace hg69 := of_decide_eq_true hg69)
                refine vl_on rfl rfl rfl rfl ?_
                refine vl_val rfl (.some rfl) (val_move rfl) ?_
                refine vl_on rfl rfl rfl rfl ?_
                refine vl_val rfl (.some rfl) (val_lenSl Try.runUnderlying25 rfl) ?_
                refine vl_on rfl rfl rfl rfl ?_
                refine vl_val rfl (.some rfl) (val_move rfl) ?_
                refine vl_on rfl rfl rfl rfl ?_
                refine vl_val rfl (.some rfl) (val_eqt rfl rfl (rfl)) ?_
                refine vl_val rfl (.some rfl) (val_pick rfl rfl) ?_
                refine vl_val rfl (.some rfl) (val_move rfl) ?_
                refine vl_on rfl rfl rfl rfl ?_
                refine vl_val rfl (.some rfl) (val_move rfl) ?_
                refine vl_on rfl rfl rfl rfl ?_
                refine vl_val rfl (.some rfl) (val_move rfl) ?_
                refine vl_on rfl rfl rfl rfl ?_
                refine vl_val rfl (.some rfl) (val_lenSl Try.runUnderlying22 rfl) ?_
                refine vl_on rfl rfl rfl rfl ?_
                refine vl_val rfl (.some rfl) (val_eqt rfl rfl (rfl)) ?_
                refine vl_val rfl (.some rfl) (val_pick rfl rfl) ?_
                refine vl_val rfl (.some rfl) (val_move rfl) ?_
                refine vl_on rfl rfl rfl rfl ?_
                refine vl_call (C := []) rfl rfl (.some rfl) Try.call14 rfl .nil (fun w hw => xLives w) (fun v H' h => ?_)
                obtain ⟨rfl, rfl⟩ := h
                show VL _ _ _ _ _ _
                refine vl_val rfl (.some rfl) (val_pick rfl rfl) ?_
                refine vl_val rfl (.some rfl) (val_assign rfl) ?_
                refine vl_nil ?_
                refine vc_ret ?_
                refine ⟨_, [], _, res1 Try.results7 rfl, .nil, ?_⟩
                first | rfl | (exfalso; first | contradiction | exact absurd rfl (by assumption))
              · (try replace hg69 := of_decide_eq_false hg69)
                refine vl_off rfl rfl rfl rfl (.some rfl) ?_
                refine vl_off rfl rfl rfl rfl (.some rfl) ?_
                refine vl_off rfl rfl rfl rfl (.some rfl) ?_
                refine vl_off rfl rfl rfl rfl (.some rfl) ?_
                refine vl_val rfl (.some rfl) (val_pick rfl rfl) ?_
                refine vl_val rfl (.some rfl) (val_move rfl) ?_
                refine vl_off rfl rfl rfl rfl (.some rfl) ?_
                refine vl_off rfl rfl rfl rfl (.some rfl) ?_
                refine vl_off rfl rfl rfl rfl (.some rfl) ?_
                refine vl_off rfl rfl rfl rfl (.some rfl) ?_
                refine vl_val rfl (.some rfl) (val_pick rfl rfl) ?_
                refine vl_val rfl (.some rfl) (val_move rfl) ?_
                refine vl_off rfl rfl rfl rfl (.some rfl) ?_
                refine vl_val rfl (.some rfl) (val_pick rfl rfl) ?_
                refine vl_val rfl (.some rfl) (val_assign rfl) ?_
                refine vl_nil ?_
                refine vc_ret ?_
                refine ⟨_, [], _, res1 Try.results7 rfl, .nil, ?_⟩
                first | rfl | (exfalso; first | contradiction | exact absurd rfl (by assumption))

abbrev colW (p : ByteArray × Int × Unit) : List Value := [.string p.1] ++ ([.int .i64 p.2.1] ++ [])
def colOf (p : ByteArray × Int × Unit) : Cq := (p.1.data.toList, p.2.1)
theorem colW_flat (l : List (ByteArray × Int × Unit)) : (l.map colOf).flatMap colV = l.flatMap colW := by
  rw [List.flatMap_map]
  refine congrArg (fun f => List.flatMap f l) (funext fun p => ?_)
  show [Value.string (sL p.1.data.toList), Value.int .i64 p.2.1] = _
  rw [sL_eta]; rfl
abbrev meaW (p : Int × ByteArray × Unit) : List Value := [.int .i64 p.1] ++ ([.string p.2.1] ++ [])
def meaOf (p : Int × ByteArray × Unit) : Mq := (p.1, p.2.1.data.toList)
theorem meaW_flat (l : List (Int × ByteArray × Unit)) : (l.map meaOf).flatMap meaV = l.flatMap meaW := by
  rw [List.flatMap_map]
  refine congrArg (fun f => List.flatMap f l) (funext fun p => ?_)
  show [Value.int .i64 p.1, Value.string (sL p.2.1.data.toList)] = _
  rw [sL_eta]; rfl
theorem txt_flat (l : List ByteArray) : tcS (l.map fun s => s.data.toList) = scells l := by
  unfold tcS scells
  rw [List.map_map]
  refine congrArg (fun f => List.map f l) (funext fun s => ?_)
  show Value.string (sL s.data.toList) = _
  rw [sL_eta]
abbrev valW (p : Int × Int × ByteArray × Unit) : List Value := [.int .i64 p.1] ++ ([.int .i64 p.2.1] ++ ([.string p.2.2.1] ++ []))
def vkOf (p : Int × Int × ByteArray × Unit) : Vk := ⟨p.1, p.2.1, p.2.2.1⟩
abbrev RowW := Sl (Int × Int × ByteArray × Unit)
abbrev slW (s : RowW) : List Value := [.slice s.A s.l.length s.c]
def rwOf (s : RowW) : Rw := (s.A, s.c, s.l.map vkOf)
theorem row_flat (l : List RowW) : (l.map rwOf).flatMap rowV = l.flatMap slW := by
  rw [List.flatMap_map]
  refine congrArg (fun f => List.flatMap f l) (funext fun p => ?_)
  show [Value.slice p.A (p.l.map vkOf).length p.c] = _
  rw [List.length_map]
theorem val_flat (l : List (Int × Int × ByteArray × Unit)) : flat (l.map vkOf) = l.flatMap valW := by
  unfold flat
  rw [List.flatMap_map]
  rfl
theorem len_48 {s : ByteArray} (h : s.size ≤ 140737488351232) : s.data.toList.length < 562949953421312 := by
  have hl : s.data.toList.length = s.size := Array.length_toList
  omega
/-- The record that a law is given. -/
def recOfW (k : Int) (tn : ByteArray) (Ac : Option Addr) (cc : Nat) (cs : List (ByteArray × Int × Unit)) (rn rt : ByteArray) (Ad : Option Addr) (cd : Nat) (ds : List ByteArray) (Am : Option Addr) (cm : Nat) (ms : List (Int × ByteArray × Unit)) (nm : ByteArray) (Ar : Option Addr) (cr : Nat) (rs : List RowW) : RecM :=
  ⟨k, tn.data.toList, Ac, cc, cs.map colOf, rn.data.toList, rt.data.toList, Ad, cd, ds.map fun s => s.data.toList, Am, cm, ms.map meaOf, nm.data.toList, Ar, cr, rs.map rwOf⟩
section
variable {k : Int} {tn : ByteArray} {Ac : Option Addr} {cc : Nat} {cs : List (ByteArray × Int × Unit)} {rn rt : ByteArray} {Ad : Option Addr} {cd : Nat} {ds : List ByteArray} {Am : Option Addr} {cm : Nat} {ms : List (Int × ByteArray × Unit)} {nm : ByteArray} {Ar : Option Addr} {cr : Nat} {rs : List RowW} {w : World}
  (g0 : -9223372036854775808 ≤ k ∧ k < 9223372036854775808) (g1 : tn.size ≤ 140737488351232) (g2 : Reads w Ac (cs.flatMap colW)) (g3 : cs.length ≤ cc) (g4 : cs.length * 24 ≤ 140737488351232) (g5 : ∀ a ∈ cs, a.1.size ≤ 140737488351232 ∧ (-9223372036854775808 ≤ a.2.1 ∧ a.2.1 < 9223372036854775808) ∧ True)
  (g6 : rn.size ≤ 140737488351232) (g7 : rt.size ≤ 140737488351232) (g8 : Reads w Ad (scells ds)) (g9 : ds.length ≤ cd) (g10 : ds.length * 16 ≤ 140737488351232) (g11 : ∀ a ∈ ds, a.size ≤ 140737488351232) (g12 : Reads w Am (ms.flatMap meaW)) (g13 : ms.length ≤ cm) (g14 : ms.length * 24 ≤ 140737488351232) (g15 : ∀ a ∈ ms, (-9223372036854775808 ≤ a.1 ∧ a.1 < 9223372036854775808) ∧ a.2.1.size ≤ 140737488351232 ∧ True)
  (g16 : nm.size ≤ 140737488351232) (g17 : Reads w Ar (rs.flatMap slW)) (g18 : rs.length ≤ cr) (g19 : rs.length * 24 ≤ 140737488351232) (g20 : ∀ s ∈ rs, Reads w s.A (s.l.flatMap valW) ∧ s.l.length ≤ s.c ∧ s.l.length * 32 ≤ 140737488351232 ∧ ∀ a ∈ s.l, (-9223372036854775808 ≤ a.1 ∧ a.1 < 9223372036854775808) ∧ (-9223372036854775808 ≤ a.2.1 ∧ a.2.1 < 9223372036854775808) ∧ a.2.2.1.size ≤ 140737488351232 ∧ True)
include g1 g4 g5 g6 g7 g10 g11 g14 g15 g16 g19 g20 in
theorem law_recS : RecS (recOfW k tn Ac cc cs rn rt Ad cd ds Am cm ms nm Ar cr rs) := by
  refine ⟨len_48 g1, len_48 g6, len_48 g7, len_48 g16, ?_, ?_, ?_, ?_, fun q hq => ?_, fun c hc => ?_, fun c hc => ?_, fun c hc => ?_⟩
  · show (cs.map colOf).length < _
    rw [List.length_map]; omega
  · show (ds.map _).length < _
    rw [List.length_map]; omega
  · show (ms.map meaOf).length < _
    rw [List.length_map]; omega
  · show (rs.map rwOf).length < _
    rw [List.length_map]; omega
  · obtain ⟨s, hs, rfl⟩ := List.mem_map.1 hq
    show (s.l.map vkOf).length < _
    have := g20 s hs
    rw [List.length_map]; omega
  · obtain ⟨a, ha, rfl⟩ := List.mem_map.1 hc
    exact Nat.le_of_lt (len_48 (g5 a ha).1)
  · obtain ⟨a, ha, rfl⟩ := List.mem_map.1 hc
    exact Nat.le_of_lt (len_48 (g11 a ha))
  · obtain ⟨a, ha, rfl⟩ := List.mem_map.1 hc
    exact Nat.le_of_lt (len_48 (g15 a ha).2.1)
include g2 g8 g12 g17 g20 in
theorem law_recR : RecR w (recOfW k tn Ac cc cs rn rt Ad cd ds Am cm ms nm Ar cr rs) := by
  refine ⟨?_, ?_, ?_, ?_, fun q hq => ?_⟩
  · show Reads w Ac ((cs.map colOf).flatMap colV)
    rw [colW_flat]; exact g2
  · show Reads w Ad (tcS (ds.map fun s => s.data.toList))
    rw [txt_flat]; exact g8
  · show Reads w Am ((ms.map meaOf).flatMap meaV)
    rw [meaW_flat]; exact g12
  · show Reads w Ar ((rs.map rwOf).flatMap rowV)
    rw [row_flat]; exact g17
  · obtain ⟨s, hs, rfl⟩ := List.mem_map.1 hq
    refine ⟨?_, fun p hp => ?_⟩
    · show Reads w s.A (flat (s.l.map vkOf))
      rw [val_flat]; exact (g20 s hs).1
    · obtain ⟨a, ha, rfl⟩ := List.mem_map.1 hp
      exact ((g20 s hs).2.2.2 a ha).2.1
theorem law_recA : recA (recOfW k tn Ac cc cs rn rt Ad cd ds Am cm ms nm Ar cr rs) = .agg #[.int .i64 k, .string tn, .slice Ac cs.length cc, .string rn, .string rt, .slice Ad ds.length cd, .slice Am ms.length cm, .string nm, .slice Ar rs.length cr] := by
  show Value.agg #[.int .i64 k, .string (sL tn.data.toList), .slice Ac (cs.map colOf).length cc, .string (sL rn.data.toList), .string (sL rt.data.toList), .slice Ad (ds.map _).length cd, .slice Am (ms.map meaOf).length cm, .string (sL nm.data.toList), .slice Ar (rs.map rwOf).length cr] = _
  rw [sL_eta, sL_eta, sL_eta, sL_eta, List.length_map, List.length_map, List.length_map, List.length_map]
include g1 g4 g5 g6 g7 g10 g11 g14 g15 g16 g19 g20 in
theorem law_recW : RecW (recOf (recOfW k tn Ac cc cs rn rt Ad cd ds Am cm ms nm Ar cr rs)) := by
  refine (law_recS g1 g4 g5 g6 g7 g10 g11 g14 g15 g16 g19 g20).recW (fun c hc => ?_) (fun c hc => ?_) (fun q hq p hp => ?_)
  · obtain ⟨a, ha, rfl⟩ := List.mem_map.1 hc
    exact (g5 a ha).2.1
  · obtain ⟨a, ha, rfl⟩ := List.mem_map.1 hc
    exact (g15 a ha).1
  · obtain ⟨s, hs, rfl⟩ := List.mem_map.1 hq
    obtain ⟨a, ha, rfl⟩ := List.mem_map.1 hp
    exact ((g20 s hs).2.2.2 a ha).2.1
end

section
variable {k : Int} {tn : ByteArray} {Ac : Option Addr} {cc : Nat} {cs : List (ByteArray × Int × Unit)} {rn rt : ByteArray} {Ad : Option Addr} {cd : Nat} {ds : List ByteArray} {Am : Option Addr} {cm : Nat} {ms : List (Int × ByteArray × Unit)} {nm : ByteArray} {Ar : Option Addr} {cr : Nat} {rs : List RowW} {w : World}
theorem len_20 {s : ByteArray} (h : s.size ≤ 1048576) : s.data.toList.length ≤ 2000000 := by
  have hl : s.data.toList.length = s.size := Array.length_toList
  omega
theorem bulkK (g0 : -9223372036854775808 ≤ k ∧ k < 9223372036854775808) (g1 : tn.size ≤ 1048576) (g2 : Reads w Ac (cs.flatMap colW)) (g3 : cs.length ≤ cc) (g4 : cs.length ≤ 1048576) (g5 : ∀ a ∈ cs, a.1.size ≤ 1048576 ∧ (-9223372036854775808 ≤ a.2.1 ∧ a.2.1 < 9223372036854775808) ∧ True)
  (g6 : rn.size ≤ 1048576) (g7 : rt.size ≤ 1048576) (g8 : Reads w Ad (scells ds)) (g9 : ds.length ≤ cd) (g10 : ds.length ≤ 1048576) (g11 : ∀ a ∈ ds, a.size ≤ 1048576) (g12 : Reads w Am (ms.flatMap meaW)) (g13 : ms.length ≤ cm) (g14 : ms.length ≤ 1048576) (g15 : ∀ a ∈ ms, (-9223372036854775808 ≤ a.1 ∧ a.1 < 9223372036854775808) ∧ a.2.1.size ≤ 1048576 ∧ True)
  (g16 : nm.size ≤ 1048576) (g17 : Reads w Ar (rs.flatMap slW)) (g18 : rs.length ≤ cr) (g19 : rs.length ≤ 1048576) (g20 : ∀ s ∈ rs, Reads w s.A (s.l.flatMap valW) ∧ s.l.length ≤ s.c ∧ s.l.length ≤ 1048576 ∧ ∀ a ∈ s.l, (-9223372036854775808 ≤ a.1 ∧ a.1 < 9223372036854775808) ∧ (-9223372036854775808 ≤ a.2.1 ∧ a.2.1 < 9223372036854775808) ∧ a.2.2.1.size ≤ 1048576 ∧ True) : RecK (recOfW k tn Ac cc cs rn rt Ad cd ds Am cm ms nm Ar cr rs) ∧ RecR w (recOfW k tn Ac cc cs rn rt Ad cd ds Am cm ms nm Ar cr rs) := by
  have e1 : tn.size ≤ 140737488351232 := Nat.le_trans g1 (by decide)
  have e4 : cs.length * 24 ≤ 140737488351232 := by omega
  have e5 : ∀ a ∈ cs, a.1.size ≤ 140737488351232 ∧ (-9223372036854775808 ≤ a.2.1 ∧ a.2.1 < 9223372036854775808) ∧ True := fun a ha => ⟨Nat.le_trans (g5 a ha).1 (by decide), (g5 a ha).2⟩
  have e6 : rn.size ≤ 140737488351232 := Nat.le_trans g6 (by decide)
  have e7 : rt.size ≤ 140737488351232 := Nat.le_trans g7 (by decide)
  have e10 : ds.length * 16 ≤ 140737488351232 := by omega
  have e11 : ∀ a ∈ ds, a.size ≤ 140737488351232 := fun a ha => Nat.le_trans (g11 a ha) (by decide)
  have e14 : ms.length * 24 ≤ 140737488351232 := by omega
  have e15 : ∀ a ∈ ms, (-9223372036854775808 ≤ a.1 ∧ a.1 < 9223372036854775808) ∧ a.2.1.size ≤ 140737488351232 ∧ True := fun a ha => ⟨(g15 a ha).1, Nat.le_trans (g15 a ha).2.1 (by decide), trivial⟩
  have e16 : nm.size ≤ 140737488351232 := Nat.le_trans g16 (by decide)
  have e19 : rs.length * 24 ≤ 140737488351232 := by omega
  have e20 : ∀ s ∈ rs, Reads w s.A (s.l.flatMap valW) ∧ s.l.length ≤ s.c ∧ s.l.length * 32 ≤ 140737488351232 ∧ ∀ a ∈ s.l, (-9223372036854775808 ≤ a.1 ∧ a.1 < 9223372036854775808) ∧ (-9223372036854775808 ≤ a.2.1 ∧ a.2.1 < 9223372036854775808) ∧ a.2.2.1.size ≤ 140737488351232 ∧ True := fun s hs => ⟨(g20 s hs).1, (g20 s hs).2.1, by have := (g20 s hs).2.2.1; omega, fun a ha => ⟨((g20 s hs).2.2.2 a ha).1, ((g20 s hs).2.2.2 a ha).2.1, Nat.le_trans ((g20 s hs).2.2.2 a ha).2.2.1 (by decide), trivial⟩⟩
  refine ⟨⟨law_recS e1 e4 e5 e6 e7 e10 e11 e14 e15 e16 e19 e20, ?_, law_recW e1 e4 e5 e6 e7 e10 e11 e14 e15 e16 e19 e20⟩, law_recR g2 g8 g12 g17 e20⟩
  refine ⟨len_20 g1, len_20 g6, len_20 g7, len_20 g16, fun x hx => ?_, fun x hx => ?_, fun x hx => ?_⟩
  · obtain ⟨a, ha, rfl⟩ := List.mem_map.1 hx
    exact len_20 (g5 a ha).1
  · obtain ⟨a, ha, rfl⟩ := List.mem_map.1 hx
    exact len_20 (g11 a ha)
  · obtain ⟨a, ha, rfl⟩ := List.mem_map.1 hx
    exact len_20 (g15 a ha).2.1
end
abbrev RecT := Int × (ByteArray × Sl (ByteArray × Int × Unit) × Unit) × (ByteArray × ByteArray × Sl ByteArray × Sl (Int × ByteArray × Unit) × Unit) × ByteArray × Sl RowW × Unit
abbrev recWc (p : RecT) : List Value := [.int .i64 p.1] ++ (([.string p.2.1.1] ++ ([.slice p.2.1.2.1.A p.2.1.2.1.l.length p.2.1.2.1.c] ++ [])) ++ (([.string p.2.2.1.1] ++ ([.string p.2.2.1.2.1] ++ ([.slice p.2.2.1.2.2.1.A p.2.2.1.2.2.1.l.length p.2.2.1.2.2.1.c] ++ ([.slice p.2.2.1.2.2.2.1.A p.2.2.1.2.2.2.1.l.length p.2.2.1.2.2.2.1.c] ++ [])))) ++ ([.string p.2.2.2.1] ++ ([.slice p.2.2.2.2.1.A p.2.2.2.2.1.l.length p.2.2.2.2.1.c] ++ []))))
def toRec (p : RecT) : RecM := recOfW p.1 p.2.1.1 p.2.1.2.1.A p.2.1.2.1.c p.2.1.2.1.l p.2.2.1.1 p.2.2.1.2.1 p.2.2.1.2.2.1.A p.2.2.1.2.2.1.c p.2.2.1.2.2.1.l p.2.2.1.2.2.2.1.A p.2.2.1.2.2.2.1.c p.2.2.1.2.2.2.1.l p.2.2.2.1 p.2.2.2.2.1.A p.2.2.2.2.1.c p.2.2.2.2.1.l
theorem rec_flat (l : List RecT) : (l.map toRec).flatMap recC = l.flatMap recWc := by
  rw [List.flatMap_map]
  refine congrArg (fun f => List.flatMap f l) (funext fun p => ?_)
  have h := law_recA (k := p.1) (tn := p.2.1.1) (Ac := p.2.1.2.1.A) (cc := p.2.1.2.1.c) (cs := p.2.1.2.1.l) (rn := p.2.2.1.1) (rt := p.2.2.1.2.1) (Ad := p.2.2.1.2.2.1.A) (cd := p.2.2.1.2.2.1.c) (ds := p.2.2.1.2.2.1.l) (Am := p.2.2.1.2.2.2.1.A) (cm := p.2.2.1.2.2.2.1.c) (ms := p.2.2.1.2.2.2.1.l) (nm := p.2.2.2.1) (Ar := p.2.2.2.2.1.A) (cr := p.2.2.2.2.1.c) (rs := p.2.2.2.2.1.l)
  exact congrArg Array.toList (Value.agg.inj h)
abbrev GoodRW (w : World) (p : RecT) : Prop := ((-9223372036854775808 ≤ p.1 ∧ p.1 < 9223372036854775808) ∧ (p.2.1.1.size ≤ 1048576 ∧ (Reads w p.2.1.2.1.A (p.2.1.2.1.l.flatMap colW) ∧ p.2.1.2.1.l.length ≤ p.2.1.2.1.c ∧ p.2.1.2.1.l.length ≤ 1048576 ∧ ∀ a ∈ p.2.1.2.1.l, a.1.size ≤ 1048576 ∧ (-9223372036854775808 ≤ a.2.1 ∧ a.2.1 < 9223372036854775808) ∧ True) ∧ True) ∧ (p.2.2.1.1.size ≤ 1048576 ∧ p.2.2.1.2.1.size ≤ 1048576 ∧ (Reads w p.2.2.1.2.2.1.A (scells p.2.2.1.2.2.1.l) ∧ p.2.2.1.2.2.1.l.length ≤ p.2.2.1.2.2.1.c ∧ p.2.2.1.2.2.1.l.length ≤ 1048576 ∧ ∀ a ∈ p.2.2.1.2.2.1.l, a.size ≤ 1048576) ∧ (Reads w p.2.2.1.2.2.2.1.A (p.2.2.1.2.2.2.1.l.flatMap meaW) ∧ p.2.2.1.2.2.2.1.l.length ≤ p.2.2.1.2.2.2.1.c ∧ p.2.2.1.2.2.2.1.l.length ≤ 1048576 ∧ ∀ a ∈ p.2.2.1.2.2.2.1.l, (-9223372036854775808 ≤ a.1 ∧ a.1 < 9223372036854775808) ∧ a.2.1.size ≤ 1048576 ∧ True) ∧ True) ∧ p.2.2.2.1.size ≤ 1048576 ∧ (Reads w p.2.2.2.2.1.A (p.2.2.2.2.1.l.flatMap slW) ∧ p.2.2.2.2.1.l.length ≤ p.2.2.2.2.1.c ∧ p.2.2.2.2.1.l.length ≤ 1048576 ∧ ∀ s ∈ p.2.2.2.2.1.l, Reads w s.A (s.l.flatMap valW) ∧ s.l.length ≤ s.c ∧ s.l.length ≤ 1048576 ∧ ∀ a ∈ s.l, (-9223372036854775808 ≤ a.1 ∧ a.1 < 9223372036854775808) ∧ (-9223372036854775808 ≤ a.2.1 ∧ a.2.1 < 9223372036854775808) ∧ a.2.2.1.size ≤ 1048576 ∧ True) ∧ True)
theorem toRec_K {w : World} {p : RecT} (h : GoodRW w p) : RecK (toRec p) ∧ RecR w (toRec p) := by
  obtain ⟨h0, ⟨h1, ⟨h2, h3, h4, h5⟩, _⟩, ⟨h6, h7, ⟨h8, h9, h10, h11⟩, ⟨h12, h13, h14, h15⟩, _⟩, h16, ⟨h17, h18, h19, h20⟩, _⟩ := h
  exact bulkK h0 h1 h2 h3 h4 h5 h6 h7 h8 h9 h10 h11 h12 h13 h14 h15 h16 h17 h18 h19 h20

theorem law_RecordNext (A : Option Addr) (c : Nat) (l : List RecT) (k : Int) (tn : ByteArray) (Ac : Option Addr) (cc : Nat) (cs : List (ByteArray × Int × Unit)) (rn rt : ByteArray) (Ad : Option Addr) (cd : Nat) (ds : List ByteArray) (Am : Option Addr) (cm : Nat) (ms : List (Int × ByteArray × Unit)) (nm : ByteArray) (Ar : Option Addr) (cr : Nat) (rs : List RowW) (M : Option Addr) (c3 : Nat) (mo : List UInt8) (w : World)
  (f1 : Reads w A (l.flatMap recWc)) (f2 : l.length ≤ c) (f3 : l.length ≤ 1048576) (f4 : ∀ a ∈ l, GoodRW w a)
  (g0 : -9223372036854775808 ≤ k ∧ k < 9223372036854775808) (g1 : tn.size ≤ 1048576) (g2 : Reads w Ac (cs.flatMap colW)) (g3 : cs.length ≤ cc) (g4 : cs.length ≤ 1048576) (g5 : ∀ a ∈ cs, a.1.size ≤ 1048576 ∧ (-9223372036854775808 ≤ a.2.1 ∧ a.2.1 < 9223372036854775808) ∧ True)
  (g6 : rn.size ≤ 1048576) (g7 : rt.size ≤ 1048576) (g8 : Reads w Ad (scells ds)) (g9 : ds.length ≤ cd) (g10 : ds.length ≤ 1048576) (g11 : ∀ a ∈ ds, a.size ≤ 1048576) (g12 : Reads w Am (ms.flatMap meaW)) (g13 : ms.length ≤ cm) (g14 : ms.length ≤ 1048576) (g15 : ∀ a ∈ ms, (-9223372036854775808 ≤ a.1 ∧ a.1 < 9223372036854775808) ∧ a.2.1.size ≤ 1048576 ∧ True)
  (g16 : nm.size ≤ 1048576) (g17 : Reads w Ar (rs.flatMap slW)) (g18 : rs.length ≤ cr) (g19 : rs.length ≤ 1048576) (g20 : ∀ s ∈ rs, Reads w s.A (s.l.flatMap valW) ∧ s.l.length ≤ s.c ∧ s.l.length ≤ 1048576 ∧ ∀ a ∈ s.l, (-9223372036854775808 ≤ a.1 ∧ a.1 < 9223372036854775808) ∧ (-9223372036854775808 ≤ a.2.1 ∧ a.2.1 < 9223372036854775808) ∧ a.2.2.1.size ≤ 1048576 ∧ True) (f5 : Reads w M (bcells mo)) (f6 : mo.length ≤ c3) (f7 : mo.length ≤ 1048576) :
    FnV Try.prog 7 [.slice A l.length c, Value.agg #[.int .i64 k, .string tn, .slice Ac cs.length cc, .string rn, .string rt, .slice Ad ds.length cd, .slice Am ms.length cm, .string nm, .slice Ar rs.length cr], .slice M mo.length c3] (.bool true) w := by
  have hb := bulkK g0 g1 g2 g3 g4 g5 g6 g7 g8 g9 g10 g11 g12 g13 g14 g15 g16 g17 g18 g19 g20
  have h := xNext A c (l.map toRec) (recOfW k tn Ac cc cs rn rt Ad cd ds Am cm ms nm Ar cr rs) M c3 mo (by rw [List.length_map]; exact f3) (fun m hm => by
    rcases List.mem_append.1 hm with hm | hm
    · obtain ⟨p, hp, rfl⟩ := List.mem_map.1 hm
      exact (toRec_K (f4 p hp)).1
    · rw [List.mem_singleton.1 hm]; exact hb.1) f6 f7 w (by rw [rec_flat]; exact f1) (fun m hm => by
    rcases List.mem_append.1 hm with hm | hm
    · obtain ⟨p, hp, rfl⟩ := List.mem_map.1 hm
      exact (toRec_K (f4 p hp)).2
    · rw [List.mem_singleton.1 hm]; exact hb.2) f5
  rw [law_recA, List.length_map] at h
  exact h


end Go.Proofs.Ytclnhfdgiaamhaa.K
