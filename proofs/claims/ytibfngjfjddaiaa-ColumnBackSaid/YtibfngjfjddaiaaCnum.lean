/- Walks of the program's functions, printed by a program of this session; Lean checks them. -/
import Derived.Test.YtibfngjfjddaiaaCruns
namespace Go.Proofs.Ytibfngjfjddaiaa.K
open Go Go.RowKit Go.Proofs
set_option linter.unusedVariables false
set_option linter.unusedSimpArgs false


/-! What yield does to a reader of numbers: J holds between two rounds, K when it has given up. -/
def yR {σ : Type} (step : σ → Nat → Option σ) (J : Nat → σ → List Chunk → Prop) (K : List Chunk → Prop) (m : Nat) (s : σ) (u : Nat) : Ending → List Chunk → Prop := fun e H' => match step s u with
  | some s' => e = .returned (.bool true) ∧ ∀ m', m' < m → J m' s' H'
  | none => e = .panicked wrongCh ∧ K H'
def itR {σ : Type} (step : σ → Nat → Option σ) (J : Nat → σ → List Chunk → Prop) (K : List Chunk → Prop) (bx : Nat) (b : List UInt8) (s : σ) : Ending → List Chunk → Prop := fun e H' => match itF step b.length s b with
  | some s' => e = .returned (.tuple #[]) ∧ ∃ A n c H2, H' = cells bx [.slice A n c] 59 :: H2 ∧ ∃ m, J m s' H2
  | none => e = .panicked wrongCh ∧ ∃ A n c H2, H' = cells bx [.slice A n c] 59 :: H2 ∧ K H2

def KD (D : Nat) (H : List Chunk) : Prop := ∃ H3, Take (dfb D) H H3
def JR (r2 r3 r4 l D : Nat) (r : Loop) (s : RS) (H : List Chunk) : Prop := ∃ A c, s.acc.length ≤ 100000 ∧ s.last < 18446744073709551616 ∧
  H = [lp l r, dfb D, cells r4 [.bool s.half] 4, cells r3 [.int .u64 s.last] 96, UW A s.acc.length c s.acc, cells r2 [.slice A s.acc.length c] 95]

set_option maxRecDepth 20000 in
theorem cNumbers (A : Option Addr) (n c : Nat) (w : World) : Fn Try.prog 99 [.slice A n c] [] (ret fun v H' => ∃ bx, v = .func (.func 106) #[] #[.pointer (some ⟨bx, 0, none⟩)] ∧ H' = [cells bx [.slice A n c] 59]) w := by
  refine fn_enter Try.func99 rfl Try.ntmps99 rfl ?_
  refine vc_seq ?_
  refine vc_region ?_
  refine vl_box rfl rfl (.some rfl) rfl (fun r1 => ?_)
  refine vl_val rfl (.some rfl) (val_assign rfl) ?_
  refine vl_nil ?_
  refine vc_seq ?_
  refine vc_region ?_
  refine vl_val rfl (.some rfl) (val_mkFunc rfl rfl) ?_
  refine vl_val rfl (.some rfl) (val_assign rfl) ?_
  refine vl_nil ?_
  refine vc_ret ?_
  refine ⟨_, [cells r1 [.slice A n c] 59], _, res1 Try.results99 rfl, (by repeat (first | exact .nil | (apply Sub.cons; · repeat (first | exact .head | apply Take.tail)))), ?_⟩
  exact ⟨r1, rfl, rfl⟩
set_option maxRecDepth 20000 in
theorem cNumIt {σ : Type} (step : σ → Nat → Option σ) (J : Nat → σ → List Chunk → Prop) (K : List Chunk → Prop) (hJK : ∀ m s H, J m s H → K H) (l : Nat) (hy : ∀ (m : Nat) (s : σ) (u : Nat) (H : List Chunk) (w : World), 0 < m → J m s H → u < 18446744073709551616 → YFn Try.prog l [.int .u64 u] H (yR step J K m s u) w) (bx : Nat) (A : Option Addr) (c : Nat) (b : List UInt8) (s : σ) (H : List Chunk) (hJ : J b.length s H) (hb : b.length ≤ 1000000000000) (hbc : b.length ≤ c) (w : World) (hr : ReadsM w (fps (cells bx [.slice A b.length c] 59 :: H)) A (bcells b)) : Fn Try.prog 106 [.func (.yield l) #[] #[], .pointer (some ⟨bx, 0, none⟩)] (cells bx [.slice A b.length c] 59 :: H) (itR step J K bx b s) w := by
  refine fn_enter Try.func106 rfl Try.ntmps106 rfl ?_
  refine vc_block ?_
  refine vc_loopw (fun k E H' => ∃ (s2 : σ) (A2 : Option Addr) (c2 n2 : Nat) (b2 : List UInt8) (H2 : List Chunk) (q : Nat), k = b2.length ∧ b2.length ≤ q ∧ itF step q s2 b2 = itF step b.length s b ∧ J b2.length s2 H2 ∧ n2 = b2.length ∧ b2.length ≤ c2 ∧ b2.length ≤ 1000000000000 ∧ ReadsM w (fps (cells bx [.slice A b.length c] 59 :: H)) A2 (bcells b2) ∧ E = [(0, .func (.yield l) #[] #[]), (1, .pointer (some ⟨bx, 0, none⟩))] ∧ H' = cells bx [.slice A2 n2 c2] 59 :: H2) (b.length) ⟨_, _, _, ⟨s, A, c, b.length, b, H, b.length, rfl, Nat.le_refl _, rfl, hJ, rfl, hbc, hb, hr, rfl, rfl⟩, (by repeat (first | exact trivial | refine ⟨rfl, ?_⟩ | refine ⟨le_item rfl (by first | rfl | (congr 1; omega) | (simp; done) | (simp; omega)), ?_⟩)), (by repeat (first | exact .nil | exact sub_self _ | exact sub_skip (sub_self _) | exact sub_skip (sub_skip (sub_self _)) | exact sub_skip (sub_skip (sub_skip (sub_self _))) | (apply Sub.cons; · repeat (first | exact .head | apply Take.tail))))⟩ ?_
  intro k E H' hI
  obtain ⟨s2, A2, c2, n2, b2, H2, q, rfl, hq, hit, hJ2, rfl, hbc2, hb2, hrm, rfl, rfl⟩ := hI
  have hbd := getN_bd b2
  refine vc_seq ?_
  refine vc_seq ?_
  refine vc_region ?_
  refine vl_val rfl (.some rfl) (val_load Try.isAgg59 rfl (by first | exact cell_cells (by repeat (first | exact .head | apply In.tail | apply Take.tail | apply Upd.tail)) rfl | exact cell_rd (rd_sl (by repeat (first | exact .head | apply In.tail | apply Take.tail | apply Upd.tail))) (by first | exact bcells_at (by omega) | exact ucells_at (by omega) | exact icells_at (by omega) | exact tcells_at (by omega) | exact bcells_get (by omega) | exact icells_get (by omega) | exact tcells_get (by omega) | exact ucells_get (by omega)) | exact cell_rd (rd_old (by assumption) rfl) (by first | exact bcells_at (by omega) | exact ucells_at (by omega) | exact icells_at (by omega) | exact tcells_at (by omega) | exact bcells_get (by omega) | exact icells_get (by omega) | exact tcells_get (by omega) | exact ucells_get (by omega)) | exact cell_old (by assumption) (by simp [fps]))) ?_
  refine vl_val rfl (.some rfl) (val_lenSl Try.runUnderlying59 rfl) ?_
  refine vl_val rfl (.some rfl) (val_gt rfl rfl) ?_
  refine vl_nil ?_
  refine vc_cond rfl (fun hc0 => ?_) (fun hc0 => ?_)
  · (try replace hc0 := of_decide_eq_true hc0)
    refine vc_skip ?_
    refine vc_block ?_
    refine vc_seq ?_
    refine vc_region ?_
    refine vl_val rfl (.some rfl) (val_load Try.isAgg59 rfl (by first | exact cell_cells (by repeat (first | exact .head | apply In.tail | apply Take.tail | apply Upd.tail)) rfl | exact cell_rd (rd_sl (by repeat (first | exact .head | apply In.tail | apply Take.tail | apply Upd.tail))) (by first | exact bcells_at (by omega) | exact ucells_at (by omega) | exact icells_at (by omega) | exact tcells_at (by omega) | exact bcells_get (by omega) | exact icells_get (by omega) | exact tcells_get (by omega) | exact ucells_get (by omega)) | exact cell_rd (rd_old (by assumption) rfl) (by first | exact bcells_at (by omega) | exact ucells_at (by omega) | exact icells_at (by omega) | exact tcells_at (by omega) | exact bcells_get (by omega) | exact icells_get (by omega) | exact tcells_get (by omega) | exact ucells_get (by omega)) | exact cell_old (by assumption) (by simp [fps]))) ?_
    refine vl_callV rfl rfl (.some rfl) Try.call67 rfl (fun w' hw => cGet _ _ b2 hb2 w' (rdw (rd_oldM hrm) hw)) ?_
    refine vl_val rfl (.some rfl) (val_move rfl) ?_
    refine vl_val rfl (.some rfl) (val_extract rfl rfl) ?_
    refine vl_val rfl (.some rfl) (val_extract rfl rfl) ?_
    refine vl_val rfl (.some rfl) (val_assign rfl) ?_
    refine vl_val rfl (.some rfl) (val_assign rfl) ?_
    refine vl_nil ?_
    refine vc_seq ?_
    refine vc_seq ?_
    refine vc_region ?_
    refine vl_val rfl (.some rfl) (val_move rfl) ?_
    refine vl_val rfl (.some rfl) (val_eq rfl rfl) ?_
    refine vl_nil ?_
    refine vc_cond rfl (fun hc1 => ?_) (fun hc1 => ?_)
    · (try replace hc1 := of_decide_eq_true hc1)
      refine vc_region ?_
      refine vl_val rfl (.some rfl) (val_buildSt (pl := #[]) (cs := #[]) Try.runUnderlying127 Try.zeroValue127 (fun w => by kernel_rfl) rfl rfl) ?_
      refine vl_val rfl (.some rfl) (val_mkIface Try.runUnderlying127 rfl rfl) ?_
      refine vl_panic (fE := fun _ => []) rfl rfl rfl ?_
      refine ⟨_, [], sub_self _, ?_⟩
      have hnone : itF step b.length s b = none := by rw [← hit]; exact itF_bad (by omega) (by omega)
      unfold itR
      rw [hnone]
      exact ⟨rfl, _, _, _, _, rfl, hJK _ _ _ hJ2⟩
    · (try replace hc1 := of_decide_eq_false hc1)
      refine vc_skip ?_
      refine vc_seq ?_
      refine vc_seq ?_
      refine vc_regionI ?_
      refine vli_op (fun _ _ h => h) rfl ?_
      refine vl_val rfl (.some rfl) (val_move rfl) ?_
      refine vl_nil ?_
      refine vli_op (fun _ _ h => h) rfl ?_
      refine vl_val rfl (.some rfl) (val_move rfl) ?_
      refine vl_nil ?_
      refine vli_yieldF rfl rfl (.some rfl) rfl rfl (sub_skip (sub_self _)) (fun w' => hy b2.length s2 (getN b2).1 H2 w' (by omega) hJ2 hbd.1) (fun v H3 h => ?_) (fun ch H3 h a w' ha hw => ⟨_, _, ha, hw, by
          unfold yR at h
          cases hs : step s2 (getN b2).1 with
          | some s3 => rw [hs] at h; cases h.1
          | none =>
            rw [hs] at h
            obtain ⟨h1, h2⟩ := h
            cases h1
            have hnone : itF step b.length s b = none := by rw [← hit]; exact itF_stop (by omega) hs
            refine ⟨_, [], sub_self _, ?_⟩
            unfold itR
            rw [hnone]
            exact ⟨rfl, _, _, _, _, rfl, h2⟩⟩) (fun H3 h => by
          unfold yR at h
          split at h <;> cases h.1)
      obtain ⟨s3, hs, hv, hJ3⟩ : ∃ s3, step s2 (getN b2).1 = some s3 ∧ v = .bool true ∧ ∀ m', m' < b2.length → J m' s3 H3 := by
        unfold yR at h
        cases hs : step s2 (getN b2).1 with
        | none => rw [hs] at h; cases h.1
        | some s3 => rw [hs] at h; cases h.1; exact ⟨s3, rfl, rfl, h.2⟩
      subst hv
      show VLI _ _ _ _ _ (_ :: H3)
      refine vli_op (fun _ _ h => h) rfl ?_
      refine vl_val rfl (.some rfl) (val_not rfl) ?_
      refine vl_nil ?_
      refine vli_nil ?_
      refine vc_cond rfl (fun h => by cases h) (fun _ => ?_)
      refine vc_skip ?_
      refine vc_region ?_
      refine vl_val rfl (.some rfl) (val_load Try.isAgg59 rfl (by first | exact cell_cells (by repeat (first | exact .head | apply In.tail | apply Take.tail | apply Upd.tail)) rfl | exact cell_rd (rd_sl (by repeat (first | exact .head | apply In.tail | apply Take.tail | apply Upd.tail))) (by first | exact bcells_at (by omega) | exact ucells_at (by omega) | exact icells_at (by omega) | exact tcells_at (by omega) | exact bcells_get (by omega) | exact icells_get (by omega) | exact tcells_get (by omega) | exact ucells_get (by omega)) | exact cell_rd (rd_old (by assumption) rfl) (by first | exact bcells_at (by omega) | exact ucells_at (by omega) | exact icells_at (by omega) | exact tcells_at (by omega) | exact bcells_get (by omega) | exact icells_get (by omega) | exact tcells_get (by omega) | exact ucells_get (by omega)) | exact cell_old (by assumption) (by simp [fps]))) ?_
      refine vl_val rfl (.some rfl) (val_move rfl) ?_
      refine vl_val rfl (.some rfl) (val_cutFrom Try.runUnderlying59 Try.sizeOf5 rfl rfl (by omega) (by omega)) ?_
      first | refine vl_store rfl rfl .none rfl rfl Try.sizeOf59 rfl (by repeat (first | exact .head | apply In.tail | apply Take.tail | apply Upd.tail)) (by first | decide | exact Nat.le_refl _ | exact Nat.le_of_ble_eq_true rfl | (simp; omega)) ?_ | refine vl_storeSl rfl rfl .none rfl rfl Try.sizeOf59 rfl (by simp [Value.cells]) (by repeat (first | exact .head | apply In.tail | apply Take.tail | apply Upd.tail)) (by first | decide | (simp [Value.cells]; omega)) ?_
      refine vl_nil ?_
      rw [Int.toNat_natCast]
      exact ⟨(b2.drop (getN b2).2).length, _, _, _, (by simp only [List.length_drop]; omega), (by repeat (first | exact trivial | refine ⟨rfl, ?_⟩ | refine ⟨le_item rfl (by first | rfl | (congr 1; omega) | (simp; done) | (simp; omega)), ?_⟩)), (by repeat (first | exact .nil | exact sub_self _ | exact sub_skip (sub_self _) | exact sub_skip (sub_skip (sub_self _)) | exact sub_skip (sub_skip (sub_skip (sub_self _))) | (apply Sub.cons; · repeat (first | exact .head | apply Take.tail)))), ⟨s3, _, _, b2.length - (getN b2).2, b2.drop (getN b2).2, H3, q - 1, rfl, by simp only [List.length_drop]; omega, by rw [← hit, show q = q - 1 + 1 by omega]; exact (itF_go (by omega) (by omega) hs).symm, hJ3 _ (by simp only [List.length_drop]; omega), by simp only [List.length_drop], by simp only [List.length_drop]; omega, by simp only [List.length_drop]; omega, by rw [← bdrop]; exact hrm.cut (c := c2) (by rw [bcells_length]; omega), rfl, rfl⟩⟩
  · (try replace hc0 := of_decide_eq_false hc0)
    refine vc_exit ?_
    refine ⟨_, _, [], res0 Try.results106, sub_self _, ?_⟩
    have hsome : itF step b.length s b = some s2 := by rw [← hit]; exact itF_nil (by omega)
    unfold itR
    rw [hsome]
    exact ⟨rfl, _, _, _, _, rfl, _, hJ2⟩
set_option maxRecDepth 20000 in
theorem cUnr1 (x0 : Nat) (A : Option Addr) (c : Nat) (b : List UInt8) (hb : b.length ≤ 1000000000000) (hbc : b.length ≤ c) (w : World) (h0 : w.cell? ⟨x0, 0, none⟩ = some (.slice A b.length c)) (hr : Reads w A (bcells b)) : Fn Try.prog 98 [.pointer (some ⟨x0, 0, none⟩)] [] (toldCaughtU (unrunsO b)) w := by
  refine fn_enterM Try.func98 rfl Try.ntmps98 rfl ?_
  refine vf_seq ?_
  refine vc_region ?_
  refine vl_val rfl (.some rfl) (val_assign rfl) ?_
  refine vl_nil ?_
  refine (show VF _ _ _ _ _ _ from ?_)
  refine vf_seq ?_
  refine vc_region ?_
  refine vl_alloc rfl rfl (.some rfl) Try.zeroValue95 (fun r2 => ?_)
  refine vl_nilSl 96 1 ?_
  refine vl_nil ?_
  refine (show VF _ _ _ _ _ _ from ?_)
  refine vf_seq ?_
  refine vc_region ?_
  refine vl_alloc rfl rfl (.some rfl) Try.zeroValue96 (fun r3 => ?_)
  refine vl_alloc rfl rfl (.some rfl) Try.zeroValue4 (fun r4 => ?_)
  first | refine vl_store rfl rfl .none rfl rfl Try.sizeOf96 rfl (by repeat (first | exact .head | apply In.tail | apply Take.tail | apply Upd.tail)) (by first | decide | exact Nat.le_refl _ | exact Nat.le_of_ble_eq_true rfl | (simp; omega)) ?_ | refine vl_storeSl rfl rfl .none rfl rfl Try.sizeOf96 rfl (by simp [Value.cells]) (by repeat (first | exact .head | apply In.tail | apply Take.tail | apply Upd.tail)) (by first | decide | (simp [Value.cells]; omega)) ?_
  first | refine vl_store rfl rfl .none rfl rfl Try.sizeOf4 rfl (by repeat (first | exact .head | apply In.tail | apply Take.tail | apply Upd.tail)) (by first | decide | exact Nat.le_refl _ | exact Nat.le_of_ble_eq_true rfl | (simp; omega)) ?_ | refine vl_storeSl rfl rfl .none rfl rfl Try.sizeOf4 rfl (by simp [Value.cells]) (by repeat (first | exact .head | apply In.tail | apply Take.tail | apply Upd.tail)) (by first | decide | (simp [Value.cells]; omega)) ?_
  refine vl_nil ?_
  refine (show VF _ _ _ _ _ _ from ?_)
  refine vf_seqG ?_
  refine vf_seq ?_
  refine vc_region ?_
  refine vl_val rfl (.some rfl) (val_load Try.isAgg59 rfl (by first | exact cell_cells (by repeat (first | exact .head | apply In.tail | apply Take.tail | apply Upd.tail)) rfl | exact cell_rd (rd_sl (by repeat (first | exact .head | apply In.tail | apply Take.tail | apply Upd.tail))) (by first | exact bcells_at (by omega) | exact ucells_at (by omega) | exact icells_at (by omega) | exact tcells_at (by omega) | exact bcells_get (by omega) | exact icells_get (by omega) | exact tcells_get (by omega) | exact ucells_get (by omega)) | exact cell_rd (rd_old (by assumption) rfl) (by first | exact bcells_at (by omega) | exact ucells_at (by omega) | exact icells_at (by omega) | exact tcells_at (by omega) | exact bcells_get (by omega) | exact icells_get (by omega) | exact tcells_get (by omega) | exact ucells_get (by omega)) | exact cell_old (by assumption) (by simp [fps]))) ?_
  refine vl_call (C := []) rfl rfl (.some rfl) Try.call99 rfl .nil (fun w' hw => cNumbers A b.length c w') (fun v H' h => ?_)
  obtain ⟨bx, rfl, rfl⟩ := h
  show VL _ _ _ _ _ (_ :: _)
  refine vl_nil ?_
  refine (show VF _ _ _ _ _ _ from ?_)
  refine vf_blockP ?_
  refine vf_rangeFunc (gf := 106) (lb := [.pointer (some ⟨bx, 0, none⟩)]) (R := fun l D r e H' => r.state = .ready ∧ r.pending = none ∧ itR stepR (fun _ => JR r2 r3 r4 l D r) (KD D) bx b ⟨[], 0, false⟩ e H') rfl Try.call106 (fun l D r H' h => by
      have h := h.2.2
      unfold itR at h
      split at h <;> cases h.1) (fun l D tmps w' hT hH => ?_) (fun l D r v H' h => ?_) (fun l D r ch H' h => ?_)
  · refine Fn.mono (Fn.perm (C := cells bx [.slice A b.length c] 59 :: lp l _ :: dfb D :: _) (.trans (.swap _ _ _) (.cons _ (.swap _ _ _))) (cNumIt stepR (fun _ => JR r2 r3 r4 l D _) (KD D) (fun m s H h => by
        obtain ⟨A2, c2, _, _, rfl⟩ := h
        exact ⟨_, .tail .head⟩) l (fun m s u H w2 hm hJ hu => ?_) bx A c b ⟨[], 0, false⟩ _ ⟨none, 0, by simp, by simp, rfl⟩ hb hbc w' (reads_callee hr rfl (by repeat (first | exact .nil | (apply Sub.cons; · repeat (first | exact .head | apply Take.tail)))) hH))) (fun e H' h => ⟨rfl, rfl, h⟩)
    obtain ⟨acc, last, half⟩ := s
    obtain ⟨A2, c2, hlen, hlast, rfl⟩ := hJ
    have hlen : acc.length ≤ 100000 := hlen
    have hlast : last < 18446744073709551616 := hlast
    show YFn _ _ _ [lp l _, dfb D, cells r4 [.bool half] 4, cells r3 [.int .u64 last] 96, UW A2 acc.length c2 acc, cells r2 [.slice A2 acc.length c2] 95] _ _
    refine yfn_of Try.func98 rfl rfl (fun _ => .head) (ok_round hT rfl rfl) ?_
    refine vr_region (fun _ _ h => h) rfl ?_
    refine vl_val rfl (.some rfl) (val_assign rfl) ?_
    refine vl_nil ⟨rfl, fun rb hrb => ?_⟩
    refine vr_block ?_
    refine vr_seq ?_
    refine vr_seq ?_
    refine vr_region (fun _ _ h => h) rfl ?_
    refine vl_val rfl (.some rfl) (val_load Try.isAgg4 rfl (by first | exact cell_cells (by repeat (first | exact .head | apply In.tail | apply Take.tail | apply Upd.tail)) rfl | exact cell_rd (rd_sl (by repeat (first | exact .head | apply In.tail | apply Take.tail | apply Upd.tail))) (by first | exact bcells_at (by omega) | exact ucells_at (by omega) | exact icells_at (by omega) | exact tcells_at (by omega) | exact bcells_get (by omega) | exact icells_get (by omega) | exact tcells_get (by omega) | exact ucells_get (by omega)) | exact cell_rd (rd_old (by assumption) rfl) (by first | exact bcells_at (by omega) | exact ucells_at (by omega) | exact icells_at (by omega) | exact tcells_at (by omega) | exact bcells_get (by omega) | exact icells_get (by omega) | exact tcells_get (by omega) | exact ucells_get (by omega)) | exact cell_old (by assumption) (by simp [fps]))) ?_
    refine vl_val rfl (.some rfl) (val_not rfl) ?_
    first | refine vl_store rfl rfl .none rfl rfl Try.sizeOf4 rfl (by repeat (first | exact .head | apply In.tail | apply Take.tail | apply Upd.tail)) (by first | decide | exact Nat.le_refl _ | exact Nat.le_of_ble_eq_true rfl | (simp; omega)) ?_ | refine vl_storeSl rfl rfl .none rfl rfl Try.sizeOf4 rfl (by simp [Value.cells]) (by repeat (first | exact .head | apply In.tail | apply Take.tail | apply Upd.tail)) (by first | decide | (simp [Value.cells]; omega)) ?_
    refine vl_nil ?_
    refine vr_seq ?_
    refine vr_region (fun _ _ h => h) rfl ?_
    refine vl_val rfl (.some rfl) (val_load Try.isAgg4 rfl (by first | exact cell_cells (by repeat (first | exact .head | apply In.tail | apply Take.tail | apply Upd.tail)) rfl | exact cell_rd (rd_sl (by repeat (first | exact .head | apply In.tail | apply Take.tail | apply Upd.tail))) (by first | exact bcells_at (by omega) | exact ucells_at (by omega) | exact icells_at (by omega) | exact tcells_at (by omega) | exact bcells_get (by omega) | exact icells_get (by omega) | exact tcells_get (by omega) | exact ucells_get (by omega)) | exact cell_rd (rd_old (by assumption) rfl) (by first | exact bcells_at (by omega) | exact ucells_at (by omega) | exact icells_at (by omega) | exact tcells_at (by omega) | exact bcells_get (by omega) | exact icells_get (by omega) | exact tcells_get (by omega) | exact ucells_get (by omega)) | exact cell_old (by assumption) (by simp [fps]))) ?_
    refine vl_nil ?_
    refine vr_cond rfl (fun hc0 => ?_) (fun hc0 => ?_)
    · (try replace hc0 := of_decide_eq_true hc0)
      obtain rfl : half = false := by simpa using hc0
      refine vr_seq ?_
      refine vr_seq ?_
      refine vr_region (fun _ _ h => h) rfl ?_
      refine vl_val rfl (.some rfl) (val_load Try.isAgg95 rfl (by first | exact cell_cells (by repeat (first | exact .head | apply In.tail | apply Take.tail | apply Upd.tail)) rfl | exact cell_rd (rd_sl (by repeat (first | exact .head | apply In.tail | apply Take.tail | apply Upd.tail))) (by first | exact bcells_at (by omega) | exact ucells_at (by omega) | exact icells_at (by omega) | exact tcells_at (by omega) | exact bcells_get (by omega) | exact icells_get (by omega) | exact tcells_get (by omega) | exact ucells_get (by omega)) | exact cell_rd (rd_old (by assumption) rfl) (by first | exact bcells_at (by omega) | exact ucells_at (by omega) | exact icells_at (by omega) | exact tcells_at (by omega) | exact bcells_get (by omega) | exact icells_get (by omega) | exact tcells_get (by omega) | exact ucells_get (by omega)) | exact cell_old (by assumption) (by simp [fps]))) ?_
      refine vl_val rfl (.some rfl) (val_lenSl Try.runUnderlying95 rfl) ?_
      refine vl_val rfl (.some rfl) (val_gt rfl rfl) ?_
      refine vl_val rfl (.some rfl) (val_move rfl) ?_
      refine vl_split (t := 15) rfl (fun hg15 => ?_) (fun hg15 => ?_)
      · (try replace hg15 := of_decide_eq_true hg15)
        refine vl_on rfl rfl rfl rfl ?_
        refine vl_val rfl (.some rfl) (val_load Try.isAgg95 rfl (by first | exact cell_cells (by repeat (first | exact .head | apply In.tail | apply Take.tail | apply Upd.tail)) rfl | exact cell_rd (rd_sl (by repeat (first | exact .head | apply In.tail | apply Take.tail | apply Upd.tail))) (by first | exact bcells_at (by omega) | exact ucells_at (by omega) | exact icells_at (by omega) | exact tcells_at (by omega) | exact bcells_get (by omega) | exact icells_get (by omega) | exact tcells_get (by omega) | exact ucells_get (by omega)) | exact cell_rd (rd_old (by assumption) rfl) (by first | exact bcells_at (by omega) | exact ucells_at (by omega) | exact icells_at (by omega) | exact tcells_at (by omega) | exact bcells_get (by omega) | exact icells_get (by omega) | exact tcells_get (by omega) | exact ucells_get (by omega)) | exact cell_old (by assumption) (by simp [fps]))) ?_
        refine vl_on rfl rfl rfl rfl ?_
        refine vl_val rfl (.some rfl) (val_load Try.isAgg95 rfl (by first | exact cell_cells (by repeat (first | exact .head | apply In.tail | apply Take.tail | apply Upd.tail)) rfl | exact cell_rd (rd_sl (by repeat (first | exact .head | apply In.tail | apply Take.tail | apply Upd.tail))) (by first | exact bcells_at (by omega) | exact ucells_at (by omega) | exact icells_at (by omega) | exact tcells_at (by omega) | exact bcells_get (by omega) | exact icells_get (by omega) | exact tcells_get (by omega) | exact ucells_get (by omega)) | exact cell_rd (rd_old (by assumption) rfl) (by first | exact bcells_at (by omega) | exact ucells_at (by omega) | exact icells_at (by omega) | exact tcells_at (by omega) | exact bcells_get (by omega) | exact icells_get (by omega) | exact tcells_get (by omega) | exact ucells_get (by omega)) | exact cell_old (by assumption) (by simp [fps]))) ?_
        refine vl_on rfl rfl rfl rfl ?_
        refine vl_val rfl (.some rfl) (val_lenSl Try.runUnderlying95 rfl) ?_
        refine vl_on rfl rfl rfl rfl ?_
        refine vl_val rfl (.some rfl) (val_sub rfl rfl (by first | exact w_i64 (by omega) (by omega) | rfl)) ?_
        refine vl_on rfl rfl rfl rfl ?_
        refine vl_val rfl (.some rfl) (val_indexAddr Try.runUnderlying95 Try.sizeOf96 rfl rfl (by first | exact rd_sl (by repeat (first | exact .head | apply In.tail | apply Take.tail | apply Upd.tail)) | exact rd_slr (by repeat (first | exact .head | apply In.tail | apply Take.tail | apply Upd.tail)) | exact rd_old (by assumption) rfl) (by omega) (by omega) (by first | omega | (simp only [bcells_length, icells_length, ucells_length, tcells_length]; omega) | (simp only [bcells_length, icells_length, ucells_length, tcells_length, fillG_length]; omega) | (simp; omega))) ?_
        refine vl_on rfl rfl rfl rfl ?_
        refine vl_val rfl (.some rfl) (val_load Try.isAgg96 rfl (cell_rd (rd_sl (by repeat (first | exact .head | apply In.tail | apply Take.tail | apply Upd.tail))) (ucells_of (p := acc.length - 1) (by omega) (by omega)))) ?_
        refine vl_on rfl rfl rfl rfl ?_
        refine vl_val rfl (.some rfl) (val_move rfl) ?_
        refine vl_on rfl rfl rfl rfl ?_
        refine vl_val rfl (.some rfl) (val_eq rfl rfl) ?_
        refine vl_val rfl (.some rfl) (val_pick rfl rfl) ?_
        refine vl_nil ?_
        refine vr_cond rfl (fun hc1 => ?_) (fun hc1 => ?_)
        · (try replace hc1 := of_decide_eq_true hc1)
          refine vr_region (fun _ _ h => h) rfl ?_
          refine vl_val rfl (.some rfl) (val_buildSt (pl := #[]) (cs := #[]) Try.runUnderlying127 Try.zeroValue127 (fun w => by kernel_rfl) rfl rfl) ?_
          refine vl_val rfl (.some rfl) (val_mkIface Try.runUnderlying127 rfl rfl) ?_
          refine vl_panic (fE := fun _ => []) rfl rfl rfl ?_
          refine ⟨[dfb D], _, (by repeat (first | exact .nil | (apply Sub.cons; · repeat (first | exact .head | apply Take.tail)))), ?_⟩
          unfold yR
          rw [stepR_dup (acc := acc) (last := last) (u := u) (by omega)]
          exact ⟨rfl, _, .head⟩
        · (try replace hc1 := of_decide_eq_false hc1)
          refine vr_skip ?_
          refine vr_seq ?_
          refine vr_region (fun _ _ h => h) rfl ?_
          have hsth := stepR_half (acc := acc) (last := last) (u := u) (by omega)
          refine vl_val rfl (.some rfl) (val_move rfl) ?_
          first | refine vl_store rfl rfl .none rfl rfl Try.sizeOf96 rfl (by repeat (first | exact .head | apply In.tail | apply Take.tail | apply Upd.tail)) (by first | decide | exact Nat.le_refl _ | exact Nat.le_of_ble_eq_true rfl | (simp; omega)) ?_ | refine vl_storeSl rfl rfl .none rfl rfl Try.sizeOf96 rfl (by simp [Value.cells]) (by repeat (first | exact .head | apply In.tail | apply Take.tail | apply Upd.tail)) (by first | decide | (simp [Value.cells]; omega)) ?_
          refine vl_nil ?_
          refine vr_exit ?_
          first
            | (subst hrb
               refine ⟨_, [lp l _, dfb D, cells r4 [.bool true] 4, cells r3 [.int .u64 u] 96, UW A2 acc.length c2 acc, cells r2 [.slice A2 acc.length c2] 95], _, (by repeat (first | exact .head | apply In.tail | apply Take.tail | apply Upd.tail)), (by repeat (first | exact .nil | (apply Sub.cons; · repeat (first | exact .head | apply Take.tail)))), ?_⟩
               unfold yR
               rw [hsth]
               exact ⟨rfl, fun _ _ => ⟨A2, c2, hlen, hu, rfl⟩⟩)
            | (obtain rfl : u = j := by omega
               subst hl3
               subst hn3
               subst hrb
               refine ⟨_, [lp l _, dfb D, cells r4 [.bool false] 4, cells r3 [.int .u64 last] 96, UW A3 (acc ++ List.replicate u last).length c3 (acc ++ List.replicate u last), cells r2 [.slice A3 (acc ++ List.replicate u last).length c3] 95], _, (by repeat (first | exact .head | apply In.tail | apply Take.tail | apply Upd.tail)), (by repeat (first | exact .nil | (apply Sub.cons; · repeat (first | exact .head | apply Take.tail)))), ?_⟩
               unfold yR
               rw [hstf]
               exact ⟨rfl, fun _ _ => ⟨A3, c3, by simp only [List.length_append, List.length_replicate]; omega, hlast, rfl⟩⟩)
      · (try replace hg15 := of_decide_eq_false hg15)
        refine vl_off rfl rfl rfl rfl (.some rfl) ?_
        refine vl_off rfl rfl rfl rfl (.some rfl) ?_
        refine vl_off rfl rfl rfl rfl (.some rfl) ?_
        refine vl_off rfl rfl rfl rfl (.some rfl) ?_
        refine vl_off rfl rfl rfl rfl (.some rfl) ?_
        refine vl_off rfl rfl rfl rfl (.some rfl) ?_
        refine vl_off rfl rfl rfl rfl (.some rfl) ?_
        refine vl_off rfl rfl rfl rfl (.some rfl) ?_
        refine vl_val rfl (.some rfl) (val_pick rfl rfl) ?_
        refine vl_nil ?_
        refine vr_cond rfl (fun h => by cases h) (fun _ => ?_)
        refine vr_skip ?_
        refine vr_seq ?_
        refine vr_region (fun _ _ h => h) rfl ?_
        have hsth := stepR_half (acc := acc) (last := last) (u := u) (by omega)
        refine vl_val rfl (.some rfl) (val_move rfl) ?_
        first | refine vl_store rfl rfl .none rfl rfl Try.sizeOf96 rfl (by repeat (first | exact .head | apply In.tail | apply Take.tail | apply Upd.tail)) (by first | decide | exact Nat.le_refl _ | exact Nat.le_of_ble_eq_true rfl | (simp; omega)) ?_ | refine vl_storeSl rfl rfl .none rfl rfl Try.sizeOf96 rfl (by simp [Value.cells]) (by repeat (first | exact .head | apply In.tail | apply Take.tail | apply Upd.tail)) (by first | decide | (simp [Value.cells]; omega)) ?_
        refine vl_nil ?_
        refine vr_exit ?_
        first
          | (subst hrb
             refine ⟨_, [lp l _, dfb D, cells r4 [.bool true] 4, cells r3 [.int .u64 u] 96, UW A2 acc.length c2 acc, cells r2 [.slice A2 acc.length c2] 95], _, (by repeat (first | exact .head | apply In.tail | apply Take.tail | apply Upd.tail)), (by repeat (first | exact .nil | (apply Sub.cons; · repeat (first | exact .head | apply Take.tail)))), ?_⟩
             unfold yR
             rw [hsth]
             exact ⟨rfl, fun _ _ => ⟨A2, c2, hlen, hu, rfl⟩⟩)
          | (obtain rfl : u = j := by omega
             subst hl3
             subst hn3
             subst hrb
             refine ⟨_, [lp l _, dfb D, cells r4 [.bool false] 4, cells r3 [.int .u64 last] 96, UW A3 (acc ++ List.replicate u last).length c3 (acc ++ List.replicate u last), cells r2 [.slice A3 (acc ++ List.replicate u last).length c3] 95], _, (by repeat (first | exact .head | apply In.tail | apply Take.tail | apply Upd.tail)), (by repeat (first | exact .nil | (apply Sub.cons; · repeat (first | exact .head | apply Take.tail)))), ?_⟩
             unfold yR
             rw [hstf]
             exact ⟨rfl, fun _ _ => ⟨A3, c3, by simp only [List.length_append, List.length_replicate]; omega, hlast, rfl⟩⟩)
    · (try replace hc0 := of_decide_eq_false hc0)
      obtain rfl : half = true := by simpa using hc0
      refine vr_skip ?_
      refine vr_seq ?_
      refine vr_seq ?_
      refine vr_region (fun _ _ h => h) rfl ?_
      refine vl_val rfl (.some rfl) (val_move rfl) ?_
      refine vl_val rfl (.some rfl) (val_eq rfl rfl) ?_
      refine vl_val rfl (.some rfl) (val_move rfl) ?_
      refine vl_split (t := 30) rfl (fun hg30 => ?_) (fun hg30 => ?_)
      · (try replace hg30 := of_decide_eq_true hg30)
        refine vl_off rfl rfl rfl rfl (.some rfl) ?_
        refine vl_off rfl rfl rfl rfl (.some rfl) ?_
        refine vl_off rfl rfl rfl rfl (.some rfl) ?_
        refine vl_off rfl rfl rfl rfl (.some rfl) ?_
        refine vl_off rfl rfl rfl rfl (.some rfl) ?_
        refine vl_off rfl rfl rfl rfl (.some rfl) ?_
        refine vl_val rfl (.some rfl) (val_pick rfl rfl) ?_
        refine vl_nil ?_
        refine vr_cond rfl (fun _ => ?_) (fun h => by cases h)
        refine vr_region (fun _ _ h => h) rfl ?_
        refine vl_val rfl (.some rfl) (val_buildSt (pl := #[]) (cs := #[]) Try.runUnderlying127 Try.zeroValue127 (fun w => by kernel_rfl) rfl rfl) ?_
        refine vl_val rfl (.some rfl) (val_mkIface Try.runUnderlying127 rfl rfl) ?_
        refine vl_panic (fE := fun _ => []) rfl rfl rfl ?_
        refine ⟨[dfb D], _, (by repeat (first | exact .nil | (apply Sub.cons; · repeat (first | exact .head | apply Take.tail)))), ?_⟩
        unfold yR
        rw [stepR_bad (acc := acc) (last := last) (u := u) (by omega)]
        exact ⟨rfl, _, .head⟩
      · (try replace hg30 := of_decide_eq_false hg30)
        refine vl_on rfl rfl rfl rfl ?_
        refine vl_val rfl (.some rfl) (val_move rfl) ?_
        refine vl_on rfl rfl rfl rfl ?_
        refine vl_val rfl (.some rfl) (val_load Try.isAgg95 rfl (by first | exact cell_cells (by repeat (first | exact .head | apply In.tail | apply Take.tail | apply Upd.tail)) rfl | exact cell_rd (rd_sl (by repeat (first | exact .head | apply In.tail | apply Take.tail | apply Upd.tail))) (by first | exact bcells_at (by omega) | exact ucells_at (by omega) | exact icells_at (by omega) | exact tcells_at (by omega) | exact bcells_get (by omega) | exact icells_get (by omega) | exact tcells_get (by omega) | exact ucells_get (by omega)) | exact cell_rd (rd_old (by assumption) rfl) (by first | exact bcells_at (by omega) | exact ucells_at (by omega) | exact icells_at (by omega) | exact tcells_at (by omega) | exact bcells_get (by omega) | exact icells_get (by omega) | exact tcells_get (by omega) | exact ucells_get (by omega)) | exact cell_old (by assumption) (by simp [fps]))) ?_
        refine vl_on rfl rfl rfl rfl ?_
        refine vl_val rfl (.some rfl) (val_lenSl Try.runUnderlying95 rfl) ?_
        refine vl_on rfl rfl rfl rfl ?_
        refine vl_val rfl (.some rfl) (val_sub rfl rfl (by first | exact w_i64 (by omega) (by omega) | rfl)) ?_
        refine vl_on rfl rfl rfl rfl ?_
        refine vl_val rfl (.some rfl) (val_convInt Try.runUnderlying3 Try.runUnderlying96 rfl (by first | exact w_u64 (by omega) (by omega) | rfl)) ?_
        refine vl_on rfl rfl rfl rfl ?_
        refine vl_val rfl (.some rfl) (val_gt rfl rfl) ?_
        refine vl_val rfl (.some rfl) (val_pick rfl rfl) ?_
        refine vl_nil ?_
        refine vr_cond rfl (fun hc2 => ?_) (fun hc2 => ?_)
        · (try replace hc2 := of_decide_eq_true hc2)
          refine vr_region (fun _ _ h => h) rfl ?_
          refine vl_val rfl (.some rfl) (val_buildSt (pl := #[]) (cs := #[]) Try.runUnderlying127 Try.zeroValue127 (fun w => by kernel_rfl) rfl rfl) ?_
          refine vl_val rfl (.some rfl) (val_mkIface Try.runUnderlying127 rfl rfl) ?_
          refine vl_panic (fE := fun _ => []) rfl rfl rfl ?_
          refine ⟨[dfb D], _, (by repeat (first | exact .nil | (apply Sub.cons; · repeat (first | exact .head | apply Take.tail)))), ?_⟩
          unfold yR
          rw [stepR_bad (acc := acc) (last := last) (u := u) (by omega)]
          exact ⟨rfl, _, .head⟩
        · (try replace hc2 := of_decide_eq_false hc2)
          have hstf := stepR_fill (acc := acc) (last := last) (u := u) (by omega)
          refine vr_skip ?_
          refine vr_seq ?_
          refine vr_region (fun _ _ h => h) rfl ?_
          refine vl_val rfl (.some rfl) (val_move rfl) ?_
          refine vl_val rfl (.some rfl) (val_move rfl) ?_
          refine vl_nil ?_
          refine vr_block ?_
          refine vr_loopw (fun k E H => ∃ (j n3 : Nat) (l3 : List Nat) (A3 : Option Addr) (c3 : Nat), j ≤ u ∧ k = u - j ∧ n3 = l3.length ∧ l3 = acc ++ List.replicate j last ∧ E = [(2, .pointer (some ⟨r2, 0, none⟩)), (3, .pointer (some ⟨r3, 0, none⟩)), (40, .int .u64 u), (41, .int .u64 j)] ∧ H = [UW A3 n3 c3 l3, lp l rb, dfb D, cells r4 [.bool false] 4, cells r3 [.int .u64 last] 96, cells r2 [.slice A3 n3 c3] 95]) (u) ⟨_, _, _, ⟨0, acc.length, acc, A2, c2, by omega, rfl, rfl, by simp, rfl, rfl⟩, (by repeat (first | exact trivial | refine ⟨rfl, ?_⟩ | refine ⟨le_item rfl (by first | rfl | (congr 1; omega) | (simp; done) | (simp; omega)), ?_⟩)), (by repeat (first | exact .nil | (apply Sub.cons; · repeat (first | exact .head | apply Take.tail))))⟩ ?_
          intro k E H hI
          obtain ⟨j, n3, l3, A3, c3, hj, rfl, hn3, hl3, rfl, rfl⟩ := hI
          have hl3n : l3.length = acc.length + j := by rw [hl3]; simp
          refine vr_seq ?_
          refine vr_region (fun _ _ h => h) rfl ?_
          refine vl_val rfl (.some rfl) (val_lt rfl rfl) ?_
          refine vl_nil ?_
          refine vr_seq ?_
          refine vr_cond rfl (fun hc3 => ?_) (fun hc3 => ?_)
          · (try replace hc3 := of_decide_eq_true hc3)
            refine vr_skip ?_
            refine vr_seq ?_
            refine vr_block ?_
            refine vr_region (fun _ _ h => h) rfl ?_
            refine vl_val rfl (.some rfl) (val_load Try.isAgg95 rfl (by first | exact cell_cells (by repeat (first | exact .head | apply In.tail | apply Take.tail | apply Upd.tail)) rfl | exact cell_rd (rd_sl (by repeat (first | exact .head | apply In.tail | apply Take.tail | apply Upd.tail))) (by first | exact bcells_at (by omega) | exact ucells_at (by omega) | exact icells_at (by omega) | exact tcells_at (by omega) | exact bcells_get (by omega) | exact icells_get (by omega) | exact tcells_get (by omega) | exact ucells_get (by omega)) | exact cell_rd (rd_old (by assumption) rfl) (by first | exact bcells_at (by omega) | exact ucells_at (by omega) | exact icells_at (by omega) | exact tcells_at (by omega) | exact bcells_get (by omega) | exact icells_get (by omega) | exact tcells_get (by omega) | exact ucells_get (by omega)) | exact cell_old (by assumption) (by simp [fps]))) ?_
            refine vl_val rfl (.some rfl) (val_load Try.isAgg96 rfl (by first | exact cell_cells (by repeat (first | exact .head | apply In.tail | apply Take.tail | apply Upd.tail)) rfl | exact cell_rd (rd_sl (by repeat (first | exact .head | apply In.tail | apply Take.tail | apply Upd.tail))) (by first | exact bcells_at (by omega) | exact ucells_at (by omega) | exact icells_at (by omega) | exact tcells_at (by omega) | exact bcells_get (by omega) | exact icells_get (by omega) | exact tcells_get (by omega) | exact ucells_get (by omega)) | exact cell_rd (rd_old (by assumption) rfl) (by first | exact bcells_at (by omega) | exact ucells_at (by omega) | exact icells_at (by omega) | exact tcells_at (by omega) | exact bcells_get (by omega) | exact icells_get (by omega) | exact tcells_get (by omega) | exact ucells_get (by omega)) | exact cell_old (by assumption) (by simp [fps]))) ?_
            refine vl_lit sT95 rfl rfl (.some rfl) rfl rfl rfl (by decide) (by decide) rfl (flat_one rfl) (fun r45 => ?_)
            refine vl_append sT95 rfl rfl (.some rfl) rfl rfl (by first | exact rd_sl (by repeat (first | exact .head | apply In.tail | apply Take.tail | apply Upd.tail)) | exact rd_slr (by repeat (first | exact .head | apply In.tail | apply Take.tail | apply Upd.tail)) | exact rd_old (by assumption) rfl) (by first | rfl | (simp; done) | (simp; omega) | (simp only [bcells_length, icells_length, ucells_length, tcells_length]; omega)) (by first | rfl | exact one_b _ | exact one_u _ | exact one_i _ | exact one_t _) (by omega) (by omega) (by repeat (first | exact .head | apply In.tail | apply Take.tail | apply Upd.tail)) (fun A46 k46 => ?_)
            first | refine vl_store rfl rfl .none rfl rfl Try.sizeOf95 rfl (by repeat (first | exact .head | apply In.tail | apply Take.tail | apply Upd.tail)) (by first | decide | exact Nat.le_refl _ | exact Nat.le_of_ble_eq_true rfl | (simp; omega)) ?_ | refine vl_storeSl rfl rfl .none rfl rfl Try.sizeOf95 rfl (by simp [Value.cells]) (by repeat (first | exact .head | apply In.tail | apply Take.tail | apply Upd.tail)) (by first | decide | (simp [Value.cells]; omega)) ?_
            refine vl_nil ?_
            refine vr_region (fun _ _ h => h) rfl ?_
            refine vl_val rfl (.some rfl) (val_add rfl rfl (by first | exact w_u64 (by omega) (by omega) | rfl)) ?_
            refine vl_val rfl (.some rfl) (val_move rfl) ?_
            refine vl_nil ?_
            rw [upush]
            exact ⟨u - (j + 1), _, _, _, by omega, (by repeat (first | exact trivial | refine ⟨rfl, ?_⟩ | refine ⟨le_item rfl (by first | rfl | (congr 1; omega) | (simp; done) | (simp; omega)), ?_⟩)), (by repeat (first | exact .nil | (apply Sub.cons; · repeat (first | exact .head | apply Take.tail)))), ⟨j + 1, n3 + 1, _, _, _, by omega, rfl, by rw [List.length_append, hn3]; rfl, by rw [hl3, rep_push], rfl, rfl⟩⟩
          · (try replace hc3 := of_decide_eq_false hc3)
            refine vr_exit ?_
            first
              | (subst hrb
                 refine ⟨_, [lp l _, dfb D, cells r4 [.bool true] 4, cells r3 [.int .u64 u] 96, UW A2 acc.length c2 acc, cells r2 [.slice A2 acc.length c2] 95], _, (by repeat (first | exact .head | apply In.tail | apply Take.tail | apply Upd.tail)), (by repeat (first | exact .nil | (apply Sub.cons; · repeat (first | exact .head | apply Take.tail)))), ?_⟩
                 unfold yR
                 rw [hsth]
                 exact ⟨rfl, fun _ _ => ⟨A2, c2, hlen, hu, rfl⟩⟩)
              | (obtain rfl : u = j := by omega
                 subst hl3
                 subst hn3
                 subst hrb
                 refine ⟨_, [lp l _, dfb D, cells r4 [.bool false] 4, cells r3 [.int .u64 last] 96, UW A3 (acc ++ List.replicate u last).length c3 (acc ++ List.replicate u last), cells r2 [.slice A3 (acc ++ List.replicate u last).length c3] 95], _, (by repeat (first | exact .head | apply In.tail | apply Take.tail | apply Upd.tail)), (by repeat (first | exact .nil | (apply Sub.cons; · repeat (first | exact .head | apply Take.tail)))), ?_⟩
                 unfold yR
                 rw [hstf]
                 exact ⟨rfl, fun _ _ => ⟨A3, c3, by simp only [List.length_append, List.length_replicate]; omega, hlast, rfl⟩⟩)
  · obtain ⟨h1, h2, h⟩ := h
    unfold itR at h
    cases hs : itF stepR b.length ⟨[], 0, false⟩ b with
    | none => rw [hs] at h; cases h.1
    | some s3 =>
      rw [hs] at h
      obtain ⟨_, A3, n3, c3, H2, rfl, _, A2, c2, hlen, hlast, rfl⟩ := h
      refine ⟨r, _, by rw [h1]; simp, h2, .tail .head, ?_⟩
      intro a w2 ha hw
      refine ⟨fun _ h => (by cases h), ?_⟩
      refine (show VF (Cx.mark _ D) _ _ _ _ _ from ?_) a w2 ha hw
      refine vf_of ?_
      refine vc_seq ?_
      refine vc_seq ?_
      refine vc_region ?_
      refine vl_val rfl (.some rfl) (val_load Try.isAgg4 rfl (by first | exact cell_cells (by repeat (first | exact .head | apply In.tail | apply Take.tail | apply Upd.tail)) rfl | exact cell_rd (rd_sl (by repeat (first | exact .head | apply In.tail | apply Take.tail | apply Upd.tail))) (by first | exact bcells_at (by omega) | exact ucells_at (by omega) | exact icells_at (by omega) | exact tcells_at (by omega) | exact bcells_get (by omega) | exact icells_get (by omega) | exact tcells_get (by omega) | exact ucells_get (by omega)) | exact cell_rd (rd_old (by assumption) rfl) (by first | exact bcells_at (by omega) | exact ucells_at (by omega) | exact icells_at (by omega) | exact tcells_at (by omega) | exact bcells_get (by omega) | exact icells_get (by omega) | exact tcells_get (by omega) | exact ucells_get (by omega)) | exact cell_old (by assumption) (by simp [fps]))) ?_
      refine vl_nil ?_
      refine vc_cond rfl (fun hc4 => ?_) (fun hc4 => ?_)
      · (try replace hc4 := of_decide_eq_true hc4)
        refine vc_region ?_
        refine vl_val rfl (.some rfl) (val_buildSt (pl := #[]) (cs := #[]) Try.runUnderlying127 Try.zeroValue127 (fun w => by kernel_rfl) rfl rfl) ?_
        refine vl_val rfl (.some rfl) (val_mkIface Try.runUnderlying127 rfl rfl) ?_
        refine vl_panic (fE := fun _ => []) rfl rfl rfl ?_
        intro a w' ha hw
        refine leaves_markP ha hw rfl (by repeat (first | exact .head | apply In.tail | apply Take.tail | apply Upd.tail)) ⟨[], _, .nil, ?_⟩
        have hnone : unrunsO b = none := by unfold unrunsO; rw [hs]; exact if_pos hc4
        rw [hnone]; rfl
      · (try replace hc4 := of_decide_eq_false hc4)
        refine vc_skip ?_
        refine vc_seq ?_
        refine vc_region ?_
        refine vl_val rfl (.some rfl) (val_load Try.isAgg95 rfl (by first | exact cell_cells (by repeat (first | exact .head | apply In.tail | apply Take.tail | apply Upd.tail)) rfl | exact cell_rd (rd_sl (by repeat (first | exact .head | apply In.tail | apply Take.tail | apply Upd.tail))) (by first | exact bcells_at (by omega) | exact ucells_at (by omega) | exact icells_at (by omega) | exact tcells_at (by omega) | exact bcells_get (by omega) | exact icells_get (by omega) | exact tcells_get (by omega) | exact ucells_get (by omega)) | exact cell_rd (rd_old (by assumption) rfl) (by first | exact bcells_at (by omega) | exact ucells_at (by omega) | exact icells_at (by omega) | exact tcells_at (by omega) | exact bcells_get (by omega) | exact icells_get (by omega) | exact tcells_get (by omega) | exact ucells_get (by omega)) | exact cell_old (by assumption) (by simp [fps]))) ?_
        refine vl_val rfl (.some rfl) (val_assign rfl) ?_
        refine vl_nil ?_
        refine vc_ret ?_
        intro a w' ha hw
        refine leaves_mark ha hw rfl (by repeat (first | exact .head | apply In.tail | apply Take.tail | apply Upd.tail)) (fun w hw => (res1 Try.results98 rfl : Res _ _ _ _ _) a w ha hw) ⟨[UW A2 s3.acc.length c2 s3.acc], _, (by repeat (first | exact .nil | (apply Sub.cons; · repeat (first | exact .head | apply Take.tail)))), ?_⟩
        have hsome : unrunsO b = some s3.acc := by unfold unrunsO; rw [hs]; exact if_neg (by rw [hc4]; decide)
        rw [hsome]
        exact ⟨A2, c2, rfl, rfl⟩
  · obtain ⟨h1, h2, h⟩ := h
    unfold itR at h
    cases hs : itF stepR b.length ⟨[], 0, false⟩ b with
    | some s3 => rw [hs] at h; cases h.1
    | none =>
      rw [hs] at h
      obtain ⟨hch, A3, n3, c3, H2, rfl, H3, hk⟩ := h
      cases hch
      intro a w2 ha hw
      refine ⟨fun _ h => (by cases h), leaves_markP ha hw rfl (.tail hk) ⟨[], _, .nil, ?_⟩⟩
      have hnone : unrunsO b = none := by unfold unrunsO; rw [hs]
      rw [hnone]; rfl

end Go.Proofs.Ytibfngjfjddaiaa.K
