/- Walks of the program's functions, printed by a program of this session; Lean checks them. -/
import Derived.Test.YtclnhfdgiaamhaaYra
namespace Go.Proofs.Ytclnhfdgiaamhaa.K
open Go Go.RowKit Go.Proofs
set_option linter.unusedVariables false
set_option linter.unusedSimpArgs false

def flat (vs : List Vk) : List Value := vs.flatMap fun p => [.int .i64 p.k, .int .i64 p.n, .string p.s]
theorem vflat_len (vs : List Vk) : (flat vs).length = vs.length * 3 := by
  induction vs with
  | nil => rfl
  | cons p vs ih => simp only [flat, List.flatMap_cons, List.length_append, List.length_cons, List.length_nil] at ih ⊢; omega
theorem flat_at : ∀ (vs : List Vk) (i : Nat), i < vs.length → ((flat vs).drop (i * 3)).take 3 = [.int .i64 (vs.getD i z3).k, .int .i64 (vs.getD i z3).n, .string (vs.getD i z3).s]
  | [], _, h => absurd h (Nat.not_lt_zero _)
  | p :: vs, 0, _ => rfl
  | p :: vs, i + 1, h => by
    have e : flat (p :: vs) = [.int .i64 p.k, .int .i64 p.n, .string p.s] ++ flat vs := rfl
    rw [e, Nat.add_mul, Nat.add_comm, Nat.one_mul, ← List.drop_drop]
    exact flat_at vs i (by simpa using h)
abbrev DS (A : Option Addr) (c : Nat) (vs : List Vk) : Chunk := sl A vs.length c 107 3 (flat vs)
/-- Values in bytes. -/
def putV (p : Vk) : List UInt8 := putN p.k.toNat ++ (if p.k = 0 then [] else if p.k = 3 then putN p.s.size ++ p.s.data.toList else putN (zigS p.n))
def clean (p : Vk) : Vk := if goodV p = true then p else z3
def encV (l : List Vk) : List UInt8 := putN l.length ++ l.flatMap fun p => putV (clean p)
def outV (l : List Vk) (i : Nat) : List UInt8 := putN l.length ++ (l.take i).flatMap fun p => putV (clean p)
theorem good_kinds {p : Vk} (h : goodV p = true) : (p.k = 0 ∧ p = z3) ∨ ((p.k = 1 ∨ p.k = 2 ∨ p.k = 4) ∧ p.s = ⟨#[]⟩) ∨ (p.k = 3 ∧ p.n = 0 ∧ p.s.size ≤ 64) := by
  unfold goodV at h
  split at h
  · rename_i h0; exact .inl ⟨h0, of_decide_eq_true h⟩
  · split at h
    · rename_i h0; exact .inr (.inl ⟨.inl h0, of_decide_eq_true h⟩)
    · split at h
      · rename_i h0
        simp only [Bool.and_eq_true, decide_eq_true_eq] at h
        exact .inr (.inl ⟨.inr (.inl h0), h.1⟩)
      · split at h
        · rename_i h0
          simp only [Bool.and_eq_true, decide_eq_true_eq] at h
          exact .inr (.inr ⟨h0, h.1, h.2⟩)
        · split at h
          · rename_i h0
            simp only [Bool.and_eq_true, decide_eq_true_eq] at h
            exact .inr (.inl ⟨.inr (.inr h0), h.1⟩)
          · cases h
theorem good_rng {p : Vk} (h : goodV p = true) : 0 ≤ p.k ∧ p.k ≤ 4 ∧ (p.k = 3 → p.s.size ≤ 64) := by
  rcases good_kinds h with ⟨h0, _⟩ | ⟨h0, _⟩ | ⟨h0, _, h2⟩ <;> refine ⟨by omega, by omega, fun h => ?_⟩
  · omega
  · omega
  · exact h2
theorem size_data (s : ByteArray) : s.data.toList.length = s.size := by rw [Array.length_toList]; rfl
theorem putV_len {p : Vk} (h : goodV p = true) : (putV p).length ≤ 100 := by
  have hg := good_rng h
  have h1 := putN_len p.k.toNat
  have h2 := putN_len p.s.size
  have h3 := putN_len (zigS p.n)
  unfold putV
  rw [List.length_append]
  split
  · simp; omega
  · split
    · rename_i h4
      have := hg.2.2 h4
      rw [List.length_append, size_data]; omega
    · omega
theorem clean_good (p : Vk) : goodV (clean p) = true := by
  unfold clean
  split
  · assumption
  · decide
theorem outV_step {l : List Vk} {i : Nat} {p : Vk} (h : i < l.length) (hp : clean (l.getD i z3) = p) : outV l (i + 1) = outV l i ++ putV p := by
  unfold outV
  rw [take_push z3 h, List.flatMap_append, ← List.append_assoc, ← hp]; simp
theorem outV_len (l : List Vk) : ∀ i, i ≤ l.length → (outV l i).length ≤ 10 + 100 * i := by
  intro i
  induction i with
  | zero => intro _; have := putN_len l.length; unfold outV; simpa using this
  | succ i ih =>
    intro hi
    have h1 := ih (by omega)
    have h2 := putV_len (clean_good (l.getD i z3))
    rw [outV_step (by omega) rfl, List.length_append]; omega
theorem outV_all (l : List Vk) : outV l l.length = encV l := by unfold outV encV; rw [List.take_length]
theorem strc (l : List UInt8) (s : ByteArray) : bcells l ++ Lib.strCells s = bcells (l ++ s.data.toList) := by simp [bcells, Lib.strCells]

set_option maxRecDepth 20000 in
theorem rGood (n : Int) (h1 : -9223372036854775808 ≤ n) (h2 : n < 9223372036854775808) (w : World) : FnV Try.prog 112 [.int .i64 n] (.bool (decide (canS n = n))) w := by
  refine fn_enter Try.func112 rfl Try.ntmps112 rfl ?_
  refine vc_seq ?_
  refine vc_region ?_
  refine vl_val rfl (.some rfl) (val_assign rfl) ?_
  refine vl_nil ?_
  refine vc_seq ?_
  refine vc_region ?_
  refine vl_val rfl (.some rfl) (val_move rfl) ?_
  refine vl_callV rfl rfl (.some rfl) Try.call129 rfl (fun w hw => rCanon _ (by omega) (by omega) w) ?_
  refine vl_val rfl (.some rfl) (val_move rfl) ?_
  refine vl_val rfl (.some rfl) (val_eq rfl rfl) ?_
  refine vl_val rfl (.some rfl) (val_assign rfl) ?_
  refine vl_nil ?_
  refine vc_ret ?_
  refine ⟨_, [], _, res1 Try.results112 rfl, .nil, ?_⟩
  rfl
set_option maxRecDepth 20000 in
theorem xGood (p : Vk) (hw1 : -9223372036854775808 ≤ p.n) (hw2 : p.n < 9223372036854775808) (w : World) : FnV Try.prog 68 [vk p] (.bool (goodV p)) w := by
  refine fn_enter Try.func68 rfl Try.ntmps68 rfl ?_
  refine vc_seq ?_
  refine vc_region ?_
  refine vl_box rfl rfl (.some rfl) rfl (fun r1 => ?_)
  refine vl_val rfl (.some rfl) (val_assign rfl) ?_
  refine vl_nil ?_
  refine vc_seq ?_
  refine vc_seq ?_
  refine vc_region ?_
  refine vl_val rfl (.some rfl) (by first | exact val_fieldAddr Try.runUnderlying107 rfl Try.sizeOf3 rfl | exact val_fieldAddrR Try.runUnderlying107 rfl Try.sizeOf3 rfl) ?_
  refine vl_val rfl (.some rfl) (val_load Try.isAgg3 rfl (by first | exact cell_cells (by repeat constructor) rfl | exact cell_rd (by first | exact rd_sl (by repeat constructor) | exact rd_old (by assumption) rfl) (by first | exact bcells_at (by omega) | exact ucells_at (by omega) | exact icells_at (by omega) | exact tcells_at (by omega) | exact bcells_get (by omega) | exact icells_get (by omega) | exact tcells_get (by omega) | exact ucells_get (by omega)) | exact cell_old (by assumption) (by simp [fps]))) ?_
  refine vl_nil ?_
  refine vc_block ?_
  refine vc_seq ?_
  refine vc_region ?_
  refine vl_val rfl (.some rfl) (val_eq rfl rfl) ?_
  refine vl_val rfl (.some rfl) (val_assign rfl) ?_
  refine vl_nil ?_
  refine vc_cond rfl (fun hc0 => ?_) (fun hc0 => ?_)
  · (try replace hc0 := of_decide_eq_true hc0)
    refine vc_seq ?_
    refine vc_region ?_
    refine vl_val rfl (.some rfl) (val_loadAgg Try.isAgg107 Try.sizeOf107 rfl (by first | exact cells_whole (by repeat constructor) | exact cells_part (by repeat constructor) rfl) rfl) ?_
    refine vl_val rfl (.some rfl) (val_buildSt (pl := #[(0, 1), (1, 1), (2, 1)]) (cs := #[.int .i64 0, .int .i64 0, .string ⟨#[]⟩]) Try.runUnderlying107 Try.zeroValue107 (fun w => by kernel_rfl) rfl rfl) ?_
    refine vl_val rfl (.some rfl) (val_opO rfl rfl (fun w => run_eqGuard_agg w _ _ _ _ _ _ (by kernel_rfl)) (bin_agg_eq (vk_equal p z3))) ?_
    refine vl_val rfl (.some rfl) (val_assign rfl) ?_
    refine vl_nil ?_
    refine vc_ret ?_
    refine ⟨_, [], _, res1 Try.results68 rfl, .nil, ?_⟩
    show _ = _; unfold goodV; rw [if_pos hc0]
  · (try replace hc0 := of_decide_eq_false hc0)
    refine vc_seq ?_
    refine vc_region ?_
    refine vl_val rfl (.some rfl) (val_eq rfl rfl) ?_
    refine vl_val rfl (.some rfl) (val_assign rfl) ?_
    refine vl_nil ?_
    refine vc_cond rfl (fun hc1 => ?_) (fun hc1 => ?_)
    · (try replace hc1 := of_decide_eq_true hc1)
      refine vc_seq ?_
      refine vc_region ?_
      refine vl_val rfl (.some rfl) (by first | exact val_fieldAddr Try.runUnderlying107 rfl Try.sizeOf9 rfl | exact val_fieldAddrR Try.runUnderlying107 rfl Try.sizeOf9 rfl) ?_
      refine vl_val rfl (.some rfl) (val_load Try.isAgg9 rfl (by first | exact cell_cells (by repeat constructor) rfl | exact cell_rd (by first | exact rd_sl (by repeat constructor) | exact rd_old (by assumption) rfl) (by first | exact bcells_at (by omega) | exact ucells_at (by omega) | exact icells_at (by omega) | exact tcells_at (by omega) | exact bcells_get (by omega) | exact icells_get (by omega) | exact tcells_get (by omega) | exact ucells_get (by omega)) | exact cell_old (by assumption) (by simp [fps]))) ?_
      refine vl_val rfl (.some rfl) (val_seq rfl rfl) ?_
      refine vl_val rfl (.some rfl) (val_assign rfl) ?_
      refine vl_nil ?_
      refine vc_ret ?_
      refine ⟨_, [], _, res1 Try.results68 rfl, .nil, ?_⟩
      show _ = _; unfold goodV; rw [if_neg hc0, if_pos hc1]
    · (try replace hc1 := of_decide_eq_false hc1)
      refine vc_seq ?_
      refine vc_region ?_
      refine vl_val rfl (.some rfl) (val_eq rfl rfl) ?_
      refine vl_val rfl (.some rfl) (val_assign rfl) ?_
      refine vl_nil ?_
      refine vc_cond rfl (fun hc2 => ?_) (fun hc2 => ?_)
      · (try replace hc2 := of_decide_eq_true hc2)
        refine vc_seq ?_
        refine vc_region ?_
        refine vl_val rfl (.some rfl) (by first | exact val_fieldAddr Try.runUnderlying107 rfl Try.sizeOf9 rfl | exact val_fieldAddrR Try.runUnderlying107 rfl Try.sizeOf9 rfl) ?_
        refine vl_val rfl (.some rfl) (val_load Try.isAgg9 rfl (by first | exact cell_cells (by repeat constructor) rfl | exact cell_rd (by first | exact rd_sl (by repeat constructor) | exact rd_old (by assumption) rfl) (by first | exact bcells_at (by omega) | exact ucells_at (by omega) | exact icells_at (by omega) | exact tcells_at (by omega) | exact bcells_get (by omega) | exact icells_get (by omega) | exact tcells_get (by omega) | exact ucells_get (by omega)) | exact cell_old (by assumption) (by simp [fps]))) ?_
        refine vl_val rfl (.some rfl) (val_seq rfl rfl) ?_
        refine vl_val rfl (.some rfl) (val_move rfl) ?_
        refine vl_split (t := 20) rfl (fun hg20 => ?_) (fun hg20 => ?_)
        · (try replace hg20 := of_decide_eq_true hg20)
          refine vl_on rfl rfl rfl rfl ?_
          refine vl_val rfl (.some rfl) (by first | exact val_fieldAddr Try.runUnderlying107 rfl Try.sizeOf3 rfl | exact val_fieldAddrR Try.runUnderlying107 rfl Try.sizeOf3 rfl) ?_
          refine vl_on rfl rfl rfl rfl ?_
          refine vl_val rfl (.some rfl) (val_load Try.isAgg3 rfl (by first | exact cell_cells (by repeat constructor) rfl | exact cell_rd (by first | exact rd_sl (by repeat constructor) | exact rd_old (by assumption) rfl) (by first | exact bcells_at (by omega) | exact ucells_at (by omega) | exact icells_at (by omega) | exact tcells_at (by omega) | exact bcells_get (by omega) | exact icells_get (by omega) | exact tcells_get (by omega) | exact ucells_get (by omega)) | exact cell_old (by assumption) (by simp [fps]))) ?_
          refine vl_on rfl rfl rfl rfl ?_
          refine vl_callV rfl rfl (.some rfl) Try.call112 rfl (fun w hw => rGood _ (by omega) (by omega) w) ?_
          refine vl_val rfl (.some rfl) (val_pick rfl rfl) ?_
          refine vl_val rfl (.some rfl) (val_assign rfl) ?_
          refine vl_nil ?_
          refine vc_ret ?_
          refine ⟨_, [], _, res1 Try.results68 rfl, .nil, ?_⟩
          show _ = _; unfold goodV; rw [if_neg hc0, if_neg hc1, if_pos hc2]; first | (rw [decide_eq_true hg20]; rfl) | (rw [decide_eq_false hg20]; rfl)
        · (try replace hg20 := of_decide_eq_false hg20)
          refine vl_off rfl rfl rfl rfl (.some rfl) ?_
          refine vl_off rfl rfl rfl rfl (.some rfl) ?_
          refine vl_off rfl rfl rfl rfl (.some rfl) ?_
          refine vl_val rfl (.some rfl) (val_pick rfl rfl) ?_
          refine vl_val rfl (.some rfl) (val_assign rfl) ?_
          refine vl_nil ?_
          refine vc_ret ?_
          refine ⟨_, [], _, res1 Try.results68 rfl, .nil, ?_⟩
          show _ = _; unfold goodV; rw [if_neg hc0, if_neg hc1, if_pos hc2]; first | (rw [decide_eq_true hg20]; rfl) | (rw [decide_eq_false hg20]; rfl)
      · (try replace hc2 := of_decide_eq_false hc2)
        refine vc_seq ?_
        refine vc_region ?_
        refine vl_val rfl (.some rfl) (val_eq rfl rfl) ?_
        refine vl_val rfl (.some rfl) (val_assign rfl) ?_
        refine vl_nil ?_
        refine vc_cond rfl (fun hc3 => ?_) (fun hc3 => ?_)
        · (try replace hc3 := of_decide_eq_true hc3)
          refine vc_seq ?_
          refine vc_region ?_
          refine vl_val rfl (.some rfl) (by first | exact val_fieldAddr Try.runUnderlying107 rfl Try.sizeOf3 rfl | exact val_fieldAddrR Try.runUnderlying107 rfl Try.sizeOf3 rfl) ?_
          refine vl_val rfl (.some rfl) (val_load Try.isAgg3 rfl (by first | exact cell_cells (by repeat constructor) rfl | exact cell_rd (by first | exact rd_sl (by repeat constructor) | exact rd_old (by assumption) rfl) (by first | exact bcells_at (by omega) | exact ucells_at (by omega) | exact icells_at (by omega) | exact tcells_at (by omega) | exact bcells_get (by omega) | exact icells_get (by omega) | exact tcells_get (by omega) | exact ucells_get (by omega)) | exact cell_old (by assumption) (by simp [fps]))) ?_
          refine vl_val rfl (.some rfl) (val_eq rfl rfl) ?_
          refine vl_val rfl (.some rfl) (val_move rfl) ?_
          refine vl_split (t := 30) rfl (fun hg30 => ?_) (fun hg30 => ?_)
          · (try replace hg30 := of_decide_eq_true hg30)
            refine vl_on rfl rfl rfl rfl ?_
            refine vl_val rfl (.some rfl) (by first | exact val_fieldAddr Try.runUnderlying107 rfl Try.sizeOf9 rfl | exact val_fieldAddrR Try.runUnderlying107 rfl Try.sizeOf9 rfl) ?_
            refine vl_on rfl rfl rfl rfl ?_
            refine vl_val rfl (.some rfl) (val_load Try.isAgg9 rfl (by first | exact cell_cells (by repeat constructor) rfl | exact cell_rd (by first | exact rd_sl (by repeat constructor) | exact rd_old (by assumption) rfl) (by first | exact bcells_at (by omega) | exact ucells_at (by omega) | exact icells_at (by omega) | exact tcells_at (by omega) | exact bcells_get (by omega) | exact icells_get (by omega) | exact tcells_get (by omega) | exact ucells_get (by omega)) | exact cell_old (by assumption) (by simp [fps]))) ?_
            refine vl_on rfl rfl rfl rfl ?_
            refine vl_val rfl (.some rfl) (val_lenStr Try.runUnderlying9 rfl) ?_
            refine vl_on rfl rfl rfl rfl ?_
            refine vl_val rfl (.some rfl) (val_le rfl rfl) ?_
            refine vl_val rfl (.some rfl) (val_pick rfl rfl) ?_
            refine vl_val rfl (.some rfl) (val_assign rfl) ?_
            refine vl_nil ?_
            refine vc_ret ?_
            refine ⟨_, [], _, res1 Try.results68 rfl, .nil, ?_⟩
            show _ = _; unfold goodV; rw [if_neg hc0, if_neg hc1, if_neg hc2, if_pos hc3]; simp_all <;> omega
          · (try replace hg30 := of_decide_eq_false hg30)
            refine vl_off rfl rfl rfl rfl (.some rfl) ?_
            refine vl_off rfl rfl rfl rfl (.some rfl) ?_
            refine vl_off rfl rfl rfl rfl (.some rfl) ?_
            refine vl_off rfl rfl rfl rfl (.some rfl) ?_
            refine vl_val rfl (.some rfl) (val_pick rfl rfl) ?_
            refine vl_val rfl (.some rfl) (val_assign rfl) ?_
            refine vl_nil ?_
            refine vc_ret ?_
            refine ⟨_, [], _, res1 Try.results68 rfl, .nil, ?_⟩
            show _ = _; unfold goodV; rw [if_neg hc0, if_neg hc1, if_neg hc2, if_pos hc3]; simp_all <;> omega
        · (try replace hc3 := of_decide_eq_false hc3)
          refine vc_seq ?_
          refine vc_region ?_
          refine vl_val rfl (.some rfl) (val_eq rfl rfl) ?_
          refine vl_val rfl (.some rfl) (val_assign rfl) ?_
          refine vl_nil ?_
          refine vc_cond rfl (fun hc4 => ?_) (fun hc4 => ?_)
          · (try replace hc4 := of_decide_eq_true hc4)
            refine vc_seq ?_
            refine vc_region ?_
            refine vl_val rfl (.some rfl) (by first | exact val_fieldAddr Try.runUnderlying107 rfl Try.sizeOf9 rfl | exact val_fieldAddrR Try.runUnderlying107 rfl Try.sizeOf9 rfl) ?_
            refine vl_val rfl (.some rfl) (val_load Try.isAgg9 rfl (by first | exact cell_cells (by repeat constructor) rfl | exact cell_rd (by first | exact rd_sl (by repeat constructor) | exact rd_old (by assumption) rfl) (by first | exact bcells_at (by omega) | exact ucells_at (by omega) | exact icells_at (by omega) | exact tcells_at (by omega) | exact bcells_get (by omega) | exact icells_get (by omega) | exact tcells_get (by omega) | exact ucells_get (by omega)) | exact cell_old (by assumption) (by simp [fps]))) ?_
            refine vl_val rfl (.some rfl) (val_seq rfl rfl) ?_
            refine vl_val rfl (.some rfl) (val_move rfl) ?_
            refine vl_split (t := 41) rfl (fun hg41 => ?_) (fun hg41 => ?_)
            · (try replace hg41 := of_decide_eq_true hg41)
              refine vl_on rfl rfl rfl rfl ?_
              refine vl_val rfl (.some rfl) (by first | exact val_fieldAddr Try.runUnderlying107 rfl Try.sizeOf3 rfl | exact val_fieldAddrR Try.runUnderlying107 rfl Try.sizeOf3 rfl) ?_
              refine vl_on rfl rfl rfl rfl ?_
              refine vl_val rfl (.some rfl) (val_load Try.isAgg3 rfl (by first | exact cell_cells (by repeat constructor) rfl | exact cell_rd (by first | exact rd_sl (by repeat constructor) | exact rd_old (by assumption) rfl) (by first | exact bcells_at (by omega) | exact ucells_at (by omega) | exact icells_at (by omega) | exact tcells_at (by omega) | exact bcells_get (by omega) | exact icells_get (by omega) | exact tcells_get (by omega) | exact ucells_get (by omega)) | exact cell_old (by assumption) (by simp [fps]))) ?_
              refine vl_on rfl rfl rfl rfl ?_
              refine vl_val rfl (.some rfl) (val_eq rfl rfl) ?_
              refine vl_on rfl rfl rfl rfl ?_
              refine vl_val rfl (.some rfl) (val_move rfl) ?_
              refine vl_split (t := 45) rfl (fun hg45 => ?_) (fun hg45 => ?_)
              · (try replace hg45 := of_decide_eq_true hg45)
                refine vl_off rfl rfl rfl rfl (.some rfl) ?_
                refine vl_off rfl rfl rfl rfl (.some rfl) ?_
                refine vl_off rfl rfl rfl rfl (.some rfl) ?_
                refine vl_on rfl rfl rfl rfl ?_
                refine vl_val rfl (.some rfl) (val_pick rfl rfl) ?_
                refine vl_val rfl (.some rfl) (val_pick rfl rfl) ?_
                refine vl_val rfl (.some rfl) (val_assign rfl) ?_
                refine vl_nil ?_
                refine vc_ret ?_
                refine ⟨_, [], _, res1 Try.results68 rfl, .nil, ?_⟩
                show _ = _; unfold goodV; rw [if_neg hc0, if_neg hc1, if_neg hc2, if_neg hc3, if_pos hc4]; simp_all
              · (try replace hg45 := of_decide_eq_false hg45)
                refine vl_on rfl rfl rfl rfl ?_
                refine vl_val rfl (.some rfl) (by first | exact val_fieldAddr Try.runUnderlying107 rfl Try.sizeOf3 rfl | exact val_fieldAddrR Try.runUnderlying107 rfl Try.sizeOf3 rfl) ?_
                refine vl_on rfl rfl rfl rfl ?_
                refine vl_val rfl (.some rfl) (val_load Try.isAgg3 rfl (by first | exact cell_cells (by repeat constructor) rfl | exact cell_rd (by first | exact rd_sl (by repeat constructor) | exact rd_old (by assumption) rfl) (by first | exact bcells_at (by omega) | exact ucells_at (by omega) | exact icells_at (by omega) | exact tcells_at (by omega) | exact bcells_get (by omega) | exact icells_get (by omega) | exact tcells_get (by omega) | exact ucells_get (by omega)) | exact cell_old (by assumption) (by simp [fps]))) ?_
                refine vl_on rfl rfl rfl rfl ?_
                refine vl_val rfl (.some rfl) (val_eq rfl rfl) ?_
                refine vl_on rfl rfl rfl rfl ?_
                refine vl_val rfl (.some rfl) (val_pick rfl rfl) ?_
                refine vl_val rfl (.some rfl) (val_pick rfl rfl) ?_
                refine vl_val rfl (.some rfl) (val_assign rfl) ?_
                refine vl_nil ?_
                refine vc_ret ?_
                refine ⟨_, [], _, res1 Try.results68 rfl, .nil, ?_⟩
                show _ = _; unfold goodV; rw [if_neg hc0, if_neg hc1, if_neg hc2, if_neg hc3, if_pos hc4]; simp_all
            · (try replace hg41 := of_decide_eq_false hg41)
              refine vl_off rfl rfl rfl rfl (.some rfl) ?_
              refine vl_off rfl rfl rfl rfl (.some rfl) ?_
              refine vl_off rfl rfl rfl rfl (.some rfl) ?_
              refine vl_off rfl rfl rfl rfl (.some rfl) ?_
              refine vl_offU rfl rfl rfl rfl (.some rfl) ?_
              refine vl_offU rfl rfl rfl rfl (.some rfl) ?_
              refine vl_offU rfl rfl rfl rfl (.some rfl) ?_
              refine vl_off rfl rfl rfl rfl (.some rfl) ?_
              refine vl_val rfl (.some rfl) (val_pick rfl rfl) ?_
              refine vl_val rfl (.some rfl) (val_assign rfl) ?_
              refine vl_nil ?_
              refine vc_ret ?_
              refine ⟨_, [], _, res1 Try.results68 rfl, .nil, ?_⟩
              show _ = _; unfold goodV; rw [if_neg hc0, if_neg hc1, if_neg hc2, if_neg hc3, if_pos hc4]; simp_all
          · (try replace hc4 := of_decide_eq_false hc4)
            refine vc_skip ?_
            refine vc_seq ?_
            refine vc_region ?_
            refine vl_val rfl (.some rfl) (val_assign rfl) ?_
            refine vl_nil ?_
            refine vc_ret ?_
            refine ⟨_, [], _, res1 Try.results68 rfl, .nil, ?_⟩
            show _ = _; unfold goodV; rw [if_neg hc0, if_neg hc1, if_neg hc2, if_neg hc3, if_neg hc4]
set_option maxRecDepth 20000 in
set_option maxHeartbeats 1000000 in
theorem vBytes (A : Option Addr) (c : Nat) (l : List Vk) (hl : l.length ≤ 1000000) (hwv : ∀ p ∈ l, WV p) (w : World) (hr : Reads w A (flat l)) : Fn Try.prog 182 [.slice A l.length c] [] (ret fun v H' => ∃ A' c', v = .slice A' (encV l).length c' ∧ H' = [BY A' (encV l).length c' (encV l)]) w := by
  refine fn_enter Try.func182 rfl Try.ntmps182 rfl ?_
  refine vc_seq ?_
  refine vc_region ?_
  refine vl_val rfl (.some rfl) (val_assign rfl) ?_
  refine vl_nil ?_
  refine vc_seq ?_
  refine vc_region ?_
  refine vl_val rfl (.some rfl) (val_move rfl) ?_
  refine vl_val rfl (.some rfl) (val_lenSl Try.runUnderlying105 rfl) ?_
  refine vl_val rfl (.some rfl) (val_convInt Try.runUnderlying3 Try.runUnderlying23 rfl (by first | exact w_u64 (by omega) (by omega) | rfl)) ?_
  refine vl_call (C := []) rfl rfl (.some rfl) Try.call52 rfl .nil (fun w hw => cPut none 0 [] l.length (by omega) (by decide) w (rdw (by first | exact rd_sl (by repeat constructor) | exact rd_slr (by repeat constructor) | exact rd_old (by assumption) rfl | exact rd_slq (by repeat constructor) | exact rd_nil) hw)) (fun v H' h => ?_)
  obtain ⟨A12, c12, rfl, rfl⟩ := h
  rw [List.nil_append]
  show VL _ _ _ _ _ (_ :: _)
  refine vl_val rfl (.some rfl) (val_assign rfl) ?_
  refine vl_nil ?_
  refine vc_seq ?_
  refine vc_seq ?_
  refine vc_region ?_
  refine vl_val rfl (.some rfl) (val_move rfl) ?_
  refine vl_val rfl (.some rfl) (val_lenSl Try.runUnderlying105 rfl) ?_
  refine vl_val rfl (.some rfl) (val_move rfl) ?_
  refine vl_nil ?_
  refine vc_block ?_
  rw [show putN l.length = outV l 0 by unfold outV; simp]
  refine vc_loopw (fun k E H => ∃ (i : Nat) (A3 : Option Addr) (c3 : Nat), i ≤ l.length ∧ k = l.length - i ∧ E = [(3, .slice A3 (outV l i).length c3), (13, .slice A l.length c), (14, .int .i64 l.length), (15, .int .i64 i)] ∧ H = [BY A3 (outV l i).length c3 (outV l i)]) (l.length) ⟨_, _, _, ⟨0, A12, c12, by omega, rfl, rfl, rfl⟩, (by repeat (first | exact trivial | refine ⟨rfl, ?_⟩ | refine ⟨le_item rfl (by first | rfl | (congr 1; omega) | (simp; done) | (simp; omega)), ?_⟩)), (by repeat constructor)⟩ ?_
  intro k E H hI
  obtain ⟨i, A3, c3, hil, rfl, rfl, rfl⟩ := hI
  refine vc_seq ?_
  refine vc_region ?_
  refine vl_val rfl (.some rfl) (val_lt rfl rfl) ?_
  refine vl_nil ?_
  refine vc_seq ?_
  refine vc_cond rfl (fun hc0 => ?_) (fun hc0 => ?_)
  · (try replace hc0 := of_decide_eq_true hc0)
    have hi8 : i < l.length := by omega
    have hat := flat_at l i hi8
    have hwi := hwv _ (getD_mem z3 hi8)
    have hol := outV_len l i (by omega)
    refine vc_skip ?_
    refine vc_seq ?_
    refine vc_block ?_
    refine vc_seq ?_
    refine vc_region ?_
    refine vl_val rfl (.some rfl) (val_indexAddr Try.runUnderlying105 Try.sizeOf107 rfl rfl (rd_old hr rfl) (by omega) (by omega) (by rw [vflat_len]; omega)) ?_
    refine vl_val rfl (.some rfl) (val_loadAgg Try.isAgg107 Try.sizeOf107 rfl (cells_rd (us := [.int .i64 (l.getD i z3).k, .int .i64 (l.getD i z3).n, .string (l.getD i z3).s]) (rd_old hr rfl) (by rw [Int.toNat_natCast]; exact hat)) rfl) ?_
    refine vl_alloc rfl rfl (.some rfl) Try.zeroValue107 (fun r5 => ?_)
    first | refine vl_store rfl rfl .none rfl rfl Try.sizeOf107 rfl (by repeat constructor) (by first | decide | exact Nat.le_refl _ | exact Nat.le_of_ble_eq_true rfl | (simp; omega)) ?_ | refine vl_storeSl rfl rfl .none rfl rfl Try.sizeOf107 rfl (by simp [Value.cells]) (by repeat constructor) (by first | decide | (simp [Value.cells]; omega)) ?_
    refine vl_nil ?_
    refine vc_seq ?_
    refine vc_seq ?_
    refine vc_region ?_
    refine vl_val rfl (.some rfl) (val_loadAgg Try.isAgg107 Try.sizeOf107 rfl (by first | exact cells_whole (by repeat constructor) | exact cells_part (by repeat constructor) rfl) rfl) ?_
    refine vl_callV rfl rfl (.some rfl) Try.call128 rfl (fun w hw => vGood (l.getD i z3) w) ?_
    refine vl_val rfl (.some rfl) (val_not rfl) ?_
    refine vl_nil ?_
    refine vc_cond rfl (fun hc1 => ?_) (fun hc1 => ?_)
    · (try replace hc1 := of_decide_eq_true hc1)
      let p : Vk := z3
      have hpc : clean (l.getD i z3) = p := by unfold clean; rw [if_neg (by simpa using hc1)]
      have hpn : -9223372036854775808 ≤ p.n ∧ p.n < 9223372036854775808 := by decide
      have hpk0 : p.k = 0 := rfl
      have hgp : goodV p = true := by rw [← hpc]; exact clean_good _
      have hrg := good_rng hgp
      have hst := outV_step hi8 hpc
      refine vc_region ?_
      refine vl_val rfl (.some rfl) (val_buildSt (pl := #[(0, 1), (1, 1), (2, 1)]) (cs := #[.int .i64 0, .int .i64 0, .string ⟨#[]⟩]) Try.runUnderlying107 Try.zeroValue107 (fun w => by kernel_rfl) rfl rfl) ?_
      first | refine vl_store rfl rfl .none rfl rfl Try.sizeOf107 rfl (by repeat constructor) (by first | decide | exact Nat.le_refl _ | exact Nat.le_of_ble_eq_true rfl | (simp; omega)) ?_ | refine vl_storeSl rfl rfl .none rfl rfl Try.sizeOf107 rfl (by simp [Value.cells]) (by repeat constructor) (by first | decide | (simp [Value.cells]; omega)) ?_
      refine vl_nil ?_
      refine vc_seq ?_
      refine vc_region ?_
      refine vl_val rfl (.some rfl) (val_move rfl) ?_
      refine vl_val rfl (.some rfl) (by first | exact val_fieldAddr Try.runUnderlying107 rfl Try.sizeOf3 rfl | exact val_fieldAddrR Try.runUnderlying107 rfl Try.sizeOf3 rfl) ?_
      refine vl_val rfl (.some rfl) (val_load Try.isAgg3 rfl (by first | exact cell_cells (by repeat constructor) rfl | exact cell_rd (by first | exact rd_sl (by repeat constructor) | exact rd_old (by assumption) rfl) (by first | exact bcells_at (by omega) | exact ucells_at (by omega) | exact icells_at (by omega) | exact tcells_at (by omega) | exact bcells_get (by omega) | exact icells_get (by omega) | exact tcells_get (by omega) | exact ucells_get (by omega)) | exact cell_old (by assumption) (by simp [fps]))) ?_
      refine vl_val rfl (.some rfl) (val_convInt Try.runUnderlying3 Try.runUnderlying23 rfl (show _ = ((p.k.toNat : Nat) : Int) by rw [w_u64 (by omega) (by omega)]; omega)) ?_
      have hkl := putN_len p.k.toNat
      have hsl := putN_len p.s.size
      have hzl := putN_len (zigS p.n)
      have hol2 : (outV l i ++ putN p.k.toNat).length ≤ 20 + 100 * i := by rw [List.length_append]; omega
      refine vl_call (C := []) rfl rfl (.some rfl) Try.call52 rfl .nil (fun w hw => cPut A3 c3 (outV l i) (p.k.toNat) (by omega) (by omega) w (rdw (rd_sl (by repeat constructor)) hw)) (fun v H' h => ?_)
      obtain ⟨A27, c27, rfl, rfl⟩ := h
      show VL _ _ _ _ _ (_ :: _)
      refine vl_val rfl (.some rfl) (val_assign rfl) ?_
      refine vl_nil ?_
      refine vc_seq ?_
      refine vc_region ?_
      refine vl_val rfl (.some rfl) (val_loadAgg Try.isAgg107 Try.sizeOf107 rfl (by first | exact cells_whole (by repeat constructor) | exact cells_part (by repeat constructor) rfl) rfl) ?_
      refine vl_callV rfl rfl (.some rfl) Try.call143 rfl (fun w hw => vOf p w) ?_
      refine vl_nil ?_
      refine vc_block ?_
      refine vc_seq ?_
      refine vc_region ?_
      refine vl_val rfl (.some rfl) (asks 196 0 (.agg #[]) (.agg #[]) Try.runUnderlying196 rfl Try.zeroValue196 rfl (fun h => by unfold ofV; rw [h]; simp) (other _ _ (fun k hk => ⟨fun h => by first | decide | omega, fun h => by first | decide | omega, fun h => by first | decide | omega, fun h => by first | decide | omega, fun h => by first | decide | omega⟩))) ?_
      refine vl_val rfl (.some rfl) (val_extract rfl rfl) ?_
      refine vl_val rfl (.some rfl) (val_extract rfl rfl) ?_
      refine vl_nil ?_
      refine vc_cond rfl (fun hc2 => ?_) (fun hc2 => ?_)
      · (try replace hc2 := of_decide_eq_true hc2)
        rw [if_pos hc2, show outV l i ++ putN p.k.toNat = outV l (i + 1) by rw [hst]; unfold putV; rw [if_pos hc2, List.append_nil]]
        refine vc_region ?_
        refine vl_alloc rfl rfl (.some rfl) Try.zeroValue196 (fun r6 => ?_)
        first | refine vl_store rfl rfl .none rfl rfl Try.sizeOf196 rfl (by repeat constructor) (by first | decide | exact Nat.le_refl _ | exact Nat.le_of_ble_eq_true rfl | (simp; omega)) ?_ | refine vl_storeSl rfl rfl .none rfl rfl Try.sizeOf196 rfl (by simp [Value.cells]) (by repeat constructor) (by first | decide | (simp [Value.cells]; omega)) ?_
        refine vl_nil ?_
        refine vc_region ?_
        refine vl_val rfl (.some rfl) (val_add rfl rfl (by first | exact w_i64 (by omega) (by omega) | rfl)) ?_
        refine vl_val rfl (.some rfl) (val_move rfl) ?_
        refine vl_nil ?_
        first
          | exact ⟨l.length - (i + 1), _, _, _, by omega, (by repeat (first | exact trivial | refine ⟨rfl, ?_⟩ | refine ⟨le_item rfl (by first | rfl | (congr 1; omega) | (simp; done) | (simp; omega)), ?_⟩)), (by repeat constructor), ⟨i + 1, A27, c27, by omega, rfl, rfl, rfl⟩⟩
          | exact ⟨l.length - (i + 1), _, _, _, by omega, (by repeat (first | exact trivial | refine ⟨rfl, ?_⟩ | refine ⟨le_item rfl (by first | rfl | (congr 1; omega) | (simp; done) | (simp; omega)), ?_⟩)), (by repeat constructor), ⟨i + 1, A47, k47, by omega, rfl, rfl, rfl⟩⟩
          | exact ⟨l.length - (i + 1), _, _, _, by omega, (by repeat (first | exact trivial | refine ⟨rfl, ?_⟩ | refine ⟨le_item rfl (by first | rfl | (congr 1; omega) | (simp; done) | (simp; omega)), ?_⟩)), (by repeat constructor), ⟨i + 1, A34, c34, by omega, rfl, rfl, rfl⟩⟩
      · (try replace hc2 := of_decide_eq_false hc2)
        refine vc_seq ?_
        refine vc_region ?_
        refine vl_val rfl (.some rfl) (asks 199 3 (.string ⟨#[]⟩) (.string p.s) Try.runUnderlying199 rfl Try.zeroValue199 rfl (fun h => by unfold ofV; rw [h]; simp) (other _ _ (fun k hk => ⟨fun h => by first | decide | omega, fun h => by first | decide | omega, fun h => by first | decide | omega, fun h => by first | decide | omega, fun h => by first | decide | omega⟩))) ?_
        refine vl_val rfl (.some rfl) (val_extract rfl rfl) ?_
        refine vl_val rfl (.some rfl) (val_extract rfl rfl) ?_
        refine vl_nil ?_
        refine vc_cond rfl (fun hc3 => ?_) (fun hc3 => ?_)
        · (try replace hc3 := of_decide_eq_true hc3)
          rw [if_pos hc3]
          refine vc_seq ?_
          refine vc_region ?_
          refine vl_val rfl (.some rfl) (val_assign rfl) ?_
          refine vl_nil ?_
          refine vc_region ?_
          refine vl_val rfl (.some rfl) (val_move rfl) ?_
          refine vl_val rfl (.some rfl) (val_move rfl) ?_
          refine vl_val rfl (.some rfl) (val_lenStr Try.runUnderlying199 rfl) ?_
          refine vl_val rfl (.some rfl) (val_convInt Try.runUnderlying3 Try.runUnderlying23 rfl (by first | exact w_u64 (by omega) (by omega) | rfl)) ?_
          refine vl_call (C := []) rfl rfl (.some rfl) Try.call52 rfl .nil (fun w hw => cPut A27 c27 (outV l i ++ putN p.k.toNat) (p.s.size) (by have := hrg.2.2 hc3; omega) (by omega) w (rdw (rd_sl (by repeat constructor)) hw)) (fun v H' h => ?_)
          obtain ⟨A45, c45, rfl, rfl⟩ := h
          show VL _ _ _ _ _ (_ :: _)
          refine vl_val rfl (.some rfl) (val_move rfl) ?_
          refine vl_appendStr sT22 Try.underlying199 rfl rfl (.some rfl) rfl rfl (by rw [List.length_append]; have := hrg.2.2 hc3; omega) (by repeat constructor) (fun A47 k47 => ?_)
          rw [strc, show (outV l i ++ putN p.k.toNat ++ putN p.s.size).length + p.s.size = (outV l i ++ putN p.k.toNat ++ putN p.s.size ++ p.s.data.toList).length by rw [List.length_append (bs := p.s.data.toList), size_data], show outV l i ++ putN p.k.toNat ++ putN p.s.size ++ p.s.data.toList = outV l (i + 1) by rw [hst]; unfold putV; rw [if_neg hc2, if_pos hc3]; simp]
          refine vl_val rfl (.some rfl) (val_assign rfl) ?_
          refine vl_nil ?_
          refine vc_region ?_
          refine vl_val rfl (.some rfl) (val_add rfl rfl (by first | exact w_i64 (by omega) (by omega) | rfl)) ?_
          refine vl_val rfl (.some rfl) (val_move rfl) ?_
          refine vl_nil ?_
          first
            | exact ⟨l.length - (i + 1), _, _, _, by omega, (by repeat (first | exact trivial | refine ⟨rfl, ?_⟩ | refine ⟨le_item rfl (by first | rfl | (congr 1; omega) | (simp; done) | (simp; omega)), ?_⟩)), (by repeat constructor), ⟨i + 1, A27, c27, by omega, rfl, rfl, rfl⟩⟩
            | exact ⟨l.length - (i + 1), _, _, _, by omega, (by repeat (first | exact trivial | refine ⟨rfl, ?_⟩ | refine ⟨le_item rfl (by first | rfl | (congr 1; omega) | (simp; done) | (simp; omega)), ?_⟩)), (by repeat constructor), ⟨i + 1, A47, k47, by omega, rfl, rfl, rfl⟩⟩
            | exact ⟨l.length - (i + 1), _, _, _, by omega, (by repeat (first | exact trivial | refine ⟨rfl, ?_⟩ | refine ⟨le_item rfl (by first | rfl | (congr 1; omega) | (simp; done) | (simp; omega)), ?_⟩)), (by repeat constructor), ⟨i + 1, A34, c34, by omega, rfl, rfl, rfl⟩⟩
        · (try replace hc3 := of_decide_eq_false hc3)
          refine vc_seq ?_
          refine vc_region ?_
          refine vl_val rfl (.some rfl) (val_assign rfl) ?_
          refine vl_nil ?_
          refine vc_region ?_
          refine vl_val rfl (.some rfl) (val_move rfl) ?_
          refine vl_val rfl (.some rfl) (by first | exact val_fieldAddr Try.runUnderlying107 rfl Try.sizeOf3 rfl | exact val_fieldAddrR Try.runUnderlying107 rfl Try.sizeOf3 rfl) ?_
          refine vl_val rfl (.some rfl) (val_load Try.isAgg3 rfl (by first | exact cell_cells (by repeat constructor) rfl | exact cell_rd (by first | exact rd_sl (by repeat constructor) | exact rd_old (by assumption) rfl) (by first | exact bcells_at (by omega) | exact ucells_at (by omega) | exact icells_at (by omega) | exact tcells_at (by omega) | exact bcells_get (by omega) | exact icells_get (by omega) | exact tcells_get (by omega) | exact ucells_get (by omega)) | exact cell_old (by assumption) (by simp [fps]))) ?_
          refine vl_callV rfl rfl (.some rfl) Try.call183 rfl (fun w hw => cZig _ (by omega) (by omega) w) ?_
          refine vl_call (C := []) rfl rfl (.some rfl) Try.call52 rfl .nil (fun w hw => cPut A27 c27 (outV l i ++ putN p.k.toNat) (zigS p.n) (zigS_lt hpn.1 hpn.2) (by omega) w (rdw (rd_sl (by repeat constructor)) hw)) (fun v H' h => ?_)
          obtain ⟨A34, c34, rfl, rfl⟩ := h
          show VL _ _ _ _ _ (_ :: _)
          rw [show outV l i ++ putN p.k.toNat ++ putN (zigS p.n) = outV l (i + 1) by rw [hst]; unfold putV; rw [if_neg hc2, if_neg hc3, List.append_assoc]]
          refine vl_val rfl (.some rfl) (val_assign rfl) ?_
          refine vl_nil ?_
          refine vc_region ?_
          refine vl_val rfl (.some rfl) (val_add rfl rfl (by first | exact w_i64 (by omega) (by omega) | rfl)) ?_
          refine vl_val rfl (.some rfl) (val_move rfl) ?_
          refine vl_nil ?_
          first
            | exact ⟨l.length - (i + 1), _, _, _, by omega, (by repeat (first | exact trivial | refine ⟨rfl, ?_⟩ | refine ⟨le_item rfl (by first | rfl | (congr 1; omega) | (simp; done) | (simp; omega)), ?_⟩)), (by repeat constructor), ⟨i + 1, A27, c27, by omega, rfl, rfl, rfl⟩⟩
            | exact ⟨l.length - (i + 1), _, _, _, by omega, (by repeat (first | exact trivial | refine ⟨rfl, ?_⟩ | refine ⟨le_item rfl (by first | rfl | (congr 1; omega) | (simp; done) | (simp; omega)), ?_⟩)), (by repeat constructor), ⟨i + 1, A47, k47, by omega, rfl, rfl, rfl⟩⟩
            | exact ⟨l.length - (i + 1), _, _, _, by omega, (by repeat (first | exact trivial | refine ⟨rfl, ?_⟩ | refine ⟨le_item rfl (by first | rfl | (congr 1; omega) | (simp; done) | (simp; omega)), ?_⟩)), (by repeat constructor), ⟨i + 1, A34, c34, by omega, rfl, rfl, rfl⟩⟩
    · (try replace hc1 := of_decide_eq_false hc1)
      obtain ⟨p, hpe⟩ : ∃ p, l.getD i z3 = p := ⟨_, rfl⟩
      have hpc : clean (l.getD i z3) = p := by unfold clean; rw [if_pos (by simpa using hc1), hpe]
      have hpn : -9223372036854775808 ≤ p.n ∧ p.n < 9223372036854775808 := by rw [← hpe]; exact hwi
      rw [hpe]
      have hgp : goodV p = true := by rw [← hpc]; exact clean_good _
      have hrg := good_rng hgp
      have hst := outV_step hi8 hpc
      refine vc_skip ?_
      refine vc_seq ?_
      refine vc_region ?_
      refine vl_val rfl (.some rfl) (val_move rfl) ?_
      refine vl_val rfl (.some rfl) (by first | exact val_fieldAddr Try.runUnderlying107 rfl Try.sizeOf3 rfl | exact val_fieldAddrR Try.runUnderlying107 rfl Try.sizeOf3 rfl) ?_
      refine vl_val rfl (.some rfl) (val_load Try.isAgg3 rfl (by first | exact cell_cells (by repeat constructor) rfl | exact cell_rd (by first | exact rd_sl (by repeat constructor) | exact rd_old (by assumption) rfl) (by first | exact bcells_at (by omega) | exact ucells_at (by omega) | exact icells_at (by omega) | exact tcells_at (by omega) | exact bcells_get (by omega) | exact icells_get (by omega) | exact tcells_get (by omega) | exact ucells_get (by omega)) | exact cell_old (by assumption) (by simp [fps]))) ?_
      refine vl_val rfl (.some rfl) (val_convInt Try.runUnderlying3 Try.runUnderlying23 rfl (show _ = ((p.k.toNat : Nat) : Int) by rw [w_u64 (by omega) (by omega)]; omega)) ?_
      have hkl := putN_len p.k.toNat
      have hsl := putN_len p.s.size
      have hzl := putN_len (zigS p.n)
      have hol2 : (outV l i ++ putN p.k.toNat).length ≤ 20 + 100 * i := by rw [List.length_append]; omega
      refine vl_call (C := []) rfl rfl (.some rfl) Try.call52 rfl .nil (fun w hw => cPut A3 c3 (outV l i) (p.k.toNat) (by omega) (by omega) w (rdw (rd_sl (by repeat constructor)) hw)) (fun v H' h => ?_)
      obtain ⟨A27, c27, rfl, rfl⟩ := h
      show VL _ _ _ _ _ (_ :: _)
      refine vl_val rfl (.some rfl) (val_assign rfl) ?_
      refine vl_nil ?_
      refine vc_seq ?_
      refine vc_region ?_
      refine vl_val rfl (.some rfl) (val_loadAgg Try.isAgg107 Try.sizeOf107 rfl (by first | exact cells_whole (by repeat constructor) | exact cells_part (by repeat constructor) rfl) rfl) ?_
      refine vl_callV rfl rfl (.some rfl) Try.call143 rfl (fun w hw => vOf p w) ?_
      refine vl_nil ?_
      refine vc_block ?_
      refine vc_seq ?_
      refine vc_region ?_
      refine vl_val rfl (.some rfl) (asks 196 0 (.agg #[]) (.agg #[]) Try.runUnderlying196 rfl Try.zeroValue196 rfl (fun h => by unfold ofV; rw [h]; simp) (other _ _ (fun k hk => ⟨fun h => by first | decide | omega, fun h => by first | decide | omega, fun h => by first | decide | omega, fun h => by first | decide | omega, fun h => by first | decide | omega⟩))) ?_
      refine vl_val rfl (.some rfl) (val_extract rfl rfl) ?_
      refine vl_val rfl (.some rfl) (val_extract rfl rfl) ?_
      refine vl_nil ?_
      refine vc_cond rfl (fun hc2 => ?_) (fun hc2 => ?_)
      · (try replace hc2 := of_decide_eq_true hc2)
        rw [if_pos hc2, show outV l i ++ putN p.k.toNat = outV l (i + 1) by rw [hst]; unfold putV; rw [if_pos hc2, List.append_nil]]
        refine vc_region ?_
        refine vl_alloc rfl rfl (.some rfl) Try.zeroValue196 (fun r6 => ?_)
        first | refine vl_store rfl rfl .none rfl rfl Try.sizeOf196 rfl (by repeat constructor) (by first | decide | exact Nat.le_refl _ | exact Nat.le_of_ble_eq_true rfl | (simp; omega)) ?_ | refine vl_storeSl rfl rfl .none rfl rfl Try.sizeOf196 rfl (by simp [Value.cells]) (by repeat constructor) (by first | decide | (simp [Value.cells]; omega)) ?_
        refine vl_nil ?_
        refine vc_region ?_
        refine vl_val rfl (.some rfl) (val_add rfl rfl (by first | exact w_i64 (by omega) (by omega) | rfl)) ?_
        refine vl_val rfl (.some rfl) (val_move rfl) ?_
        refine vl_nil ?_
        first
          | exact ⟨l.length - (i + 1), _, _, _, by omega, (by repeat (first | exact trivial | refine ⟨rfl, ?_⟩ | refine ⟨le_item rfl (by first | rfl | (congr 1; omega) | (simp; done) | (simp; omega)), ?_⟩)), (by repeat constructor), ⟨i + 1, A27, c27, by omega, rfl, rfl, rfl⟩⟩
          | exact ⟨l.length - (i + 1), _, _, _, by omega, (by repeat (first | exact trivial | refine ⟨rfl, ?_⟩ | refine ⟨le_item rfl (by first | rfl | (congr 1; omega) | (simp; done) | (simp; omega)), ?_⟩)), (by repeat constructor), ⟨i + 1, A47, k47, by omega, rfl, rfl, rfl⟩⟩
          | exact ⟨l.length - (i + 1), _, _, _, by omega, (by repeat (first | exact trivial | refine ⟨rfl, ?_⟩ | refine ⟨le_item rfl (by first | rfl | (congr 1; omega) | (simp; done) | (simp; omega)), ?_⟩)), (by repeat constructor), ⟨i + 1, A34, c34, by omega, rfl, rfl, rfl⟩⟩
      · (try replace hc2 := of_decide_eq_false hc2)
        refine vc_seq ?_
        refine vc_region ?_
        refine vl_val rfl (.some rfl) (asks 199 3 (.string ⟨#[]⟩) (.string p.s) Try.runUnderlying199 rfl Try.zeroValue199 rfl (fun h => by unfold ofV; rw [h]; simp) (other _ _ (fun k hk => ⟨fun h => by first | decide | omega, fun h => by first | decide | omega, fun h => by first | decide | omega, fun h => by first | decide | omega, fun h => by first | decide | omega⟩))) ?_
        refine vl_val rfl (.some rfl) (val_extract rfl rfl) ?_
        refine vl_val rfl (.some rfl) (val_extract rfl rfl) ?_
        refine vl_nil ?_
        refine vc_cond rfl (fun hc3 => ?_) (fun hc3 => ?_)
        · (try replace hc3 := of_decide_eq_true hc3)
          rw [if_pos hc3]
          refine vc_seq ?_
          refine vc_region ?_
          refine vl_val rfl (.some rfl) (val_assign rfl) ?_
          refine vl_nil ?_
          refine vc_region ?_
          refine vl_val rfl (.some rfl) (val_move rfl) ?_
          refine vl_val rfl (.some rfl) (val_move rfl) ?_
          refine vl_val rfl (.some rfl) (val_lenStr Try.runUnderlying199 rfl) ?_
          refine vl_val rfl (.some rfl) (val_convInt Try.runUnderlying3 Try.runUnderlying23 rfl (by first | exact w_u64 (by omega) (by omega) | rfl)) ?_
          refine vl_call (C := []) rfl rfl (.some rfl) Try.call52 rfl .nil (fun w hw => cPut A27 c27 (outV l i ++ putN p.k.toNat) (p.s.size) (by have := hrg.2.2 hc3; omega) (by omega) w (rdw (rd_sl (by repeat constructor)) hw)) (fun v H' h => ?_)
          obtain ⟨A45, c45, rfl, rfl⟩ := h
          show VL _ _ _ _ _ (_ :: _)
          refine vl_val rfl (.some rfl) (val_move rfl) ?_
          refine vl_appendStr sT22 Try.underlying199 rfl rfl (.some rfl) rfl rfl (by rw [List.length_append]; have := hrg.2.2 hc3; omega) (by repeat constructor) (fun A47 k47 => ?_)
          rw [strc, show (outV l i ++ putN p.k.toNat ++ putN p.s.size).length + p.s.size = (outV l i ++ putN p.k.toNat ++ putN p.s.size ++ p.s.data.toList).length by rw [List.length_append (bs := p.s.data.toList), size_data], show outV l i ++ putN p.k.toNat ++ putN p.s.size ++ p.s.data.toList = outV l (i + 1) by rw [hst]; unfold putV; rw [if_neg hc2, if_pos hc3]; simp]
          refine vl_val rfl (.some rfl) (val_assign rfl) ?_
          refine vl_nil ?_
          refine vc_region ?_
          refine vl_val rfl (.some rfl) (val_add rfl rfl (by first | exact w_i64 (by omega) (by omega) | rfl)) ?_
          refine vl_val rfl (.some rfl) (val_move rfl) ?_
          refine vl_nil ?_
          first
            | exact ⟨l.length - (i + 1), _, _, _, by omega, (by repeat (first | exact trivial | refine ⟨rfl, ?_⟩ | refine ⟨le_item rfl (by first | rfl | (congr 1; omega) | (simp; done) | (simp; omega)), ?_⟩)), (by repeat constructor), ⟨i + 1, A27, c27, by omega, rfl, rfl, rfl⟩⟩
            | exact ⟨l.length - (i + 1), _, _, _, by omega, (by repeat (first | exact trivial | refine ⟨rfl, ?_⟩ | refine ⟨le_item rfl (by first | rfl | (congr 1; omega) | (simp; done) | (simp; omega)), ?_⟩)), (by repeat constructor), ⟨i + 1, A47, k47, by omega, rfl, rfl, rfl⟩⟩
            | exact ⟨l.length - (i + 1), _, _, _, by omega, (by repeat (first | exact trivial | refine ⟨rfl, ?_⟩ | refine ⟨le_item rfl (by first | rfl | (congr 1; omega) | (simp; done) | (simp; omega)), ?_⟩)), (by repeat constructor), ⟨i + 1, A34, c34, by omega, rfl, rfl, rfl⟩⟩
        · (try replace hc3 := of_decide_eq_false hc3)
          refine vc_seq ?_
          refine vc_region ?_
          refine vl_val rfl (.some rfl) (val_assign rfl) ?_
          refine vl_nil ?_
          refine vc_region ?_
          refine vl_val rfl (.some rfl) (val_move rfl) ?_
          refine vl_val rfl (.some rfl) (by first | exact val_fieldAddr Try.runUnderlying107 rfl Try.sizeOf3 rfl | exact val_fieldAddrR Try.runUnderlying107 rfl Try.sizeOf3 rfl) ?_
          refine vl_val rfl (.some rfl) (val_load Try.isAgg3 rfl (by first | exact cell_cells (by repeat constructor) rfl | exact cell_rd (by first | exact rd_sl (by repeat constructor) | exact rd_old (by assumption) rfl) (by first | exact bcells_at (by omega) | exact ucells_at (by omega) | exact icells_at (by omega) | exact tcells_at (by omega) | exact bcells_get (by omega) | exact icells_get (by omega) | exact tcells_get (by omega) | exact ucells_get (by omega)) | exact cell_old (by assumption) (by simp [fps]))) ?_
          refine vl_callV rfl rfl (.some rfl) Try.call183 rfl (fun w hw => cZig _ (by omega) (by omega) w) ?_
          refine vl_call (C := []) rfl rfl (.some rfl) Try.call52 rfl .nil (fun w hw => cPut A27 c27 (outV l i ++ putN p.k.toNat) (zigS p.n) (zigS_lt hpn.1 hpn.2) (by omega) w (rdw (rd_sl (by repeat constructor)) hw)) (fun v H' h => ?_)
          obtain ⟨A34, c34, rfl, rfl⟩ := h
          show VL _ _ _ _ _ (_ :: _)
          rw [show outV l i ++ putN p.k.toNat ++ putN (zigS p.n) = outV l (i + 1) by rw [hst]; unfold putV; rw [if_neg hc2, if_neg hc3, List.append_assoc]]
          refine vl_val rfl (.some rfl) (val_assign rfl) ?_
          refine vl_nil ?_
          refine vc_region ?_
          refine vl_val rfl (.some rfl) (val_add rfl rfl (by first | exact w_i64 (by omega) (by omega) | rfl)) ?_
          refine vl_val rfl (.some rfl) (val_move rfl) ?_
          refine vl_nil ?_
          first
            | exact ⟨l.length - (i + 1), _, _, _, by omega, (by repeat (first | exact trivial | refine ⟨rfl, ?_⟩ | refine ⟨le_item rfl (by first | rfl | (congr 1; omega) | (simp; done) | (simp; omega)), ?_⟩)), (by repeat constructor), ⟨i + 1, A27, c27, by omega, rfl, rfl, rfl⟩⟩
            | exact ⟨l.length - (i + 1), _, _, _, by omega, (by repeat (first | exact trivial | refine ⟨rfl, ?_⟩ | refine ⟨le_item rfl (by first | rfl | (congr 1; omega) | (simp; done) | (simp; omega)), ?_⟩)), (by repeat constructor), ⟨i + 1, A47, k47, by omega, rfl, rfl, rfl⟩⟩
            | exact ⟨l.length - (i + 1), _, _, _, by omega, (by repeat (first | exact trivial | refine ⟨rfl, ?_⟩ | refine ⟨le_item rfl (by first | rfl | (congr 1; omega) | (simp; done) | (simp; omega)), ?_⟩)), (by repeat constructor), ⟨i + 1, A34, c34, by omega, rfl, rfl, rfl⟩⟩
  · (try replace hc0 := of_decide_eq_false hc0)
    obtain rfl : i = l.length := by omega
    rw [outV_all]
    refine vc_exit ?_
    refine vc_seq ?_
    refine vc_region ?_
    refine vl_val rfl (.some rfl) (val_move rfl) ?_
    refine vl_val rfl (.some rfl) (val_assign rfl) ?_
    refine vl_nil ?_
    refine vc_ret ?_
    refine ⟨_, [BY A3 (encV l).length c3 (encV l)], _, res1 Try.results182 rfl, (by repeat constructor), ?_⟩
    exact ⟨A3, c3, rfl, rfl⟩




set_option maxRecDepth 20000 in
set_option maxHeartbeats 1000000 in
theorem xBytes (A : Option Addr) (c : Nat) (l : List Vk) (hl : l.length ≤ 1000000) (hwv : ∀ p ∈ l, WV p) (w : World) (hr : Reads w A (flat l)) : Fn Try.prog 105 [.slice A l.length c] [] (ret fun v H' => ∃ A' c', v = .slice A' (encV l).length c' ∧ H' = [BY A' (encV l).length c' (encV l)]) w := by
  refine fn_enter Try.func105 rfl Try.ntmps105 rfl ?_
  refine vc_seq ?_
  refine vc_region ?_
  refine vl_val rfl (.some rfl) (val_assign rfl) ?_
  refine vl_nil ?_
  refine vc_seq ?_
  refine vc_region ?_
  refine vl_val rfl (.some rfl) (val_move rfl) ?_
  refine vl_val rfl (.some rfl) (val_lenSl Try.runUnderlying105 rfl) ?_
  refine vl_val rfl (.some rfl) (val_convInt Try.runUnderlying3 Try.runUnderlying23 rfl (by first | exact w_u64 (by omega) (by omega) | rfl)) ?_
  refine vl_call (C := []) rfl rfl (.some rfl) Try.call54 rfl .nil (fun w hw => rPut none 0 [] l.length (by omega) (by decide) w (rdw (by first | exact rd_sl (by repeat constructor) | exact rd_slr (by repeat constructor) | exact rd_old (by assumption) rfl | exact rd_slq (by repeat constructor) | exact rd_nil) hw)) (fun v H' h => ?_)
  obtain ⟨A9, c9, rfl, rfl⟩ := h
  rw [List.nil_append]
  show VL _ _ _ _ _ (_ :: _)
  refine vl_val rfl (.some rfl) (val_assign rfl) ?_
  refine vl_nil ?_
  refine vc_seq ?_
  refine vc_seq ?_
  refine vc_region ?_
  refine vl_val rfl (.some rfl) (val_move rfl) ?_
  refine vl_val rfl (.some rfl) (val_lenSl Try.runUnderlying105 rfl) ?_
  refine vl_val rfl (.some rfl) (val_move rfl) ?_
  refine vl_nil ?_
  refine vc_block ?_
  rw [show putN l.length = outV l 0 by unfold outV; simp]
  refine vc_loopw (fun k E H => ∃ (i : Nat) (A3 : Option Addr) (c3 : Nat), i ≤ l.length ∧ k = l.length - i ∧ E = [(3, .slice A3 (outV l i).length c3), (10, .slice A l.length c), (11, .int .i64 l.length), (12, .int .i64 i)] ∧ H = [BY A3 (outV l i).length c3 (outV l i)]) (l.length) ⟨_, _, _, ⟨0, A9, c9, by omega, rfl, rfl, rfl⟩, (by repeat (first | exact trivial | refine ⟨rfl, ?_⟩ | refine ⟨le_item rfl (by first | rfl | (congr 1; omega) | (simp; done) | (simp; omega)), ?_⟩)), (by repeat constructor)⟩ ?_
  intro k E H hI
  obtain ⟨i, A3, c3, hil, rfl, rfl, rfl⟩ := hI
  refine vc_seq ?_
  refine vc_region ?_
  refine vl_val rfl (.some rfl) (val_lt rfl rfl) ?_
  refine vl_nil ?_
  refine vc_seq ?_
  refine vc_cond rfl (fun hc0 => ?_) (fun hc0 => ?_)
  · (try replace hc0 := of_decide_eq_true hc0)
    have hi8 : i < l.length := by omega
    have hat := flat_at l i hi8
    have hwi := hwv _ (getD_mem z3 hi8)
    have hol := outV_len l i (by omega)
    refine vc_skip ?_
    refine vc_seq ?_
    refine vc_block ?_
    refine vc_seq ?_
    refine vc_region ?_
    refine vl_val rfl (.some rfl) (val_indexAddr Try.runUnderlying105 Try.sizeOf107 rfl rfl (rd_old hr rfl) (by omega) (by omega) (by rw [vflat_len]; omega)) ?_
    refine vl_val rfl (.some rfl) (val_loadAgg Try.isAgg107 Try.sizeOf107 rfl (cells_rd (us := [.int .i64 (l.getD i z3).k, .int .i64 (l.getD i z3).n, .string (l.getD i z3).s]) (rd_old hr rfl) (by rw [Int.toNat_natCast]; exact hat)) rfl) ?_
    refine vl_alloc rfl rfl (.some rfl) Try.zeroValue107 (fun r5 => ?_)
    first | refine vl_store rfl rfl .none rfl rfl Try.sizeOf107 rfl (by repeat constructor) (by first | decide | exact Nat.le_refl _ | exact Nat.le_of_ble_eq_true rfl | (simp; omega)) ?_ | refine vl_storeSl rfl rfl .none rfl rfl Try.sizeOf107 rfl (by simp [Value.cells]) (by repeat constructor) (by first | decide | (simp [Value.cells]; omega)) ?_
    refine vl_nil ?_
    refine vc_seq ?_
    refine vc_seq ?_
    refine vc_region ?_
    refine vl_val rfl (.some rfl) (val_loadAgg Try.isAgg107 Try.sizeOf107 rfl (by first | exact cells_whole (by repeat constructor) | exact cells_part (by repeat constructor) rfl) rfl) ?_
    refine vl_callV rfl rfl (.some rfl) Try.call68 rfl (fun w hw => xGood (l.getD i z3) hwi.1 hwi.2 w) ?_
    refine vl_val rfl (.some rfl) (val_not rfl) ?_
    refine vl_nil ?_
    refine vc_cond rfl (fun hc1 => ?_) (fun hc1 => ?_)
    · (try replace hc1 := of_decide_eq_true hc1)
      let p : Vk := z3
      have hpc : clean (l.getD i z3) = p := by unfold clean; rw [if_neg (by simpa using hc1)]
      have hpn : -9223372036854775808 ≤ p.n ∧ p.n < 9223372036854775808 := by decide
      have hpk0 : p.k = 0 := rfl
      have hgp : goodV p = true := by rw [← hpc]; exact clean_good _
      have hrg := good_rng hgp
      have hst := outV_step hi8 hpc
      refine vc_region ?_
      refine vl_val rfl (.some rfl) (val_buildSt (pl := #[(0, 1), (1, 1), (2, 1)]) (cs := #[.int .i64 0, .int .i64 0, .string ⟨#[]⟩]) Try.runUnderlying107 Try.zeroValue107 (fun w => by kernel_rfl) rfl rfl) ?_
      first | refine vl_store rfl rfl .none rfl rfl Try.sizeOf107 rfl (by repeat constructor) (by first | decide | exact Nat.le_refl _ | exact Nat.le_of_ble_eq_true rfl | (simp; omega)) ?_ | refine vl_storeSl rfl rfl .none rfl rfl Try.sizeOf107 rfl (by simp [Value.cells]) (by repeat constructor) (by first | decide | (simp [Value.cells]; omega)) ?_
      refine vl_nil ?_
      refine vc_seq ?_
      refine vc_region ?_
      refine vl_val rfl (.some rfl) (val_move rfl) ?_
      refine vl_val rfl (.some rfl) (by first | exact val_fieldAddr Try.runUnderlying107 rfl Try.sizeOf3 rfl | exact val_fieldAddrR Try.runUnderlying107 rfl Try.sizeOf3 rfl) ?_
      refine vl_val rfl (.some rfl) (val_load Try.isAgg3 rfl (by first | exact cell_cells (by repeat constructor) rfl | exact cell_rd (by first | exact rd_sl (by repeat constructor) | exact rd_old (by assumption) rfl) (by first | exact bcells_at (by omega) | exact ucells_at (by omega) | exact icells_at (by omega) | exact tcells_at (by omega) | exact bcells_get (by omega) | exact icells_get (by omega) | exact tcells_get (by omega) | exact ucells_get (by omega)) | exact cell_old (by assumption) (by simp [fps]))) ?_
      refine vl_val rfl (.some rfl) (val_convInt Try.runUnderlying3 Try.runUnderlying23 rfl (show _ = ((p.k.toNat : Nat) : Int) by rw [w_u64 (by omega) (by omega)]; omega)) ?_
      have hkl := putN_len p.k.toNat
      have hsl := putN_len p.s.size
      have hzl := putN_len (zigS p.n)
      have hol2 : (outV l i ++ putN p.k.toNat).length ≤ 20 + 100 * i := by rw [List.length_append]; omega
      refine vl_call (C := []) rfl rfl (.some rfl) Try.call54 rfl .nil (fun w hw => rPut A3 c3 (outV l i) (p.k.toNat) (by omega) (by omega) w (rdw (rd_sl (by repeat constructor)) hw)) (fun v H' h => ?_)
      obtain ⟨A27, c27, rfl, rfl⟩ := h
      show VL _ _ _ _ _ (_ :: _)
      refine vl_val rfl (.some rfl) (val_assign rfl) ?_
      refine vl_nil ?_
      refine vc_seq ?_
      refine vc_region ?_
      refine vl_val rfl (.some rfl) (by first | exact val_fieldAddr Try.runUnderlying107 rfl Try.sizeOf3 rfl | exact val_fieldAddrR Try.runUnderlying107 rfl Try.sizeOf3 rfl) ?_
      refine vl_val rfl (.some rfl) (val_load Try.isAgg3 rfl (by first | exact cell_cells (by repeat constructor) rfl | exact cell_rd (by first | exact rd_sl (by repeat constructor) | exact rd_old (by assumption) rfl) (by first | exact bcells_at (by omega) | exact ucells_at (by omega) | exact icells_at (by omega) | exact tcells_at (by omega) | exact bcells_get (by omega) | exact icells_get (by omega) | exact tcells_get (by omega) | exact ucells_get (by omega)) | exact cell_old (by assumption) (by simp [fps]))) ?_
      refine vl_nil ?_
      refine vc_block ?_
      refine vc_seq ?_
      refine vc_seq ?_
      refine vc_region ?_
      refine vl_val rfl (.some rfl) (val_eq rfl rfl) ?_
      refine vl_val rfl (.some rfl) (val_assign rfl) ?_
      refine vl_nil ?_
      refine vc_cond rfl (fun hc2 => ?_) (fun hc2 => ?_)
      · (try replace hc2 := of_decide_eq_true hc2)
        refine vc_skip ?_
        refine vc_cond rfl (fun _ => ?_) (fun h => absurd hc2 (of_decide_eq_false h))
        refine vc_region ?_
        refine vl_val rfl (.some rfl) (val_move rfl) ?_
        refine vl_val rfl (.some rfl) (by first | exact val_fieldAddr Try.runUnderlying107 rfl Try.sizeOf3 rfl | exact val_fieldAddrR Try.runUnderlying107 rfl Try.sizeOf3 rfl) ?_
        refine vl_val rfl (.some rfl) (val_load Try.isAgg3 rfl (by first | exact cell_cells (by repeat constructor) rfl | exact cell_rd (by first | exact rd_sl (by repeat constructor) | exact rd_old (by assumption) rfl) (by first | exact bcells_at (by omega) | exact ucells_at (by omega) | exact icells_at (by omega) | exact tcells_at (by omega) | exact bcells_get (by omega) | exact icells_get (by omega) | exact tcells_get (by omega) | exact ucells_get (by omega)) | exact cell_old (by assumption) (by simp [fps]))) ?_
        refine vl_callV rfl rfl (.some rfl) Try.call125 rfl (fun w hw => rZig _ (by omega) (by omega) w) ?_
        refine vl_call (C := []) rfl rfl (.some rfl) Try.call54 rfl .nil (fun w hw => rPut A27 c27 (outV l i ++ putN p.k.toNat) (zigS p.n) (zigS_lt hpn.1 hpn.2) (by omega) w (rdw (rd_sl (by repeat constructor)) hw)) (fun v H' h => ?_)
        obtain ⟨A34, c34, rfl, rfl⟩ := h
        show VL _ _ _ _ _ (_ :: _)
        rw [show outV l i ++ putN p.k.toNat ++ putN (zigS p.n) = outV l (i + 1) by rw [hst]; unfold putV; rw [if_neg (by omega), if_neg (by omega), List.append_assoc]]
        refine vl_val rfl (.some rfl) (val_assign rfl) ?_
        refine vl_nil ?_
        refine vc_region ?_
        refine vl_val rfl (.some rfl) (val_add rfl rfl (by first | exact w_i64 (by omega) (by omega) | rfl)) ?_
        refine vl_val rfl (.some rfl) (val_move rfl) ?_
        refine vl_nil ?_
        first
          | exact ⟨l.length - (i + 1), _, _, _, by omega, (by repeat (first | exact trivial | refine ⟨rfl, ?_⟩ | refine ⟨le_item rfl (by first | rfl | (congr 1; omega) | (simp; done) | (simp; omega)), ?_⟩)), (by repeat constructor), ⟨i + 1, A27, c27, by omega, rfl, rfl, rfl⟩⟩
          | exact ⟨l.length - (i + 1), _, _, _, by omega, (by repeat (first | exact trivial | refine ⟨rfl, ?_⟩ | refine ⟨le_item rfl (by first | rfl | (congr 1; omega) | (simp; done) | (simp; omega)), ?_⟩)), (by repeat constructor), ⟨i + 1, A47, k47, by omega, rfl, rfl, rfl⟩⟩
          | exact ⟨l.length - (i + 1), _, _, _, by omega, (by repeat (first | exact trivial | refine ⟨rfl, ?_⟩ | refine ⟨le_item rfl (by first | rfl | (congr 1; omega) | (simp; done) | (simp; omega)), ?_⟩)), (by repeat constructor), ⟨i + 1, A34, c34, by omega, rfl, rfl, rfl⟩⟩
      · (try replace hc2 := of_decide_eq_false hc2)
        refine vc_seq ?_
        refine vc_region ?_
        refine vl_val rfl (.some rfl) (val_eq rfl rfl) ?_
        refine vl_val rfl (.some rfl) (val_assign rfl) ?_
        refine vl_nil ?_
        refine vc_cond rfl (fun hc3 => ?_) (fun hc3 => ?_)
        · (try replace hc3 := of_decide_eq_true hc3)
          refine vc_skip ?_
          refine vc_cond rfl (fun _ => ?_) (fun h => absurd hc3 (of_decide_eq_false h))
          refine vc_region ?_
          refine vl_val rfl (.some rfl) (val_move rfl) ?_
          refine vl_val rfl (.some rfl) (by first | exact val_fieldAddr Try.runUnderlying107 rfl Try.sizeOf3 rfl | exact val_fieldAddrR Try.runUnderlying107 rfl Try.sizeOf3 rfl) ?_
          refine vl_val rfl (.some rfl) (val_load Try.isAgg3 rfl (by first | exact cell_cells (by repeat constructor) rfl | exact cell_rd (by first | exact rd_sl (by repeat constructor) | exact rd_old (by assumption) rfl) (by first | exact bcells_at (by omega) | exact ucells_at (by omega) | exact icells_at (by omega) | exact tcells_at (by omega) | exact bcells_get (by omega) | exact icells_get (by omega) | exact tcells_get (by omega) | exact ucells_get (by omega)) | exact cell_old (by assumption) (by simp [fps]))) ?_
          refine vl_callV rfl rfl (.some rfl) Try.call125 rfl (fun w hw => rZig _ (by omega) (by omega) w) ?_
          refine vl_call (C := []) rfl rfl (.some rfl) Try.call54 rfl .nil (fun w hw => rPut A27 c27 (outV l i ++ putN p.k.toNat) (zigS p.n) (zigS_lt hpn.1 hpn.2) (by omega) w (rdw (rd_sl (by repeat constructor)) hw)) (fun v H' h => ?_)
          obtain ⟨A34, c34, rfl, rfl⟩ := h
          show VL _ _ _ _ _ (_ :: _)
          rw [show outV l i ++ putN p.k.toNat ++ putN (zigS p.n) = outV l (i + 1) by rw [hst]; unfold putV; rw [if_neg (by omega), if_neg (by omega), List.append_assoc]]
          refine vl_val rfl (.some rfl) (val_assign rfl) ?_
          refine vl_nil ?_
          refine vc_region ?_
          refine vl_val rfl (.some rfl) (val_add rfl rfl (by first | exact w_i64 (by omega) (by omega) | rfl)) ?_
          refine vl_val rfl (.some rfl) (val_move rfl) ?_
          refine vl_nil ?_
          first
            | exact ⟨l.length - (i + 1), _, _, _, by omega, (by repeat (first | exact trivial | refine ⟨rfl, ?_⟩ | refine ⟨le_item rfl (by first | rfl | (congr 1; omega) | (simp; done) | (simp; omega)), ?_⟩)), (by repeat constructor), ⟨i + 1, A27, c27, by omega, rfl, rfl, rfl⟩⟩
            | exact ⟨l.length - (i + 1), _, _, _, by omega, (by repeat (first | exact trivial | refine ⟨rfl, ?_⟩ | refine ⟨le_item rfl (by first | rfl | (congr 1; omega) | (simp; done) | (simp; omega)), ?_⟩)), (by repeat constructor), ⟨i + 1, A47, k47, by omega, rfl, rfl, rfl⟩⟩
            | exact ⟨l.length - (i + 1), _, _, _, by omega, (by repeat (first | exact trivial | refine ⟨rfl, ?_⟩ | refine ⟨le_item rfl (by first | rfl | (congr 1; omega) | (simp; done) | (simp; omega)), ?_⟩)), (by repeat constructor), ⟨i + 1, A34, c34, by omega, rfl, rfl, rfl⟩⟩
        · (try replace hc3 := of_decide_eq_false hc3)
          refine vc_region ?_
          refine vl_val rfl (.some rfl) (val_eq rfl rfl) ?_
          refine vl_val rfl (.some rfl) (val_assign rfl) ?_
          refine vl_nil ?_
          refine vc_cond rfl (fun hc4 => ?_) (fun hc4 => ?_)
          · (try replace hc4 := of_decide_eq_true hc4)
            refine vc_region ?_
            refine vl_val rfl (.some rfl) (val_move rfl) ?_
            refine vl_val rfl (.some rfl) (by first | exact val_fieldAddr Try.runUnderlying107 rfl Try.sizeOf3 rfl | exact val_fieldAddrR Try.runUnderlying107 rfl Try.sizeOf3 rfl) ?_
            refine vl_val rfl (.some rfl) (val_load Try.isAgg3 rfl (by first | exact cell_cells (by repeat constructor) rfl | exact cell_rd (by first | exact rd_sl (by repeat constructor) | exact rd_old (by assumption) rfl) (by first | exact bcells_at (by omega) | exact ucells_at (by omega) | exact icells_at (by omega) | exact tcells_at (by omega) | exact bcells_get (by omega) | exact icells_get (by omega) | exact tcells_get (by omega) | exact ucells_get (by omega)) | exact cell_old (by assumption) (by simp [fps]))) ?_
            refine vl_callV rfl rfl (.some rfl) Try.call125 rfl (fun w hw => rZig _ (by omega) (by omega) w) ?_
            refine vl_call (C := []) rfl rfl (.some rfl) Try.call54 rfl .nil (fun w hw => rPut A27 c27 (outV l i ++ putN p.k.toNat) (zigS p.n) (zigS_lt hpn.1 hpn.2) (by omega) w (rdw (rd_sl (by repeat constructor)) hw)) (fun v H' h => ?_)
            obtain ⟨A34, c34, rfl, rfl⟩ := h
            show VL _ _ _ _ _ (_ :: _)
            rw [show outV l i ++ putN p.k.toNat ++ putN (zigS p.n) = outV l (i + 1) by rw [hst]; unfold putV; rw [if_neg (by omega), if_neg (by omega), List.append_assoc]]
            refine vl_val rfl (.some rfl) (val_assign rfl) ?_
            refine vl_nil ?_
            refine vc_region ?_
            refine vl_val rfl (.some rfl) (val_add rfl rfl (by first | exact w_i64 (by omega) (by omega) | rfl)) ?_
            refine vl_val rfl (.some rfl) (val_move rfl) ?_
            refine vl_nil ?_
            first
              | exact ⟨l.length - (i + 1), _, _, _, by omega, (by repeat (first | exact trivial | refine ⟨rfl, ?_⟩ | refine ⟨le_item rfl (by first | rfl | (congr 1; omega) | (simp; done) | (simp; omega)), ?_⟩)), (by repeat constructor), ⟨i + 1, A27, c27, by omega, rfl, rfl, rfl⟩⟩
              | exact ⟨l.length - (i + 1), _, _, _, by omega, (by repeat (first | exact trivial | refine ⟨rfl, ?_⟩ | refine ⟨le_item rfl (by first | rfl | (congr 1; omega) | (simp; done) | (simp; omega)), ?_⟩)), (by repeat constructor), ⟨i + 1, A47, k47, by omega, rfl, rfl, rfl⟩⟩
              | exact ⟨l.length - (i + 1), _, _, _, by omega, (by repeat (first | exact trivial | refine ⟨rfl, ?_⟩ | refine ⟨le_item rfl (by first | rfl | (congr 1; omega) | (simp; done) | (simp; omega)), ?_⟩)), (by repeat constructor), ⟨i + 1, A34, c34, by omega, rfl, rfl, rfl⟩⟩
          · (try replace hc4 := of_decide_eq_false hc4)
            refine vc_seq ?_
            refine vc_region ?_
            refine vl_val rfl (.some rfl) (val_eq rfl rfl) ?_
            refine vl_val rfl (.some rfl) (val_assign rfl) ?_
            refine vl_nil ?_
            refine vc_cond rfl (fun hc5 => ?_) (fun hc5 => ?_)
            · (try replace hc5 := of_decide_eq_true hc5)
              refine vc_draws [0, 1, 2, 3, 4, 6, 7, 9] [] [0, 1, 2, 3, 4, 6, 7, 5, 8, 9] rfl (by kernel_rfl) (fun _ _ _ h => h) ?_
              refine vd_val rfl rfl rfl (.some rfl) (val_move rfl) ?_
              refine vd_val rfl rfl rfl (.some rfl) (by first | exact val_fieldAddr Try.runUnderlying107 rfl Try.sizeOf9 rfl | exact val_fieldAddrR Try.runUnderlying107 rfl Try.sizeOf9 rfl) ?_
              refine vd_val rfl rfl rfl (.some rfl) (val_load Try.isAgg9 rfl (by first | exact cell_cells (by repeat constructor) rfl | exact cell_rd (by first | exact rd_sl (by repeat constructor) | exact rd_old (by assumption) rfl) (by first | exact bcells_at (by omega) | exact ucells_at (by omega) | exact icells_at (by omega) | exact tcells_at (by omega) | exact bcells_get (by omega) | exact icells_get (by omega) | exact tcells_get (by omega) | exact ucells_get (by omega)) | exact cell_old (by assumption) (by simp [fps]))) ?_
              refine vd_val rfl rfl rfl (.some rfl) (val_lenStr Try.runUnderlying9 rfl) ?_
              refine vd_val rfl rfl rfl (.some rfl) (val_convInt Try.runUnderlying3 Try.runUnderlying23 rfl (by first | exact w_u64 (by omega) (by omega) | rfl)) ?_
              refine vd_val rfl rfl rfl (.some rfl) (by first | exact val_fieldAddr Try.runUnderlying107 rfl Try.sizeOf9 rfl | exact val_fieldAddrR Try.runUnderlying107 rfl Try.sizeOf9 rfl) ?_
              refine vd_val rfl rfl rfl (.some rfl) (val_load Try.isAgg9 rfl (by first | exact cell_cells (by repeat constructor) rfl | exact cell_rd (by first | exact rd_sl (by repeat constructor) | exact rd_old (by assumption) rfl) (by first | exact bcells_at (by omega) | exact ucells_at (by omega) | exact icells_at (by omega) | exact tcells_at (by omega) | exact bcells_get (by omega) | exact icells_get (by omega) | exact tcells_get (by omega) | exact ucells_get (by omega)) | exact cell_old (by assumption) (by simp [fps]))) ?_
              refine vd_op rfl rfl ?_
              refine vl_call (C := []) rfl rfl (.some rfl) Try.call54 rfl .nil (fun w hw => rPut A27 c27 (outV l i ++ putN p.k.toNat) (p.s.size) (by have := hrg.2.2 hc5; omega) (by omega) w (rdw (rd_sl (by repeat constructor)) hw)) (fun v H' h => ?_)
              obtain ⟨A45, c45, rfl, rfl⟩ := h
              show VL _ _ _ _ _ (_ :: _)
              refine vl_nil ?_
              refine ⟨fun _ => ⟨_, (by repeat (first | exact .nil | exact sub_self _ | exact sub_skip (sub_self _) | exact sub_skip (sub_skip (sub_self _)) | exact sub_skip (sub_skip (sub_skip (sub_self _))) | (apply Sub.cons; · repeat (first | exact .head | apply Take.tail))))⟩, ?_⟩
              refine vd_op rfl rfl ?_
              refine vl_appendStr sT22 Try.underlying9 rfl rfl (.some rfl) rfl rfl (by rw [List.length_append]; have := hrg.2.2 hc5; omega) (by repeat constructor) (fun A47 k47 => ?_)
              rw [strc, show (outV l i ++ putN p.k.toNat ++ putN p.s.size).length + p.s.size = (outV l i ++ putN p.k.toNat ++ putN p.s.size ++ p.s.data.toList).length by rw [List.length_append (bs := p.s.data.toList), size_data], show outV l i ++ putN p.k.toNat ++ putN p.s.size ++ p.s.data.toList = outV l (i + 1) by rw [hst]; unfold putV; rw [if_neg (by omega), if_pos hc5]; simp]
              refine vl_nil ?_
              refine ⟨fun _ => ⟨_, (by repeat (first | exact .nil | exact sub_self _ | exact sub_skip (sub_self _) | exact sub_skip (sub_skip (sub_self _)) | exact sub_skip (sub_skip (sub_skip (sub_self _))) | (apply Sub.cons; · repeat (first | exact .head | apply Take.tail))))⟩, ?_⟩
              refine vd_val rfl rfl rfl (.some rfl) (val_assign rfl) ?_
              refine vd_nil ?_
              refine vc_region ?_
              refine vl_val rfl (.some rfl) (val_add rfl rfl (by first | exact w_i64 (by omega) (by omega) | rfl)) ?_
              refine vl_val rfl (.some rfl) (val_move rfl) ?_
              refine vl_nil ?_
              first
                | exact ⟨l.length - (i + 1), _, _, _, by omega, (by repeat (first | exact trivial | refine ⟨rfl, ?_⟩ | refine ⟨le_item rfl (by first | rfl | (congr 1; omega) | (simp; done) | (simp; omega)), ?_⟩)), (by repeat constructor), ⟨i + 1, A27, c27, by omega, rfl, rfl, rfl⟩⟩
                | exact ⟨l.length - (i + 1), _, _, _, by omega, (by repeat (first | exact trivial | refine ⟨rfl, ?_⟩ | refine ⟨le_item rfl (by first | rfl | (congr 1; omega) | (simp; done) | (simp; omega)), ?_⟩)), (by repeat constructor), ⟨i + 1, A47, k47, by omega, rfl, rfl, rfl⟩⟩
                | exact ⟨l.length - (i + 1), _, _, _, by omega, (by repeat (first | exact trivial | refine ⟨rfl, ?_⟩ | refine ⟨le_item rfl (by first | rfl | (congr 1; omega) | (simp; done) | (simp; omega)), ?_⟩)), (by repeat constructor), ⟨i + 1, A34, c34, by omega, rfl, rfl, rfl⟩⟩
            · (try replace hc5 := of_decide_eq_false hc5)
              rw [show outV l i ++ putN p.k.toNat = outV l (i + 1) by rw [hst]; unfold putV; rw [if_pos (by omega), List.append_nil]]
              refine vc_skip ?_
              refine vc_region ?_
              refine vl_val rfl (.some rfl) (val_add rfl rfl (by first | exact w_i64 (by omega) (by omega) | rfl)) ?_
              refine vl_val rfl (.some rfl) (val_move rfl) ?_
              refine vl_nil ?_
              first
                | exact ⟨l.length - (i + 1), _, _, _, by omega, (by repeat (first | exact trivial | refine ⟨rfl, ?_⟩ | refine ⟨le_item rfl (by first | rfl | (congr 1; omega) | (simp; done) | (simp; omega)), ?_⟩)), (by repeat constructor), ⟨i + 1, A27, c27, by omega, rfl, rfl, rfl⟩⟩
                | exact ⟨l.length - (i + 1), _, _, _, by omega, (by repeat (first | exact trivial | refine ⟨rfl, ?_⟩ | refine ⟨le_item rfl (by first | rfl | (congr 1; omega) | (simp; done) | (simp; omega)), ?_⟩)), (by repeat constructor), ⟨i + 1, A47, k47, by omega, rfl, rfl, rfl⟩⟩
                | exact ⟨l.length - (i + 1), _, _, _, by omega, (by repeat (first | exact trivial | refine ⟨rfl, ?_⟩ | refine ⟨le_item rfl (by first | rfl | (congr 1; omega) | (simp; done) | (simp; omega)), ?_⟩)), (by repeat constructor), ⟨i + 1, A34, c34, by omega, rfl, rfl, rfl⟩⟩
    · (try replace hc1 := of_decide_eq_false hc1)
      obtain ⟨p, hpe⟩ : ∃ p, l.getD i z3 = p := ⟨_, rfl⟩
      have hpc : clean (l.getD i z3) = p := by unfold clean; rw [if_pos (by simpa using hc1), hpe]
      have hpn : -9223372036854775808 ≤ p.n ∧ p.n < 9223372036854775808 := by rw [← hpe]; exact hwi
      rw [hpe]
      have hgp : goodV p = true := by rw [← hpc]; exact clean_good _
      have hrg := good_rng hgp
      have hst := outV_step hi8 hpc
      refine vc_skip ?_
      refine vc_seq ?_
      refine vc_region ?_
      refine vl_val rfl (.some rfl) (val_move rfl) ?_
      refine vl_val rfl (.some rfl) (by first | exact val_fieldAddr Try.runUnderlying107 rfl Try.sizeOf3 rfl | exact val_fieldAddrR Try.runUnderlying107 rfl Try.sizeOf3 rfl) ?_
      refine vl_val rfl (.some rfl) (val_load Try.isAgg3 rfl (by first | exact cell_cells (by repeat constructor) rfl | exact cell_rd (by first | exact rd_sl (by repeat constructor) | exact rd_old (by assumption) rfl) (by first | exact bcells_at (by omega) | exact ucells_at (by omega) | exact icells_at (by omega) | exact tcells_at (by omega) | exact bcells_get (by omega) | exact icells_get (by omega) | exact tcells_get (by omega) | exact ucells_get (by omega)) | exact cell_old (by assumption) (by simp [fps]))) ?_
      refine vl_val rfl (.some rfl) (val_convInt Try.runUnderlying3 Try.runUnderlying23 rfl (show _ = ((p.k.toNat : Nat) : Int) by rw [w_u64 (by omega) (by omega)]; omega)) ?_
      have hkl := putN_len p.k.toNat
      have hsl := putN_len p.s.size
      have hzl := putN_len (zigS p.n)
      have hol2 : (outV l i ++ putN p.k.toNat).length ≤ 20 + 100 * i := by rw [List.length_append]; omega
      refine vl_call (C := []) rfl rfl (.some rfl) Try.call54 rfl .nil (fun w hw => rPut A3 c3 (outV l i) (p.k.toNat) (by omega) (by omega) w (rdw (rd_sl (by repeat constructor)) hw)) (fun v H' h => ?_)
      obtain ⟨A27, c27, rfl, rfl⟩ := h
      show VL _ _ _ _ _ (_ :: _)
      refine vl_val rfl (.some rfl) (val_assign rfl) ?_
      refine vl_nil ?_
      refine vc_seq ?_
      refine vc_region ?_
      refine vl_val rfl (.some rfl) (by first | exact val_fieldAddr Try.runUnderlying107 rfl Try.sizeOf3 rfl | exact val_fieldAddrR Try.runUnderlying107 rfl Try.sizeOf3 rfl) ?_
      refine vl_val rfl (.some rfl) (val_load Try.isAgg3 rfl (by first | exact cell_cells (by repeat constructor) rfl | exact cell_rd (by first | exact rd_sl (by repeat constructor) | exact rd_old (by assumption) rfl) (by first | exact bcells_at (by omega) | exact ucells_at (by omega) | exact icells_at (by omega) | exact tcells_at (by omega) | exact bcells_get (by omega) | exact icells_get (by omega) | exact tcells_get (by omega) | exact ucells_get (by omega)) | exact cell_old (by assumption) (by simp [fps]))) ?_
      refine vl_nil ?_
      refine vc_block ?_
      refine vc_seq ?_
      refine vc_seq ?_
      refine vc_region ?_
      refine vl_val rfl (.some rfl) (val_eq rfl rfl) ?_
      refine vl_val rfl (.some rfl) (val_assign rfl) ?_
      refine vl_nil ?_
      refine vc_cond rfl (fun hc2 => ?_) (fun hc2 => ?_)
      · (try replace hc2 := of_decide_eq_true hc2)
        refine vc_skip ?_
        refine vc_cond rfl (fun _ => ?_) (fun h => absurd hc2 (of_decide_eq_false h))
        refine vc_region ?_
        refine vl_val rfl (.some rfl) (val_move rfl) ?_
        refine vl_val rfl (.some rfl) (by first | exact val_fieldAddr Try.runUnderlying107 rfl Try.sizeOf3 rfl | exact val_fieldAddrR Try.runUnderlying107 rfl Try.sizeOf3 rfl) ?_
        refine vl_val rfl (.some rfl) (val_load Try.isAgg3 rfl (by first | exact cell_cells (by repeat constructor) rfl | exact cell_rd (by first | exact rd_sl (by repeat constructor) | exact rd_old (by assumption) rfl) (by first | exact bcells_at (by omega) | exact ucells_at (by omega) | exact icells_at (by omega) | exact tcells_at (by omega) | exact bcells_get (by omega) | exact icells_get (by omega) | exact tcells_get (by omega) | exact ucells_get (by omega)) | exact cell_old (by assumption) (by simp [fps]))) ?_
        refine vl_callV rfl rfl (.some rfl) Try.call125 rfl (fun w hw => rZig _ (by omega) (by omega) w) ?_
        refine vl_call (C := []) rfl rfl (.some rfl) Try.call54 rfl .nil (fun w hw => rPut A27 c27 (outV l i ++ putN p.k.toNat) (zigS p.n) (zigS_lt hpn.1 hpn.2) (by omega) w (rdw (rd_sl (by repeat constructor)) hw)) (fun v H' h => ?_)
        obtain ⟨A34, c34, rfl, rfl⟩ := h
        show VL _ _ _ _ _ (_ :: _)
        rw [show outV l i ++ putN p.k.toNat ++ putN (zigS p.n) = outV l (i + 1) by rw [hst]; unfold putV; rw [if_neg (by omega), if_neg (by omega), List.append_assoc]]
        refine vl_val rfl (.some rfl) (val_assign rfl) ?_
        refine vl_nil ?_
        refine vc_region ?_
        refine vl_val rfl (.some rfl) (val_add rfl rfl (by first | exact w_i64 (by omega) (by omega) | rfl)) ?_
        refine vl_val rfl (.some rfl) (val_move rfl) ?_
        refine vl_nil ?_
        first
          | exact ⟨l.length - (i + 1), _, _, _, by omega, (by repeat (first | exact trivial | refine ⟨rfl, ?_⟩ | refine ⟨le_item rfl (by first | rfl | (congr 1; omega) | (simp; done) | (simp; omega)), ?_⟩)), (by repeat constructor), ⟨i + 1, A27, c27, by omega, rfl, rfl, rfl⟩⟩
          | exact ⟨l.length - (i + 1), _, _, _, by omega, (by repeat (first | exact trivial | refine ⟨rfl, ?_⟩ | refine ⟨le_item rfl (by first | rfl | (congr 1; omega) | (simp; done) | (simp; omega)), ?_⟩)), (by repeat constructor), ⟨i + 1, A47, k47, by omega, rfl, rfl, rfl⟩⟩
          | exact ⟨l.length - (i + 1), _, _, _, by omega, (by repeat (first | exact trivial | refine ⟨rfl, ?_⟩ | refine ⟨le_item rfl (by first | rfl | (congr 1; omega) | (simp; done) | (simp; omega)), ?_⟩)), (by repeat constructor), ⟨i + 1, A34, c34, by omega, rfl, rfl, rfl⟩⟩
      · (try replace hc2 := of_decide_eq_false hc2)
        refine vc_seq ?_
        refine vc_region ?_
        refine vl_val rfl (.some rfl) (val_eq rfl rfl) ?_
        refine vl_val rfl (.some rfl) (val_assign rfl) ?_
        refine vl_nil ?_
        refine vc_cond rfl (fun hc3 => ?_) (fun hc3 => ?_)
        · (try replace hc3 := of_decide_eq_true hc3)
          refine vc_skip ?_
          refine vc_cond rfl (fun _ => ?_) (fun h => absurd hc3 (of_decide_eq_false h))
          refine vc_region ?_
          refine vl_val rfl (.some rfl) (val_move rfl) ?_
          refine vl_val rfl (.some rfl) (by first | exact val_fieldAddr Try.runUnderlying107 rfl Try.sizeOf3 rfl | exact val_fieldAddrR Try.runUnderlying107 rfl Try.sizeOf3 rfl) ?_
          refine vl_val rfl (.some rfl) (val_load Try.isAgg3 rfl (by first | exact cell_cells (by repeat constructor) rfl | exact cell_rd (by first | exact rd_sl (by repeat constructor) | exact rd_old (by assumption) rfl) (by first | exact bcells_at (by omega) | exact ucells_at (by omega) | exact icells_at (by omega) | exact tcells_at (by omega) | exact bcells_get (by omega) | exact icells_get (by omega) | exact tcells_get (by omega) | exact ucells_get (by omega)) | exact cell_old (by assumption) (by simp [fps]))) ?_
          refine vl_callV rfl rfl (.some rfl) Try.call125 rfl (fun w hw => rZig _ (by omega) (by omega) w) ?_
          refine vl_call (C := []) rfl rfl (.some rfl) Try.call54 rfl .nil (fun w hw => rPut A27 c27 (outV l i ++ putN p.k.toNat) (zigS p.n) (zigS_lt hpn.1 hpn.2) (by omega) w (rdw (rd_sl (by repeat constructor)) hw)) (fun v H' h => ?_)
          obtain ⟨A34, c34, rfl, rfl⟩ := h
          show VL _ _ _ _ _ (_ :: _)
          rw [show outV l i ++ putN p.k.toNat ++ putN (zigS p.n) = outV l (i + 1) by rw [hst]; unfold putV; rw [if_neg (by omega), if_neg (by omega), List.append_assoc]]
          refine vl_val rfl (.some rfl) (val_assign rfl) ?_
          refine vl_nil ?_
          refine vc_region ?_
          refine vl_val rfl (.some rfl) (val_add rfl rfl (by first | exact w_i64 (by omega) (by omega) | rfl)) ?_
          refine vl_val rfl (.some rfl) (val_move rfl) ?_
          refine vl_nil ?_
          first
            | exact ⟨l.length - (i + 1), _, _, _, by omega, (by repeat (first | exact trivial | refine ⟨rfl, ?_⟩ | refine ⟨le_item rfl (by first | rfl | (congr 1; omega) | (simp; done) | (simp; omega)), ?_⟩)), (by repeat constructor), ⟨i + 1, A27, c27, by omega, rfl, rfl, rfl⟩⟩
            | exact ⟨l.length - (i + 1), _, _, _, by omega, (by repeat (first | exact trivial | refine ⟨rfl, ?_⟩ | refine ⟨le_item rfl (by first | rfl | (congr 1; omega) | (simp; done) | (simp; omega)), ?_⟩)), (by repeat constructor), ⟨i + 1, A47, k47, by omega, rfl, rfl, rfl⟩⟩
            | exact ⟨l.length - (i + 1), _, _, _, by omega, (by repeat (first | exact trivial | refine ⟨rfl, ?_⟩ | refine ⟨le_item rfl (by first | rfl | (congr 1; omega) | (simp; done) | (simp; omega)), ?_⟩)), (by repeat constructor), ⟨i + 1, A34, c34, by omega, rfl, rfl, rfl⟩⟩
        · (try replace hc3 := of_decide_eq_false hc3)
          refine vc_region ?_
          refine vl_val rfl (.some rfl) (val_eq rfl rfl) ?_
          refine vl_val rfl (.some rfl) (val_assign rfl) ?_
          refine vl_nil ?_
          refine vc_cond rfl (fun hc4 => ?_) (fun hc4 => ?_)
          · (try replace hc4 := of_decide_eq_true hc4)
            refine vc_region ?_
            refine vl_val rfl (.some rfl) (val_move rfl) ?_
            refine vl_val rfl (.some rfl) (by first | exact val_fieldAddr Try.runUnderlying107 rfl Try.sizeOf3 rfl | exact val_fieldAddrR Try.runUnderlying107 rfl Try.sizeOf3 rfl) ?_
            refine vl_val rfl (.some rfl) (val_load Try.isAgg3 rfl (by first | exact cell_cells (by repeat constructor) rfl | exact cell_rd (by first | exact rd_sl (by repeat constructor) | exact rd_old (by assumption) rfl) (by first | exact bcells_at (by omega) | exact ucells_at (by omega) | exact icells_at (by omega) | exact tcells_at (by omega) | exact bcells_get (by omega) | exact icells_get (by omega) | exact tcells_get (by omega) | exact ucells_get (by omega)) | exact cell_old (by assumption) (by simp [fps]))) ?_
            refine vl_callV rfl rfl (.some rfl) Try.call125 rfl (fun w hw => rZig _ (by omega) (by omega) w) ?_
            refine vl_call (C := []) rfl rfl (.some rfl) Try.call54 rfl .nil (fun w hw => rPut A27 c27 (outV l i ++ putN p.k.toNat) (zigS p.n) (zigS_lt hpn.1 hpn.2) (by omega) w (rdw (rd_sl (by repeat constructor)) hw)) (fun v H' h => ?_)
            obtain ⟨A34, c34, rfl, rfl⟩ := h
            show VL _ _ _ _ _ (_ :: _)
            rw [show outV l i ++ putN p.k.toNat ++ putN (zigS p.n) = outV l (i + 1) by rw [hst]; unfold putV; rw [if_neg (by omega), if_neg (by omega), List.append_assoc]]
            refine vl_val rfl (.some rfl) (val_assign rfl) ?_
            refine vl_nil ?_
            refine vc_region ?_
            refine vl_val rfl (.some rfl) (val_add rfl rfl (by first | exact w_i64 (by omega) (by omega) | rfl)) ?_
            refine vl_val rfl (.some rfl) (val_move rfl) ?_
            refine vl_nil ?_
            first
              | exact ⟨l.length - (i + 1), _, _, _, by omega, (by repeat (first | exact trivial | refine ⟨rfl, ?_⟩ | refine ⟨le_item rfl (by first | rfl | (congr 1; omega) | (simp; done) | (simp; omega)), ?_⟩)), (by repeat constructor), ⟨i + 1, A27, c27, by omega, rfl, rfl, rfl⟩⟩
              | exact ⟨l.length - (i + 1), _, _, _, by omega, (by repeat (first | exact trivial | refine ⟨rfl, ?_⟩ | refine ⟨le_item rfl (by first | rfl | (congr 1; omega) | (simp; done) | (simp; omega)), ?_⟩)), (by repeat constructor), ⟨i + 1, A47, k47, by omega, rfl, rfl, rfl⟩⟩
              | exact ⟨l.length - (i + 1), _, _, _, by omega, (by repeat (first | exact trivial | refine ⟨rfl, ?_⟩ | refine ⟨le_item rfl (by first | rfl | (congr 1; omega) | (simp; done) | (simp; omega)), ?_⟩)), (by repeat constructor), ⟨i + 1, A34, c34, by omega, rfl, rfl, rfl⟩⟩
          · (try replace hc4 := of_decide_eq_false hc4)
            refine vc_seq ?_
            refine vc_region ?_
            refine vl_val rfl (.some rfl) (val_eq rfl rfl) ?_
            refine vl_val rfl (.some rfl) (val_assign rfl) ?_
            refine vl_nil ?_
            refine vc_cond rfl (fun hc5 => ?_) (fun hc5 => ?_)
            · (try replace hc5 := of_decide_eq_true hc5)
              refine vc_draws [0, 1, 2, 3, 4, 6, 7, 9] [] [0, 1, 2, 3, 4, 6, 7, 5, 8, 9] rfl (by kernel_rfl) (fun _ _ _ h => h) ?_
              refine vd_val rfl rfl rfl (.some rfl) (val_move rfl) ?_
              refine vd_val rfl rfl rfl (.some rfl) (by first | exact val_fieldAddr Try.runUnderlying107 rfl Try.sizeOf9 rfl | exact val_fieldAddrR Try.runUnderlying107 rfl Try.sizeOf9 rfl) ?_
              refine vd_val rfl rfl rfl (.some rfl) (val_load Try.isAgg9 rfl (by first | exact cell_cells (by repeat constructor) rfl | exact cell_rd (by first | exact rd_sl (by repeat constructor) | exact rd_old (by assumption) rfl) (by first | exact bcells_at (by omega) | exact ucells_at (by omega) | exact icells_at (by omega) | exact tcells_at (by omega) | exact bcells_get (by omega) | exact icells_get (by omega) | exact tcells_get (by omega) | exact ucells_get (by omega)) | exact cell_old (by assumption) (by simp [fps]))) ?_
              refine vd_val rfl rfl rfl (.some rfl) (val_lenStr Try.runUnderlying9 rfl) ?_
              refine vd_val rfl rfl rfl (.some rfl) (val_convInt Try.runUnderlying3 Try.runUnderlying23 rfl (by first | exact w_u64 (by omega) (by omega) | rfl)) ?_
              refine vd_val rfl rfl rfl (.some rfl) (by first | exact val_fieldAddr Try.runUnderlying107 rfl Try.sizeOf9 rfl | exact val_fieldAddrR Try.runUnderlying107 rfl Try.sizeOf9 rfl) ?_
              refine vd_val rfl rfl rfl (.some rfl) (val_load Try.isAgg9 rfl (by first | exact cell_cells (by repeat constructor) rfl | exact cell_rd (by first | exact rd_sl (by repeat constructor) | exact rd_old (by assumption) rfl) (by first | exact bcells_at (by omega) | exact ucells_at (by omega) | exact icells_at (by omega) | exact tcells_at (by omega) | exact bcells_get (by omega) | exact icells_get (by omega) | exact tcells_get (by omega) | exact ucells_get (by omega)) | exact cell_old (by assumption) (by simp [fps]))) ?_
              refine vd_op rfl rfl ?_
              refine vl_call (C := []) rfl rfl (.some rfl) Try.call54 rfl .nil (fun w hw => rPut A27 c27 (outV l i ++ putN p.k.toNat) (p.s.size) (by have := hrg.2.2 hc5; omega) (by omega) w (rdw (rd_sl (by repeat constructor)) hw)) (fun v H' h => ?_)
              obtain ⟨A45, c45, rfl, rfl⟩ := h
              show VL _ _ _ _ _ (_ :: _)
              refine vl_nil ?_
              refine ⟨fun _ => ⟨_, (by repeat (first | exact .nil | exact sub_self _ | exact sub_skip (sub_self _) | exact sub_skip (sub_skip (sub_self _)) | exact sub_skip (sub_skip (sub_skip (sub_self _))) | (apply Sub.cons; · repeat (first | exact .head | apply Take.tail))))⟩, ?_⟩
              refine vd_op rfl rfl ?_
              refine vl_appendStr sT22 Try.underlying9 rfl rfl (.some rfl) rfl rfl (by rw [List.length_append]; have := hrg.2.2 hc5; omega) (by repeat constructor) (fun A47 k47 => ?_)
              rw [strc, show (outV l i ++ putN p.k.toNat ++ putN p.s.size).length + p.s.size = (outV l i ++ putN p.k.toNat ++ putN p.s.size ++ p.s.data.toList).length by rw [List.length_append (bs := p.s.data.toList), size_data], show outV l i ++ putN p.k.toNat ++ putN p.s.size ++ p.s.data.toList = outV l (i + 1) by rw [hst]; unfold putV; rw [if_neg (by omega), if_pos hc5]; simp]
              refine vl_nil ?_
              refine ⟨fun _ => ⟨_, (by repeat (first | exact .nil | exact sub_self _ | exact sub_skip (sub_self _) | exact sub_skip (sub_skip (sub_self _)) | exact sub_skip (sub_skip (sub_skip (sub_self _))) | (apply Sub.cons; · repeat (first | exact .head | apply Take.tail))))⟩, ?_⟩
              refine vd_val rfl rfl rfl (.some rfl) (val_assign rfl) ?_
              refine vd_nil ?_
              refine vc_region ?_
              refine vl_val rfl (.some rfl) (val_add rfl rfl (by first | exact w_i64 (by omega) (by omega) | rfl)) ?_
              refine vl_val rfl (.some rfl) (val_move rfl) ?_
              refine vl_nil ?_
              first
                | exact ⟨l.length - (i + 1), _, _, _, by omega, (by repeat (first | exact trivial | refine ⟨rfl, ?_⟩ | refine ⟨le_item rfl (by first | rfl | (congr 1; omega) | (simp; done) | (simp; omega)), ?_⟩)), (by repeat constructor), ⟨i + 1, A27, c27, by omega, rfl, rfl, rfl⟩⟩
                | exact ⟨l.length - (i + 1), _, _, _, by omega, (by repeat (first | exact trivial | refine ⟨rfl, ?_⟩ | refine ⟨le_item rfl (by first | rfl | (congr 1; omega) | (simp; done) | (simp; omega)), ?_⟩)), (by repeat constructor), ⟨i + 1, A47, k47, by omega, rfl, rfl, rfl⟩⟩
                | exact ⟨l.length - (i + 1), _, _, _, by omega, (by repeat (first | exact trivial | refine ⟨rfl, ?_⟩ | refine ⟨le_item rfl (by first | rfl | (congr 1; omega) | (simp; done) | (simp; omega)), ?_⟩)), (by repeat constructor), ⟨i + 1, A34, c34, by omega, rfl, rfl, rfl⟩⟩
            · (try replace hc5 := of_decide_eq_false hc5)
              rw [show outV l i ++ putN p.k.toNat = outV l (i + 1) by rw [hst]; unfold putV; rw [if_pos (by omega), List.append_nil]]
              refine vc_skip ?_
              refine vc_region ?_
              refine vl_val rfl (.some rfl) (val_add rfl rfl (by first | exact w_i64 (by omega) (by omega) | rfl)) ?_
              refine vl_val rfl (.some rfl) (val_move rfl) ?_
              refine vl_nil ?_
              first
                | exact ⟨l.length - (i + 1), _, _, _, by omega, (by repeat (first | exact trivial | refine ⟨rfl, ?_⟩ | refine ⟨le_item rfl (by first | rfl | (congr 1; omega) | (simp; done) | (simp; omega)), ?_⟩)), (by repeat constructor), ⟨i + 1, A27, c27, by omega, rfl, rfl, rfl⟩⟩
                | exact ⟨l.length - (i + 1), _, _, _, by omega, (by repeat (first | exact trivial | refine ⟨rfl, ?_⟩ | refine ⟨le_item rfl (by first | rfl | (congr 1; omega) | (simp; done) | (simp; omega)), ?_⟩)), (by repeat constructor), ⟨i + 1, A47, k47, by omega, rfl, rfl, rfl⟩⟩
                | exact ⟨l.length - (i + 1), _, _, _, by omega, (by repeat (first | exact trivial | refine ⟨rfl, ?_⟩ | refine ⟨le_item rfl (by first | rfl | (congr 1; omega) | (simp; done) | (simp; omega)), ?_⟩)), (by repeat constructor), ⟨i + 1, A34, c34, by omega, rfl, rfl, rfl⟩⟩
  · (try replace hc0 := of_decide_eq_false hc0)
    obtain rfl : i = l.length := by omega
    rw [outV_all]
    refine vc_exit ?_
    refine vc_seq ?_
    refine vc_region ?_
    refine vl_val rfl (.some rfl) (val_move rfl) ?_
    refine vl_val rfl (.some rfl) (val_assign rfl) ?_
    refine vl_nil ?_
    refine vc_ret ?_
    refine ⟨_, [BY A3 (encV l).length c3 (encV l)], _, res1 Try.results105 rfl, (by repeat constructor), ?_⟩
    exact ⟨A3, c3, rfl, rfl⟩




theorem zig_zag (u : Nat) : zigS (zagS u) = u := by unfold zagS zigS; split <;> split <;> omega
def txtV (l : List UInt8) : ByteArray := ⟨l.toArray⟩
theorem txt_size (l : List UInt8) : (txtV l).size = l.length := by simp [txtV, ByteArray.size]
/-- One value out of bytes, and what is left. -/
def oneV (b : List UInt8) : Option (Vk × List UInt8) :=
  if (getN b).2 = 0 then none else
  if (getN b).1 = 0 then some (z3, b.drop (getN b).2) else
  if 4 < (getN b).1 then none else
  if (getN (b.drop (getN b).2)).2 = 0 then none else
  if (getN b).1 = 3 then
    (if 64 < (getN (b.drop (getN b).2)).1 ∨ ((b.drop (getN b).2).drop (getN (b.drop (getN b).2)).2).length < (getN (b.drop (getN b).2)).1 then none
     else some (⟨3, 0, txtV (((b.drop (getN b).2).drop (getN (b.drop (getN b).2)).2).take (getN (b.drop (getN b).2)).1)⟩, ((b.drop (getN b).2).drop (getN (b.drop (getN b).2)).2).drop (getN (b.drop (getN b).2)).1))
  else if goodV ⟨((getN b).1 : Nat), zagS (getN (b.drop (getN b).2)).1, ⟨#[]⟩⟩ = true then some (⟨((getN b).1 : Nat), zagS (getN (b.drop (getN b).2)).1, ⟨#[]⟩⟩, (b.drop (getN b).2).drop (getN (b.drop (getN b).2)).2) else none
def manyV : Nat → Nat → List UInt8 → Option (List Vk)
  | _, 0, b => if b.length = 0 then some [] else none
  | 0, _ + 1, _ => none
  | q + 1, c + 1, b => match oneV b with
    | none => none
    | some (v, r) => (manyV q c r).map (v :: ·)
def loadV (b : List UInt8) : Option (List Vk) := if (getN b).2 = 0 then none else manyV b.length (getN b).1 (b.drop (getN b).2)
theorem good_txt {l : List UInt8} (h : l.length ≤ 64) : goodV ⟨3, 0, txtV l⟩ = true := by
  unfold goodV
  rw [if_neg (show ¬ (3 : Int) = 0 by decide), if_neg (show ¬ (3 : Int) = 1 by decide), if_neg (show ¬ (3 : Int) = 2 by decide), if_pos rfl, txt_size]; simp [h]
theorem one_is {b r : List UInt8} {v : Vk} (h : oneV b = some (v, r)) : r.length < b.length ∧ goodV v = true ∧ b = putV v ++ r := by
  unfold oneV at h
  split at h
  · cases h
  · rename_i h1
    have hb := getN_bd b
    have hp := put_get h1
    split at h
    · rename_i h2
      cases h
      rw [h2] at hp
      refine ⟨by rw [List.length_drop]; omega, by decide, ?_⟩
      show b = (putN 0 ++ []) ++ _
      rw [List.append_nil]; exact hp
    · rename_i h2
      split at h
      · cases h
      · rename_i h3
        split at h
        · cases h
        · rename_i h4
          have hb2 := getN_bd (b.drop (getN b).2)
          have hp2 := put_get h4
          rw [List.length_drop] at hb2
          split at h
          · rename_i h5
            split at h
            · cases h
            · rename_i h6
              rw [List.length_drop, List.length_drop] at h6
              cases h
              have hlen : (((b.drop (getN b).2).drop (getN (b.drop (getN b).2)).2).take (getN (b.drop (getN b).2)).1).length = (getN (b.drop (getN b).2)).1 := by rw [List.length_take, List.length_drop, List.length_drop]; omega
              refine ⟨by rw [List.length_drop, List.length_drop, List.length_drop]; omega, good_txt (by rw [hlen]; omega), ?_⟩
              have hp' : b = putN 3 ++ b.drop (getN b).2 := by rw [h5] at hp; exact hp
              have key : b.drop (getN b).2 = putN (getN (b.drop (getN b).2)).1 ++ (((b.drop (getN b).2).drop (getN (b.drop (getN b).2)).2).take (getN (b.drop (getN b).2)).1 ++ ((b.drop (getN b).2).drop (getN (b.drop (getN b).2)).2).drop (getN (b.drop (getN b).2)).1) := by rw [List.take_append_drop]; exact hp2
              show b = (putN 3 ++ (putN (txtV (((b.drop (getN b).2).drop (getN (b.drop (getN b).2)).2).take (getN (b.drop (getN b).2)).1)).size ++ ((b.drop (getN b).2).drop (getN (b.drop (getN b).2)).2).take (getN (b.drop (getN b).2)).1)) ++ _
              rw [txt_size, hlen, List.append_assoc, List.append_assoc, ← key]
              exact hp'
          · rename_i h5
            split at h
            · rename_i h6
              cases h
              refine ⟨by rw [List.length_drop, List.length_drop]; omega, h6, ?_⟩
              unfold putV
              rw [if_neg (show ¬ (((getN b).1 : Nat) : Int) = 0 by omega), if_neg (show ¬ (((getN b).1 : Nat) : Int) = 3 by omega)]
              show b = (putN (((getN b).1 : Nat) : Int).toNat ++ putN (zigS (zagS _))) ++ _
              rw [zig_zag, Int.toNat_natCast, List.append_assoc, ← hp2]
              exact hp
            · cases h
def InvV (b : List UInt8) (acc : List Vk) (c : Nat) (b2 : List UInt8) : Prop := ∃ q, b2.length ≤ q ∧ (manyV q c b2).map (acc ++ ·) = loadV b
theorem inv_none {b b2 : List UInt8} {acc : List Vk} {c : Nat} (h : InvV b acc (c + 1) b2) (h1 : oneV b2 = none) : loadV b = none := by
  obtain ⟨q, _, e⟩ := h
  rw [← e]
  cases q with
  | zero => rfl
  | succ q => show (match oneV b2 with | none => none | some (v, r) => (manyV q c r).map (v :: ·)).map _ = none; rw [h1]; rfl
theorem inv_step {b b2 r : List UInt8} {acc : List Vk} {c : Nat} {v : Vk} (h : InvV b acc (c + 1) b2) (h1 : oneV b2 = some (v, r)) : InvV b (acc ++ [v]) c r := by
  obtain ⟨q, hq, e⟩ := h
  have hl := (one_is h1).1
  cases q with
  | zero => omega
  | succ q =>
    refine ⟨q, by omega, ?_⟩
    rw [← e]
    show _ = (match oneV b2 with | none => none | some (v, r) => (manyV q c r).map (v :: ·)).map _
    rw [h1]
    show _ = ((manyV q c r).map (v :: ·)).map _
    rw [Option.map_map]
    congr 1
    funext l
    simp
theorem inv_end {b b2 : List UInt8} {acc : List Vk} (h : InvV b acc 0 b2) : loadV b = if b2.length = 0 then some acc else none := by
  obtain ⟨q, _, e⟩ := h
  rw [← e]
  cases q <;> (unfold manyV; split <;> simp)
theorem inv_start {b : List UInt8} (h : (getN b).2 ≠ 0) : InvV b [] (getN b).1 (b.drop (getN b).2) := by
  refine ⟨b.length, by rw [List.length_drop]; omega, ?_⟩
  unfold loadV
  rw [if_neg h]
  simp
def loadL9 (b : List UInt8) : List Vk := (loadV b).getD []
def loadE9 (b : List UInt8) : Int := if (loadV b).isSome then 0 else 8
theorem load9_none {b : List UInt8} (h : loadV b = none) : loadL9 b = [] ∧ loadE9 b = 8 := by unfold loadL9 loadE9; rw [h]; exact ⟨rfl, rfl⟩
theorem load9_some {b : List UInt8} {l : List Vk} (h : loadV b = some l) : loadL9 b = l ∧ loadE9 b = 0 := by unfold loadL9 loadE9; rw [h]; exact ⟨rfl, rfl⟩

set_option maxRecDepth 20000 in
theorem vNext (x0 x1 : Nat) (A : Option Addr) (c : Nat) (b : List UInt8) (bad : Bool) (hb : b.length ≤ 1000000000) (hbc : b.length ≤ c) (w : World) (hr : ReadsM w (fps [cells x0 [.slice A b.length c] 22, cells x1 [.bool bad] 4]) A (bcells b)) : Fn Try.prog 126 [.pointer (some ⟨x0, 0, none⟩), .pointer (some ⟨x1, 0, none⟩)] [cells x0 [.slice A b.length c] 22, cells x1 [.bool bad] 4] (ret fun v H' => v = .int .u64 (getN b).1 ∧ H' = [cells x0 [.slice (cutA A c (getN b).2 1) (b.drop (getN b).2).length (c - (getN b).2)] 22, cells x1 [.bool (bad || decide ((getN b).2 = 0))] 4]) w := by
  have hbd := getN_bd b
  refine fn_enter Try.func126 rfl Try.ntmps126 rfl ?_
  refine vc_seq ?_
  refine vc_region ?_
  refine vl_val rfl (.some rfl) (val_assign rfl) ?_
  refine vl_nil ?_
  refine vc_seq ?_
  refine vc_region ?_
  refine vl_val rfl (.some rfl) (val_load Try.isAgg22 rfl (by first | exact cell_cells (by repeat constructor) rfl | exact cell_rd (by first | exact rd_sl (by repeat constructor) | exact rd_old (by assumption) rfl) (by first | exact bcells_at (by omega) | exact ucells_at (by omega) | exact icells_at (by omega) | exact tcells_at (by omega) | exact bcells_get (by omega) | exact icells_get (by omega) | exact tcells_get (by omega) | exact ucells_get (by omega)) | exact cell_old (by assumption) (by simp [fps]))) ?_
  refine vl_callV rfl rfl (.some rfl) Try.call109 rfl (fun w' hw => cGet _ _ b (by omega) w' (rdw (rd_oldM hr) hw)) ?_
  refine vl_val rfl (.some rfl) (val_move rfl) ?_
  refine vl_val rfl (.some rfl) (val_extract rfl rfl) ?_
  refine vl_val rfl (.some rfl) (val_extract rfl rfl) ?_
  refine vl_val rfl (.some rfl) (val_assign rfl) ?_
  refine vl_val rfl (.some rfl) (val_assign rfl) ?_
  refine vl_nil ?_
  refine vc_seq ?_
  refine vc_region ?_
  refine vl_val rfl (.some rfl) (val_load Try.isAgg4 rfl (by first | exact cell_cells (by repeat constructor) rfl | exact cell_rd (by first | exact rd_sl (by repeat constructor) | exact rd_old (by assumption) rfl) (by first | exact bcells_at (by omega) | exact ucells_at (by omega) | exact icells_at (by omega) | exact tcells_at (by omega) | exact bcells_get (by omega) | exact icells_get (by omega) | exact tcells_get (by omega) | exact ucells_get (by omega)) | exact cell_old (by assumption) (by simp [fps]))) ?_
  refine vl_val rfl (.some rfl) (val_move rfl) ?_
  refine vl_split (t := 11) rfl (fun hg11 => ?_) (fun hg11 => ?_)
  · (try replace hg11 := of_decide_eq_true hg11)
    refine vl_off rfl rfl rfl rfl (.some rfl) ?_
    refine vl_off rfl rfl rfl rfl (.some rfl) ?_
    refine vl_val rfl (.some rfl) (val_pick rfl rfl) ?_
    first | refine vl_store rfl rfl .none rfl rfl Try.sizeOf4 rfl (by repeat constructor) (by first | decide | exact Nat.le_refl _ | exact Nat.le_of_ble_eq_true rfl | (simp; omega)) ?_ | refine vl_storeSl rfl rfl .none rfl rfl Try.sizeOf4 rfl (by simp [Value.cells]) (by repeat constructor) (by first | decide | (simp [Value.cells]; omega)) ?_
    refine vl_nil ?_
    refine vc_seq ?_
    refine vc_region ?_
    refine vl_val rfl (.some rfl) (val_load Try.isAgg22 rfl (by first | exact cell_cells (by repeat constructor) rfl | exact cell_rd (by first | exact rd_sl (by repeat constructor) | exact rd_old (by assumption) rfl) (by first | exact bcells_at (by omega) | exact ucells_at (by omega) | exact icells_at (by omega) | exact tcells_at (by omega) | exact bcells_get (by omega) | exact icells_get (by omega) | exact tcells_get (by omega) | exact ucells_get (by omega)) | exact cell_old (by assumption) (by simp [fps]))) ?_
    refine vl_val rfl (.some rfl) (val_move rfl) ?_
    refine vl_val rfl (.some rfl) (val_cutFrom Try.runUnderlying22 Try.sizeOf5 rfl rfl (by omega) (by omega)) ?_
    rw [Int.toNat_natCast, show b.length - (getN b).2 = (b.drop (getN b).2).length by rw [List.length_drop]]
    refine vl_store rfl rfl .none rfl rfl Try.sizeOf22 rfl (by repeat constructor) (Nat.le_refl _) ?_
    refine vl_nil ?_
    refine vc_seq ?_
    refine vc_region ?_
    refine vl_val rfl (.some rfl) (val_move rfl) ?_
    refine vl_val rfl (.some rfl) (val_assign rfl) ?_
    refine vl_nil ?_
    refine vc_ret ?_
    refine ⟨_, [cells x0 [.slice (cutA A c (getN b).2 1) (b.drop (getN b).2).length (c - (getN b).2)] 22, cells x1 [.bool _] 4], _, res1 Try.results126 rfl, (by repeat constructor), ⟨rfl, ?_⟩⟩
    first | (rw [hg11]; rfl) | (rw [hg11, Bool.false_or, show decide ((getN b).2 = 0) = decide ((((getN b).2 : Nat) : Int) = 0) by rw [decide_eq_decide]; omega])
  · (try replace hg11 := of_decide_eq_false hg11)
    refine vl_on rfl rfl rfl rfl ?_
    refine vl_val rfl (.some rfl) (val_move rfl) ?_
    refine vl_on rfl rfl rfl rfl ?_
    refine vl_val rfl (.some rfl) (val_eq rfl rfl) ?_
    refine vl_val rfl (.some rfl) (val_pick rfl rfl) ?_
    first | refine vl_store rfl rfl .none rfl rfl Try.sizeOf4 rfl (by repeat constructor) (by first | decide | exact Nat.le_refl _ | exact Nat.le_of_ble_eq_true rfl | (simp; omega)) ?_ | refine vl_storeSl rfl rfl .none rfl rfl Try.sizeOf4 rfl (by simp [Value.cells]) (by repeat constructor) (by first | decide | (simp [Value.cells]; omega)) ?_
    refine vl_nil ?_
    refine vc_seq ?_
    refine vc_region ?_
    refine vl_val rfl (.some rfl) (val_load Try.isAgg22 rfl (by first | exact cell_cells (by repeat constructor) rfl | exact cell_rd (by first | exact rd_sl (by repeat constructor) | exact rd_old (by assumption) rfl) (by first | exact bcells_at (by omega) | exact ucells_at (by omega) | exact icells_at (by omega) | exact tcells_at (by omega) | exact bcells_get (by omega) | exact icells_get (by omega) | exact tcells_get (by omega) | exact ucells_get (by omega)) | exact cell_old (by assumption) (by simp [fps]))) ?_
    refine vl_val rfl (.some rfl) (val_move rfl) ?_
    refine vl_val rfl (.some rfl) (val_cutFrom Try.runUnderlying22 Try.sizeOf5 rfl rfl (by omega) (by omega)) ?_
    rw [Int.toNat_natCast, show b.length - (getN b).2 = (b.drop (getN b).2).length by rw [List.length_drop]]
    refine vl_store rfl rfl .none rfl rfl Try.sizeOf22 rfl (by repeat constructor) (Nat.le_refl _) ?_
    refine vl_nil ?_
    refine vc_seq ?_
    refine vc_region ?_
    refine vl_val rfl (.some rfl) (val_move rfl) ?_
    refine vl_val rfl (.some rfl) (val_assign rfl) ?_
    refine vl_nil ?_
    refine vc_ret ?_
    refine ⟨_, [cells x0 [.slice (cutA A c (getN b).2 1) (b.drop (getN b).2).length (c - (getN b).2)] 22, cells x1 [.bool _] 4], _, res1 Try.results126 rfl, (by repeat constructor), ⟨rfl, ?_⟩⟩
    first | (rw [hg11]; rfl) | (rw [hg11, Bool.false_or, show decide ((getN b).2 = 0) = decide ((((getN b).2 : Nat) : Int) = 0) by rw [decide_eq_decide]; omega])


end Go.Proofs.Ytclnhfdgiaamhaa.K
