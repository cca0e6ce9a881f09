/- Walks of the program's functions, printed by a program of this session; Lean checks them. -/
import Derived.Test.YtibfngjfjddaiaaOf
namespace Go.Proofs.Ytibfngjfjddaiaa.K
open Go Go.RowKit Go.Proofs
set_option linter.unusedVariables false
set_option linter.unusedSimpArgs false
set_option maxRecDepth 20000 in
theorem sT55 : SlT Try.prog 55 4 1 1 (.bool false) := ⟨Try.underlying55, ⟨Try.t4, Try.type4, rfl, rfl, rfl⟩, rfl, Nat.lt_of_sub_eq_succ rfl⟩

abbrev vecV (An : Option Addr) (cn : Nat) (nl : List Bool) (Ai : Option Addr) (ci : Nat) (il : List Int) : Value := .agg #[.slice An nl.length cn, .slice Ai il.length ci]

theorem unp1_lt (n : Nat) (b : List UInt8) : ∀ u ∈ unpL 1 n b, u < 2 ^ 1 := by
  intro u hu
  unfold unpL unpO at hu
  split at hu
  · rename_i hc
    cases e : unpackS (Int.toNat 1) (n : Int).toNat b with
    | none => rw [e] at hu; simp at hu
    | some l =>
      rw [e] at hu
      rw [unpS_is] at e
      split at e
      · cases e
      · split at e
        · cases e
          simp only [Option.getD_some] at hu
          obtain ⟨i, _, rfl⟩ := List.mem_map.1 hu
          exact bitsN_lt _ _
        · cases e
  · simp at hu

theorem bytes_no {nl : List Bool} {il : List Int} (h : bytesE nl il ≠ 0) : ¬ okV nl il := fun hk => h (by unfold bytesE; rw [if_pos hk])
theorem bytes_ok {nl : List Bool} {il : List Int} (h : bytesE nl il = 0) : okV nl il ∧ bytesL nl il = bytesV nl il := by
  have hk : okV nl il := by
    by_cases hk : okV nl il
    · exact hk
    · unfold bytesE at h; rw [if_neg hk] at h; cases h
  unfold bytesL
  rw [if_pos hk]
  exact ⟨hk, rfl⟩
theorem bytesL_len (nl : List Bool) (il : List Int) : (bytesL nl il).length ≤ 2000 := by
  unfold bytesL
  split
  · rename_i h
    have h1 := headV_len h
    have h2 := bestV_len h
    show (headV nl il ++ bestV il).length ≤ _
    rw [List.length_append]; omega
  · simp

set_option maxRecDepth 20000 in
theorem cLoad (A : Option Addr) (c : Nat) (b : List UInt8) (hb : b.length ≤ 1000000000) (hbc : b.length ≤ c) (w : World) (hr : Reads w A (bcells b)) : Fn Try.prog 34 [.slice A b.length c] [] (ret fun v H' => ∃ An Ai cn ci, v = .tuple #[VA An cn (loadN b) Ai ci (loadI b), .int .i64 (loadE b)] ∧ H' = [TW An (loadN b).length cn (loadN b), IW Ai (loadI b).length ci (loadI b)]) w := by
  have hbd := getN_bd b
  refine fn_enter Try.func34 rfl Try.ntmps34 rfl ?_
  refine vc_seq ?_
  refine vc_region ?_
  refine vl_alloc rfl rfl (.some rfl) Try.zeroValue58 (fun r2 => ?_)
  refine vl_val rfl (.some rfl) (val_assign rfl) ?_
  refine vl_nil ?_
  refine vc_seq ?_
  refine vc_region ?_
  refine vl_val rfl (.some rfl) (val_move rfl) ?_
  refine vl_callV rfl rfl (.some rfl) Try.call67 rfl (fun w hw => cGet A c b (by omega) w (rdw (rd_old hr rfl) hw)) ?_
  refine vl_val rfl (.some rfl) (val_move rfl) ?_
  refine vl_val rfl (.some rfl) (val_extract rfl rfl) ?_
  refine vl_val rfl (.some rfl) (val_extract rfl rfl) ?_
  refine vl_val rfl (.some rfl) (val_assign rfl) ?_
  refine vl_val rfl (.some rfl) (val_assign rfl) ?_
  refine vl_nil ?_
  refine vc_seq ?_
  refine vc_seq ?_
  refine vc_region ?_
  refine vl_val rfl (.some rfl) (val_move rfl) ?_
  refine vl_val rfl (.some rfl) (val_eq rfl rfl) ?_
  refine vl_val rfl (.some rfl) (val_move rfl) ?_
  refine vl_split (t := 23) rfl (fun hg23 => ?_) (fun hg23 => ?_)
  · (try replace hg23 := of_decide_eq_true hg23)
    refine vl_off rfl rfl rfl rfl (.some rfl) ?_
    refine vl_off rfl rfl rfl rfl (.some rfl) ?_
    refine vl_val rfl (.some rfl) (val_pick rfl rfl) ?_
    refine vl_nil ?_
    refine vc_cond rfl (fun _ => ?_) (fun h => by cases h)
    refine vc_seq ?_
    refine vc_region ?_
    refine vl_val rfl (.some rfl) (val_buildSt (pl := #[(0, 1), (1, 1)]) (cs := #[.slice none 0 0, .slice none 0 0]) Try.runUnderlying58 Try.zeroValue58 (fun w => by kernel_rfl) rfl rfl) ?_
    refine vl_nilSl 4 1 ?_
    refine vl_nilSl 3 1 ?_
    first | refine vl_store rfl rfl .none rfl rfl Try.sizeOf58 rfl (by repeat (first | exact .head | apply In.tail | apply Take.tail | apply Upd.tail)) (by first | decide | exact Nat.le_refl _ | exact Nat.le_of_ble_eq_true rfl | (simp; omega)) ?_ | refine vl_storeSl rfl rfl .none rfl rfl Try.sizeOf58 rfl (by simp [Value.cells]) (by repeat (first | exact .head | apply In.tail | apply Take.tail | apply Upd.tail)) (by first | decide | (simp [Value.cells]; omega)) ?_
    refine vl_val rfl (.some rfl) (val_assign rfl) ?_
    refine vl_nil ?_
    refine vc_ret ?_
    refine ⟨_, [TW none 0 0 [], IW none 0 0 []], _, resC2 Try.results34 rfl (whole_agg Try.isAgg58 Try.sizeOf58 (cells_whole (by repeat (first | exact .head | apply In.tail | apply Take.tail | apply Upd.tail))) rfl) rfl, (by repeat (first | exact .nil | (apply Sub.cons; · repeat (first | exact .head | apply Take.tail)))), ?_⟩
    obtain ⟨e1, e2, e3⟩ := load_none (b := b) (loadO_1 (by omega))
    show ∃ An Ai cn ci, _ ∧ _
    rw [e1, e2, e3]
    exact ⟨none, none, 0, 0, rfl, rfl⟩
  · (try replace hg23 := of_decide_eq_false hg23)
    refine vl_on rfl rfl rfl rfl ?_
    refine vl_val rfl (.some rfl) (val_move rfl) ?_
    refine vl_on rfl rfl rfl rfl ?_
    refine vl_val rfl (.some rfl) (val_gt rfl rfl) ?_
    refine vl_val rfl (.some rfl) (val_pick rfl rfl) ?_
    refine vl_nil ?_
    refine vc_cond rfl (fun hc0 => ?_) (fun hc0 => ?_)
    · (try replace hc0 := of_decide_eq_true hc0)
      refine vc_seq ?_
      refine vc_region ?_
      refine vl_val rfl (.some rfl) (val_buildSt (pl := #[(0, 1), (1, 1)]) (cs := #[.slice none 0 0, .slice none 0 0]) Try.runUnderlying58 Try.zeroValue58 (fun w => by kernel_rfl) rfl rfl) ?_
      refine vl_nilSl 4 1 ?_
      refine vl_nilSl 3 1 ?_
      first | refine vl_store rfl rfl .none rfl rfl Try.sizeOf58 rfl (by repeat (first | exact .head | apply In.tail | apply Take.tail | apply Upd.tail)) (by first | decide | exact Nat.le_refl _ | exact Nat.le_of_ble_eq_true rfl | (simp; omega)) ?_ | refine vl_storeSl rfl rfl .none rfl rfl Try.sizeOf58 rfl (by simp [Value.cells]) (by repeat (first | exact .head | apply In.tail | apply Take.tail | apply Upd.tail)) (by first | decide | (simp [Value.cells]; omega)) ?_
      refine vl_val rfl (.some rfl) (val_assign rfl) ?_
      refine vl_nil ?_
      refine vc_ret ?_
      refine ⟨_, [TW none 0 0 [], IW none 0 0 []], _, resC2 Try.results34 rfl (whole_agg Try.isAgg58 Try.sizeOf58 (cells_whole (by repeat (first | exact .head | apply In.tail | apply Take.tail | apply Upd.tail))) rfl) rfl, (by repeat (first | exact .nil | (apply Sub.cons; · repeat (first | exact .head | apply Take.tail)))), ?_⟩
      obtain ⟨e1, e2, e3⟩ := load_none (b := b) (loadO_1 (by omega))
      show ∃ An Ai cn ci, _ ∧ _
      rw [e1, e2, e3]
      exact ⟨none, none, 0, 0, rfl, rfl⟩
    · (try replace hc0 := of_decide_eq_false hc0)
      refine vc_skip ?_
      refine vc_seq ?_
      refine vc_region ?_
      refine vl_val rfl (.some rfl) (val_move rfl) ?_
      refine vl_val rfl (.some rfl) (val_convInt Try.runUnderlying96 Try.runUnderlying3 rfl (w_i64 (by omega) (by omega))) ?_
      refine vl_val rfl (.some rfl) (val_assign rfl) ?_
      refine vl_nil ?_
      refine vc_seq ?_
      refine vc_region ?_
      refine vl_val rfl (.some rfl) (val_move rfl) ?_
      refine vl_val rfl (.some rfl) (val_move rfl) ?_
      refine vl_val rfl (.some rfl) (val_add rfl rfl (by first | exact w_i64 (by omega) (by omega) | rfl)) ?_
      refine vl_val rfl (.some rfl) (val_quo rfl rfl (by decide) (show _ = (((((getN b).1 + 7) / 8) : Nat) : Int) by rw [quo_nn (by omega) (w_i64 (by omega) (by omega))]; omega)) ?_
      refine vl_val rfl (.some rfl) (val_add rfl rfl (show _ = ((((getN b).2 + ((getN b).1 + 7) / 8) : Nat) : Int) by rw [w_i64 (by omega) (by omega)]; omega)) ?_
      refine vl_val rfl (.some rfl) (val_assign rfl) ?_
      refine vl_nil ?_
      refine vc_seq ?_
      refine vc_seq ?_
      refine vc_region ?_
      refine vl_val rfl (.some rfl) (val_move rfl) ?_
      refine vl_val rfl (.some rfl) (val_move rfl) ?_
      refine vl_val rfl (.some rfl) (val_lenSl Try.runUnderlying59 rfl) ?_
      refine vl_val rfl (.some rfl) (val_gt rfl rfl) ?_
      refine vl_nil ?_
      refine vc_cond rfl (fun hc1 => ?_) (fun hc1 => ?_)
      · (try replace hc1 := of_decide_eq_true hc1)
        refine vc_seq ?_
        refine vc_region ?_
        refine vl_val rfl (.some rfl) (val_buildSt (pl := #[(0, 1), (1, 1)]) (cs := #[.slice none 0 0, .slice none 0 0]) Try.runUnderlying58 Try.zeroValue58 (fun w => by kernel_rfl) rfl rfl) ?_
        refine vl_nilSl 4 1 ?_
        refine vl_nilSl 3 1 ?_
        first | refine vl_store rfl rfl .none rfl rfl Try.sizeOf58 rfl (by repeat (first | exact .head | apply In.tail | apply Take.tail | apply Upd.tail)) (by first | decide | exact Nat.le_refl _ | exact Nat.le_of_ble_eq_true rfl | (simp; omega)) ?_ | refine vl_storeSl rfl rfl .none rfl rfl Try.sizeOf58 rfl (by simp [Value.cells]) (by repeat (first | exact .head | apply In.tail | apply Take.tail | apply Upd.tail)) (by first | decide | (simp [Value.cells]; omega)) ?_
        refine vl_val rfl (.some rfl) (val_assign rfl) ?_
        refine vl_nil ?_
        refine vc_ret ?_
        refine ⟨_, [TW none 0 0 [], IW none 0 0 []], _, resC2 Try.results34 rfl (whole_agg Try.isAgg58 Try.sizeOf58 (cells_whole (by repeat (first | exact .head | apply In.tail | apply Take.tail | apply Upd.tail))) rfl) rfl, (by repeat (first | exact .nil | (apply Sub.cons; · repeat (first | exact .head | apply Take.tail)))), ?_⟩
        obtain ⟨e1, e2, e3⟩ := load_none (b := b) (loadO_2 (by omega))
        show ∃ An Ai cn ci, _ ∧ _
        rw [e1, e2, e3]
        exact ⟨none, none, 0, 0, rfl, rfl⟩
      · (try replace hc1 := of_decide_eq_false hc1)
        have hmid : ((b.drop (getN b).2).take (((getN b).1 + 7) / 8)).length = (((getN b).1 + 7) / 8) := by rw [List.length_take, List.length_drop]; omega
        refine vc_skip ?_
        refine vc_seq ?_
        refine vc_region ?_
        refine vl_val rfl (.some rfl) (val_move rfl) ?_
        refine vl_val rfl (.some rfl) (val_move rfl) ?_
        refine vl_val rfl (.some rfl) (val_move rfl) ?_
        refine vl_val rfl (.some rfl) (val_move rfl) ?_
        refine vl_val rfl (.some rfl) (val_cut Try.runUnderlying59 Try.sizeOf5 rfl rfl rfl (by omega) (by omega) (by omega)) ?_
        rw [show Int.toNat (((getN b).2 : Nat) : Int) = (getN b).2 from Int.toNat_natCast _, show Int.toNat ((((getN b).2 + ((getN b).1 + 7) / 8) : Nat) : Int) - (getN b).2 = ((b.drop (getN b).2).take (((getN b).1 + 7) / 8)).length by rw [hmid, Int.toNat_natCast]; omega]
        refine vl_call (C := []) rfl rfl (.some rfl) Try.call68 rfl .nil (fun w hw => cUnpack 1 (getN b).1 (cutA A c (getN b).2 1) (c - (getN b).2) ((b.drop (getN b).2).take (((getN b).1 + 7) / 8)) (by omega) w (rdw (rd_old (reads_midB hr hbc) rfl) hw)) (fun v H' h => ?_)
        obtain ⟨A8, c8, rfl, rfl⟩ := h
        have hu1 := unp1_tell (n := (getN b).1) (by omega) ((b.drop (getN b).2).take (((getN b).1 + 7) / 8))
        have hu2 := unpL_le 1 (getN b).1 ((b.drop (getN b).2).take (((getN b).1 + 7) / 8))
        have hu3 : ∀ u ∈ unpL 1 (getN b).1 ((b.drop (getN b).2).take (((getN b).1 + 7) / 8)), u < 2 ^ 1 := unp1_lt _ _
        generalize unpL 1 (getN b).1 ((b.drop (getN b).2).take (((getN b).1 + 7) / 8)) = L8 at hu1 hu2 hu3 ⊢
        generalize unpE 1 (getN b).1 ((b.drop (getN b).2).take (((getN b).1 + 7) / 8)) = e8 at hu1 ⊢
        show VL _ _ _ _ _ (_ :: _)
        refine vl_val rfl (.some rfl) (val_move rfl) ?_
        refine vl_val rfl (.some rfl) (val_extract rfl rfl) ?_
        refine vl_val rfl (.some rfl) (val_extract rfl rfl) ?_
        refine vl_val rfl (.some rfl) (val_assign rfl) ?_
        refine vl_val rfl (.some rfl) (val_assign rfl) ?_
        refine vl_nil ?_
        refine vc_seq ?_
        refine vc_seq ?_
        refine vc_region ?_
        refine vl_val rfl (.some rfl) (val_move rfl) ?_
        refine vl_val rfl (.some rfl) (val_ne rfl rfl) ?_
        refine vl_nil ?_
        refine vc_cond rfl (fun hc2 => ?_) (fun hc2 => ?_)
        · (try replace hc2 := of_decide_eq_true hc2)
          refine vc_seq ?_
          refine vc_region ?_
          refine vl_val rfl (.some rfl) (val_buildSt (pl := #[(0, 1), (1, 1)]) (cs := #[.slice none 0 0, .slice none 0 0]) Try.runUnderlying58 Try.zeroValue58 (fun w => by kernel_rfl) rfl rfl) ?_
          refine vl_nilSl 4 1 ?_
          refine vl_nilSl 3 1 ?_
          first | refine vl_store rfl rfl .none rfl rfl Try.sizeOf58 rfl (by repeat (first | exact .head | apply In.tail | apply Take.tail | apply Upd.tail)) (by first | decide | exact Nat.le_refl _ | exact Nat.le_of_ble_eq_true rfl | (simp; omega)) ?_ | refine vl_storeSl rfl rfl .none rfl rfl Try.sizeOf58 rfl (by simp [Value.cells]) (by repeat (first | exact .head | apply In.tail | apply Take.tail | apply Upd.tail)) (by first | decide | (simp [Value.cells]; omega)) ?_
          refine vl_val rfl (.some rfl) (val_assign rfl) ?_
          refine vl_nil ?_
          refine vc_ret ?_
          refine ⟨_, [TW none 0 0 [], IW none 0 0 []], _, resC2 Try.results34 rfl (whole_agg Try.isAgg58 Try.sizeOf58 (cells_whole (by repeat (first | exact .head | apply In.tail | apply Take.tail | apply Upd.tail))) rfl) rfl, (by repeat (first | exact .nil | (apply Sub.cons; · repeat (first | exact .head | apply Take.tail)))), ?_⟩
          obtain ⟨e1, e2, e3⟩ := load_none (b := b) (loadO_3 (hu1.2 (by omega)))
          show ∃ An Ai cn ci, _ ∧ _
          rw [e1, e2, e3]
          exact ⟨none, none, 0, 0, rfl, rfl⟩
        · (try replace hc2 := of_decide_eq_false hc2)
          have hf8 := hu1.1 (by omega)
          refine vc_skip ?_
          refine vc_seq ?_
          refine vc_region ?_
          refine vl_val rfl (.some rfl) (val_move rfl) ?_
          refine vl_val rfl (.some rfl) (val_move rfl) ?_
          refine vl_val rfl (.some rfl) (val_cutFrom Try.runUnderlying59 Try.sizeOf5 rfl rfl (by omega) (by omega)) ?_
          refine vl_val rfl (.some rfl) (val_move rfl) ?_
          rw [show Int.toNat ((((getN b).2 + ((getN b).1 + 7) / 8) : Nat) : Int) = ((getN b).2 + ((getN b).1 + 7) / 8) from Int.toNat_natCast _, show b.length - ((getN b).2 + ((getN b).1 + 7) / 8) = (b.drop ((getN b).2 + ((getN b).1 + 7) / 8)).length by rw [List.length_drop]]
          refine vl_call (C := []) rfl rfl (.some rfl) Try.call69 rfl .nil (fun w hw => cRead (cutA A c ((getN b).2 + ((getN b).1 + 7) / 8) 1) (c - ((getN b).2 + ((getN b).1 + 7) / 8)) (b.drop ((getN b).2 + ((getN b).1 + 7) / 8)) (getN b).1 (by rw [List.length_drop]; omega) (by rw [List.length_drop]; omega) w (rdw (rd_old (reads_cutB hr hbc) rfl) hw)) (fun v H' h => ?_)
          obtain ⟨A10, c10, l10, e10, rfl, hl10n, hl10z, hl10x, rfl⟩ := h
          show VL _ _ _ _ _ (_ :: _)
          refine vl_val rfl (.some rfl) (val_move rfl) ?_
          refine vl_val rfl (.some rfl) (val_extract rfl rfl) ?_
          refine vl_val rfl (.some rfl) (val_extract rfl rfl) ?_
          refine vl_val rfl (.some rfl) (val_assign rfl) ?_
          refine vl_val rfl (.some rfl) (val_assign rfl) ?_
          refine vl_nil ?_
          refine vc_seq ?_
          refine vc_seq ?_
          refine vc_region ?_
          refine vl_val rfl (.some rfl) (val_move rfl) ?_
          refine vl_val rfl (.some rfl) (val_ne rfl rfl) ?_
          refine vl_nil ?_
          refine vc_cond rfl (fun hc3 => ?_) (fun hc3 => ?_)
          · (try replace hc3 := of_decide_eq_true hc3)
            refine vc_seq ?_
            refine vc_region ?_
            refine vl_val rfl (.some rfl) (val_buildSt (pl := #[(0, 1), (1, 1)]) (cs := #[.slice none 0 0, .slice none 0 0]) Try.runUnderlying58 Try.zeroValue58 (fun w => by kernel_rfl) rfl rfl) ?_
            refine vl_nilSl 4 1 ?_
            refine vl_nilSl 3 1 ?_
            first | refine vl_store rfl rfl .none rfl rfl Try.sizeOf58 rfl (by repeat (first | exact .head | apply In.tail | apply Take.tail | apply Upd.tail)) (by first | decide | exact Nat.le_refl _ | exact Nat.le_of_ble_eq_true rfl | (simp; omega)) ?_ | refine vl_storeSl rfl rfl .none rfl rfl Try.sizeOf58 rfl (by simp [Value.cells]) (by repeat (first | exact .head | apply In.tail | apply Take.tail | apply Upd.tail)) (by first | decide | (simp [Value.cells]; omega)) ?_
            refine vl_val rfl (.some rfl) (val_assign rfl) ?_
            refine vl_nil ?_
            refine vc_ret ?_
            refine ⟨_, [TW none 0 0 [], IW none 0 0 []], _, resC2 Try.results34 rfl (whole_agg Try.isAgg58 Try.sizeOf58 (cells_whole (by repeat (first | exact .head | apply In.tail | apply Take.tail | apply Upd.tail))) rfl) rfl, (by repeat (first | exact .nil | (apply Sub.cons; · repeat (first | exact .head | apply Take.tail)))), ?_⟩
            obtain ⟨e1, e2, e3⟩ := load_none (b := b) (loadO_4 (hl10x (by omega)))
            show ∃ An Ai cn ci, _ ∧ _
            rw [e1, e2, e3]
            exact ⟨none, none, 0, 0, rfl, rfl⟩
          · (try replace hc3 := of_decide_eq_false hc3)
            have hl10 := hl10z (by omega)
            refine vc_skip ?_
            refine vc_seq ?_
            refine vc_region ?_
            refine vl_val rfl (.some rfl) (val_move rfl) ?_
            refine vl_val rfl (.some rfl) (val_buildSt (pl := #[(0, 1), (1, 1)]) (cs := #[.slice none 0 0, .slice A10 l10.length c10]) Try.runUnderlying58 Try.zeroValue58 (fun w => by kernel_rfl) rfl rfl) ?_
            refine vl_alloc rfl rfl (.some rfl) Try.zeroValue58 (fun r11 => ?_)
            refine vl_nilSl 4 1 ?_
            first | refine vl_store rfl rfl .none rfl rfl Try.sizeOf58 rfl (by repeat (first | exact .head | apply In.tail | apply Take.tail | apply Upd.tail)) (by first | decide | exact Nat.le_refl _ | exact Nat.le_of_ble_eq_true rfl | (simp; omega)) ?_ | refine vl_storeSl rfl rfl .none rfl rfl Try.sizeOf58 rfl (by simp [Value.cells]) (by repeat (first | exact .head | apply In.tail | apply Take.tail | apply Upd.tail)) (by first | decide | (simp [Value.cells]; omega)) ?_
            refine vl_nil ?_
            refine vc_seq ?_
            refine vc_seq ?_
            refine vc_region ?_
            refine vl_val rfl (.some rfl) (val_move rfl) ?_
            refine vl_val rfl (.some rfl) (val_lenSl Try.runUnderlying95 rfl) ?_
            refine vl_val rfl (.some rfl) (val_move rfl) ?_
            refine vl_nil ?_
            refine vc_block ?_
            refine vc_loopw (fun k E H => ∃ (i : Nat) (An : Option Addr) (cn : Nat), i ≤ L8.length ∧ k = L8.length - i ∧ E = [(0, .slice A b.length c), (2, .pointer (some ⟨r2, 0, none⟩)), (11, .pointer (some ⟨r11, 0, none⟩)), (65, .slice A8 L8.length c8), (66, .int .i64 L8.length), (67, .int .i64 i)] ∧ H = [cells r11 [.slice An ((L8.take i).map nulF).length cn, .slice A10 l10.length c10] 58, TW An ((L8.take i).map nulF).length cn ((L8.take i).map nulF), IW A10 l10.length c10 l10, UW A8 L8.length c8 L8, cells r2 [.slice none 0 0, .slice none 0 0] 58]) (L8.length) ⟨_, _, _, ⟨0, none, 0, by omega, rfl, rfl, rfl⟩, (by repeat (first | exact trivial | refine ⟨rfl, ?_⟩ | refine ⟨le_item rfl (by first | rfl | (congr 1; omega) | (simp; done) | (simp; omega)), ?_⟩)), (by repeat (first | exact .nil | (apply Sub.cons; · repeat (first | exact .head | apply Take.tail))))⟩ ?_
            intro k E H hI
            obtain ⟨i, An, cn, hil, rfl, rfl, rfl⟩ := hI
            refine vc_seq ?_
            refine vc_region ?_
            refine vl_val rfl (.some rfl) (val_lt rfl rfl) ?_
            refine vl_nil ?_
            refine vc_seq ?_
            refine vc_cond rfl (fun hc4 => ?_) (fun hc4 => ?_)
            · (try replace hc4 := of_decide_eq_true hc4)
              have hi8 : i < L8.length := by omega
              have hi9 := hu3 _ (getD_mem 0 (l := L8) (i := i) hi8)
              have hi7 : ((L8.take i).map nulF).length = i := by simp; omega
              refine vc_skip ?_
              refine vc_seq ?_
              refine vc_block ?_
              refine vc_seq ?_
              refine vc_region ?_
              refine vl_val rfl (.some rfl) (val_indexAddr Try.runUnderlying95 Try.sizeOf96 rfl rfl (by first | exact rd_sl (by repeat (first | exact .head | apply In.tail | apply Take.tail | apply Upd.tail)) | exact rd_slr (by repeat (first | exact .head | apply In.tail | apply Take.tail | apply Upd.tail)) | exact rd_old (by assumption) rfl) (by omega) (by omega) (by first | omega | (simp only [bcells_length, icells_length, ucells_length, tcells_length]; omega) | (simp only [bcells_length, icells_length, ucells_length, tcells_length, fillG_length]; omega) | (simp; omega))) ?_
              refine vl_val rfl (.some rfl) (val_load Try.isAgg96 rfl (by first | exact cell_cells (by repeat (first | exact .head | apply In.tail | apply Take.tail | apply Upd.tail)) rfl | exact cell_rd (rd_sl (by repeat (first | exact .head | apply In.tail | apply Take.tail | apply Upd.tail))) (by first | exact bcells_at (by omega) | exact ucells_at (by omega) | exact icells_at (by omega) | exact tcells_at (by omega) | exact bcells_get (by omega) | exact icells_get (by omega) | exact tcells_get (by omega) | exact ucells_get (by omega)) | exact cell_rd (rd_old (by assumption) rfl) (by first | exact bcells_at (by omega) | exact ucells_at (by omega) | exact icells_at (by omega) | exact tcells_at (by omega) | exact bcells_get (by omega) | exact icells_get (by omega) | exact tcells_get (by omega) | exact ucells_get (by omega)) | exact cell_old (by assumption) (by simp [fps]))) ?_
              refine vl_val rfl (.some rfl) (val_assign rfl) ?_
              refine vl_nil ?_
              refine vc_region ?_
              refine vl_val rfl (.some rfl) (by first | exact val_fieldAddr Try.runUnderlying58 rfl Try.sizeOf55 rfl | exact val_fieldAddrR Try.runUnderlying58 rfl Try.sizeOf55 rfl) ?_
              refine vl_val rfl (.some rfl) (val_load Try.isAgg55 rfl (by first | exact cell_cells (by repeat (first | exact .head | apply In.tail | apply Take.tail | apply Upd.tail)) rfl | exact cell_rd (rd_sl (by repeat (first | exact .head | apply In.tail | apply Take.tail | apply Upd.tail))) (by first | exact bcells_at (by omega) | exact ucells_at (by omega) | exact icells_at (by omega) | exact tcells_at (by omega) | exact bcells_get (by omega) | exact icells_get (by omega) | exact tcells_get (by omega) | exact ucells_get (by omega)) | exact cell_rd (rd_old (by assumption) rfl) (by first | exact bcells_at (by omega) | exact ucells_at (by omega) | exact icells_at (by omega) | exact tcells_at (by omega) | exact bcells_get (by omega) | exact icells_get (by omega) | exact tcells_get (by omega) | exact ucells_get (by omega)) | exact cell_old (by assumption) (by simp [fps]))) ?_
              refine vl_val rfl (.some rfl) (val_move rfl) ?_
              refine vl_val rfl (.some rfl) (val_gt rfl rfl) ?_
              refine vl_lit sT55 rfl rfl (.some rfl) rfl rfl rfl (by decide) (by decide) rfl (flat_one rfl) (fun r75 => ?_)
              refine vl_append sT55 rfl rfl (.some rfl) rfl rfl (rd_sl (by repeat (first | exact .head | apply In.tail | apply Take.tail | apply Upd.tail))) (by first | rfl | simp) (by first | rfl | exact one_t _) (by omega) (by omega) (by repeat (first | exact .head | apply In.tail | apply Take.tail | apply Upd.tail)) (fun A76 k76 => ?_)
              rw [pushn hi8 (by unfold nulF; rw [decide_eq_decide]; omega), show ((L8.take i).map nulF).length + 1 = ((L8.take (i + 1)).map nulF).length by simp; omega]
              refine vl_val rfl (.some rfl) (by first | exact val_fieldAddr Try.runUnderlying58 rfl Try.sizeOf55 rfl | exact val_fieldAddrR Try.runUnderlying58 rfl Try.sizeOf55 rfl) ?_
              first | refine vl_store rfl rfl .none rfl rfl Try.sizeOf55 rfl (by repeat (first | exact .head | apply In.tail | apply Take.tail | apply Upd.tail)) (by first | decide | exact Nat.le_refl _ | exact Nat.le_of_ble_eq_true rfl | (simp; omega)) ?_ | refine vl_storeSl rfl rfl .none rfl rfl Try.sizeOf55 rfl (by simp [Value.cells]) (by repeat (first | exact .head | apply In.tail | apply Take.tail | apply Upd.tail)) (by first | decide | (simp [Value.cells]; omega)) ?_
              refine vl_nil ?_
              refine vc_region ?_
              refine vl_val rfl (.some rfl) (val_add rfl rfl (by first | exact w_i64 (by omega) (by omega) | rfl)) ?_
              refine vl_val rfl (.some rfl) (val_move rfl) ?_
              refine vl_nil ?_
              exact ⟨L8.length - (i + 1), _, _, _, by omega, (by repeat (first | exact trivial | refine ⟨rfl, ?_⟩ | refine ⟨le_item rfl (by first | rfl | (congr 1; omega) | (simp; done) | (simp; omega)), ?_⟩)), (by repeat (first | exact .nil | (apply Sub.cons; · repeat (first | exact .head | apply Take.tail)))), ⟨i + 1, A76, k76, by omega, rfl, rfl, rfl⟩⟩
            · (try replace hc4 := of_decide_eq_false hc4)
              obtain rfl : i = L8.length := by omega
              rw [List.take_length]
              have hN8 : (L8.map nulF).length ≤ 1000000000 := by simp; omega
              refine vc_exit ?_
              refine vc_seq ?_
              refine vc_seq ?_
              refine vc_region ?_
              refine vl_val rfl (.some rfl) (val_loadAgg Try.isAgg58 Try.sizeOf58 rfl (by first | exact cells_whole (by repeat (first | exact .head | apply In.tail | apply Take.tail | apply Upd.tail)) | exact cells_part (by repeat (first | exact .head | apply In.tail | apply Take.tail | apply Upd.tail)) rfl) rfl) ?_
              refine vl_call (C := []) rfl rfl (.some rfl) Try.call31 rfl .nil (fun w hw => cBytes An A10 cn c10 (L8.map nulF) l10 (by omega) (by omega) w (rdw (rd_sl (by repeat (first | exact .head | apply In.tail | apply Take.tail | apply Upd.tail))) hw) (rdw (rd_sl (by repeat (first | exact .head | apply In.tail | apply Take.tail | apply Upd.tail))) hw)) (fun v H' h => ?_)
              obtain ⟨A79, c79, rfl, rfl⟩ := h
              show VL _ _ _ _ _ (_ :: _)
              refine vl_val rfl (.some rfl) (val_move rfl) ?_
              refine vl_val rfl (.some rfl) (val_extract rfl rfl) ?_
              refine vl_val rfl (.some rfl) (val_extract rfl rfl) ?_
              refine vl_val rfl (.some rfl) (val_assign rfl) ?_
              refine vl_val rfl (.some rfl) (val_assign rfl) ?_
              refine vl_nil ?_
              refine vc_seq ?_
              refine vc_region ?_
              refine vl_val rfl (.some rfl) (val_move rfl) ?_
              refine vl_val rfl (.some rfl) (val_ne rfl rfl) ?_
              refine vl_val rfl (.some rfl) (val_move rfl) ?_
              refine vl_split (t := 86) rfl (fun hg86 => ?_) (fun hg86 => ?_)
              · (try replace hg86 := of_decide_eq_true hg86)
                refine vl_off rfl rfl rfl rfl (.some rfl) ?_
                refine vl_off rfl rfl rfl rfl (.some rfl) ?_
                refine vl_off rfl rfl rfl rfl (.some rfl) ?_
                refine vl_off rfl rfl rfl rfl (.some rfl) ?_
                refine vl_val rfl (.some rfl) (val_pick rfl rfl) ?_
                refine vl_nil ?_
                refine vc_cond rfl (fun _ => ?_) (fun h => by cases h)
                refine vc_seq ?_
                refine vc_region ?_
                refine vl_val rfl (.some rfl) (val_buildSt (pl := #[(0, 1), (1, 1)]) (cs := #[.slice none 0 0, .slice none 0 0]) Try.runUnderlying58 Try.zeroValue58 (fun w => by kernel_rfl) rfl rfl) ?_
                refine vl_nilSl 4 1 ?_
                refine vl_nilSl 3 1 ?_
                first | refine vl_store rfl rfl .none rfl rfl Try.sizeOf58 rfl (by repeat (first | exact .head | apply In.tail | apply Take.tail | apply Upd.tail)) (by first | decide | exact Nat.le_refl _ | exact Nat.le_of_ble_eq_true rfl | (simp; omega)) ?_ | refine vl_storeSl rfl rfl .none rfl rfl Try.sizeOf58 rfl (by simp [Value.cells]) (by repeat (first | exact .head | apply In.tail | apply Take.tail | apply Upd.tail)) (by first | decide | (simp [Value.cells]; omega)) ?_
                refine vl_val rfl (.some rfl) (val_assign rfl) ?_
                refine vl_nil ?_
                refine vc_ret ?_
                refine ⟨_, [TW none 0 0 [], IW none 0 0 []], _, resC2 Try.results34 rfl (whole_agg Try.isAgg58 Try.sizeOf58 (cells_whole (by repeat (first | exact .head | apply In.tail | apply Take.tail | apply Upd.tail))) rfl) rfl, (by repeat (first | exact .nil | (apply Sub.cons; · repeat (first | exact .head | apply Take.tail)))), ?_⟩
                obtain ⟨e1, e2, e3⟩ := load_none (b := b) (by
                  rw [loadO_go (b := b) (f := L8) (l := l10) (by omega) (by omega) hf8 hl10]
                  refine if_neg (fun hk => ?_)
                  first | exact bytes_no (by omega) hk.1 | (have hq := bytes_ok (nl := L8.map nulF) (il := l10) (by omega); rw [hq.2, hk.2] at hc5; simp at hc5))
                show ∃ An Ai cn ci, _ ∧ _
                rw [e1, e2, e3]
                exact ⟨none, none, 0, 0, rfl, rfl⟩
              · (try replace hg86 := of_decide_eq_false hg86)
                refine vl_on rfl rfl rfl rfl ?_
                refine vl_val rfl (.some rfl) (val_move rfl) ?_
                refine vl_on rfl rfl rfl rfl ?_
                refine vl_val rfl (.some rfl) (val_move rfl) ?_
                refine vl_on rfl rfl rfl rfl ?_
                refine vl_callV rfl rfl (.some rfl) Try.call70 rfl (fun w hw => sEqual _ _ _ _ (bytesL (L8.map nulF) l10) b (by have := bytesL_len (L8.map nulF) l10; omega) w (rdw (rd_sl (by repeat (first | exact .head | apply In.tail | apply Take.tail | apply Upd.tail))) hw) (rdw (rd_old hr rfl) hw)) ?_
                refine vl_on rfl rfl rfl rfl ?_
                refine vl_val rfl (.some rfl) (val_not rfl) ?_
                refine vl_val rfl (.some rfl) (val_pick rfl rfl) ?_
                refine vl_nil ?_
                refine vc_cond rfl (fun hc5 => ?_) (fun hc5 => ?_)
                · (try replace hc5 := of_decide_eq_true hc5)
                  refine vc_seq ?_
                  refine vc_region ?_
                  refine vl_val rfl (.some rfl) (val_buildSt (pl := #[(0, 1), (1, 1)]) (cs := #[.slice none 0 0, .slice none 0 0]) Try.runUnderlying58 Try.zeroValue58 (fun w => by kernel_rfl) rfl rfl) ?_
                  refine vl_nilSl 4 1 ?_
                  refine vl_nilSl 3 1 ?_
                  first | refine vl_store rfl rfl .none rfl rfl Try.sizeOf58 rfl (by repeat (first | exact .head | apply In.tail | apply Take.tail | apply Upd.tail)) (by first | decide | exact Nat.le_refl _ | exact Nat.le_of_ble_eq_true rfl | (simp; omega)) ?_ | refine vl_storeSl rfl rfl .none rfl rfl Try.sizeOf58 rfl (by simp [Value.cells]) (by repeat (first | exact .head | apply In.tail | apply Take.tail | apply Upd.tail)) (by first | decide | (simp [Value.cells]; omega)) ?_
                  refine vl_val rfl (.some rfl) (val_assign rfl) ?_
                  refine vl_nil ?_
                  refine vc_ret ?_
                  refine ⟨_, [TW none 0 0 [], IW none 0 0 []], _, resC2 Try.results34 rfl (whole_agg Try.isAgg58 Try.sizeOf58 (cells_whole (by repeat (first | exact .head | apply In.tail | apply Take.tail | apply Upd.tail))) rfl) rfl, (by repeat (first | exact .nil | (apply Sub.cons; · repeat (first | exact .head | apply Take.tail)))), ?_⟩
                  obtain ⟨e1, e2, e3⟩ := load_none (b := b) (by
                    rw [loadO_go (b := b) (f := L8) (l := l10) (by omega) (by omega) hf8 hl10]
                    refine if_neg (fun hk => ?_)
                    first | exact bytes_no (by omega) hk.1 | (have hq := bytes_ok (nl := L8.map nulF) (il := l10) (by omega); rw [hq.2, hk.2] at hc5; simp at hc5))
                  show ∃ An Ai cn ci, _ ∧ _
                  rw [e1, e2, e3]
                  exact ⟨none, none, 0, 0, rfl, rfl⟩
                · (try replace hc5 := of_decide_eq_false hc5)
                  refine vc_skip ?_
                  refine vc_seq ?_
                  refine vc_region ?_
                  refine vl_val rfl (.some rfl) (val_loadAgg Try.isAgg58 Try.sizeOf58 rfl (by first | exact cells_whole (by repeat (first | exact .head | apply In.tail | apply Take.tail | apply Upd.tail)) | exact cells_part (by repeat (first | exact .head | apply In.tail | apply Take.tail | apply Upd.tail)) rfl) rfl) ?_
                  first | refine vl_store rfl rfl .none rfl rfl Try.sizeOf58 rfl (by repeat (first | exact .head | apply In.tail | apply Take.tail | apply Upd.tail)) (by first | decide | exact Nat.le_refl _ | exact Nat.le_of_ble_eq_true rfl | (simp; omega)) ?_ | refine vl_storeSl rfl rfl .none rfl rfl Try.sizeOf58 rfl (by simp [Value.cells]) (by repeat (first | exact .head | apply In.tail | apply Take.tail | apply Upd.tail)) (by first | decide | (simp [Value.cells]; omega)) ?_
                  refine vl_val rfl (.some rfl) (val_assign rfl) ?_
                  refine vl_nil ?_
                  refine vc_ret ?_
                  refine ⟨_, [TW An (L8.map nulF).length cn (L8.map nulF), IW A10 l10.length c10 l10], _, resC2 Try.results34 rfl (whole_agg Try.isAgg58 Try.sizeOf58 (cells_whole (by repeat (first | exact .head | apply In.tail | apply Take.tail | apply Upd.tail))) rfl) rfl, (by repeat (first | exact .nil | (apply Sub.cons; · repeat (first | exact .head | apply Take.tail)))), ?_⟩
                  have hq := bytes_ok (nl := L8.map nulF) (il := l10) (by omega)
                  have hbe : bytesL (L8.map nulF) l10 = b := by simpa using hc5
                  obtain ⟨e1, e2, e3⟩ := load_some (b := b) (nl := L8.map nulF) (il := l10) (by rw [loadO_go (b := b) (f := L8) (l := l10) (by omega) (by omega) hf8 hl10]; exact if_pos ⟨hq.1, by rw [← hq.2]; exact hbe⟩)
                  show ∃ An Ai cn ci, _ ∧ _
                  rw [e1, e2, e3]
                  exact ⟨An, A10, cn, c10, rfl, rfl⟩

end Go.Proofs.Ytibfngjfjddaiaa.K
