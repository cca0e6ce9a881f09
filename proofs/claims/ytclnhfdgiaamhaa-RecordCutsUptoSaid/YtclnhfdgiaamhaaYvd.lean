/- Walks of the program's functions, printed by a program of this session; Lean checks them. -/
import Derived.Test.YtclnhfdgiaamhaaYva
namespace Go.Proofs.Ytclnhfdgiaamhaa.K
open Go Go.RowKit Go.Proofs
set_option linter.unusedVariables false
set_option linter.unusedSimpArgs false
set_option maxRecDepth 20000 in
theorem sT105 : SlT Try.prog 105 107 3 32 (.agg #[.int .i64 0, .int .i64 0, .string .empty]) := ⟨Try.underlying105, ⟨Try.t107, Try.type107, rfl, rfl, rfl⟩, rfl, Nat.lt_of_sub_eq_succ rfl⟩

theorem one_null {b : List UInt8} (h : (getN b).1 = 0) : oneV b = if (getN b).2 = 0 then none else some (z3, b.drop (getN b).2) := by
  unfold oneV; split
  · rfl
  · first | rfl | rw [if_pos h]
def numK (u : Nat) (n : Int) : Vk := ⟨((min u 9 : Nat) : Int), n, ⟨#[]⟩⟩
theorem good_big {u : Nat} {n : Int} (h : 4 < u) : goodV (numK u n) = false := by
  unfold goodV numK
  have h2 : 4 < min u 9 := by omega
  rw [if_neg (show ¬ ((min u 9 : Nat) : Int) = 0 by omega), if_neg (show ¬ ((min u 9 : Nat) : Int) = 1 by omega), if_neg (show ¬ ((min u 9 : Nat) : Int) = 2 by omega), if_neg (show ¬ ((min u 9 : Nat) : Int) = 3 by omega), if_neg (show ¬ ((min u 9 : Nat) : Int) = 4 by omega)]
theorem one_num {b : List UInt8} (h0 : (getN b).1 ≠ 0) (h3 : (getN b).1 ≠ 3) : oneV b = if (getN b).2 = 0 ∨ (getN (b.drop (getN b).2)).2 = 0 ∨ goodV (numK (getN b).1 (zagS (getN (b.drop (getN b).2)).1)) = false then none
    else some (numK (getN b).1 (zagS (getN (b.drop (getN b).2)).1), (b.drop (getN b).2).drop (getN (b.drop (getN b).2)).2) := by
  unfold oneV
  by_cases h1 : (getN b).2 = 0
  · rw [if_pos h1, if_pos (.inl h1)]
  · rw [if_neg h1, if_neg h0]
    by_cases h4 : 4 < (getN b).1
    · rw [if_pos h4, if_pos (.inr (.inr (good_big h4)))]
    · rw [if_neg h4]
      have e : numK (getN b).1 (zagS (getN (b.drop (getN b).2)).1) = ⟨((getN b).1 : Nat), zagS (getN (b.drop (getN b).2)).1, ⟨#[]⟩⟩ := by unfold numK; rw [show min (getN b).1 9 = (getN b).1 by omega]
      rw [e]
      by_cases h2 : (getN (b.drop (getN b).2)).2 = 0
      · rw [if_pos h2, if_pos (.inr (.inl h2))]
      · rw [if_neg h2, if_neg h3]
        cases hg : goodV ⟨((getN b).1 : Nat), zagS (getN (b.drop (getN b).2)).1, ⟨#[]⟩⟩ with
        | true => rw [if_pos rfl, if_neg (by rintro (h | h | h); exact h1 h; exact h2 h; cases h)]
        | false => rw [if_neg (by simp), if_pos (.inr (.inr rfl))]
theorem one_str {b : List UInt8} (h3 : (getN b).1 = 3) : oneV b = if (getN b).2 = 0 ∨ (getN (b.drop (getN b).2)).2 = 0 ∨ 64 < (getN (b.drop (getN b).2)).1 ∨ ((b.drop (getN b).2).drop (getN (b.drop (getN b).2)).2).length < (getN (b.drop (getN b).2)).1 then none
    else some (⟨3, 0, txtV (((b.drop (getN b).2).drop (getN (b.drop (getN b).2)).2).take (getN (b.drop (getN b).2)).1)⟩, ((b.drop (getN b).2).drop (getN (b.drop (getN b).2)).2).drop (getN (b.drop (getN b).2)).1) := by
  unfold oneV
  by_cases h1 : (getN b).2 = 0
  · rw [if_pos h1, if_pos (.inl h1)]
  · rw [if_neg h1, if_neg (by omega), if_neg (by omega)]
    by_cases h2 : (getN (b.drop (getN b).2)).2 = 0
    · rw [if_pos h2, if_pos (.inr (.inl h2))]
    · rw [if_neg h2, if_pos h3]
      by_cases h4 : 64 < (getN (b.drop (getN b).2)).1 ∨ ((b.drop (getN b).2).drop (getN (b.drop (getN b).2)).2).length < (getN (b.drop (getN b).2)).1
      · rw [if_pos h4, if_pos (.inr (.inr h4))]
      · rw [if_neg h4, if_neg (by rintro (h | h | h); exact h1 h; exact h2 h; exact h4 h)]
theorem vk_flat1 (acc : List Vk) (p : Vk) : flat acc ++ flat [p] = flat (acc ++ [p]) := by simp [flat]
/-- How the loop stands. -/
def StV (b : List UInt8) (acc : List Vk) (i cnt : Nat) (bad : Bool) (b2 : List UInt8) : Prop := (bad = true → loadV b = none) ∧ (bad = false → ∃ m, i + m = cnt ∧ InvV b acc m b2)
theorem st_step {b b2 b3 : List UInt8} {acc : List Vk} {i cnt : Nat} {bad : Bool} {v : Vk} (h : StV b acc i cnt false b2) (hi : i < cnt) (h1 : bad = true → oneV b2 = none) (h2 : bad = false → oneV b2 = some (v, b3)) : StV b (acc ++ [v]) (i + 1) cnt bad b3 := by
  obtain ⟨m, hm, hinv⟩ := h.2 rfl
  obtain ⟨m, rfl⟩ : ∃ j, m = j + 1 := ⟨m - 1, by omega⟩
  exact ⟨fun hb => inv_none hinv (h1 hb), fun hb => ⟨m, by omega, inv_step hinv (h2 hb)⟩⟩
theorem st_none {b b2 : List UInt8} {acc : List Vk} {i cnt : Nat} (h : StV b acc i cnt false b2) (hi : i < cnt) (h1 : oneV b2 = none) : loadV b = none := by
  obtain ⟨m, hm, hinv⟩ := h.2 rfl
  obtain ⟨m, rfl⟩ : ∃ j, m = j + 1 := ⟨m - 1, by omega⟩
  exact inv_none hinv h1
theorem st_end {b b2 : List UInt8} {acc : List Vk} {i cnt : Nat} {bad : Bool} (h : StV b acc i cnt bad b2) (hb : bad = false) (hi : ¬ i < cnt) : loadV b = if b2.length = 0 then some acc else none := by
  obtain ⟨m, hm, hinv⟩ := h.2 hb
  obtain rfl : m = 0 := by omega
  exact inv_end hinv
theorem st_start (b : List UInt8) (bad : Bool) (hb : bad = (false || decide ((getN b).2 = 0))) : StV b [] 0 (getN b).1 bad (b.drop (getN b).2) := by
  subst hb
  rw [Bool.false_or]
  exact ⟨fun h => by unfold loadV; rw [if_pos (of_decide_eq_true h)], fun h => ⟨_, Nat.zero_add _, inv_start (of_decide_eq_false h)⟩⟩

set_option maxRecDepth 20000 in
set_option maxHeartbeats 1000000 in
theorem vLoad (A : Option Addr) (c : Nat) (b : List UInt8) (hb : b.length ≤ 1000000000) (hbc : b.length ≤ c) (w : World) (hr : Reads w A (bcells b)) : Fn Try.prog 108 [.slice A b.length c] [] (ret fun v H' => ∃ A' c', v = .tuple #[.slice A' (loadL9 b).length c', .int .i64 (loadE9 b)] ∧ H' = [DS A' c' (loadL9 b)]) w := by
  have hbd0 := getN_bd b
  refine fn_enter Try.func108 rfl Try.ntmps108 rfl ?_
  refine vc_seq ?_
  refine vc_region ?_
  refine vl_box rfl rfl (.some rfl) rfl (fun r1 => ?_)
  refine vl_val rfl (.some rfl) (val_assign rfl) ?_
  refine vl_nilSl 107 3 ?_
  refine vl_val rfl (.some rfl) (val_assign rfl) ?_
  refine vl_nil ?_
  refine vc_seq ?_
  refine vc_region ?_
  refine vl_alloc rfl rfl (.some rfl) Try.zeroValue4 (fun r4 => ?_)
  first | refine vl_store rfl rfl .none rfl rfl Try.sizeOf4 rfl (by repeat constructor) (by first | decide | exact Nat.le_refl _ | exact Nat.le_of_ble_eq_true rfl | (simp; omega)) ?_ | refine vl_storeSl rfl rfl .none rfl rfl Try.sizeOf4 rfl (by simp [Value.cells]) (by repeat constructor) (by first | decide | (simp [Value.cells]; omega)) ?_
  refine vl_nil ?_
  refine vc_seq ?_
  refine vc_region ?_
  refine vl_val rfl (.some rfl) (val_mkFunc rfl rfl) ?_
  refine vl_val rfl (.some rfl) (val_assign rfl) ?_
  refine vl_nil ?_
  refine vc_seq ?_
  refine vc_region ?_
  refine vl_val rfl (.some rfl) (val_move rfl) ?_
  refine vl_callv (C := [cells r1 [.slice A (b).length c] 22, cells r4 [.bool (false)] 4]) (fs := []) (cs := [.pointer (some ⟨r1, 0, none⟩), .pointer (some ⟨r4, 0, none⟩)]) (args := []) rfl rfl (.some rfl) rfl Try.call126 rfl (by repeat constructor) (fun w' hw => vNext r1 r4 (A) (c) (b) (false) (hb) (hbc) w' (reads_callee hr rfl (by repeat constructor) hw)) (fun v H' h => ?_)
  obtain ⟨rfl, rfl⟩ := h
  show VL _ _ _ _ _ (_ :: _ :: _)
  refine vl_val rfl (.some rfl) (val_assign rfl) ?_
  refine vl_nil ?_
  refine vc_seq ?_
  refine vc_region ?_
  refine vl_val rfl (.some rfl) (val_assign rfl) ?_
  refine vl_nilSl 107 3 ?_
  refine vl_nil ?_
  refine vc_seq ?_
  refine vc_seq ?_
  refine vc_region ?_
  refine vl_val rfl (.some rfl) (val_assign rfl) ?_
  refine vl_nil ?_
  refine vc_block ?_
  refine vc_loopw (fun k E H => ∃ (i : Nat) (A2 : Option Addr) (c2 : Nat) (b2 : List UInt8) (bad : Bool) (acc : List Vk) (A7 : Option Addr) (c7 : Nat), Reads w A2 (bcells b2) ∧ b2.length ≤ c2 ∧ b2.length ≤ 1000000000 ∧ StV b acc i (getN b).1 bad b2 ∧ acc.length + (if bad = true then 0 else b2.length + 1) ≤ 1000000002 ∧ k = (if bad = true then 0 else b2.length + 1) ∧ E = [(1, .pointer (some ⟨r1, 0, none⟩)), (4, .pointer (some ⟨r4, 0, none⟩)), (5, (.func (.func 126) #[] #[.pointer (some ⟨r1, 0, none⟩), .pointer (some ⟨r4, 0, none⟩)])), (6, .int .u64 (getN b).1), (7, .slice A7 acc.length c7), (8, .int .u64 i)] ∧ H = [cells r1 [.slice A2 b2.length c2] 22, cells r4 [.bool bad] 4, DS A7 c7 acc]) (if (false || decide ((getN b).2 = 0)) = true then 0 else (b.drop (getN b).2).length + 1) ⟨_, _, _, ⟨0, cutA A c (getN b).2 1, c - (getN b).2, b.drop (getN b).2, false || decide ((getN b).2 = 0), [], none, 0, reads_cutB hr hbc, by rw [List.length_drop]; omega, by rw [List.length_drop]; omega, st_start b _ rfl, by show 0 + _ ≤ _; split <;> (try rw [List.length_drop]) <;> omega, rfl, rfl, rfl⟩, (by repeat (first | exact trivial | refine ⟨rfl, ?_⟩ | refine ⟨le_item rfl (by first | rfl | (congr 1; omega) | (simp; done) | (simp; omega)), ?_⟩)), (by repeat constructor)⟩ ?_
  intro k E H hI
  obtain ⟨i, A2, c2, b2, bad, acc, A7, c7, hr2, hbc2, hb2, hst, hacc, rfl, rfl, rfl⟩ := hI
  refine vc_seq ?_
  refine vc_seq ?_
  refine vc_region ?_
  refine vl_val rfl (.some rfl) (val_load Try.isAgg4 rfl (by first | exact cell_cells (by repeat constructor) rfl | exact cell_rd (by first | exact rd_sl (by repeat constructor) | exact rd_old (by assumption) rfl) (by first | exact bcells_at (by omega) | exact ucells_at (by omega) | exact icells_at (by omega) | exact tcells_at (by omega) | exact bcells_get (by omega) | exact icells_get (by omega) | exact tcells_get (by omega) | exact ucells_get (by omega)) | exact cell_old (by assumption) (by simp [fps]))) ?_
  refine vl_val rfl (.some rfl) (val_not rfl) ?_
  refine vl_val rfl (.some rfl) (val_move rfl) ?_
  refine vl_split (t := 16) rfl (fun hg16 => ?_) (fun hg16 => ?_)
  · (try replace hg16 := of_decide_eq_true hg16)
    refine vl_on rfl rfl rfl rfl ?_
    refine vl_val rfl (.some rfl) (val_move rfl) ?_
    refine vl_on rfl rfl rfl rfl ?_
    refine vl_val rfl (.some rfl) (val_move rfl) ?_
    refine vl_on rfl rfl rfl rfl ?_
    refine vl_val rfl (.some rfl) (val_lt rfl rfl) ?_
    refine vl_val rfl (.some rfl) (val_pick rfl rfl) ?_
    refine vl_nil ?_
    refine vc_cond rfl (fun hc0 => ?_) (fun hc0 => ?_)
    · (try replace hc0 := of_decide_eq_true hc0)
      obtain rfl : bad = false := by simpa using hg16
      have hbd := getN_bd b2
      have hbd2 := getN_bd (b2.drop (getN b2).2)
      have hl3 : (b2.drop (getN b2).2).length = b2.length - (getN b2).2 := List.length_drop
      have hl4 : ((b2.drop (getN b2).2).drop (getN (b2.drop (getN b2).2)).2).length = b2.length - (getN b2).2 - (getN (b2.drop (getN b2).2)).2 := by rw [List.length_drop, hl3]
      have hr3 := reads_cutB (n := (getN b2).2) hr2 hbc2
      have hr4 := reads_cutB (n := (getN (b2.drop (getN b2).2)).2) hr3 (show (b2.drop (getN b2).2).length ≤ (c2 - (getN b2).2) by omega)
      have hr4t : Reads w (cutA (cutA A2 c2 (getN b2).2 1) (c2 - (getN b2).2) (getN (b2.drop (getN b2).2)).2 1) (bcells (((b2.drop (getN b2).2).drop (getN (b2.drop (getN b2).2)).2).take (getN (b2.drop (getN b2).2)).1)) := by have := hr4.take (getN (b2.drop (getN b2).2)).1; simpa [bcells, List.map_take] using this
      have hacc2 : acc.length + b2.length + 1 ≤ 1000000002 := by have h := hacc; simp at h; omega
      refine vc_skip ?_
      refine vc_seq ?_
      refine vc_block ?_
      refine vc_seq ?_
      refine vc_region ?_
      refine vl_val rfl (.some rfl) (val_move rfl) ?_
      refine vl_callv (C := [cells r1 [.slice A2 (b2).length c2] 22, cells r4 [.bool (false)] 4]) (fs := []) (cs := [.pointer (some ⟨r1, 0, none⟩), .pointer (some ⟨r4, 0, none⟩)]) (args := []) rfl rfl (.some rfl) rfl Try.call126 rfl (by repeat constructor) (fun w' hw => vNext r1 r4 (A2) (c2) (b2) (false) (by omega) (hbc2) w' (reads_callee hr2 rfl (by repeat constructor) hw)) (fun v H' h => ?_)
      obtain ⟨rfl, rfl⟩ := h
      show VL _ _ _ _ _ (_ :: _ :: _)
      refine vl_val rfl (.some rfl) (val_min rfl rfl) ?_
      refine vl_val rfl (.some rfl) (val_convInt Try.runUnderlying23 Try.runUnderlying3 rfl (show _ = ((min (getN b2).1 9 : Nat) : Int) by rw [w_i64 (by omega) (by omega)]; omega)) ?_
      refine vl_val rfl (.some rfl) (val_buildSt (pl := #[(0, 1), (1, 1), (2, 1)]) (cs := #[.int .i64 ((min (getN b2).1 9 : Nat) : Int), .int .i64 0, .string ⟨#[]⟩]) Try.runUnderlying107 Try.zeroValue107 (fun w => by kernel_rfl) rfl rfl) ?_
      refine vl_alloc rfl rfl (.some rfl) Try.zeroValue107 (fun r9 => ?_)
      first | refine vl_store rfl rfl .none rfl rfl Try.sizeOf107 rfl (by repeat constructor) (by first | decide | exact Nat.le_refl _ | exact Nat.le_of_ble_eq_true rfl | (simp; omega)) ?_ | refine vl_storeSl rfl rfl .none rfl rfl Try.sizeOf107 rfl (by simp [Value.cells]) (by repeat constructor) (by first | decide | (simp [Value.cells]; omega)) ?_
      refine vl_nil ?_
      refine vc_seq ?_
      refine vc_block ?_
      refine vc_seq ?_
      refine vc_region ?_
      refine vl_val rfl (.some rfl) (by first | exact val_fieldAddr Try.runUnderlying107 rfl Try.sizeOf3 rfl | exact val_fieldAddrR Try.runUnderlying107 rfl Try.sizeOf3 rfl) ?_
      refine vl_val rfl (.some rfl) (val_load Try.isAgg3 rfl (by first | exact cell_cells (by repeat constructor) rfl | exact cell_rd (by first | exact rd_sl (by repeat constructor) | exact rd_old (by assumption) rfl) (by first | exact bcells_at (by omega) | exact ucells_at (by omega) | exact icells_at (by omega) | exact tcells_at (by omega) | exact bcells_get (by omega) | exact icells_get (by omega) | exact tcells_get (by omega) | exact ucells_get (by omega)) | exact cell_old (by assumption) (by simp [fps]))) ?_
      refine vl_val rfl (.some rfl) (val_eq rfl rfl) ?_
      refine vl_val rfl (.some rfl) (val_assign rfl) ?_
      refine vl_nil ?_
      refine vc_cond rfl (fun hc1 => ?_) (fun hc1 => ?_)
      · (try replace hc1 := of_decide_eq_true hc1)
        have hu3 : (getN b2).1 = 3 := by omega
        have hs3 := hu3
        refine vc_seq ?_
        refine vc_region ?_
        refine vl_val rfl (.some rfl) (val_move rfl) ?_
        refine vl_callv (C := [cells r1 [.slice (cutA A2 c2 (getN b2).2 1) ((b2.drop (getN b2).2)).length (c2 - (getN b2).2)] 22, cells r4 [.bool (false || decide ((getN b2).2 = 0))] 4]) (fs := []) (cs := [.pointer (some ⟨r1, 0, none⟩), .pointer (some ⟨r4, 0, none⟩)]) (args := []) rfl rfl (.some rfl) rfl Try.call126 rfl (by repeat constructor) (fun w' hw => vNext r1 r4 ((cutA A2 c2 (getN b2).2 1)) ((c2 - (getN b2).2)) ((b2.drop (getN b2).2)) (false || decide ((getN b2).2 = 0)) (by omega) (by omega) w' (reads_callee hr3 rfl (by repeat constructor) hw)) (fun v H' h => ?_)
        obtain ⟨rfl, rfl⟩ := h
        show VL _ _ _ _ _ (_ :: _ :: _)
        refine vl_val rfl (.some rfl) (val_assign rfl) ?_
        refine vl_nil ?_
        refine vc_seq ?_
        refine vc_seq ?_
        refine vc_region ?_
        refine vl_val rfl (.some rfl) (val_move rfl) ?_
        refine vl_val rfl (.some rfl) (val_gt rfl rfl) ?_
        refine vl_val rfl (.some rfl) (val_move rfl) ?_
        refine vl_split (t := 36) rfl (fun hg36 => ?_) (fun hg36 => ?_)
        · (try replace hg36 := of_decide_eq_true hg36)
          refine vl_off rfl rfl rfl rfl (.some rfl) ?_
          refine vl_off rfl rfl rfl rfl (.some rfl) ?_
          refine vl_off rfl rfl rfl rfl (.some rfl) ?_
          refine vl_off rfl rfl rfl rfl (.some rfl) ?_
          refine vl_off rfl rfl rfl rfl (.some rfl) ?_
          refine vl_val rfl (.some rfl) (val_pick rfl rfl) ?_
          refine vl_nil ?_
          refine vc_cond rfl (fun _ => ?_) (fun h => by cases h)
          refine vc_seq ?_
          refine vc_region ?_
          refine vl_val rfl (.some rfl) (val_assign rfl) ?_
          refine vl_nilSl 107 3 ?_
          refine vl_val rfl (.some rfl) (val_assign rfl) ?_
          refine vl_nil ?_
          refine vc_ret ?_
          refine ⟨_, [DS none 0 []], _, res2 Try.results108 rfl rfl, (by repeat constructor), ?_⟩
          obtain ⟨e1, e2⟩ := load9_none (b := b) (st_none hst (by omega) (by rw [one_str hu3]; exact if_pos (by first | exact .inr (.inr (.inl (by omega))) | exact .inr (.inr (.inr (by omega))))))
          show ∃ A' c', _ ∧ _
          rw [e1, e2]
          exact ⟨none, 0, rfl, rfl⟩
        · (try replace hg36 := of_decide_eq_false hg36)
          refine vl_on rfl rfl rfl rfl ?_
          refine vl_val rfl (.some rfl) (val_move rfl) ?_
          refine vl_on rfl rfl rfl rfl ?_
          refine vl_val rfl (.some rfl) (val_load Try.isAgg22 rfl (by first | exact cell_cells (by repeat constructor) rfl | exact cell_rd (by first | exact rd_sl (by repeat constructor) | exact rd_old (by assumption) rfl) (by first | exact bcells_at (by omega) | exact ucells_at (by omega) | exact icells_at (by omega) | exact tcells_at (by omega) | exact bcells_get (by omega) | exact icells_get (by omega) | exact tcells_get (by omega) | exact ucells_get (by omega)) | exact cell_old (by assumption) (by simp [fps]))) ?_
          refine vl_on rfl rfl rfl rfl ?_
          refine vl_val rfl (.some rfl) (val_lenSl Try.runUnderlying22 rfl) ?_
          refine vl_on rfl rfl rfl rfl ?_
          refine vl_val rfl (.some rfl) (val_convInt Try.runUnderlying3 Try.runUnderlying23 rfl (by first | exact w_u64 (by omega) (by omega) | rfl)) ?_
          refine vl_on rfl rfl rfl rfl ?_
          refine vl_val rfl (.some rfl) (val_gt rfl rfl) ?_
          refine vl_val rfl (.some rfl) (val_pick rfl rfl) ?_
          refine vl_nil ?_
          refine vc_cond rfl (fun hc2 => ?_) (fun hc2 => ?_)
          · (try replace hc2 := of_decide_eq_true hc2)
            refine vc_seq ?_
            refine vc_region ?_
            refine vl_val rfl (.some rfl) (val_assign rfl) ?_
            refine vl_nilSl 107 3 ?_
            refine vl_val rfl (.some rfl) (val_assign rfl) ?_
            refine vl_nil ?_
            refine vc_ret ?_
            refine ⟨_, [DS none 0 []], _, res2 Try.results108 rfl rfl, (by repeat constructor), ?_⟩
            obtain ⟨e1, e2⟩ := load9_none (b := b) (st_none hst (by omega) (by rw [one_str hu3]; exact if_pos (by first | exact .inr (.inr (.inl (by omega))) | exact .inr (.inr (.inr (by omega))))))
            show ∃ A' c', _ ∧ _
            rw [e1, e2]
            exact ⟨none, 0, rfl, rfl⟩
          · (try replace hc2 := of_decide_eq_false hc2)
            have hl5 : (((b2.drop (getN b2).2).drop (getN (b2.drop (getN b2).2)).2).drop (getN (b2.drop (getN b2).2)).1).length = ((b2.drop (getN b2).2).drop (getN (b2.drop (getN b2).2)).2).length - (getN (b2.drop (getN b2).2)).1 := List.length_drop
            refine vc_skip ?_
            refine vc_drawsS [0, 1, 2, 3, 4, 5, 6, 7] [9] [0, 1, 2, 3, 4, 5, 6, 7, 8, 9] [cells r1 [.slice (cutA (cutA A2 c2 (getN b2).2 1) (c2 - (getN b2).2) (getN (b2.drop (getN b2).2)).2 1) ((b2.drop (getN b2).2).drop (getN (b2.drop (getN b2).2)).2).length ((c2 - (getN b2).2) - (getN (b2.drop (getN b2).2)).2)] 22] (by repeat constructor) rfl (by kernel_rfl) (fun _ _ _ h => h) ?_
            refine vd_val rfl rfl rfl (.some rfl) (val_load Try.isAgg22 rfl (by first | exact cell_cells (by repeat constructor) rfl | exact cell_rd (by first | exact rd_sl (by repeat constructor) | exact rd_old (by assumption) rfl) (by first | exact bcells_at (by omega) | exact ucells_at (by omega) | exact icells_at (by omega) | exact tcells_at (by omega) | exact bcells_get (by omega) | exact icells_get (by omega) | exact tcells_get (by omega) | exact ucells_get (by omega)) | exact cell_old (by assumption) (by simp [fps]))) ?_
            refine vd_val rfl rfl rfl (.some rfl) (val_move rfl) ?_
            refine vd_val rfl rfl rfl (.some rfl) (val_cutTo Try.runUnderlying22 Try.sizeOf5 rfl rfl (by omega) (by omega)) ?_
            refine vd_val rfl rfl rfl (.some rfl) (val_bytesToStr Try.runUnderlying22 Try.runUnderlying5 Try.runUnderlying9 rfl (rd_old hr4t rfl) (by rw [List.length_take]; omega)) ?_
            refine vd_val rfl rfl rfl (.some rfl) (val_load Try.isAgg22 rfl (by first | exact cell_cells (by repeat constructor) rfl | exact cell_rd (by first | exact rd_sl (by repeat constructor) | exact rd_old (by assumption) rfl) (by first | exact bcells_at (by omega) | exact ucells_at (by omega) | exact icells_at (by omega) | exact tcells_at (by omega) | exact bcells_get (by omega) | exact icells_get (by omega) | exact tcells_get (by omega) | exact ucells_get (by omega)) | exact cell_old (by assumption) (by simp [fps]))) ?_
            refine vd_val rfl rfl rfl (.some rfl) (val_move rfl) ?_
            refine vd_val rfl rfl rfl (.some rfl) (val_cutFrom Try.runUnderlying22 Try.sizeOf5 rfl rfl (by omega) (by omega)) ?_
            refine vd_val rfl rfl rfl (.some rfl) (by first | exact val_fieldAddr Try.runUnderlying107 rfl Try.sizeOf9 rfl | exact val_fieldAddrR Try.runUnderlying107 rfl Try.sizeOf9 rfl) ?_
            refine vd_op rfl rfl ?_
            first | refine vl_store rfl rfl .none rfl rfl Try.sizeOf9 rfl (by repeat constructor) (by first | decide | exact Nat.le_refl _ | exact Nat.le_of_ble_eq_true rfl | (simp; omega)) ?_ | refine vl_storeSl rfl rfl .none rfl rfl Try.sizeOf9 rfl (by simp [Value.cells]) (by repeat constructor) (by first | decide | (simp [Value.cells]; omega)) ?_
            refine vl_nil ?_
            refine ⟨fun _ => ⟨_, (by repeat (first | exact .nil | exact sub_self _ | exact sub_skip (sub_self _) | exact sub_skip (sub_skip (sub_self _)) | exact sub_skip (sub_skip (sub_skip (sub_self _))) | (apply Sub.cons; · repeat (first | exact .head | apply Take.tail))))⟩, ?_⟩
            refine vd_op rfl rfl ?_
            rw [Int.toNat_natCast, show ((b2.drop (getN b2).2).drop (getN (b2.drop (getN b2).2)).2).length - (getN (b2.drop (getN b2).2)).1 = (((b2.drop (getN b2).2).drop (getN (b2.drop (getN b2).2)).2).drop (getN (b2.drop (getN b2).2)).1).length from List.length_drop.symm]
            refine vl_store rfl rfl .none rfl rfl Try.sizeOf22 rfl (by repeat constructor) (Nat.le_refl _) ?_
            refine vl_nil ?_
            refine ⟨fun h => (by cases h), ?_⟩
            refine vd_nil ?_
            refine vc_seq ?_
            refine vc_region ?_
            refine vl_val rfl (.some rfl) (val_load Try.isAgg4 rfl (by first | exact cell_cells (by repeat constructor) rfl | exact cell_rd (by first | exact rd_sl (by repeat constructor) | exact rd_old (by assumption) rfl) (by first | exact bcells_at (by omega) | exact ucells_at (by omega) | exact icells_at (by omega) | exact tcells_at (by omega) | exact bcells_get (by omega) | exact icells_get (by omega) | exact tcells_get (by omega) | exact ucells_get (by omega)) | exact cell_old (by assumption) (by simp [fps]))) ?_
            refine vl_val rfl (.some rfl) (val_move rfl) ?_
            refine vl_split (t := 60) rfl (fun hg60 => ?_) (fun hg60 => ?_)
            · (try replace hg60 := of_decide_eq_true hg60)
              refine vl_off rfl rfl rfl rfl (.some rfl) ?_
              refine vl_off rfl rfl rfl rfl (.some rfl) ?_
              refine vl_off rfl rfl rfl rfl (.some rfl) ?_
              refine vl_val rfl (.some rfl) (val_pick rfl rfl) ?_
              first | refine vl_store rfl rfl .none rfl rfl Try.sizeOf4 rfl (by repeat constructor) (by first | decide | exact Nat.le_refl _ | exact Nat.le_of_ble_eq_true rfl | (simp; omega)) ?_ | refine vl_storeSl rfl rfl .none rfl rfl Try.sizeOf4 rfl (by simp [Value.cells]) (by repeat constructor) (by first | decide | (simp [Value.cells]; omega)) ?_
              refine vl_nil ?_
              refine vc_region ?_
              refine vl_val rfl (.some rfl) (val_move rfl) ?_
              refine vl_val rfl (.some rfl) (val_loadAgg Try.isAgg107 Try.sizeOf107 rfl (by first | exact cells_whole (by repeat constructor) | exact cells_part (by repeat constructor) rfl) rfl) ?_
              refine vl_lit sT105 rfl rfl (.some rfl) rfl rfl rfl (by decide) (by decide) rfl rfl (fun r67 => ?_)
              first
                | (have _g := hz0; refine vl_append (us := flat [numK (getN b2).1 0]) sT105 rfl rfl (.some rfl) rfl rfl (rd_sl (by repeat constructor)) rfl rfl (by omega) (by omega) (by repeat constructor) (fun A68 k68 => ?_); rw [vk_flat1, show acc.length + 1 = (acc ++ [numK (getN b2).1 0]).length by simp])
                | (have _g := hn0; refine vl_append (us := flat [numK (getN b2).1 (zagS (getN (b2.drop (getN b2).2)).1)]) sT105 rfl rfl (.some rfl) rfl rfl (rd_sl (by repeat constructor)) rfl rfl (by omega) (by omega) (by repeat constructor) (fun A68 k68 => ?_); rw [vk_flat1, show acc.length + 1 = (acc ++ [numK (getN b2).1 (zagS (getN (b2.drop (getN b2).2)).1)]).length by simp])
                | (have _g := hs3; refine vl_append (us := flat [(⟨((min (getN b2).1 9 : Nat) : Int), 0, txtV (((b2.drop (getN b2).2).drop (getN (b2.drop (getN b2).2)).2).take (getN (b2.drop (getN b2).2)).1)⟩ : Vk)]) sT105 rfl rfl (.some rfl) rfl rfl (rd_sl (by repeat constructor)) rfl rfl (by omega) (by omega) (by repeat constructor) (fun A68 k68 => ?_); rw [vk_flat1, show acc.length + 1 = (acc ++ [(⟨((min (getN b2).1 9 : Nat) : Int), 0, txtV (((b2.drop (getN b2).2).drop (getN (b2.drop (getN b2).2)).2).take (getN (b2.drop (getN b2).2)).1)⟩ : Vk)]).length by simp])
              refine vl_val rfl (.some rfl) (val_assign rfl) ?_
              refine vl_nil ?_
              refine vc_region ?_
              refine vl_val rfl (.some rfl) (val_move rfl) ?_
              refine vl_val rfl (.some rfl) (val_add rfl rfl (by first | exact w_u64 (by omega) (by omega) | rfl)) ?_
              refine vl_val rfl (.some rfl) (val_assign rfl) ?_
              refine vl_nil ?_
              first
                | exact ⟨if (true) = true then 0 else ((b2.drop (getN b2).2)).length + 1, _, _, _, (by show _ < b2.length + 1; rw [if_pos rfl]; omega), (by repeat (first | exact trivial | refine ⟨rfl, ?_⟩ | refine ⟨le_item rfl (by first | rfl | (congr 1; omega) | (simp; done) | (simp; omega)), ?_⟩)), (by repeat constructor), ⟨i + 1, (cutA A2 c2 (getN b2).2 1), (c2 - (getN b2).2), (b2.drop (getN b2).2), true, acc ++ [numK (getN b2).1 0], A68, k68, hr3, by omega, by omega, st_step hst (by omega) (fun _ => by rw [one_null hu0]; exact if_pos (by simpa using hg60)) (fun h => (by cases h)), by rw [List.length_append, if_pos rfl]; show acc.length + 1 + 0 ≤ _; omega, rfl, rfl, rfl⟩⟩
                | exact ⟨if (!goodV (numK (getN b2).1 0)) = true then 0 else ((b2.drop (getN b2).2)).length + 1, _, _, _, (by show _ < b2.length + 1; have h9 := hg60; (try simp at h9); split <;> omega), (by repeat (first | exact trivial | refine ⟨rfl, ?_⟩ | refine ⟨le_item rfl (by first | rfl | (congr 1; omega) | (simp; done) | (simp; omega)), ?_⟩)), (by repeat constructor), ⟨i + 1, (cutA A2 c2 (getN b2).2 1), (c2 - (getN b2).2), (b2.drop (getN b2).2), !goodV (numK (getN b2).1 0), acc ++ [numK (getN b2).1 0], A68, k68, hr3, by omega, by omega, st_step hst (by omega) (fun h => by have e0 : numK (getN b2).1 0 = z3 := (by unfold numK; rw [hu0]; first | rfl | skip); rw [e0, show goodV z3 = true by decide] at h; cases h) (fun _ => by have e0 : numK (getN b2).1 0 = z3 := (by unfold numK; rw [hu0]; first | rfl | skip); rw [one_null hu0, e0]; exact if_neg (by simpa using hg60)), by have h9 := hg60; (try simp at h9); rw [List.length_append, show [numK (getN b2).1 0].length = 1 from rfl]; split <;> omega, rfl, rfl, rfl⟩⟩
                | exact ⟨if (true) = true then 0 else (((b2.drop (getN b2).2).drop (getN (b2.drop (getN b2).2)).2)).length + 1, _, _, _, (by show _ < b2.length + 1; rw [if_pos rfl]; omega), (by repeat (first | exact trivial | refine ⟨rfl, ?_⟩ | refine ⟨le_item rfl (by first | rfl | (congr 1; omega) | (simp; done) | (simp; omega)), ?_⟩)), (by repeat constructor), ⟨i + 1, (cutA (cutA A2 c2 (getN b2).2 1) (c2 - (getN b2).2) (getN (b2.drop (getN b2).2)).2 1), ((c2 - (getN b2).2) - (getN (b2.drop (getN b2).2)).2), ((b2.drop (getN b2).2).drop (getN (b2.drop (getN b2).2)).2), true, acc ++ [numK (getN b2).1 (zagS (getN (b2.drop (getN b2).2)).1)], A68, k68, hr4, by omega, by omega, st_step hst (by omega) (fun _ => by rw [one_num hu0 hu3]; exact if_pos (by have h9 := hg60; (try simp at h9); rcases h9 with h9 | h9; exact .inl h9; exact .inr (.inl h9))) (fun h => (by cases h)), by rw [List.length_append, if_pos rfl]; show acc.length + 1 + 0 ≤ _; omega, rfl, rfl, rfl⟩⟩
                | exact ⟨if (!goodV (numK (getN b2).1 (zagS (getN (b2.drop (getN b2).2)).1))) = true then 0 else (((b2.drop (getN b2).2).drop (getN (b2.drop (getN b2).2)).2)).length + 1, _, _, _, (by show _ < b2.length + 1; have h9 := hg60; (try simp at h9); split <;> omega), (by repeat (first | exact trivial | refine ⟨rfl, ?_⟩ | refine ⟨le_item rfl (by first | rfl | (congr 1; omega) | (simp; done) | (simp; omega)), ?_⟩)), (by repeat constructor), ⟨i + 1, (cutA (cutA A2 c2 (getN b2).2 1) (c2 - (getN b2).2) (getN (b2.drop (getN b2).2)).2 1), ((c2 - (getN b2).2) - (getN (b2.drop (getN b2).2)).2), ((b2.drop (getN b2).2).drop (getN (b2.drop (getN b2).2)).2), !goodV (numK (getN b2).1 (zagS (getN (b2.drop (getN b2).2)).1)), acc ++ [numK (getN b2).1 (zagS (getN (b2.drop (getN b2).2)).1)], A68, k68, hr4, by omega, by omega, st_step hst (by omega) (fun h => by rw [one_num hu0 hu3]; exact if_pos (.inr (.inr (by simpa using h)))) (fun h => by rw [one_num hu0 hu3]; exact if_neg (by have h9 := hg60; (try simp at h9); rintro (h1 | h1 | h1); exact h9.1 h1; exact h9.2 h1; rw [h1] at h; cases h)), by have h9 := hg60; (try simp at h9); rw [List.length_append, show [numK (getN b2).1 (zagS (getN (b2.drop (getN b2).2)).1)].length = 1 from rfl]; split <;> omega, rfl, rfl, rfl⟩⟩
                | exact ⟨if (true) = true then 0 else ((((b2.drop (getN b2).2).drop (getN (b2.drop (getN b2).2)).2).drop (getN (b2.drop (getN b2).2)).1)).length + 1, _, _, _, (by show _ < b2.length + 1; rw [if_pos rfl]; omega), (by repeat (first | exact trivial | refine ⟨rfl, ?_⟩ | refine ⟨le_item rfl (by first | rfl | (congr 1; omega) | (simp; done) | (simp; omega)), ?_⟩)), (by repeat constructor), ⟨i + 1, (cutA (cutA (cutA A2 c2 (getN b2).2 1) (c2 - (getN b2).2) (getN (b2.drop (getN b2).2)).2 1) ((c2 - (getN b2).2) - (getN (b2.drop (getN b2).2)).2) (getN (b2.drop (getN b2).2)).1 1), (((c2 - (getN b2).2) - (getN (b2.drop (getN b2).2)).2) - (getN (b2.drop (getN b2).2)).1), (((b2.drop (getN b2).2).drop (getN (b2.drop (getN b2).2)).2).drop (getN (b2.drop (getN b2).2)).1), true, acc ++ [(⟨((min (getN b2).1 9 : Nat) : Int), 0, txtV (((b2.drop (getN b2).2).drop (getN (b2.drop (getN b2).2)).2).take (getN (b2.drop (getN b2).2)).1)⟩ : Vk)], A68, k68, (reads_cutB hr4 (show ((b2.drop (getN b2).2).drop (getN (b2.drop (getN b2).2)).2).length ≤ ((c2 - (getN b2).2) - (getN (b2.drop (getN b2).2)).2) by omega)), by omega, by omega, st_step hst (by omega) (fun _ => by rw [one_str hu3]; exact if_pos (by have h9 := hg60; (try simp at h9); rcases h9 with h9 | h9; exact .inl h9; exact .inr (.inl h9))) (fun h => (by cases h)), by rw [List.length_append, if_pos rfl]; show acc.length + 1 + 0 ≤ _; omega, rfl, rfl, rfl⟩⟩
                | exact ⟨if (!goodV ((⟨((min (getN b2).1 9 : Nat) : Int), 0, txtV (((b2.drop (getN b2).2).drop (getN (b2.drop (getN b2).2)).2).take (getN (b2.drop (getN b2).2)).1)⟩ : Vk))) = true then 0 else ((((b2.drop (getN b2).2).drop (getN (b2.drop (getN b2).2)).2).drop (getN (b2.drop (getN b2).2)).1)).length + 1, _, _, _, (by show _ < b2.length + 1; have h9 := hg60; (try simp at h9); split <;> omega), (by repeat (first | exact trivial | refine ⟨rfl, ?_⟩ | refine ⟨le_item rfl (by first | rfl | (congr 1; omega) | (simp; done) | (simp; omega)), ?_⟩)), (by repeat constructor), ⟨i + 1, (cutA (cutA (cutA A2 c2 (getN b2).2 1) (c2 - (getN b2).2) (getN (b2.drop (getN b2).2)).2 1) ((c2 - (getN b2).2) - (getN (b2.drop (getN b2).2)).2) (getN (b2.drop (getN b2).2)).1 1), (((c2 - (getN b2).2) - (getN (b2.drop (getN b2).2)).2) - (getN (b2.drop (getN b2).2)).1), (((b2.drop (getN b2).2).drop (getN (b2.drop (getN b2).2)).2).drop (getN (b2.drop (getN b2).2)).1), !goodV ((⟨((min (getN b2).1 9 : Nat) : Int), 0, txtV (((b2.drop (getN b2).2).drop (getN (b2.drop (getN b2).2)).2).take (getN (b2.drop (getN b2).2)).1)⟩ : Vk)), acc ++ [(⟨((min (getN b2).1 9 : Nat) : Int), 0, txtV (((b2.drop (getN b2).2).drop (getN (b2.drop (getN b2).2)).2).take (getN (b2.drop (getN b2).2)).1)⟩ : Vk)], A68, k68, (reads_cutB hr4 (show ((b2.drop (getN b2).2).drop (getN (b2.drop (getN b2).2)).2).length ≤ ((c2 - (getN b2).2) - (getN (b2.drop (getN b2).2)).2) by omega)), by omega, by omega, st_step hst (by omega) (fun h => by have e2 : (⟨((min (getN b2).1 9 : Nat) : Int), 0, txtV (((b2.drop (getN b2).2).drop (getN (b2.drop (getN b2).2)).2).take (getN (b2.drop (getN b2).2)).1)⟩ : Vk) = ⟨3, 0, txtV (((b2.drop (getN b2).2).drop (getN (b2.drop (getN b2).2)).2).take (getN (b2.drop (getN b2).2)).1)⟩ := (by rw [hu3]; first | rfl | skip); rw [e2, good_txt (by rw [List.length_take]; omega)] at h; cases h) (fun _ => by have e2 : (⟨((min (getN b2).1 9 : Nat) : Int), 0, txtV (((b2.drop (getN b2).2).drop (getN (b2.drop (getN b2).2)).2).take (getN (b2.drop (getN b2).2)).1)⟩ : Vk) = ⟨3, 0, txtV (((b2.drop (getN b2).2).drop (getN (b2.drop (getN b2).2)).2).take (getN (b2.drop (getN b2).2)).1)⟩ := (by rw [hu3]; first | rfl | skip); rw [one_str hu3, e2]; exact if_neg (by have h9 := hg60; (try simp at h9); rintro (h1 | h1 | h1 | h1); exact h9.1 h1; exact h9.2 h1; omega; omega)), by have h9 := hg60; (try simp at h9); rw [List.length_append, show [(⟨((min (getN b2).1 9 : Nat) : Int), 0, txtV (((b2.drop (getN b2).2).drop (getN (b2.drop (getN b2).2)).2).take (getN (b2.drop (getN b2).2)).1)⟩ : Vk)].length = 1 from rfl]; split <;> omega, rfl, rfl, rfl⟩⟩
            · (try replace hg60 := of_decide_eq_false hg60)
              refine vl_on rfl rfl rfl rfl ?_
              refine vl_val rfl (.some rfl) (val_loadAgg Try.isAgg107 Try.sizeOf107 rfl (by first | exact cells_whole (by repeat constructor) | exact cells_part (by repeat constructor) rfl) rfl) ?_
              refine vl_on rfl rfl rfl rfl ?_
              first
                | (have _g := hz0; refine vl_callV rfl rfl (.some rfl) Try.call128 rfl (fun w hw => vGood (numK (getN b2).1 0) w) ?_)
                | (have _g := hn0; refine vl_callV rfl rfl (.some rfl) Try.call128 rfl (fun w hw => vGood (numK (getN b2).1 (zagS (getN (b2.drop (getN b2).2)).1)) w) ?_)
                | (have _g := hs3; refine vl_callV rfl rfl (.some rfl) Try.call128 rfl (fun w hw => vGood ((⟨((min (getN b2).1 9 : Nat) : Int), 0, txtV (((b2.drop (getN b2).2).drop (getN (b2.drop (getN b2).2)).2).take (getN (b2.drop (getN b2).2)).1)⟩ : Vk)) w) ?_)
              refine vl_on rfl rfl rfl rfl ?_
              refine vl_val rfl (.some rfl) (val_not rfl) ?_
              refine vl_val rfl (.some rfl) (val_pick rfl rfl) ?_
              first | refine vl_store rfl rfl .none rfl rfl Try.sizeOf4 rfl (by repeat constructor) (by first | decide | exact Nat.le_refl _ | exact Nat.le_of_ble_eq_true rfl | (simp; omega)) ?_ | refine vl_storeSl rfl rfl .none rfl rfl Try.sizeOf4 rfl (by simp [Value.cells]) (by repeat constructor) (by first | decide | (simp [Value.cells]; omega)) ?_
              refine vl_nil ?_
              refine vc_region ?_
              refine vl_val rfl (.some rfl) (val_move rfl) ?_
              refine vl_val rfl (.some rfl) (val_loadAgg Try.isAgg107 Try.sizeOf107 rfl (by first | exact cells_whole (by repeat constructor) | exact cells_part (by repeat constructor) rfl) rfl) ?_
              refine vl_lit sT105 rfl rfl (.some rfl) rfl rfl rfl (by decide) (by decide) rfl rfl (fun r67 => ?_)
              first
                | (have _g := hz0; refine vl_append (us := flat [numK (getN b2).1 0]) sT105 rfl rfl (.some rfl) rfl rfl (rd_sl (by repeat constructor)) rfl rfl (by omega) (by omega) (by repeat constructor) (fun A68 k68 => ?_); rw [vk_flat1, show acc.length + 1 = (acc ++ [numK (getN b2).1 0]).length by simp])
                | (have _g := hn0; refine vl_append (us := flat [numK (getN b2).1 (zagS (getN (b2.drop (getN b2).2)).1)]) sT105 rfl rfl (.some rfl) rfl rfl (rd_sl (by repeat constructor)) rfl rfl (by omega) (by omega) (by repeat constructor) (fun A68 k68 => ?_); rw [vk_flat1, show acc.length + 1 = (acc ++ [numK (getN b2).1 (zagS (getN (b2.drop (getN b2).2)).1)]).length by simp])
                | (have _g := hs3; refine vl_append (us := flat [(⟨((min (getN b2).1 9 : Nat) : Int), 0, txtV (((b2.drop (getN b2).2).drop (getN (b2.drop (getN b2).2)).2).take (getN (b2.drop (getN b2).2)).1)⟩ : Vk)]) sT105 rfl rfl (.some rfl) rfl rfl (rd_sl (by repeat constructor)) rfl rfl (by omega) (by omega) (by repeat constructor) (fun A68 k68 => ?_); rw [vk_flat1, show acc.length + 1 = (acc ++ [(⟨((min (getN b2).1 9 : Nat) : Int), 0, txtV (((b2.drop (getN b2).2).drop (getN (b2.drop (getN b2).2)).2).take (getN (b2.drop (getN b2).2)).1)⟩ : Vk)]).length by simp])
              refine vl_val rfl (.some rfl) (val_assign rfl) ?_
              refine vl_nil ?_
              refine vc_region ?_
              refine vl_val rfl (.some rfl) (val_move rfl) ?_
              refine vl_val rfl (.some rfl) (val_add rfl rfl (by first | exact w_u64 (by omega) (by omega) | rfl)) ?_
              refine vl_val rfl (.some rfl) (val_assign rfl) ?_
              refine vl_nil ?_
              first
                | exact ⟨if (true) = true then 0 else ((b2.drop (getN b2).2)).length + 1, _, _, _, (by show _ < b2.length + 1; rw [if_pos rfl]; omega), (by repeat (first | exact trivial | refine ⟨rfl, ?_⟩ | refine ⟨le_item rfl (by first | rfl | (congr 1; omega) | (simp; done) | (simp; omega)), ?_⟩)), (by repeat constructor), ⟨i + 1, (cutA A2 c2 (getN b2).2 1), (c2 - (getN b2).2), (b2.drop (getN b2).2), true, acc ++ [numK (getN b2).1 0], A68, k68, hr3, by omega, by omega, st_step hst (by omega) (fun _ => by rw [one_null hu0]; exact if_pos (by simpa using hg60)) (fun h => (by cases h)), by rw [List.length_append, if_pos rfl]; show acc.length + 1 + 0 ≤ _; omega, rfl, rfl, rfl⟩⟩
                | exact ⟨if (!goodV (numK (getN b2).1 0)) = true then 0 else ((b2.drop (getN b2).2)).length + 1, _, _, _, (by show _ < b2.length + 1; have h9 := hg60; (try simp at h9); split <;> omega), (by repeat (first | exact trivial | refine ⟨rfl, ?_⟩ | refine ⟨le_item rfl (by first | rfl | (congr 1; omega) | (simp; done) | (simp; omega)), ?_⟩)), (by repeat constructor), ⟨i + 1, (cutA A2 c2 (getN b2).2 1), (c2 - (getN b2).2), (b2.drop (getN b2).2), !goodV (numK (getN b2).1 0), acc ++ [numK (getN b2).1 0], A68, k68, hr3, by omega, by omega, st_step hst (by omega) (fun h => by have e0 : numK (getN b2).1 0 = z3 := (by unfold numK; rw [hu0]; first | rfl | skip); rw [e0, show goodV z3 = true by decide] at h; cases h) (fun _ => by have e0 : numK (getN b2).1 0 = z3 := (by unfold numK; rw [hu0]; first | rfl | skip); rw [one_null hu0, e0]; exact if_neg (by simpa using hg60)), by have h9 := hg60; (try simp at h9); rw [List.length_append, show [numK (getN b2).1 0].length = 1 from rfl]; split <;> omega, rfl, rfl, rfl⟩⟩
                | exact ⟨if (true) = true then 0 else (((b2.drop (getN b2).2).drop (getN (b2.drop (getN b2).2)).2)).length + 1, _, _, _, (by show _ < b2.length + 1; rw [if_pos rfl]; omega), (by repeat (first | exact trivial | refine ⟨rfl, ?_⟩ | refine ⟨le_item rfl (by first | rfl | (congr 1; omega) | (simp; done) | (simp; omega)), ?_⟩)), (by repeat constructor), ⟨i + 1, (cutA (cutA A2 c2 (getN b2).2 1) (c2 - (getN b2).2) (getN (b2.drop (getN b2).2)).2 1), ((c2 - (getN b2).2) - (getN (b2.drop (getN b2).2)).2), ((b2.drop (getN b2).2).drop (getN (b2.drop (getN b2).2)).2), true, acc ++ [numK (getN b2).1 (zagS (getN (b2.drop (getN b2).2)).1)], A68, k68, hr4, by omega, by omega, st_step hst (by omega) (fun _ => by rw [one_num hu0 hu3]; exact if_pos (by have h9 := hg60; (try simp at h9); rcases h9 with h9 | h9; exact .inl h9; exact .inr (.inl h9))) (fun h => (by cases h)), by rw [List.length_append, if_pos rfl]; show acc.length + 1 + 0 ≤ _; omega, rfl, rfl, rfl⟩⟩
                | exact ⟨if (!goodV (numK (getN b2).1 (zagS (getN (b2.drop (getN b2).2)).1))) = true then 0 else (((b2.drop (getN b2).2).drop (getN (b2.drop (getN b2).2)).2)).length + 1, _, _, _, (by show _ < b2.length + 1; have h9 := hg60; (try simp at h9); split <;> omega), (by repeat (first | exact trivial | refine ⟨rfl, ?_⟩ | refine ⟨le_item rfl (by first | rfl | (congr 1; omega) | (simp; done) | (simp; omega)), ?_⟩)), (by repeat constructor), ⟨i + 1, (cutA (cutA A2 c2 (getN b2).2 1) (c2 - (getN b2).2) (getN (b2.drop (getN b2).2)).2 1), ((c2 - (getN b2).2) - (getN (b2.drop (getN b2).2)).2), ((b2.drop (getN b2).2).drop (getN (b2.drop (getN b2).2)).2), !goodV (numK (getN b2).1 (zagS (getN (b2.drop (getN b2).2)).1)), acc ++ [numK (getN b2).1 (zagS (getN (b2.drop (getN b2).2)).1)], A68, k68, hr4, by omega, by omega, st_step hst (by omega) (fun h => by rw [one_num hu0 hu3]; exact if_pos (.inr (.inr (by simpa using h)))) (fun h => by rw [one_num hu0 hu3]; exact if_neg (by have h9 := hg60; (try simp at h9); rintro (h1 | h1 | h1); exact h9.1 h1; exact h9.2 h1; rw [h1] at h; cases h)), by have h9 := hg60; (try simp at h9); rw [List.length_append, show [numK (getN b2).1 (zagS (getN (b2.drop (getN b2).2)).1)].length = 1 from rfl]; split <;> omega, rfl, rfl, rfl⟩⟩
                | exact ⟨if (true) = true then 0 else ((((b2.drop (getN b2).2).drop (getN (b2.drop (getN b2).2)).2).drop (getN (b2.drop (getN b2).2)).1)).length + 1, _, _, _, (by show _ < b2.length + 1; rw [if_pos rfl]; omega), (by repeat (first | exact trivial | refine ⟨rfl, ?_⟩ | refine ⟨le_item rfl (by first | rfl | (congr 1; omega) | (simp; done) | (simp; omega)), ?_⟩)), (by repeat constructor), ⟨i + 1, (cutA (cutA (cutA A2 c2 (getN b2).2 1) (c2 - (getN b2).2) (getN (b2.drop (getN b2).2)).2 1) ((c2 - (getN b2).2) - (getN (b2.drop (getN b2).2)).2) (getN (b2.drop (getN b2).2)).1 1), (((c2 - (getN b2).2) - (getN (b2.drop (getN b2).2)).2) - (getN (b2.drop (getN b2).2)).1), (((b2.drop (getN b2).2).drop (getN (b2.drop (getN b2).2)).2).drop (getN (b2.drop (getN b2).2)).1), true, acc ++ [(⟨((min (getN b2).1 9 : Nat) : Int), 0, txtV (((b2.drop (getN b2).2).drop (getN (b2.drop (getN b2).2)).2).take (getN (b2.drop (getN b2).2)).1)⟩ : Vk)], A68, k68, (reads_cutB hr4 (show ((b2.drop (getN b2).2).drop (getN (b2.drop (getN b2).2)).2).length ≤ ((c2 - (getN b2).2) - (getN (b2.drop (getN b2).2)).2) by omega)), by omega, by omega, st_step hst (by omega) (fun _ => by rw [one_str hu3]; exact if_pos (by have h9 := hg60; (try simp at h9); rcases h9 with h9 | h9; exact .inl h9; exact .inr (.inl h9))) (fun h => (by cases h)), by rw [List.length_append, if_pos rfl]; show acc.length + 1 + 0 ≤ _; omega, rfl, rfl, rfl⟩⟩
                | exact ⟨if (!goodV ((⟨((min (getN b2).1 9 : Nat) : Int), 0, txtV (((b2.drop (getN b2).2).drop (getN (b2.drop (getN b2).2)).2).take (getN (b2.drop (getN b2).2)).1)⟩ : Vk))) = true then 0 else ((((b2.drop (getN b2).2).drop (getN (b2.drop (getN b2).2)).2).drop (getN (b2.drop (getN b2).2)).1)).length + 1, _, _, _, (by show _ < b2.length + 1; have h9 := hg60; (try simp at h9); split <;> omega), (by repeat (first | exact trivial | refine ⟨rfl, ?_⟩ | refine ⟨le_item rfl (by first | rfl | (congr 1; omega) | (simp; done) | (simp; omega)), ?_⟩)), (by repeat constructor), ⟨i + 1, (cutA (cutA (cutA A2 c2 (getN b2).2 1) (c2 - (getN b2).2) (getN (b2.drop (getN b2).2)).2 1) ((c2 - (getN b2).2) - (getN (b2.drop (getN b2).2)).2) (getN (b2.drop (getN b2).2)).1 1), (((c2 - (getN b2).2) - (getN (b2.drop (getN b2).2)).2) - (getN (b2.drop (getN b2).2)).1), (((b2.drop (getN b2).2).drop (getN (b2.drop (getN b2).2)).2).drop (getN (b2.drop (getN b2).2)).1), !goodV ((⟨((min (getN b2).1 9 : Nat) : Int), 0, txtV (((b2.drop (getN b2).2).drop (getN (b2.drop (getN b2).2)).2).take (getN (b2.drop (getN b2).2)).1)⟩ : Vk)), acc ++ [(⟨((min (getN b2).1 9 : Nat) : Int), 0, txtV (((b2.drop (getN b2).2).drop (getN (b2.drop (getN b2).2)).2).take (getN (b2.drop (getN b2).2)).1)⟩ : Vk)], A68, k68, (reads_cutB hr4 (show ((b2.drop (getN b2).2).drop (getN (b2.drop (getN b2).2)).2).length ≤ ((c2 - (getN b2).2) - (getN (b2.drop (getN b2).2)).2) by omega)), by omega, by omega, st_step hst (by omega) (fun h => by have e2 : (⟨((min (getN b2).1 9 : Nat) : Int), 0, txtV (((b2.drop (getN b2).2).drop (getN (b2.drop (getN b2).2)).2).take (getN (b2.drop (getN b2).2)).1)⟩ : Vk) = ⟨3, 0, txtV (((b2.drop (getN b2).2).drop (getN (b2.drop (getN b2).2)).2).take (getN (b2.drop (getN b2).2)).1)⟩ := (by rw [hu3]; first | rfl | skip); rw [e2, good_txt (by rw [List.length_take]; omega)] at h; cases h) (fun _ => by have e2 : (⟨((min (getN b2).1 9 : Nat) : Int), 0, txtV (((b2.drop (getN b2).2).drop (getN (b2.drop (getN b2).2)).2).take (getN (b2.drop (getN b2).2)).1)⟩ : Vk) = ⟨3, 0, txtV (((b2.drop (getN b2).2).drop (getN (b2.drop (getN b2).2)).2).take (getN (b2.drop (getN b2).2)).1)⟩ := (by rw [hu3]; first | rfl | skip); rw [one_str hu3, e2]; exact if_neg (by have h9 := hg60; (try simp at h9); rintro (h1 | h1 | h1 | h1); exact h9.1 h1; exact h9.2 h1; omega; omega)), by have h9 := hg60; (try simp at h9); rw [List.length_append, show [(⟨((min (getN b2).1 9 : Nat) : Int), 0, txtV (((b2.drop (getN b2).2).drop (getN (b2.drop (getN b2).2)).2).take (getN (b2.drop (getN b2).2)).1)⟩ : Vk)].length = 1 from rfl]; split <;> omega, rfl, rfl, rfl⟩⟩
      · (try replace hc1 := of_decide_eq_false hc1)
        have hu3 : (getN b2).1 ≠ 3 := by omega
        refine vc_seq ?_
        refine vc_region ?_
        refine vl_val rfl (.some rfl) (by first | exact val_fieldAddr Try.runUnderlying107 rfl Try.sizeOf3 rfl | exact val_fieldAddrR Try.runUnderlying107 rfl Try.sizeOf3 rfl) ?_
        refine vl_val rfl (.some rfl) (val_load Try.isAgg3 rfl (by first | exact cell_cells (by repeat constructor) rfl | exact cell_rd (by first | exact rd_sl (by repeat constructor) | exact rd_old (by assumption) rfl) (by first | exact bcells_at (by omega) | exact ucells_at (by omega) | exact icells_at (by omega) | exact tcells_at (by omega) | exact bcells_get (by omega) | exact icells_get (by omega) | exact tcells_get (by omega) | exact ucells_get (by omega)) | exact cell_old (by assumption) (by simp [fps]))) ?_
        refine vl_val rfl (.some rfl) (val_ne rfl rfl) ?_
        refine vl_val rfl (.some rfl) (val_assign rfl) ?_
        refine vl_nil ?_
        refine vc_cond rfl (fun hc3 => ?_) (fun hc3 => ?_)
        · (try replace hc3 := of_decide_eq_true hc3)
          have hu0 : (getN b2).1 ≠ 0 := by omega
          have hn0 := hu0
          refine vc_region ?_
          refine vl_val rfl (.some rfl) (val_move rfl) ?_
          refine vl_callv (C := [cells r1 [.slice (cutA A2 c2 (getN b2).2 1) ((b2.drop (getN b2).2)).length (c2 - (getN b2).2)] 22, cells r4 [.bool (false || decide ((getN b2).2 = 0))] 4]) (fs := []) (cs := [.pointer (some ⟨r1, 0, none⟩), .pointer (some ⟨r4, 0, none⟩)]) (args := []) rfl rfl (.some rfl) rfl Try.call126 rfl (by repeat constructor) (fun w' hw => vNext r1 r4 ((cutA A2 c2 (getN b2).2 1)) ((c2 - (getN b2).2)) ((b2.drop (getN b2).2)) (false || decide ((getN b2).2 = 0)) (by omega) (by omega) w' (reads_callee hr3 rfl (by repeat constructor) hw)) (fun v H' h => ?_)
          obtain ⟨rfl, rfl⟩ := h
          show VL _ _ _ _ _ (_ :: _ :: _)
          refine vl_callV rfl rfl (.some rfl) Try.call127 rfl (fun w hw => cZag _ (by omega) w) ?_
          refine vl_val rfl (.some rfl) (by first | exact val_fieldAddr Try.runUnderlying107 rfl Try.sizeOf3 rfl | exact val_fieldAddrR Try.runUnderlying107 rfl Try.sizeOf3 rfl) ?_
          first | refine vl_store rfl rfl .none rfl rfl Try.sizeOf3 rfl (by repeat constructor) (by first | decide | exact Nat.le_refl _ | exact Nat.le_of_ble_eq_true rfl | (simp; omega)) ?_ | refine vl_storeSl rfl rfl .none rfl rfl Try.sizeOf3 rfl (by simp [Value.cells]) (by repeat constructor) (by first | decide | (simp [Value.cells]; omega)) ?_
          refine vl_nil ?_
          refine vc_seq ?_
          refine vc_region ?_
          refine vl_val rfl (.some rfl) (val_load Try.isAgg4 rfl (by first | exact cell_cells (by repeat constructor) rfl | exact cell_rd (by first | exact rd_sl (by repeat constructor) | exact rd_old (by assumption) rfl) (by first | exact bcells_at (by omega) | exact ucells_at (by omega) | exact icells_at (by omega) | exact tcells_at (by omega) | exact bcells_get (by omega) | exact icells_get (by omega) | exact tcells_get (by omega) | exact ucells_get (by omega)) | exact cell_old (by assumption) (by simp [fps]))) ?_
          refine vl_val rfl (.some rfl) (val_move rfl) ?_
          refine vl_split (t := 60) rfl (fun hg60 => ?_) (fun hg60 => ?_)
          · (try replace hg60 := of_decide_eq_true hg60)
            refine vl_off rfl rfl rfl rfl (.some rfl) ?_
            refine vl_off rfl rfl rfl rfl (.some rfl) ?_
            refine vl_off rfl rfl rfl rfl (.some rfl) ?_
            refine vl_val rfl (.some rfl) (val_pick rfl rfl) ?_
            first | refine vl_store rfl rfl .none rfl rfl Try.sizeOf4 rfl (by repeat constructor) (by first | decide | exact Nat.le_refl _ | exact Nat.le_of_ble_eq_true rfl | (simp; omega)) ?_ | refine vl_storeSl rfl rfl .none rfl rfl Try.sizeOf4 rfl (by simp [Value.cells]) (by repeat constructor) (by first | decide | (simp [Value.cells]; omega)) ?_
            refine vl_nil ?_
            refine vc_region ?_
            refine vl_val rfl (.some rfl) (val_move rfl) ?_
            refine vl_val rfl (.some rfl) (val_loadAgg Try.isAgg107 Try.sizeOf107 rfl (by first | exact cells_whole (by repeat constructor) | exact cells_part (by repeat constructor) rfl) rfl) ?_
            refine vl_lit sT105 rfl rfl (.some rfl) rfl rfl rfl (by decide) (by decide) rfl rfl (fun r67 => ?_)
            first
              | (have _g := hz0; refine vl_append (us := flat [numK (getN b2).1 0]) sT105 rfl rfl (.some rfl) rfl rfl (rd_sl (by repeat constructor)) rfl rfl (by omega) (by omega) (by repeat constructor) (fun A68 k68 => ?_); rw [vk_flat1, show acc.length + 1 = (acc ++ [numK (getN b2).1 0]).length by simp])
              | (have _g := hn0; refine vl_append (us := flat [numK (getN b2).1 (zagS (getN (b2.drop (getN b2).2)).1)]) sT105 rfl rfl (.some rfl) rfl rfl (rd_sl (by repeat constructor)) rfl rfl (by omega) (by omega) (by repeat constructor) (fun A68 k68 => ?_); rw [vk_flat1, show acc.length + 1 = (acc ++ [numK (getN b2).1 (zagS (getN (b2.drop (getN b2).2)).1)]).length by simp])
              | (have _g := hs3; refine vl_append (us := flat [(⟨((min (getN b2).1 9 : Nat) : Int), 0, txtV (((b2.drop (getN b2).2).drop (getN (b2.drop (getN b2).2)).2).take (getN (b2.drop (getN b2).2)).1)⟩ : Vk)]) sT105 rfl rfl (.some rfl) rfl rfl (rd_sl (by repeat constructor)) rfl rfl (by omega) (by omega) (by repeat constructor) (fun A68 k68 => ?_); rw [vk_flat1, show acc.length + 1 = (acc ++ [(⟨((min (getN b2).1 9 : Nat) : Int), 0, txtV (((b2.drop (getN b2).2).drop (getN (b2.drop (getN b2).2)).2).take (getN (b2.drop (getN b2).2)).1)⟩ : Vk)]).length by simp])
            refine vl_val rfl (.some rfl) (val_assign rfl) ?_
            refine vl_nil ?_
            refine vc_region ?_
            refine vl_val rfl (.some rfl) (val_move rfl) ?_
            refine vl_val rfl (.some rfl) (val_add rfl rfl (by first | exact w_u64 (by omega) (by omega) | rfl)) ?_
            refine vl_val rfl (.some rfl) (val_assign rfl) ?_
            refine vl_nil ?_
            first
              | exact ⟨if (true) = true then 0 else ((b2.drop (getN b2).2)).length + 1, _, _, _, (by show _ < b2.length + 1; rw [if_pos rfl]; omega), (by repeat (first | exact trivial | refine ⟨rfl, ?_⟩ | refine ⟨le_item rfl (by first | rfl | (congr 1; omega) | (simp; done) | (simp; omega)), ?_⟩)), (by repeat constructor), ⟨i + 1, (cutA A2 c2 (getN b2).2 1), (c2 - (getN b2).2), (b2.drop (getN b2).2), true, acc ++ [numK (getN b2).1 0], A68, k68, hr3, by omega, by omega, st_step hst (by omega) (fun _ => by rw [one_null hu0]; exact if_pos (by simpa using hg60)) (fun h => (by cases h)), by rw [List.length_append, if_pos rfl]; show acc.length + 1 + 0 ≤ _; omega, rfl, rfl, rfl⟩⟩
              | exact ⟨if (!goodV (numK (getN b2).1 0)) = true then 0 else ((b2.drop (getN b2).2)).length + 1, _, _, _, (by show _ < b2.length + 1; have h9 := hg60; (try simp at h9); split <;> omega), (by repeat (first | exact trivial | refine ⟨rfl, ?_⟩ | refine ⟨le_item rfl (by first | rfl | (congr 1; omega) | (simp; done) | (simp; omega)), ?_⟩)), (by repeat constructor), ⟨i + 1, (cutA A2 c2 (getN b2).2 1), (c2 - (getN b2).2), (b2.drop (getN b2).2), !goodV (numK (getN b2).1 0), acc ++ [numK (getN b2).1 0], A68, k68, hr3, by omega, by omega, st_step hst (by omega) (fun h => by have e0 : numK (getN b2).1 0 = z3 := (by unfold numK; rw [hu0]; first | rfl | skip); rw [e0, show goodV z3 = true by decide] at h; cases h) (fun _ => by have e0 : numK (getN b2).1 0 = z3 := (by unfold numK; rw [hu0]; first | rfl | skip); rw [one_null hu0, e0]; exact if_neg (by simpa using hg60)), by have h9 := hg60; (try simp at h9); rw [List.length_append, show [numK (getN b2).1 0].length = 1 from rfl]; split <;> omega, rfl, rfl, rfl⟩⟩
              | exact ⟨if (true) = true then 0 else (((b2.drop (getN b2).2).drop (getN (b2.drop (getN b2).2)).2)).length + 1, _, _, _, (by show _ < b2.length + 1; rw [if_pos rfl]; omega), (by repeat (first | exact trivial | refine ⟨rfl, ?_⟩ | refine ⟨le_item rfl (by first | rfl | (congr 1; omega) | (simp; done) | (simp; omega)), ?_⟩)), (by repeat constructor), ⟨i + 1, (cutA (cutA A2 c2 (getN b2).2 1) (c2 - (getN b2).2) (getN (b2.drop (getN b2).2)).2 1), ((c2 - (getN b2).2) - (getN (b2.drop (getN b2).2)).2), ((b2.drop (getN b2).2).drop (getN (b2.drop (getN b2).2)).2), true, acc ++ [numK (getN b2).1 (zagS (getN (b2.drop (getN b2).2)).1)], A68, k68, hr4, by omega, by omega, st_step hst (by omega) (fun _ => by rw [one_num hu0 hu3]; exact if_pos (by have h9 := hg60; (try simp at h9); rcases h9 with h9 | h9; exact .inl h9; exact .inr (.inl h9))) (fun h => (by cases h)), by rw [List.length_append, if_pos rfl]; show acc.length + 1 + 0 ≤ _; omega, rfl, rfl, rfl⟩⟩
              | exact ⟨if (!goodV (numK (getN b2).1 (zagS (getN (b2.drop (getN b2).2)).1))) = true then 0 else (((b2.drop (getN b2).2).drop (getN (b2.drop (getN b2).2)).2)).length + 1, _, _, _, (by show _ < b2.length + 1; have h9 := hg60; (try simp at h9); split <;> omega), (by repeat (first | exact trivial | refine ⟨rfl, ?_⟩ | refine ⟨le_item rfl (by first | rfl | (congr 1; omega) | (simp; done) | (simp; omega)), ?_⟩)), (by repeat constructor), ⟨i + 1, (cutA (cutA A2 c2 (getN b2).2 1) (c2 - (getN b2).2) (getN (b2.drop (getN b2).2)).2 1), ((c2 - (getN b2).2) - (getN (b2.drop (getN b2).2)).2), ((b2.drop (getN b2).2).drop (getN (b2.drop (getN b2).2)).2), !goodV (numK (getN b2).1 (zagS (getN (b2.drop (getN b2).2)).1)), acc ++ [numK (getN b2).1 (zagS (getN (b2.drop (getN b2).2)).1)], A68, k68, hr4, by omega, by omega, st_step hst (by omega) (fun h => by rw [one_num hu0 hu3]; exact if_pos (.inr (.inr (by simpa using h)))) (fun h => by rw [one_num hu0 hu3]; exact if_neg (by have h9 := hg60; (try simp at h9); rintro (h1 | h1 | h1); exact h9.1 h1; exact h9.2 h1; rw [h1] at h; cases h)), by have h9 := hg60; (try simp at h9); rw [List.length_append, show [numK (getN b2).1 (zagS (getN (b2.drop (getN b2).2)).1)].length = 1 from rfl]; split <;> omega, rfl, rfl, rfl⟩⟩
              | exact ⟨if (true) = true then 0 else ((((b2.drop (getN b2).2).drop (getN (b2.drop (getN b2).2)).2).drop (getN (b2.drop (getN b2).2)).1)).length + 1, _, _, _, (by show _ < b2.length + 1; rw [if_pos rfl]; omega), (by repeat (first | exact trivial | refine ⟨rfl, ?_⟩ | refine ⟨le_item rfl (by first | rfl | (congr 1; omega) | (simp; done) | (simp; omega)), ?_⟩)), (by repeat constructor), ⟨i + 1, (cutA (cutA (cutA A2 c2 (getN b2).2 1) (c2 - (getN b2).2) (getN (b2.drop (getN b2).2)).2 1) ((c2 - (getN b2).2) - (getN (b2.drop (getN b2).2)).2) (getN (b2.drop (getN b2).2)).1 1), (((c2 - (getN b2).2) - (getN (b2.drop (getN b2).2)).2) - (getN (b2.drop (getN b2).2)).1), (((b2.drop (getN b2).2).drop (getN (b2.drop (getN b2).2)).2).drop (getN (b2.drop (getN b2).2)).1), true, acc ++ [(⟨((min (getN b2).1 9 : Nat) : Int), 0, txtV (((b2.drop (getN b2).2).drop (getN (b2.drop (getN b2).2)).2).take (getN (b2.drop (getN b2).2)).1)⟩ : Vk)], A68, k68, (reads_cutB hr4 (show ((b2.drop (getN b2).2).drop (getN (b2.drop (getN b2).2)).2).length ≤ ((c2 - (getN b2).2) - (getN (b2.drop (getN b2).2)).2) by omega)), by omega, by omega, st_step hst (by omega) (fun _ => by rw [one_str hu3]; exact if_pos (by have h9 := hg60; (try simp at h9); rcases h9 with h9 | h9; exact .inl h9; exact .inr (.inl h9))) (fun h => (by cases h)), by rw [List.length_append, if_pos rfl]; show acc.length + 1 + 0 ≤ _; omega, rfl, rfl, rfl⟩⟩
              | exact ⟨if (!goodV ((⟨((min (getN b2).1 9 : Nat) : Int), 0, txtV (((b2.drop (getN b2).2).drop (getN (b2.drop (getN b2).2)).2).take (getN (b2.drop (getN b2).2)).1)⟩ : Vk))) = true then 0 else ((((b2.drop (getN b2).2).drop (getN (b2.drop (getN b2).2)).2).drop (getN (b2.drop (getN b2).2)).1)).length + 1, _, _, _, (by show _ < b2.length + 1; have h9 := hg60; (try simp at h9); split <;> omega), (by repeat (first | exact trivial | refine ⟨rfl, ?_⟩ | refine ⟨le_item rfl (by first | rfl | (congr 1; omega) | (simp; done) | (simp; omega)), ?_⟩)), (by repeat constructor), ⟨i + 1, (cutA (cutA (cutA A2 c2 (getN b2).2 1) (c2 - (getN b2).2) (getN (b2.drop (getN b2).2)).2 1) ((c2 - (getN b2).2) - (getN (b2.drop (getN b2).2)).2) (getN (b2.drop (getN b2).2)).1 1), (((c2 - (getN b2).2) - (getN (b2.drop (getN b2).2)).2) - (getN (b2.drop (getN b2).2)).1), (((b2.drop (getN b2).2).drop (getN (b2.drop (getN b2).2)).2).drop (getN (b2.drop (getN b2).2)).1), !goodV ((⟨((min (getN b2).1 9 : Nat) : Int), 0, txtV (((b2.drop (getN b2).2).drop (getN (b2.drop (getN b2).2)).2).take (getN (b2.drop (getN b2).2)).1)⟩ : Vk)), acc ++ [(⟨((min (getN b2).1 9 : Nat) : Int), 0, txtV (((b2.drop (getN b2).2).drop (getN (b2.drop (getN b2).2)).2).take (getN (b2.drop (getN b2).2)).1)⟩ : Vk)], A68, k68, (reads_cutB hr4 (show ((b2.drop (getN b2).2).drop (getN (b2.drop (getN b2).2)).2).length ≤ ((c2 - (getN b2).2) - (getN (b2.drop (getN b2).2)).2) by omega)), by omega, by omega, st_step hst (by omega) (fun h => by have e2 : (⟨((min (getN b2).1 9 : Nat) : Int), 0, txtV (((b2.drop (getN b2).2).drop (getN (b2.drop (getN b2).2)).2).take (getN (b2.drop (getN b2).2)).1)⟩ : Vk) = ⟨3, 0, txtV (((b2.drop (getN b2).2).drop (getN (b2.drop (getN b2).2)).2).take (getN (b2.drop (getN b2).2)).1)⟩ := (by rw [hu3]; first | rfl | skip); rw [e2, good_txt (by rw [List.length_take]; omega)] at h; cases h) (fun _ => by have e2 : (⟨((min (getN b2).1 9 : Nat) : Int), 0, txtV (((b2.drop (getN b2).2).drop (getN (b2.drop (getN b2).2)).2).take (getN (b2.drop (getN b2).2)).1)⟩ : Vk) = ⟨3, 0, txtV (((b2.drop (getN b2).2).drop (getN (b2.drop (getN b2).2)).2).take (getN (b2.drop (getN b2).2)).1)⟩ := (by rw [hu3]; first | rfl | skip); rw [one_str hu3, e2]; exact if_neg (by have h9 := hg60; (try simp at h9); rintro (h1 | h1 | h1 | h1); exact h9.1 h1; exact h9.2 h1; omega; omega)), by have h9 := hg60; (try simp at h9); rw [List.length_append, show [(⟨((min (getN b2).1 9 : Nat) : Int), 0, txtV (((b2.drop (getN b2).2).drop (getN (b2.drop (getN b2).2)).2).take (getN (b2.drop (getN b2).2)).1)⟩ : Vk)].length = 1 from rfl]; split <;> omega, rfl, rfl, rfl⟩⟩
          · (try replace hg60 := of_decide_eq_false hg60)
            refine vl_on rfl rfl rfl rfl ?_
            refine vl_val rfl (.some rfl) (val_loadAgg Try.isAgg107 Try.sizeOf107 rfl (by first | exact cells_whole (by repeat constructor) | exact cells_part (by repeat constructor) rfl) rfl) ?_
            refine vl_on rfl rfl rfl rfl ?_
            first
              | (have _g := hz0; refine vl_callV rfl rfl (.some rfl) Try.call128 rfl (fun w hw => vGood (numK (getN b2).1 0) w) ?_)
              | (have _g := hn0; refine vl_callV rfl rfl (.some rfl) Try.call128 rfl (fun w hw => vGood (numK (getN b2).1 (zagS (getN (b2.drop (getN b2).2)).1)) w) ?_)
              | (have _g := hs3; refine vl_callV rfl rfl (.some rfl) Try.call128 rfl (fun w hw => vGood ((⟨((min (getN b2).1 9 : Nat) : Int), 0, txtV (((b2.drop (getN b2).2).drop (getN (b2.drop (getN b2).2)).2).take (getN (b2.drop (getN b2).2)).1)⟩ : Vk)) w) ?_)
            refine vl_on rfl rfl rfl rfl ?_
            refine vl_val rfl (.some rfl) (val_not rfl) ?_
            refine vl_val rfl (.some rfl) (val_pick rfl rfl) ?_
            first | refine vl_store rfl rfl .none rfl rfl Try.sizeOf4 rfl (by repeat constructor) (by first | decide | exact Nat.le_refl _ | exact Nat.le_of_ble_eq_true rfl | (simp; omega)) ?_ | refine vl_storeSl rfl rfl .none rfl rfl Try.sizeOf4 rfl (by simp [Value.cells]) (by repeat constructor) (by first | decide | (simp [Value.cells]; omega)) ?_
            refine vl_nil ?_
            refine vc_region ?_
            refine vl_val rfl (.some rfl) (val_move rfl) ?_
            refine vl_val rfl (.some rfl) (val_loadAgg Try.isAgg107 Try.sizeOf107 rfl (by first | exact cells_whole (by repeat constructor) | exact cells_part (by repeat constructor) rfl) rfl) ?_
            refine vl_lit sT105 rfl rfl (.some rfl) rfl rfl rfl (by decide) (by decide) rfl rfl (fun r67 => ?_)
            first
              | (have _g := hz0; refine vl_append (us := flat [numK (getN b2).1 0]) sT105 rfl rfl (.some rfl) rfl rfl (rd_sl (by repeat constructor)) rfl rfl (by omega) (by omega) (by repeat constructor) (fun A68 k68 => ?_); rw [vk_flat1, show acc.length + 1 = (acc ++ [numK (getN b2).1 0]).length by simp])
              | (have _g := hn0; refine vl_append (us := flat [numK (getN b2).1 (zagS (getN (b2.drop (getN b2).2)).1)]) sT105 rfl rfl (.some rfl) rfl rfl (rd_sl (by repeat constructor)) rfl rfl (by omega) (by omega) (by repeat constructor) (fun A68 k68 => ?_); rw [vk_flat1, show acc.length + 1 = (acc ++ [numK (getN b2).1 (zagS (getN (b2.drop (getN b2).2)).1)]).length by simp])
              | (have _g := hs3; refine vl_append (us := flat [(⟨((min (getN b2).1 9 : Nat) : Int), 0, txtV (((b2.drop (getN b2).2).drop (getN (b2.drop (getN b2).2)).2).take (getN (b2.drop (getN b2).2)).1)⟩ : Vk)]) sT105 rfl rfl (.some rfl) rfl rfl (rd_sl (by repeat constructor)) rfl rfl (by omega) (by omega) (by repeat constructor) (fun A68 k68 => ?_); rw [vk_flat1, show acc.length + 1 = (acc ++ [(⟨((min (getN b2).1 9 : Nat) : Int), 0, txtV (((b2.drop (getN b2).2).drop (getN (b2.drop (getN b2).2)).2).take (getN (b2.drop (getN b2).2)).1)⟩ : Vk)]).length by simp])
            refine vl_val rfl (.some rfl) (val_assign rfl) ?_
            refine vl_nil ?_
            refine vc_region ?_
            refine vl_val rfl (.some rfl) (val_move rfl) ?_
            refine vl_val rfl (.some rfl) (val_add rfl rfl (by first | exact w_u64 (by omega) (by omega) | rfl)) ?_
            refine vl_val rfl (.some rfl) (val_assign rfl) ?_
            refine vl_nil ?_
            first
              | exact ⟨if (true) = true then 0 else ((b2.drop (getN b2).2)).length + 1, _, _, _, (by show _ < b2.length + 1; rw [if_pos rfl]; omega), (by repeat (first | exact trivial | refine ⟨rfl, ?_⟩ | refine ⟨le_item rfl (by first | rfl | (congr 1; omega) | (simp; done) | (simp; omega)), ?_⟩)), (by repeat constructor), ⟨i + 1, (cutA A2 c2 (getN b2).2 1), (c2 - (getN b2).2), (b2.drop (getN b2).2), true, acc ++ [numK (getN b2).1 0], A68, k68, hr3, by omega, by omega, st_step hst (by omega) (fun _ => by rw [one_null hu0]; exact if_pos (by simpa using hg60)) (fun h => (by cases h)), by rw [List.length_append, if_pos rfl]; show acc.length + 1 + 0 ≤ _; omega, rfl, rfl, rfl⟩⟩
              | exact ⟨if (!goodV (numK (getN b2).1 0)) = true then 0 else ((b2.drop (getN b2).2)).length + 1, _, _, _, (by show _ < b2.length + 1; have h9 := hg60; (try simp at h9); split <;> omega), (by repeat (first | exact trivial | refine ⟨rfl, ?_⟩ | refine ⟨le_item rfl (by first | rfl | (congr 1; omega) | (simp; done) | (simp; omega)), ?_⟩)), (by repeat constructor), ⟨i + 1, (cutA A2 c2 (getN b2).2 1), (c2 - (getN b2).2), (b2.drop (getN b2).2), !goodV (numK (getN b2).1 0), acc ++ [numK (getN b2).1 0], A68, k68, hr3, by omega, by omega, st_step hst (by omega) (fun h => by have e0 : numK (getN b2).1 0 = z3 := (by unfold numK; rw [hu0]; first | rfl | skip); rw [e0, show goodV z3 = true by decide] at h; cases h) (fun _ => by have e0 : numK (getN b2).1 0 = z3 := (by unfold numK; rw [hu0]; first | rfl | skip); rw [one_null hu0, e0]; exact if_neg (by simpa using hg60)), by have h9 := hg60; (try simp at h9); rw [List.length_append, show [numK (getN b2).1 0].length = 1 from rfl]; split <;> omega, rfl, rfl, rfl⟩⟩
              | exact ⟨if (true) = true then 0 else (((b2.drop (getN b2).2).drop (getN (b2.drop (getN b2).2)).2)).length + 1, _, _, _, (by show _ < b2.length + 1; rw [if_pos rfl]; omega), (by repeat (first | exact trivial | refine ⟨rfl, ?_⟩ | refine ⟨le_item rfl (by first | rfl | (congr 1; omega) | (simp; done) | (simp; omega)), ?_⟩)), (by repeat constructor), ⟨i + 1, (cutA (cutA A2 c2 (getN b2).2 1) (c2 - (getN b2).2) (getN (b2.drop (getN b2).2)).2 1), ((c2 - (getN b2).2) - (getN (b2.drop (getN b2).2)).2), ((b2.drop (getN b2).2).drop (getN (b2.drop (getN b2).2)).2), true, acc ++ [numK (getN b2).1 (zagS (getN (b2.drop (getN b2).2)).1)], A68, k68, hr4, by omega, by omega, st_step hst (by omega) (fun _ => by rw [one_num hu0 hu3]; exact if_pos (by have h9 := hg60; (try simp at h9); rcases h9 with h9 | h9; exact .inl h9; exact .inr (.inl h9))) (fun h => (by cases h)), by rw [List.length_append, if_pos rfl]; show acc.length + 1 + 0 ≤ _; omega, rfl, rfl, rfl⟩⟩
              | exact ⟨if (!goodV (numK (getN b2).1 (zagS (getN (b2.drop (getN b2).2)).1))) = true then 0 else (((b2.drop (getN b2).2).drop (getN (b2.drop (getN b2).2)).2)).length + 1, _, _, _, (by show _ < b2.length + 1; have h9 := hg60; (try simp at h9); split <;> omega), (by repeat (first | exact trivial | refine ⟨rfl, ?_⟩ | refine ⟨le_item rfl (by first | rfl | (congr 1; omega) | (simp; done) | (simp; omega)), ?_⟩)), (by repeat constructor), ⟨i + 1, (cutA (cutA A2 c2 (getN b2).2 1) (c2 - (getN b2).2) (getN (b2.drop (getN b2).2)).2 1), ((c2 - (getN b2).2) - (getN (b2.drop (getN b2).2)).2), ((b2.drop (getN b2).2).drop (getN (b2.drop (getN b2).2)).2), !goodV (numK (getN b2).1 (zagS (getN (b2.drop (getN b2).2)).1)), acc ++ [numK (getN b2).1 (zagS (getN (b2.drop (getN b2).2)).1)], A68, k68, hr4, by omega, by omega, st_step hst (by omega) (fun h => by rw [one_num hu0 hu3]; exact if_pos (.inr (.inr (by simpa using h)))) (fun h => by rw [one_num hu0 hu3]; exact if_neg (by have h9 := hg60; (try simp at h9); rintro (h1 | h1 | h1); exact h9.1 h1; exact h9.2 h1; rw [h1] at h; cases h)), by have h9 := hg60; (try simp at h9); rw [List.length_append, show [numK (getN b2).1 (zagS (getN (b2.drop (getN b2).2)).1)].length = 1 from rfl]; split <;> omega, rfl, rfl, rfl⟩⟩
              | exact ⟨if (true) = true then 0 else ((((b2.drop (getN b2).2).drop (getN (b2.drop (getN b2).2)).2).drop (getN (b2.drop (getN b2).2)).1)).length + 1, _, _, _, (by show _ < b2.length + 1; rw [if_pos rfl]; omega), (by repeat (first | exact trivial | refine ⟨rfl, ?_⟩ | refine ⟨le_item rfl (by first | rfl | (congr 1; omega) | (simp; done) | (simp; omega)), ?_⟩)), (by repeat constructor), ⟨i + 1, (cutA (cutA (cutA A2 c2 (getN b2).2 1) (c2 - (getN b2).2) (getN (b2.drop (getN b2).2)).2 1) ((c2 - (getN b2).2) - (getN (b2.drop (getN b2).2)).2) (getN (b2.drop (getN b2).2)).1 1), (((c2 - (getN b2).2) - (getN (b2.drop (getN b2).2)).2) - (getN (b2.drop (getN b2).2)).1), (((b2.drop (getN b2).2).drop (getN (b2.drop (getN b2).2)).2).drop (getN (b2.drop (getN b2).2)).1), true, acc ++ [(⟨((min (getN b2).1 9 : Nat) : Int), 0, txtV (((b2.drop (getN b2).2).drop (getN (b2.drop (getN b2).2)).2).take (getN (b2.drop (getN b2).2)).1)⟩ : Vk)], A68, k68, (reads_cutB hr4 (show ((b2.drop (getN b2).2).drop (getN (b2.drop (getN b2).2)).2).length ≤ ((c2 - (getN b2).2) - (getN (b2.drop (getN b2).2)).2) by omega)), by omega, by omega, st_step hst (by omega) (fun _ => by rw [one_str hu3]; exact if_pos (by have h9 := hg60; (try simp at h9); rcases h9 with h9 | h9; exact .inl h9; exact .inr (.inl h9))) (fun h => (by cases h)), by rw [List.length_append, if_pos rfl]; show acc.length + 1 + 0 ≤ _; omega, rfl, rfl, rfl⟩⟩
              | exact ⟨if (!goodV ((⟨((min (getN b2).1 9 : Nat) : Int), 0, txtV (((b2.drop (getN b2).2).drop (getN (b2.drop (getN b2).2)).2).take (getN (b2.drop (getN b2).2)).1)⟩ : Vk))) = true then 0 else ((((b2.drop (getN b2).2).drop (getN (b2.drop (getN b2).2)).2).drop (getN (b2.drop (getN b2).2)).1)).length + 1, _, _, _, (by show _ < b2.length + 1; have h9 := hg60; (try simp at h9); split <;> omega), (by repeat (first | exact trivial | refine ⟨rfl, ?_⟩ | refine ⟨le_item rfl (by first | rfl | (congr 1; omega) | (simp; done) | (simp; omega)), ?_⟩)), (by repeat constructor), ⟨i + 1, (cutA (cutA (cutA A2 c2 (getN b2).2 1) (c2 - (getN b2).2) (getN (b2.drop (getN b2).2)).2 1) ((c2 - (getN b2).2) - (getN (b2.drop (getN b2).2)).2) (getN (b2.drop (getN b2).2)).1 1), (((c2 - (getN b2).2) - (getN (b2.drop (getN b2).2)).2) - (getN (b2.drop (getN b2).2)).1), (((b2.drop (getN b2).2).drop (getN (b2.drop (getN b2).2)).2).drop (getN (b2.drop (getN b2).2)).1), !goodV ((⟨((min (getN b2).1 9 : Nat) : Int), 0, txtV (((b2.drop (getN b2).2).drop (getN (b2.drop (getN b2).2)).2).take (getN (b2.drop (getN b2).2)).1)⟩ : Vk)), acc ++ [(⟨((min (getN b2).1 9 : Nat) : Int), 0, txtV (((b2.drop (getN b2).2).drop (getN (b2.drop (getN b2).2)).2).take (getN (b2.drop (getN b2).2)).1)⟩ : Vk)], A68, k68, (reads_cutB hr4 (show ((b2.drop (getN b2).2).drop (getN (b2.drop (getN b2).2)).2).length ≤ ((c2 - (getN b2).2) - (getN (b2.drop (getN b2).2)).2) by omega)), by omega, by omega, st_step hst (by omega) (fun h => by have e2 : (⟨((min (getN b2).1 9 : Nat) : Int), 0, txtV (((b2.drop (getN b2).2).drop (getN (b2.drop (getN b2).2)).2).take (getN (b2.drop (getN b2).2)).1)⟩ : Vk) = ⟨3, 0, txtV (((b2.drop (getN b2).2).drop (getN (b2.drop (getN b2).2)).2).take (getN (b2.drop (getN b2).2)).1)⟩ := (by rw [hu3]; first | rfl | skip); rw [e2, good_txt (by rw [List.length_take]; omega)] at h; cases h) (fun _ => by have e2 : (⟨((min (getN b2).1 9 : Nat) : Int), 0, txtV (((b2.drop (getN b2).2).drop (getN (b2.drop (getN b2).2)).2).take (getN (b2.drop (getN b2).2)).1)⟩ : Vk) = ⟨3, 0, txtV (((b2.drop (getN b2).2).drop (getN (b2.drop (getN b2).2)).2).take (getN (b2.drop (getN b2).2)).1)⟩ := (by rw [hu3]; first | rfl | skip); rw [one_str hu3, e2]; exact if_neg (by have h9 := hg60; (try simp at h9); rintro (h1 | h1 | h1 | h1); exact h9.1 h1; exact h9.2 h1; omega; omega)), by have h9 := hg60; (try simp at h9); rw [List.length_append, show [(⟨((min (getN b2).1 9 : Nat) : Int), 0, txtV (((b2.drop (getN b2).2).drop (getN (b2.drop (getN b2).2)).2).take (getN (b2.drop (getN b2).2)).1)⟩ : Vk)].length = 1 from rfl]; split <;> omega, rfl, rfl, rfl⟩⟩
        · (try replace hc3 := of_decide_eq_false hc3)
          have hu0 : (getN b2).1 = 0 := by omega
          have hz0 := hu0
          refine vc_skip ?_
          refine vc_seq ?_
          refine vc_region ?_
          refine vl_val rfl (.some rfl) (val_load Try.isAgg4 rfl (by first | exact cell_cells (by repeat constructor) rfl | exact cell_rd (by first | exact rd_sl (by repeat constructor) | exact rd_old (by assumption) rfl) (by first | exact bcells_at (by omega) | exact ucells_at (by omega) | exact icells_at (by omega) | exact tcells_at (by omega) | exact bcells_get (by omega) | exact icells_get (by omega) | exact tcells_get (by omega) | exact ucells_get (by omega)) | exact cell_old (by assumption) (by simp [fps]))) ?_
          refine vl_val rfl (.some rfl) (val_move rfl) ?_
          refine vl_split (t := 60) rfl (fun hg60 => ?_) (fun hg60 => ?_)
          · (try replace hg60 := of_decide_eq_true hg60)
            refine vl_off rfl rfl rfl rfl (.some rfl) ?_
            refine vl_off rfl rfl rfl rfl (.some rfl) ?_
            refine vl_off rfl rfl rfl rfl (.some rfl) ?_
            refine vl_val rfl (.some rfl) (val_pick rfl rfl) ?_
            first | refine vl_store rfl rfl .none rfl rfl Try.sizeOf4 rfl (by repeat constructor) (by first | decide | exact Nat.le_refl _ | exact Nat.le_of_ble_eq_true rfl | (simp; omega)) ?_ | refine vl_storeSl rfl rfl .none rfl rfl Try.sizeOf4 rfl (by simp [Value.cells]) (by repeat constructor) (by first | decide | (simp [Value.cells]; omega)) ?_
            refine vl_nil ?_
            refine vc_region ?_
            refine vl_val rfl (.some rfl) (val_move rfl) ?_
            refine vl_val rfl (.some rfl) (val_loadAgg Try.isAgg107 Try.sizeOf107 rfl (by first | exact cells_whole (by repeat constructor) | exact cells_part (by repeat constructor) rfl) rfl) ?_
            refine vl_lit sT105 rfl rfl (.some rfl) rfl rfl rfl (by decide) (by decide) rfl rfl (fun r67 => ?_)
            first
              | (have _g := hz0; refine vl_append (us := flat [numK (getN b2).1 0]) sT105 rfl rfl (.some rfl) rfl rfl (rd_sl (by repeat constructor)) rfl rfl (by omega) (by omega) (by repeat constructor) (fun A68 k68 => ?_); rw [vk_flat1, show acc.length + 1 = (acc ++ [numK (getN b2).1 0]).length by simp])
              | (have _g := hn0; refine vl_append (us := flat [numK (getN b2).1 (zagS (getN (b2.drop (getN b2).2)).1)]) sT105 rfl rfl (.some rfl) rfl rfl (rd_sl (by repeat constructor)) rfl rfl (by omega) (by omega) (by repeat constructor) (fun A68 k68 => ?_); rw [vk_flat1, show acc.length + 1 = (acc ++ [numK (getN b2).1 (zagS (getN (b2.drop (getN b2).2)).1)]).length by simp])
              | (have _g := hs3; refine vl_append (us := flat [(⟨((min (getN b2).1 9 : Nat) : Int), 0, txtV (((b2.drop (getN b2).2).drop (getN (b2.drop (getN b2).2)).2).take (getN (b2.drop (getN b2).2)).1)⟩ : Vk)]) sT105 rfl rfl (.some rfl) rfl rfl (rd_sl (by repeat constructor)) rfl rfl (by omega) (by omega) (by repeat constructor) (fun A68 k68 => ?_); rw [vk_flat1, show acc.length + 1 = (acc ++ [(⟨((min (getN b2).1 9 : Nat) : Int), 0, txtV (((b2.drop (getN b2).2).drop (getN (b2.drop (getN b2).2)).2).take (getN (b2.drop (getN b2).2)).1)⟩ : Vk)]).length by simp])
            refine vl_val rfl (.some rfl) (val_assign rfl) ?_
            refine vl_nil ?_
            refine vc_region ?_
            refine vl_val rfl (.some rfl) (val_move rfl) ?_
            refine vl_val rfl (.some rfl) (val_add rfl rfl (by first | exact w_u64 (by omega) (by omega) | rfl)) ?_
            refine vl_val rfl (.some rfl) (val_assign rfl) ?_
            refine vl_nil ?_
            first
              | exact ⟨if (true) = true then 0 else ((b2.drop (getN b2).2)).length + 1, _, _, _, (by show _ < b2.length + 1; rw [if_pos rfl]; omega), (by repeat (first | exact trivial | refine ⟨rfl, ?_⟩ | refine ⟨le_item rfl (by first | rfl | (congr 1; omega) | (simp; done) | (simp; omega)), ?_⟩)), (by repeat constructor), ⟨i + 1, (cutA A2 c2 (getN b2).2 1), (c2 - (getN b2).2), (b2.drop (getN b2).2), true, acc ++ [numK (getN b2).1 0], A68, k68, hr3, by omega, by omega, st_step hst (by omega) (fun _ => by rw [one_null hu0]; exact if_pos (by simpa using hg60)) (fun h => (by cases h)), by rw [List.length_append, if_pos rfl]; show acc.length + 1 + 0 ≤ _; omega, rfl, rfl, rfl⟩⟩
              | exact ⟨if (!goodV (numK (getN b2).1 0)) = true then 0 else ((b2.drop (getN b2).2)).length + 1, _, _, _, (by show _ < b2.length + 1; have h9 := hg60; (try simp at h9); split <;> omega), (by repeat (first | exact trivial | refine ⟨rfl, ?_⟩ | refine ⟨le_item rfl (by first | rfl | (congr 1; omega) | (simp; done) | (simp; omega)), ?_⟩)), (by repeat constructor), ⟨i + 1, (cutA A2 c2 (getN b2).2 1), (c2 - (getN b2).2), (b2.drop (getN b2).2), !goodV (numK (getN b2).1 0), acc ++ [numK (getN b2).1 0], A68, k68, hr3, by omega, by omega, st_step hst (by omega) (fun h => by have e0 : numK (getN b2).1 0 = z3 := (by unfold numK; rw [hu0]; first | rfl | skip); rw [e0, show goodV z3 = true by decide] at h; cases h) (fun _ => by have e0 : numK (getN b2).1 0 = z3 := (by unfold numK; rw [hu0]; first | rfl | skip); rw [one_null hu0, e0]; exact if_neg (by simpa using hg60)), by have h9 := hg60; (try simp at h9); rw [List.length_append, show [numK (getN b2).1 0].length = 1 from rfl]; split <;> omega, rfl, rfl, rfl⟩⟩
              | exact ⟨if (true) = true then 0 else (((b2.drop (getN b2).2).drop (getN (b2.drop (getN b2).2)).2)).length + 1, _, _, _, (by show _ < b2.length + 1; rw [if_pos rfl]; omega), (by repeat (first | exact trivial | refine ⟨rfl, ?_⟩ | refine ⟨le_item rfl (by first | rfl | (congr 1; omega) | (simp; done) | (simp; omega)), ?_⟩)), (by repeat constructor), ⟨i + 1, (cutA (cutA A2 c2 (getN b2).2 1) (c2 - (getN b2).2) (getN (b2.drop (getN b2).2)).2 1), ((c2 - (getN b2).2) - (getN (b2.drop (getN b2).2)).2), ((b2.drop (getN b2).2).drop (getN (b2.drop (getN b2).2)).2), true, acc ++ [numK (getN b2).1 (zagS (getN (b2.drop (getN b2).2)).1)], A68, k68, hr4, by omega, by omega, st_step hst (by omega) (fun _ => by rw [one_num hu0 hu3]; exact if_pos (by have h9 := hg60; (try simp at h9); rcases h9 with h9 | h9; exact .inl h9; exact .inr (.inl h9))) (fun h => (by cases h)), by rw [List.length_append, if_pos rfl]; show acc.length + 1 + 0 ≤ _; omega, rfl, rfl, rfl⟩⟩
              | exact ⟨if (!goodV (numK (getN b2).1 (zagS (getN (b2.drop (getN b2).2)).1))) = true then 0 else (((b2.drop (getN b2).2).drop (getN (b2.drop (getN b2).2)).2)).length + 1, _, _, _, (by show _ < b2.length + 1; have h9 := hg60; (try simp at h9); split <;> omega), (by repeat (first | exact trivial | refine ⟨rfl, ?_⟩ | refine ⟨le_item rfl (by first | rfl | (congr 1; omega) | (simp; done) | (simp; omega)), ?_⟩)), (by repeat constructor), ⟨i + 1, (cutA (cutA A2 c2 (getN b2).2 1) (c2 - (getN b2).2) (getN (b2.drop (getN b2).2)).2 1), ((c2 - (getN b2).2) - (getN (b2.drop (getN b2).2)).2), ((b2.drop (getN b2).2).drop (getN (b2.drop (getN b2).2)).2), !goodV (numK (getN b2).1 (zagS (getN (b2.drop (getN b2).2)).1)), acc ++ [numK (getN b2).1 (zagS (getN (b2.drop (getN b2).2)).1)], A68, k68, hr4, by omega, by omega, st_step hst (by omega) (fun h => by rw [one_num hu0 hu3]; exact if_pos (.inr (.inr (by simpa using h)))) (fun h => by rw [one_num hu0 hu3]; exact if_neg (by have h9 := hg60; (try simp at h9); rintro (h1 | h1 | h1); exact h9.1 h1; exact h9.2 h1; rw [h1] at h; cases h)), by have h9 := hg60; (try simp at h9); rw [List.length_append, show [numK (getN b2).1 (zagS (getN (b2.drop (getN b2).2)).1)].length = 1 from rfl]; split <;> omega, rfl, rfl, rfl⟩⟩
              | exact ⟨if (true) = true then 0 else ((((b2.drop (getN b2).2).drop (getN (b2.drop (getN b2).2)).2).drop (getN (b2.drop (getN b2).2)).1)).length + 1, _, _, _, (by show _ < b2.length + 1; rw [if_pos rfl]; omega), (by repeat (first | exact trivial | refine ⟨rfl, ?_⟩ | refine ⟨le_item rfl (by first | rfl | (congr 1; omega) | (simp; done) | (simp; omega)), ?_⟩)), (by repeat constructor), ⟨i + 1, (cutA (cutA (cutA A2 c2 (getN b2).2 1) (c2 - (getN b2).2) (getN (b2.drop (getN b2).2)).2 1) ((c2 - (getN b2).2) - (getN (b2.drop (getN b2).2)).2) (getN (b2.drop (getN b2).2)).1 1), (((c2 - (getN b2).2) - (getN (b2.drop (getN b2).2)).2) - (getN (b2.drop (getN b2).2)).1), (((b2.drop (getN b2).2).drop (getN (b2.drop (getN b2).2)).2).drop (getN (b2.drop (getN b2).2)).1), true, acc ++ [(⟨((min (getN b2).1 9 : Nat) : Int), 0, txtV (((b2.drop (getN b2).2).drop (getN (b2.drop (getN b2).2)).2).take (getN (b2.drop (getN b2).2)).1)⟩ : Vk)], A68, k68, (reads_cutB hr4 (show ((b2.drop (getN b2).2).drop (getN (b2.drop (getN b2).2)).2).length ≤ ((c2 - (getN b2).2) - (getN (b2.drop (getN b2).2)).2) by omega)), by omega, by omega, st_step hst (by omega) (fun _ => by rw [one_str hu3]; exact if_pos (by have h9 := hg60; (try simp at h9); rcases h9 with h9 | h9; exact .inl h9; exact .inr (.inl h9))) (fun h => (by cases h)), by rw [List.length_append, if_pos rfl]; show acc.length + 1 + 0 ≤ _; omega, rfl, rfl, rfl⟩⟩
              | exact ⟨if (!goodV ((⟨((min (getN b2).1 9 : Nat) : Int), 0, txtV (((b2.drop (getN b2).2).drop (getN (b2.drop (getN b2).2)).2).take (getN (b2.drop (getN b2).2)).1)⟩ : Vk))) = true then 0 else ((((b2.drop (getN b2).2).drop (getN (b2.drop (getN b2).2)).2).drop (getN (b2.drop (getN b2).2)).1)).length + 1, _, _, _, (by show _ < b2.length + 1; have h9 := hg60; (try simp at h9); split <;> omega), (by repeat (first | exact trivial | refine ⟨rfl, ?_⟩ | refine ⟨le_item rfl (by first | rfl | (congr 1; omega) | (simp; done) | (simp; omega)), ?_⟩)), (by repeat constructor), ⟨i + 1, (cutA (cutA (cutA A2 c2 (getN b2).2 1) (c2 - (getN b2).2) (getN (b2.drop (getN b2).2)).2 1) ((c2 - (getN b2).2) - (getN (b2.drop (getN b2).2)).2) (getN (b2.drop (getN b2).2)).1 1), (((c2 - (getN b2).2) - (getN (b2.drop (getN b2).2)).2) - (getN (b2.drop (getN b2).2)).1), (((b2.drop (getN b2).2).drop (getN (b2.drop (getN b2).2)).2).drop (getN (b2.drop (getN b2).2)).1), !goodV ((⟨((min (getN b2).1 9 : Nat) : Int), 0, txtV (((b2.drop (getN b2).2).drop (getN (b2.drop (getN b2).2)).2).take (getN (b2.drop (getN b2).2)).1)⟩ : Vk)), acc ++ [(⟨((min (getN b2).1 9 : Nat) : Int), 0, txtV (((b2.drop (getN b2).2).drop (getN (b2.drop (getN b2).2)).2).take (getN (b2.drop (getN b2).2)).1)⟩ : Vk)], A68, k68, (reads_cutB hr4 (show ((b2.drop (getN b2).2).drop (getN (b2.drop (getN b2).2)).2).length ≤ ((c2 - (getN b2).2) - (getN (b2.drop (getN b2).2)).2) by omega)), by omega, by omega, st_step hst (by omega) (fun h => by have e2 : (⟨((min (getN b2).1 9 : Nat) : Int), 0, txtV (((b2.drop (getN b2).2).drop (getN (b2.drop (getN b2).2)).2).take (getN (b2.drop (getN b2).2)).1)⟩ : Vk) = ⟨3, 0, txtV (((b2.drop (getN b2).2).drop (getN (b2.drop (getN b2).2)).2).take (getN (b2.drop (getN b2).2)).1)⟩ := (by rw [hu3]; first | rfl | skip); rw [e2, good_txt (by rw [List.length_take]; omega)] at h; cases h) (fun _ => by have e2 : (⟨((min (getN b2).1 9 : Nat) : Int), 0, txtV (((b2.drop (getN b2).2).drop (getN (b2.drop (getN b2).2)).2).take (getN (b2.drop (getN b2).2)).1)⟩ : Vk) = ⟨3, 0, txtV (((b2.drop (getN b2).2).drop (getN (b2.drop (getN b2).2)).2).take (getN (b2.drop (getN b2).2)).1)⟩ := (by rw [hu3]; first | rfl | skip); rw [one_str hu3, e2]; exact if_neg (by have h9 := hg60; (try simp at h9); rintro (h1 | h1 | h1 | h1); exact h9.1 h1; exact h9.2 h1; omega; omega)), by have h9 := hg60; (try simp at h9); rw [List.length_append, show [(⟨((min (getN b2).1 9 : Nat) : Int), 0, txtV (((b2.drop (getN b2).2).drop (getN (b2.drop (getN b2).2)).2).take (getN (b2.drop (getN b2).2)).1)⟩ : Vk)].length = 1 from rfl]; split <;> omega, rfl, rfl, rfl⟩⟩
          · (try replace hg60 := of_decide_eq_false hg60)
            refine vl_on rfl rfl rfl rfl ?_
            refine vl_val rfl (.some rfl) (val_loadAgg Try.isAgg107 Try.sizeOf107 rfl (by first | exact cells_whole (by repeat constructor) | exact cells_part (by repeat constructor) rfl) rfl) ?_
            refine vl_on rfl rfl rfl rfl ?_
            first
              | (have _g := hz0; refine vl_callV rfl rfl (.some rfl) Try.call128 rfl (fun w hw => vGood (numK (getN b2).1 0) w) ?_)
              | (have _g := hn0; refine vl_callV rfl rfl (.some rfl) Try.call128 rfl (fun w hw => vGood (numK (getN b2).1 (zagS (getN (b2.drop (getN b2).2)).1)) w) ?_)
              | (have _g := hs3; refine vl_callV rfl rfl (.some rfl) Try.call128 rfl (fun w hw => vGood ((⟨((min (getN b2).1 9 : Nat) : Int), 0, txtV (((b2.drop (getN b2).2).drop (getN (b2.drop (getN b2).2)).2).take (getN (b2.drop (getN b2).2)).1)⟩ : Vk)) w) ?_)
            refine vl_on rfl rfl rfl rfl ?_
            refine vl_val rfl (.some rfl) (val_not rfl) ?_
            refine vl_val rfl (.some rfl) (val_pick rfl rfl) ?_
            first | refine vl_store rfl rfl .none rfl rfl Try.sizeOf4 rfl (by repeat constructor) (by first | decide | exact Nat.le_refl _ | exact Nat.le_of_ble_eq_true rfl | (simp; omega)) ?_ | refine vl_storeSl rfl rfl .none rfl rfl Try.sizeOf4 rfl (by simp [Value.cells]) (by repeat constructor) (by first | decide | (simp [Value.cells]; omega)) ?_
            refine vl_nil ?_
            refine vc_region ?_
            refine vl_val rfl (.some rfl) (val_move rfl) ?_
            refine vl_val rfl (.some rfl) (val_loadAgg Try.isAgg107 Try.sizeOf107 rfl (by first | exact cells_whole (by repeat constructor) | exact cells_part (by repeat constructor) rfl) rfl) ?_
            refine vl_lit sT105 rfl rfl (.some rfl) rfl rfl rfl (by decide) (by decide) rfl rfl (fun r67 => ?_)
            first
              | (have _g := hz0; refine vl_append (us := flat [numK (getN b2).1 0]) sT105 rfl rfl (.some rfl) rfl rfl (rd_sl (by repeat constructor)) rfl rfl (by omega) (by omega) (by repeat constructor) (fun A68 k68 => ?_); rw [vk_flat1, show acc.length + 1 = (acc ++ [numK (getN b2).1 0]).length by simp])
              | (have _g := hn0; refine vl_append (us := flat [numK (getN b2).1 (zagS (getN (b2.drop (getN b2).2)).1)]) sT105 rfl rfl (.some rfl) rfl rfl (rd_sl (by repeat constructor)) rfl rfl (by omega) (by omega) (by repeat constructor) (fun A68 k68 => ?_); rw [vk_flat1, show acc.length + 1 = (acc ++ [numK (getN b2).1 (zagS (getN (b2.drop (getN b2).2)).1)]).length by simp])
              | (have _g := hs3; refine vl_append (us := flat [(⟨((min (getN b2).1 9 : Nat) : Int), 0, txtV (((b2.drop (getN b2).2).drop (getN (b2.drop (getN b2).2)).2).take (getN (b2.drop (getN b2).2)).1)⟩ : Vk)]) sT105 rfl rfl (.some rfl) rfl rfl (rd_sl (by repeat constructor)) rfl rfl (by omega) (by omega) (by repeat constructor) (fun A68 k68 => ?_); rw [vk_flat1, show acc.length + 1 = (acc ++ [(⟨((min (getN b2).1 9 : Nat) : Int), 0, txtV (((b2.drop (getN b2).2).drop (getN (b2.drop (getN b2).2)).2).take (getN (b2.drop (getN b2).2)).1)⟩ : Vk)]).length by simp])
            refine vl_val rfl (.some rfl) (val_assign rfl) ?_
            refine vl_nil ?_
            refine vc_region ?_
            refine vl_val rfl (.some rfl) (val_move rfl) ?_
            refine vl_val rfl (.some rfl) (val_add rfl rfl (by first | exact w_u64 (by omega) (by omega) | rfl)) ?_
            refine vl_val rfl (.some rfl) (val_assign rfl) ?_
            refine vl_nil ?_
            first
              | exact ⟨if (true) = true then 0 else ((b2.drop (getN b2).2)).length + 1, _, _, _, (by show _ < b2.length + 1; rw [if_pos rfl]; omega), (by repeat (first | exact trivial | refine ⟨rfl, ?_⟩ | refine ⟨le_item rfl (by first | rfl | (congr 1; omega) | (simp; done) | (simp; omega)), ?_⟩)), (by repeat constructor), ⟨i + 1, (cutA A2 c2 (getN b2).2 1), (c2 - (getN b2).2), (b2.drop (getN b2).2), true, acc ++ [numK (getN b2).1 0], A68, k68, hr3, by omega, by omega, st_step hst (by omega) (fun _ => by rw [one_null hu0]; exact if_pos (by simpa using hg60)) (fun h => (by cases h)), by rw [List.length_append, if_pos rfl]; show acc.length + 1 + 0 ≤ _; omega, rfl, rfl, rfl⟩⟩
              | exact ⟨if (!goodV (numK (getN b2).1 0)) = true then 0 else ((b2.drop (getN b2).2)).length + 1, _, _, _, (by show _ < b2.length + 1; have h9 := hg60; (try simp at h9); split <;> omega), (by repeat (first | exact trivial | refine ⟨rfl, ?_⟩ | refine ⟨le_item rfl (by first | rfl | (congr 1; omega) | (simp; done) | (simp; omega)), ?_⟩)), (by repeat constructor), ⟨i + 1, (cutA A2 c2 (getN b2).2 1), (c2 - (getN b2).2), (b2.drop (getN b2).2), !goodV (numK (getN b2).1 0), acc ++ [numK (getN b2).1 0], A68, k68, hr3, by omega, by omega, st_step hst (by omega) (fun h => by have e0 : numK (getN b2).1 0 = z3 := (by unfold numK; rw [hu0]; first | rfl | skip); rw [e0, show goodV z3 = true by decide] at h; cases h) (fun _ => by have e0 : numK (getN b2).1 0 = z3 := (by unfold numK; rw [hu0]; first | rfl | skip); rw [one_null hu0, e0]; exact if_neg (by simpa using hg60)), by have h9 := hg60; (try simp at h9); rw [List.length_append, show [numK (getN b2).1 0].length = 1 from rfl]; split <;> omega, rfl, rfl, rfl⟩⟩
              | exact ⟨if (true) = true then 0 else (((b2.drop (getN b2).2).drop (getN (b2.drop (getN b2).2)).2)).length + 1, _, _, _, (by show _ < b2.length + 1; rw [if_pos rfl]; omega), (by repeat (first | exact trivial | refine ⟨rfl, ?_⟩ | refine ⟨le_item rfl (by first | rfl | (congr 1; omega) | (simp; done) | (simp; omega)), ?_⟩)), (by repeat constructor), ⟨i + 1, (cutA (cutA A2 c2 (getN b2).2 1) (c2 - (getN b2).2) (getN (b2.drop (getN b2).2)).2 1), ((c2 - (getN b2).2) - (getN (b2.drop (getN b2).2)).2), ((b2.drop (getN b2).2).drop (getN (b2.drop (getN b2).2)).2), true, acc ++ [numK (getN b2).1 (zagS (getN (b2.drop (getN b2).2)).1)], A68, k68, hr4, by omega, by omega, st_step hst (by omega) (fun _ => by rw [one_num hu0 hu3]; exact if_pos (by have h9 := hg60; (try simp at h9); rcases h9 with h9 | h9; exact .inl h9; exact .inr (.inl h9))) (fun h => (by cases h)), by rw [List.length_append, if_pos rfl]; show acc.length + 1 + 0 ≤ _; omega, rfl, rfl, rfl⟩⟩
              | exact ⟨if (!goodV (numK (getN b2).1 (zagS (getN (b2.drop (getN b2).2)).1))) = true then 0 else (((b2.drop (getN b2).2).drop (getN (b2.drop (getN b2).2)).2)).length + 1, _, _, _, (by show _ < b2.length + 1; have h9 := hg60; (try simp at h9); split <;> omega), (by repeat (first | exact trivial | refine ⟨rfl, ?_⟩ | refine ⟨le_item rfl (by first | rfl | (congr 1; omega) | (simp; done) | (simp; omega)), ?_⟩)), (by repeat constructor), ⟨i + 1, (cutA (cutA A2 c2 (getN b2).2 1) (c2 - (getN b2).2) (getN (b2.drop (getN b2).2)).2 1), ((c2 - (getN b2).2) - (getN (b2.drop (getN b2).2)).2), ((b2.drop (getN b2).2).drop (getN (b2.drop (getN b2).2)).2), !goodV (numK (getN b2).1 (zagS (getN (b2.drop (getN b2).2)).1)), acc ++ [numK (getN b2).1 (zagS (getN (b2.drop (getN b2).2)).1)], A68, k68, hr4, by omega, by omega, st_step hst (by omega) (fun h => by rw [one_num hu0 hu3]; exact if_pos (.inr (.inr (by simpa using h)))) (fun h => by rw [one_num hu0 hu3]; exact if_neg (by have h9 := hg60; (try simp at h9); rintro (h1 | h1 | h1); exact h9.1 h1; exact h9.2 h1; rw [h1] at h; cases h)), by have h9 := hg60; (try simp at h9); rw [List.length_append, show [numK (getN b2).1 (zagS (getN (b2.drop (getN b2).2)).1)].length = 1 from rfl]; split <;> omega, rfl, rfl, rfl⟩⟩
              | exact ⟨if (true) = true then 0 else ((((b2.drop (getN b2).2).drop (getN (b2.drop (getN b2).2)).2).drop (getN (b2.drop (getN b2).2)).1)).length + 1, _, _, _, (by show _ < b2.length + 1; rw [if_pos rfl]; omega), (by repeat (first | exact trivial | refine ⟨rfl, ?_⟩ | refine ⟨le_item rfl (by first | rfl | (congr 1; omega) | (simp; done) | (simp; omega)), ?_⟩)), (by repeat constructor), ⟨i + 1, (cutA (cutA (cutA A2 c2 (getN b2).2 1) (c2 - (getN b2).2) (getN (b2.drop (getN b2).2)).2 1) ((c2 - (getN b2).2) - (getN (b2.drop (getN b2).2)).2) (getN (b2.drop (getN b2).2)).1 1), (((c2 - (getN b2).2) - (getN (b2.drop (getN b2).2)).2) - (getN (b2.drop (getN b2).2)).1), (((b2.drop (getN b2).2).drop (getN (b2.drop (getN b2).2)).2).drop (getN (b2.drop (getN b2).2)).1), true, acc ++ [(⟨((min (getN b2).1 9 : Nat) : Int), 0, txtV (((b2.drop (getN b2).2).drop (getN (b2.drop (getN b2).2)).2).take (getN (b2.drop (getN b2).2)).1)⟩ : Vk)], A68, k68, (reads_cutB hr4 (show ((b2.drop (getN b2).2).drop (getN (b2.drop (getN b2).2)).2).length ≤ ((c2 - (getN b2).2) - (getN (b2.drop (getN b2).2)).2) by omega)), by omega, by omega, st_step hst (by omega) (fun _ => by rw [one_str hu3]; exact if_pos (by have h9 := hg60; (try simp at h9); rcases h9 with h9 | h9; exact .inl h9; exact .inr (.inl h9))) (fun h => (by cases h)), by rw [List.length_append, if_pos rfl]; show acc.length + 1 + 0 ≤ _; omega, rfl, rfl, rfl⟩⟩
              | exact ⟨if (!goodV ((⟨((min (getN b2).1 9 : Nat) : Int), 0, txtV (((b2.drop (getN b2).2).drop (getN (b2.drop (getN b2).2)).2).take (getN (b2.drop (getN b2).2)).1)⟩ : Vk))) = true then 0 else ((((b2.drop (getN b2).2).drop (getN (b2.drop (getN b2).2)).2).drop (getN (b2.drop (getN b2).2)).1)).length + 1, _, _, _, (by show _ < b2.length + 1; have h9 := hg60; (try simp at h9); split <;> omega), (by repeat (first | exact trivial | refine ⟨rfl, ?_⟩ | refine ⟨le_item rfl (by first | rfl | (congr 1; omega) | (simp; done) | (simp; omega)), ?_⟩)), (by repeat constructor), ⟨i + 1, (cutA (cutA (cutA A2 c2 (getN b2).2 1) (c2 - (getN b2).2) (getN (b2.drop (getN b2).2)).2 1) ((c2 - (getN b2).2) - (getN (b2.drop (getN b2).2)).2) (getN (b2.drop (getN b2).2)).1 1), (((c2 - (getN b2).2) - (getN (b2.drop (getN b2).2)).2) - (getN (b2.drop (getN b2).2)).1), (((b2.drop (getN b2).2).drop (getN (b2.drop (getN b2).2)).2).drop (getN (b2.drop (getN b2).2)).1), !goodV ((⟨((min (getN b2).1 9 : Nat) : Int), 0, txtV (((b2.drop (getN b2).2).drop (getN (b2.drop (getN b2).2)).2).take (getN (b2.drop (getN b2).2)).1)⟩ : Vk)), acc ++ [(⟨((min (getN b2).1 9 : Nat) : Int), 0, txtV (((b2.drop (getN b2).2).drop (getN (b2.drop (getN b2).2)).2).take (getN (b2.drop (getN b2).2)).1)⟩ : Vk)], A68, k68, (reads_cutB hr4 (show ((b2.drop (getN b2).2).drop (getN (b2.drop (getN b2).2)).2).length ≤ ((c2 - (getN b2).2) - (getN (b2.drop (getN b2).2)).2) by omega)), by omega, by omega, st_step hst (by omega) (fun h => by have e2 : (⟨((min (getN b2).1 9 : Nat) : Int), 0, txtV (((b2.drop (getN b2).2).drop (getN (b2.drop (getN b2).2)).2).take (getN (b2.drop (getN b2).2)).1)⟩ : Vk) = ⟨3, 0, txtV (((b2.drop (getN b2).2).drop (getN (b2.drop (getN b2).2)).2).take (getN (b2.drop (getN b2).2)).1)⟩ := (by rw [hu3]; first | rfl | skip); rw [e2, good_txt (by rw [List.length_take]; omega)] at h; cases h) (fun _ => by have e2 : (⟨((min (getN b2).1 9 : Nat) : Int), 0, txtV (((b2.drop (getN b2).2).drop (getN (b2.drop (getN b2).2)).2).take (getN (b2.drop (getN b2).2)).1)⟩ : Vk) = ⟨3, 0, txtV (((b2.drop (getN b2).2).drop (getN (b2.drop (getN b2).2)).2).take (getN (b2.drop (getN b2).2)).1)⟩ := (by rw [hu3]; first | rfl | skip); rw [one_str hu3, e2]; exact if_neg (by have h9 := hg60; (try simp at h9); rintro (h1 | h1 | h1 | h1); exact h9.1 h1; exact h9.2 h1; omega; omega)), by have h9 := hg60; (try simp at h9); rw [List.length_append, show [(⟨((min (getN b2).1 9 : Nat) : Int), 0, txtV (((b2.drop (getN b2).2).drop (getN (b2.drop (getN b2).2)).2).take (getN (b2.drop (getN b2).2)).1)⟩ : Vk)].length = 1 from rfl]; split <;> omega, rfl, rfl, rfl⟩⟩
    · (try replace hc0 := of_decide_eq_false hc0)
      refine vc_exit ?_
      refine vc_seq ?_
      refine vc_seq ?_
      refine vc_region ?_
      refine vl_val rfl (.some rfl) (val_load Try.isAgg4 rfl (by first | exact cell_cells (by repeat constructor) rfl | exact cell_rd (by first | exact rd_sl (by repeat constructor) | exact rd_old (by assumption) rfl) (by first | exact bcells_at (by omega) | exact ucells_at (by omega) | exact icells_at (by omega) | exact tcells_at (by omega) | exact bcells_get (by omega) | exact icells_get (by omega) | exact tcells_get (by omega) | exact ucells_get (by omega)) | exact cell_old (by assumption) (by simp [fps]))) ?_
      refine vl_val rfl (.some rfl) (val_move rfl) ?_
      refine vl_split (t := 70) rfl (fun hg70 => ?_) (fun hg70 => ?_)
      · (try replace hg70 := of_decide_eq_true hg70)
        refine vl_off rfl rfl rfl rfl (.some rfl) ?_
        refine vl_off rfl rfl rfl rfl (.some rfl) ?_
        refine vl_off rfl rfl rfl rfl (.some rfl) ?_
        refine vl_val rfl (.some rfl) (val_pick rfl rfl) ?_
        refine vl_nil ?_
        refine vc_cond rfl (fun _ => ?_) (fun h => by cases h)
        refine vc_seq ?_
        refine vc_region ?_
        refine vl_val rfl (.some rfl) (val_assign rfl) ?_
        refine vl_nilSl 107 3 ?_
        refine vl_val rfl (.some rfl) (val_assign rfl) ?_
        refine vl_nil ?_
        refine vc_ret ?_
        refine ⟨_, [DS none 0 []], _, res2 Try.results108 rfl rfl, (by repeat constructor), ?_⟩
        obtain ⟨e1, e2⟩ := load9_none (b := b) (by first | exact hst.1 hg70 | exact hst.1 (by simpa using hg16) | (rw [st_end hst hg70 (by omega)]; exact if_neg (by omega)))
        show ∃ A' c', _ ∧ _
        rw [e1, e2]
        exact ⟨none, 0, rfl, rfl⟩
      · (try replace hg70 := of_decide_eq_false hg70)
        refine vl_on rfl rfl rfl rfl ?_
        refine vl_val rfl (.some rfl) (val_load Try.isAgg22 rfl (by first | exact cell_cells (by repeat constructor) rfl | exact cell_rd (by first | exact rd_sl (by repeat constructor) | exact rd_old (by assumption) rfl) (by first | exact bcells_at (by omega) | exact ucells_at (by omega) | exact icells_at (by omega) | exact tcells_at (by omega) | exact bcells_get (by omega) | exact icells_get (by omega) | exact tcells_get (by omega) | exact ucells_get (by omega)) | exact cell_old (by assumption) (by simp [fps]))) ?_
        refine vl_on rfl rfl rfl rfl ?_
        refine vl_val rfl (.some rfl) (val_lenSl Try.runUnderlying22 rfl) ?_
        refine vl_on rfl rfl rfl rfl ?_
        refine vl_val rfl (.some rfl) (val_gt rfl rfl) ?_
        refine vl_val rfl (.some rfl) (val_pick rfl rfl) ?_
        refine vl_nil ?_
        refine vc_cond rfl (fun hc4 => ?_) (fun hc4 => ?_)
        · (try replace hc4 := of_decide_eq_true hc4)
          refine vc_seq ?_
          refine vc_region ?_
          refine vl_val rfl (.some rfl) (val_assign rfl) ?_
          refine vl_nilSl 107 3 ?_
          refine vl_val rfl (.some rfl) (val_assign rfl) ?_
          refine vl_nil ?_
          refine vc_ret ?_
          refine ⟨_, [DS none 0 []], _, res2 Try.results108 rfl rfl, (by repeat constructor), ?_⟩
          obtain ⟨e1, e2⟩ := load9_none (b := b) (by first | exact hst.1 hg70 | exact hst.1 (by simpa using hg16) | (rw [st_end hst hg70 (by omega)]; exact if_neg (by omega)))
          show ∃ A' c', _ ∧ _
          rw [e1, e2]
          exact ⟨none, 0, rfl, rfl⟩
        · (try replace hc4 := of_decide_eq_false hc4)
          refine vc_skip ?_
          refine vc_seq ?_
          refine vc_region ?_
          refine vl_val rfl (.some rfl) (val_move rfl) ?_
          refine vl_val rfl (.some rfl) (val_assign rfl) ?_
          refine vl_val rfl (.some rfl) (val_assign rfl) ?_
          refine vl_nil ?_
          refine vc_ret ?_
          refine ⟨_, [DS A7 c7 acc], _, res2 Try.results108 rfl rfl, (by repeat constructor), ?_⟩
          obtain ⟨e1, e2⟩ := load9_some (b := b) (l := acc) (by first | (rw [st_end hst hg70 (by omega)]; exact if_pos (by omega)) | (exfalso; rw [hg70] at hg16; cases hg16))
          show ∃ A' c', _ ∧ _
          rw [e1, e2]
          exact ⟨A7, c7, rfl, rfl⟩
  · (try replace hg16 := of_decide_eq_false hg16)
    refine vl_off rfl rfl rfl rfl (.some rfl) ?_
    refine vl_off rfl rfl rfl rfl (.some rfl) ?_
    refine vl_off rfl rfl rfl rfl (.some rfl) ?_
    refine vl_val rfl (.some rfl) (val_pick rfl rfl) ?_
    refine vl_nil ?_
    refine vc_cond rfl (fun h => by cases h) (fun _ => ?_)
    refine vc_exit ?_
    refine vc_seq ?_
    refine vc_seq ?_
    refine vc_region ?_
    refine vl_val rfl (.some rfl) (val_load Try.isAgg4 rfl (by first | exact cell_cells (by repeat constructor) rfl | exact cell_rd (by first | exact rd_sl (by repeat constructor) | exact rd_old (by assumption) rfl) (by first | exact bcells_at (by omega) | exact ucells_at (by omega) | exact icells_at (by omega) | exact tcells_at (by omega) | exact bcells_get (by omega) | exact icells_get (by omega) | exact tcells_get (by omega) | exact ucells_get (by omega)) | exact cell_old (by assumption) (by simp [fps]))) ?_
    refine vl_val rfl (.some rfl) (val_move rfl) ?_
    refine vl_split (t := 70) rfl (fun hg70 => ?_) (fun hg70 => ?_)
    · (try replace hg70 := of_decide_eq_true hg70)
      refine vl_off rfl rfl rfl rfl (.some rfl) ?_
      refine vl_off rfl rfl rfl rfl (.some rfl) ?_
      refine vl_off rfl rfl rfl rfl (.some rfl) ?_
      refine vl_val rfl (.some rfl) (val_pick rfl rfl) ?_
      refine vl_nil ?_
      refine vc_cond rfl (fun _ => ?_) (fun h => by cases h)
      refine vc_seq ?_
      refine vc_region ?_
      refine vl_val rfl (.some rfl) (val_assign rfl) ?_
      refine vl_nilSl 107 3 ?_
      refine vl_val rfl (.some rfl) (val_assign rfl) ?_
      refine vl_nil ?_
      refine vc_ret ?_
      refine ⟨_, [DS none 0 []], _, res2 Try.results108 rfl rfl, (by repeat constructor), ?_⟩
      obtain ⟨e1, e2⟩ := load9_none (b := b) (by first | exact hst.1 hg70 | exact hst.1 (by simpa using hg16) | (rw [st_end hst hg70 (by omega)]; exact if_neg (by omega)))
      show ∃ A' c', _ ∧ _
      rw [e1, e2]
      exact ⟨none, 0, rfl, rfl⟩
    · (try replace hg70 := of_decide_eq_false hg70)
      refine vl_on rfl rfl rfl rfl ?_
      refine vl_val rfl (.some rfl) (val_load Try.isAgg22 rfl (by first | exact cell_cells (by repeat constructor) rfl | exact cell_rd (by first | exact rd_sl (by repeat constructor) | exact rd_old (by assumption) rfl) (by first | exact bcells_at (by omega) | exact ucells_at (by omega) | exact icells_at (by omega) | exact tcells_at (by omega) | exact bcells_get (by omega) | exact icells_get (by omega) | exact tcells_get (by omega) | exact ucells_get (by omega)) | exact cell_old (by assumption) (by simp [fps]))) ?_
      refine vl_on rfl rfl rfl rfl ?_
      refine vl_val rfl (.some rfl) (val_lenSl Try.runUnderlying22 rfl) ?_
      refine vl_on rfl rfl rfl rfl ?_
      refine vl_val rfl (.some rfl) (val_gt rfl rfl) ?_
      refine vl_val rfl (.some rfl) (val_pick rfl rfl) ?_
      refine vl_nil ?_
      refine vc_cond rfl (fun hc4 => ?_) (fun hc4 => ?_)
      · (try replace hc4 := of_decide_eq_true hc4)
        refine vc_seq ?_
        refine vc_region ?_
        refine vl_val rfl (.some rfl) (val_assign rfl) ?_
        refine vl_nilSl 107 3 ?_
        refine vl_val rfl (.some rfl) (val_assign rfl) ?_
        refine vl_nil ?_
        refine vc_ret ?_
        refine ⟨_, [DS none 0 []], _, res2 Try.results108 rfl rfl, (by repeat constructor), ?_⟩
        obtain ⟨e1, e2⟩ := load9_none (b := b) (by first | exact hst.1 hg70 | exact hst.1 (by simpa using hg16) | (rw [st_end hst hg70 (by omega)]; exact if_neg (by omega)))
        show ∃ A' c', _ ∧ _
        rw [e1, e2]
        exact ⟨none, 0, rfl, rfl⟩
      · (try replace hc4 := of_decide_eq_false hc4)
        refine vc_skip ?_
        refine vc_seq ?_
        refine vc_region ?_
        refine vl_val rfl (.some rfl) (val_move rfl) ?_
        refine vl_val rfl (.some rfl) (val_assign rfl) ?_
        refine vl_val rfl (.some rfl) (val_assign rfl) ?_
        refine vl_nil ?_
        refine vc_ret ?_
        refine ⟨_, [DS A7 c7 acc], _, res2 Try.results108 rfl rfl, (by repeat constructor), ?_⟩
        obtain ⟨e1, e2⟩ := load9_some (b := b) (l := acc) (by first | (rw [st_end hst hg70 (by omega)]; exact if_pos (by omega)) | (exfalso; rw [hg70] at hg16; cases hg16))
        show ∃ A' c', _ ∧ _
        rw [e1, e2]
        exact ⟨A7, c7, rfl, rfl⟩




end Go.Proofs.Ytclnhfdgiaamhaa.K
