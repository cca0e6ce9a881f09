/- Walks of the program's functions, printed by a program of this session; Lean checks them. -/
import Derived.Test.YtibfngjfjddaiaaOj
namespace Go.Proofs.Ytibfngjfjddaiaa.K
open Go Go.RowKit Go.Proofs
set_option linter.unusedVariables false
set_option linter.unusedSimpArgs false


set_option maxRecDepth 20000 in
theorem cPick1 (x : Nat) (Ai : Option Addr) (ci n : Nat) (r : Int) (w : World) (hx : w.cell? ⟨x, 1, none⟩ = some (.slice Ai n ci)) : FnV Try.prog 75 [.int .i64 r, .pointer (some ⟨x, 0, none⟩)] (.bool (decide (r < 0 ∨ (n : Int) ≤ r))) w := by
  refine fn_enter Try.func75 rfl Try.ntmps75 rfl ?_
  refine vc_seq ?_
  refine vc_region ?_
  refine vl_val rfl (.some rfl) (val_assign rfl) ?_
  refine vl_nil ?_
  refine vc_seq ?_
  refine vc_region ?_
  refine vl_val rfl (.some rfl) (val_move rfl) ?_
  refine vl_val rfl (.some rfl) (val_lt rfl rfl) ?_
  refine vl_val rfl (.some rfl) (val_move rfl) ?_
  refine vl_split (t := 6) rfl (fun hg6 => ?_) (fun hg6 => ?_)
  · (try replace hg6 := of_decide_eq_true hg6)
    refine vl_off rfl rfl rfl rfl (.some rfl) ?_
    refine vl_off rfl rfl rfl rfl (.some rfl) ?_
    refine vl_off rfl rfl rfl rfl (.some rfl) ?_
    refine vl_off rfl rfl rfl rfl (.some rfl) ?_
    refine vl_off rfl rfl rfl rfl (.some rfl) ?_
    refine vl_val rfl (.some rfl) (val_pick rfl rfl) ?_
    refine vl_val rfl (.some rfl) (val_assign rfl) ?_
    refine vl_nil ?_
    refine vc_ret ?_
    refine ⟨_, [], _, res1 Try.results75 rfl, .nil, ?_⟩
    first | (show _ = _; rw [decide_eq_true (p := r < 0 ∨ (n : Int) ≤ r) (by omega)]) | (show Value.bool _ = Value.bool _; congr 1; rw [decide_eq_decide]; omega)
  · (try replace hg6 := of_decide_eq_false hg6)
    refine vl_on rfl rfl rfl rfl ?_
    refine vl_val rfl (.some rfl) (val_move rfl) ?_
    refine vl_on rfl rfl rfl rfl ?_
    refine vl_val rfl (.some rfl) (by first | exact val_fieldAddr Try.runUnderlying58 rfl Try.sizeOf56 rfl | exact val_fieldAddrR Try.runUnderlying58 rfl Try.sizeOf56 rfl) ?_
    refine vl_on rfl rfl rfl rfl ?_
    refine vl_val rfl (.some rfl) (val_load Try.isAgg56 rfl (by first | exact cell_cells (by repeat (first | exact .head | apply In.tail | apply Take.tail | apply Upd.tail)) rfl | exact cell_rd (rd_sl (by repeat (first | exact .head | apply In.tail | apply Take.tail | apply Upd.tail))) (by first | exact bcells_at (by omega) | exact ucells_at (by omega) | exact icells_at (by omega) | exact tcells_at (by omega) | exact bcells_get (by omega) | exact icells_get (by omega) | exact tcells_get (by omega) | exact ucells_get (by omega)) | exact cell_rd (rd_old (by assumption) rfl) (by first | exact bcells_at (by omega) | exact ucells_at (by omega) | exact icells_at (by omega) | exact tcells_at (by omega) | exact bcells_get (by omega) | exact icells_get (by omega) | exact tcells_get (by omega) | exact ucells_get (by omega)) | exact cell_old (by assumption) (by simp [fps]))) ?_
    refine vl_on rfl rfl rfl rfl ?_
    refine vl_val rfl (.some rfl) (val_lenSl Try.runUnderlying56 rfl) ?_
    refine vl_on rfl rfl rfl rfl ?_
    refine vl_val rfl (.some rfl) (val_ge rfl rfl) ?_
    refine vl_val rfl (.some rfl) (val_pick rfl rfl) ?_
    refine vl_val rfl (.some rfl) (val_assign rfl) ?_
    refine vl_nil ?_
    refine vc_ret ?_
    refine ⟨_, [], _, res1 Try.results75 rfl, .nil, ?_⟩
    first | (show _ = _; rw [decide_eq_true (p := r < 0 ∨ (n : Int) ≤ r) (by omega)]) | (show Value.bool _ = Value.bool _; congr 1; rw [decide_eq_decide]; omega)
set_option maxRecDepth 20000 in
theorem sIndexPick (x : Nat) (Ai : Option Addr) (ci n : Nat) (B : Option Addr) (d : Nat) (rl : List Int) (hrl : rl.length < 9223372036854775808) (w : World) (hx : w.cell? ⟨x, 1, none⟩ = some (.slice Ai n ci)) (hrb : Reads w B (icells .i64 rl)) : Fn Try.prog 93 [.slice B rl.length d, (.func (.func 75) #[] #[.pointer (some ⟨x, 0, none⟩)])] [] (ret fun v H' => ∃ q : Int, v = .int .i64 q ∧ (0 ≤ q ↔ ¬ inR n rl) ∧ H' = []) w := by
  refine fn_enter Try.func93 rfl Try.ntmps93 rfl ?_
  refine vc_seq ?_
  refine vc_region ?_
  refine vl_val rfl (.some rfl) (val_assign rfl) ?_
  refine vl_nil ?_
  refine vc_seq ?_
  refine vc_seq ?_
  refine vc_region ?_
  refine vl_val rfl (.some rfl) (val_move rfl) ?_
  refine vl_val rfl (.some rfl) (val_lenSl Try.runUnderlying56 rfl) ?_
  refine vl_val rfl (.some rfl) (val_move rfl) ?_
  refine vl_nil ?_
  refine vc_block ?_
  refine vc_loopw (fun k E H => ∃ i : Nat, i ≤ rl.length ∧ k = rl.length - i ∧ (∀ j, j < i → 0 ≤ rl.getD j 0 ∧ rl.getD j 0 < (n : Int)) ∧ E = [(0, .slice B rl.length d), (1, (.func (.func 75) #[] #[.pointer (some ⟨x, 0, none⟩)])), (7, .int .i64 rl.length), (8, .int .i64 i)] ∧ H = []) (rl.length) ⟨_, _, _, ⟨0, by omega, rfl, fun j hj => absurd hj (by omega), rfl, rfl⟩, (by repeat (first | exact trivial | refine ⟨rfl, ?_⟩ | refine ⟨le_item rfl (by first | rfl | (congr 1; omega) | (simp; done) | (simp; omega)), ?_⟩)), (by repeat (first | exact .nil | (apply Sub.cons; · repeat (first | exact .head | apply Take.tail))))⟩ ?_
  intro k E H hI
  obtain ⟨i, hil, rfl, hall, rfl, rfl⟩ := hI
  refine vc_seq ?_
  refine vc_region ?_
  refine vl_val rfl (.some rfl) (val_lt rfl rfl) ?_
  refine vl_nil ?_
  refine vc_seq ?_
  refine vc_cond rfl (fun hc0 => ?_) (fun hc0 => ?_)
  · (try replace hc0 := of_decide_eq_true hc0)
    refine vc_skip ?_
    refine vc_seq ?_
    refine vc_block ?_
    refine vc_seq ?_
    refine vc_region ?_
    refine vl_val rfl (.some rfl) (val_move rfl) ?_
    refine vl_val rfl (.some rfl) (val_assign rfl) ?_
    refine vl_nil ?_
    refine vc_seq ?_
    refine vc_region ?_
    refine vl_val rfl (.some rfl) (val_move rfl) ?_
    refine vl_val rfl (.some rfl) (val_move rfl) ?_
    refine vl_val rfl (.some rfl) (val_move rfl) ?_
    refine vl_val rfl (.some rfl) (val_indexAddr Try.runUnderlying56 Try.sizeOf3 rfl rfl (by first | exact rd_sl (by repeat (first | exact .head | apply In.tail | apply Take.tail | apply Upd.tail)) | exact rd_slr (by repeat (first | exact .head | apply In.tail | apply Take.tail | apply Upd.tail)) | exact rd_old (by assumption) rfl) (by omega) (by omega) (by first | omega | (simp only [bcells_length, icells_length, ucells_length, tcells_length]; omega) | (simp only [bcells_length, icells_length, ucells_length, tcells_length, fillG_length]; omega) | (simp; omega))) ?_
    refine vl_val rfl (.some rfl) (val_load Try.isAgg3 rfl (by first | exact cell_cells (by repeat (first | exact .head | apply In.tail | apply Take.tail | apply Upd.tail)) rfl | exact cell_rd (rd_sl (by repeat (first | exact .head | apply In.tail | apply Take.tail | apply Upd.tail))) (by first | exact bcells_at (by omega) | exact ucells_at (by omega) | exact icells_at (by omega) | exact tcells_at (by omega) | exact bcells_get (by omega) | exact icells_get (by omega) | exact tcells_get (by omega) | exact ucells_get (by omega)) | exact cell_rd (rd_old (by assumption) rfl) (by first | exact bcells_at (by omega) | exact ucells_at (by omega) | exact icells_at (by omega) | exact tcells_at (by omega) | exact bcells_get (by omega) | exact icells_get (by omega) | exact tcells_get (by omega) | exact ucells_get (by omega)) | exact cell_old (by assumption) (by simp [fps]))) ?_
    refine vl_callvV (fs := []) (cs := [.pointer (some ⟨x, 0, none⟩)]) rfl rfl (.some rfl) rfl Try.call75 rfl (fun w' hw => cPick1 x Ai ci n (rl.getD i 0) w' (cell_old hx (by simp [fps]) w' hw)) ?_
    refine vl_nil ?_
    refine vc_cond rfl (fun hc1 => ?_) (fun hc1 => ?_)
    · (try replace hc1 := of_decide_eq_true hc1)
      refine vc_seq ?_
      refine vc_region ?_
      refine vl_val rfl (.some rfl) (val_move rfl) ?_
      refine vl_val rfl (.some rfl) (val_assign rfl) ?_
      refine vl_nil ?_
      refine vc_ret ?_
      refine ⟨_, [], _, res1 Try.results93 rfl, .nil, ?_⟩
      exact ⟨i, rfl, ⟨fun _ h => by have := h i (by omega); omega, fun _ => by omega⟩, rfl⟩
    · (try replace hc1 := of_decide_eq_false hc1)
      refine vc_skip ?_
      refine vc_region ?_
      refine vl_val rfl (.some rfl) (val_add rfl rfl (by first | exact w_i64 (by omega) (by omega) | rfl)) ?_
      refine vl_val rfl (.some rfl) (val_move rfl) ?_
      refine vl_nil ?_
      exact ⟨rl.length - (i + 1), _, _, _, by omega, (by repeat (first | exact trivial | refine ⟨rfl, ?_⟩ | refine ⟨le_item rfl (by first | rfl | (congr 1; omega) | (simp; done) | (simp; omega)), ?_⟩)), (by repeat (first | exact .nil | (apply Sub.cons; · repeat (first | exact .head | apply Take.tail)))), ⟨i + 1, by omega, rfl, fun j hj => by
        rcases Nat.lt_or_ge j i with h | h
        · exact hall j h
        · obtain rfl : j = i := by omega
          omega, rfl, rfl⟩⟩
  · (try replace hc0 := of_decide_eq_false hc0)
    refine vc_exit ?_
    refine vc_seq ?_
    refine vc_region ?_
    refine vl_val rfl (.some rfl) (val_assign rfl) ?_
    refine vl_nil ?_
    refine vc_ret ?_
    refine ⟨_, [], _, res1 Try.results93 rfl, .nil, ?_⟩
    exact ⟨-1, rfl, ⟨fun h => absurd h (by decide), fun h => absurd (fun j hj => hall j (by omega)) h⟩, rfl⟩
set_option maxRecDepth 20000 in
theorem sContPick (x : Nat) (Ai : Option Addr) (ci n : Nat) (B : Option Addr) (d : Nat) (rl : List Int) (hrl : rl.length < 9223372036854775808) (w : World) (hx : w.cell? ⟨x, 1, none⟩ = some (.slice Ai n ci)) (hrb : Reads w B (icells .i64 rl)) : FnV Try.prog 74 [.slice B rl.length d, (.func (.func 75) #[] #[.pointer (some ⟨x, 0, none⟩)])] (.bool (decide (¬ inR n rl))) w := by
  refine fn_enter Try.func74 rfl Try.ntmps74 rfl ?_
  refine vc_seq ?_
  refine vc_region ?_
  refine vl_val rfl (.some rfl) (val_assign rfl) ?_
  refine vl_nil ?_
  refine vc_seq ?_
  refine vc_region ?_
  refine vl_val rfl (.some rfl) (val_move rfl) ?_
  refine vl_val rfl (.some rfl) (val_move rfl) ?_
  refine vl_call (C := []) rfl rfl (.some rfl) Try.call93 rfl .nil (fun w' hw => sIndexPick x Ai ci n B d rl hrl w' (cell_old hx (by simp [fps]) w' hw) (rdw (rd_old hrb rfl) hw)) (fun v H' h => ?_)
  obtain ⟨q, rfl, hq, rfl⟩ := h
  rw [List.nil_append]
  refine vl_val rfl (.some rfl) (val_ge rfl rfl) ?_
  refine vl_val rfl (.some rfl) (val_assign rfl) ?_
  refine vl_nil ?_
  refine vc_ret ?_
  refine ⟨_, [], _, res1 Try.results74 rfl, .nil, ?_⟩
  show Value.bool _ = Value.bool _
  congr 1
  rw [decide_eq_decide, ← hq]
set_option maxRecDepth 20000 in
theorem cPick (An Ai : Option Addr) (cn ci : Nat) (nl : List Bool) (il : List Int) (hn : nl.length < 9223372036854775808) (hi : il.length < 9223372036854775808) (B : Option Addr) (d : Nat) (rl : List Int) (hrl : rl.length < 9223372036854775808) (w : World) (hrn : Reads w An (tcells nl)) (hri : Reads w Ai (icells .i64 il)) (hrb : Reads w B (icells .i64 rl)) : Fn Try.prog 42 [(VA An cn nl Ai ci il), .slice B rl.length d] [] (ret fun v H' => ∃ An' Ai' cn' ci', v = .tuple #[VA An' cn' (pickN nl il rl) Ai' ci' (pickI nl il rl), .int .i64 (pickE nl il rl)] ∧ H' = [TW An' (pickN nl il rl).length cn' (pickN nl il rl), IW Ai' (pickI nl il rl).length ci' (pickI nl il rl)]) w := by
  refine fn_enter Try.func42 rfl Try.ntmps42 rfl ?_
  refine vc_seq ?_
  refine vc_region ?_
  refine vl_box rfl rfl (.some rfl) rfl (fun r2 => ?_)
  refine vl_alloc rfl rfl (.some rfl) Try.zeroValue58 (fun r4 => ?_)
  refine vl_val rfl (.some rfl) (val_assign rfl) ?_
  refine vl_nil ?_
  refine vc_seq ?_
  refine vc_seq ?_
  refine vc_region ?_
  refine vl_val rfl (.some rfl) (val_loadAgg Try.isAgg58 Try.sizeOf58 rfl (by first | exact cells_whole (by repeat (first | exact .head | apply In.tail | apply Take.tail | apply Upd.tail)) | exact cells_part (by repeat (first | exact .head | apply In.tail | apply Take.tail | apply Upd.tail)) rfl) rfl) ?_
  refine vl_callV rfl rfl (.some rfl) Try.call36 rfl (fun w hw => cGood _ _ _ _ nl il (by omega) (by omega) w (rdw (rd_old hrn rfl) hw) (rdw (rd_old hri rfl) hw)) ?_
  refine vl_val rfl (.some rfl) (val_not rfl) ?_
  refine vl_val rfl (.some rfl) (val_move rfl) ?_
  refine vl_split (t := 12) rfl (fun hg12 => ?_) (fun hg12 => ?_)
  · (try replace hg12 := of_decide_eq_true hg12)
    refine vl_off rfl rfl rfl rfl (.some rfl) ?_
    refine vl_off rfl rfl rfl rfl (.some rfl) ?_
    refine vl_off rfl rfl rfl rfl (.some rfl) ?_
    refine vl_val rfl (.some rfl) (val_pick rfl rfl) ?_
    refine vl_val rfl (.some rfl) (val_move rfl) ?_
    refine vl_off rfl rfl rfl rfl (.some rfl) ?_
    refine vl_off rfl rfl rfl rfl (.some rfl) ?_
    refine vl_off rfl rfl rfl rfl (.some rfl) ?_
    refine vl_val rfl (.some rfl) (val_pick rfl rfl) ?_
    refine vl_nil ?_
    refine vc_cond rfl (fun _ => ?_) (fun h => by cases h)
    refine vc_seq ?_
    refine vc_region ?_
    refine vl_val rfl (.some rfl) (val_buildSt (pl := #[(0, 1), (1, 1)]) (cs := #[.slice none 0 0, .slice none 0 0]) Try.runUnderlying58 Try.zeroValue58 (fun w => by kernel_rfl) rfl rfl) ?_
    refine vl_nilSl 4 1 ?_
    refine vl_nilSl 3 1 ?_
    first | refine vl_store rfl rfl .none rfl rfl Try.sizeOf58 rfl (by repeat (first | exact .head | apply In.tail | apply Take.tail | apply Upd.tail)) (by first | decide | exact Nat.le_refl _ | exact Nat.le_of_ble_eq_true rfl | (simp; omega)) ?_ | refine vl_storeSl rfl rfl .none rfl rfl Try.sizeOf58 rfl (by simp [Value.cells]) (by repeat (first | exact .head | apply In.tail | apply Take.tail | apply Upd.tail)) (by first | decide | (simp [Value.cells]; omega)) ?_
    refine vl_val rfl (.some rfl) (val_assign rfl) ?_
    refine vl_nil ?_
    refine vc_ret ?_
    refine ⟨_, [TW none 0 0 [], IW none 0 0 []], _, resC2 Try.results42 rfl (whole_agg Try.isAgg58 Try.sizeOf58 (cells_whole (by repeat (first | exact .head | apply In.tail | apply Take.tail | apply Upd.tail))) rfl) rfl, (by repeat (first | exact .nil | (apply Sub.cons; · repeat (first | exact .head | apply Take.tail)))), ?_⟩
    obtain ⟨e1, e2, e3⟩ := pick_no (nl := nl) (il := il) (rl := rl) (by
      intro h
      first | (have h9 := h.1; simp [h9] at hg12; done) | (have := h.2.1; omega) | exact (by simpa using hc0 : ¬ inR il.length rl) h.2.2)
    show ∃ An' Ai' cn' ci', _ ∧ _
    rw [e1, e2, e3]
    exact ⟨none, none, 0, 0, rfl, rfl⟩
  · (try replace hg12 := of_decide_eq_false hg12)
    refine vl_on rfl rfl rfl rfl ?_
    refine vl_val rfl (.some rfl) (val_move rfl) ?_
    refine vl_on rfl rfl rfl rfl ?_
    refine vl_val rfl (.some rfl) (val_lenSl Try.runUnderlying56 rfl) ?_
    refine vl_on rfl rfl rfl rfl ?_
    refine vl_val rfl (.some rfl) (val_gt rfl rfl) ?_
    refine vl_val rfl (.some rfl) (val_pick rfl rfl) ?_
    refine vl_val rfl (.some rfl) (val_move rfl) ?_
    refine vl_split (t := 17) rfl (fun hg17 => ?_) (fun hg17 => ?_)
    · (try replace hg17 := of_decide_eq_true hg17)
      refine vl_off rfl rfl rfl rfl (.some rfl) ?_
      refine vl_off rfl rfl rfl rfl (.some rfl) ?_
      refine vl_off rfl rfl rfl rfl (.some rfl) ?_
      refine vl_val rfl (.some rfl) (val_pick rfl rfl) ?_
      refine vl_nil ?_
      refine vc_cond rfl (fun _ => ?_) (fun h => by cases h)
      refine vc_seq ?_
      refine vc_region ?_
      refine vl_val rfl (.some rfl) (val_buildSt (pl := #[(0, 1), (1, 1)]) (cs := #[.slice none 0 0, .slice none 0 0]) Try.runUnderlying58 Try.zeroValue58 (fun w => by kernel_rfl) rfl rfl) ?_
      refine vl_nilSl 4 1 ?_
      refine vl_nilSl 3 1 ?_
      first | refine vl_store rfl rfl .none rfl rfl Try.sizeOf58 rfl (by repeat (first | exact .head | apply In.tail | apply Take.tail | apply Upd.tail)) (by first | decide | exact Nat.le_refl _ | exact Nat.le_of_ble_eq_true rfl | (simp; omega)) ?_ | refine vl_storeSl rfl rfl .none rfl rfl Try.sizeOf58 rfl (by simp [Value.cells]) (by repeat (first | exact .head | apply In.tail | apply Take.tail | apply Upd.tail)) (by first | decide | (simp [Value.cells]; omega)) ?_
      refine vl_val rfl (.some rfl) (val_assign rfl) ?_
      refine vl_nil ?_
      refine vc_ret ?_
      refine ⟨_, [TW none 0 0 [], IW none 0 0 []], _, resC2 Try.results42 rfl (whole_agg Try.isAgg58 Try.sizeOf58 (cells_whole (by repeat (first | exact .head | apply In.tail | apply Take.tail | apply Upd.tail))) rfl) rfl, (by repeat (first | exact .nil | (apply Sub.cons; · repeat (first | exact .head | apply Take.tail)))), ?_⟩
      obtain ⟨e1, e2, e3⟩ := pick_no (nl := nl) (il := il) (rl := rl) (by
        intro h
        first | (have h9 := h.1; simp [h9] at hg12; done) | (have := h.2.1; omega) | exact (by simpa using hc0 : ¬ inR il.length rl) h.2.2)
      show ∃ An' Ai' cn' ci', _ ∧ _
      rw [e1, e2, e3]
      exact ⟨none, none, 0, 0, rfl, rfl⟩
    · (try replace hg17 := of_decide_eq_false hg17)
      refine vl_on rfl rfl rfl rfl ?_
      refine vl_val rfl (.some rfl) (val_move rfl) ?_
      refine vl_on rfl rfl rfl rfl ?_
      refine vl_val rfl (.some rfl) (val_mkFunc rfl rfl) ?_
      refine vl_on rfl rfl rfl rfl ?_
      refine vl_callV rfl rfl (.some rfl) Try.call74 rfl (fun w hw => sContPick r2 Ai ci il.length B d rl hrl w (cell_cells (i := 1) (by repeat (first | exact .head | apply In.tail | apply Take.tail | apply Upd.tail)) rfl w hw) (rdw (rd_old hrb rfl) hw)) ?_
      refine vl_val rfl (.some rfl) (val_pick rfl rfl) ?_
      refine vl_nil ?_
      refine vc_cond rfl (fun hc0 => ?_) (fun hc0 => ?_)
      · (try replace hc0 := of_decide_eq_true hc0)
        refine vc_seq ?_
        refine vc_region ?_
        refine vl_val rfl (.some rfl) (val_buildSt (pl := #[(0, 1), (1, 1)]) (cs := #[.slice none 0 0, .slice none 0 0]) Try.runUnderlying58 Try.zeroValue58 (fun w => by kernel_rfl) rfl rfl) ?_
        refine vl_nilSl 4 1 ?_
        refine vl_nilSl 3 1 ?_
        first | refine vl_store rfl rfl .none rfl rfl Try.sizeOf58 rfl (by repeat (first | exact .head | apply In.tail | apply Take.tail | apply Upd.tail)) (by first | decide | exact Nat.le_refl _ | exact Nat.le_of_ble_eq_true rfl | (simp; omega)) ?_ | refine vl_storeSl rfl rfl .none rfl rfl Try.sizeOf58 rfl (by simp [Value.cells]) (by repeat (first | exact .head | apply In.tail | apply Take.tail | apply Upd.tail)) (by first | decide | (simp [Value.cells]; omega)) ?_
        refine vl_val rfl (.some rfl) (val_assign rfl) ?_
        refine vl_nil ?_
        refine vc_ret ?_
        refine ⟨_, [TW none 0 0 [], IW none 0 0 []], _, resC2 Try.results42 rfl (whole_agg Try.isAgg58 Try.sizeOf58 (cells_whole (by repeat (first | exact .head | apply In.tail | apply Take.tail | apply Upd.tail))) rfl) rfl, (by repeat (first | exact .nil | (apply Sub.cons; · repeat (first | exact .head | apply Take.tail)))), ?_⟩
        obtain ⟨e1, e2, e3⟩ := pick_no (nl := nl) (il := il) (rl := rl) (by
          intro h
          first | (have h9 := h.1; simp [h9] at hg12; done) | (have := h.2.1; omega) | exact (by simpa using hc0 : ¬ inR il.length rl) h.2.2)
        show ∃ An' Ai' cn' ci', _ ∧ _
        rw [e1, e2, e3]
        exact ⟨none, none, 0, 0, rfl, rfl⟩
      · (try replace hc0 := of_decide_eq_false hc0)
        have hok : okV nl il := by simpa using hg12
        have hle := hok.1
        have hle2 := hok.2.1
        have hr3 : rl.length ≤ 1000 := by omega
        have hin : inR il.length rl := by simpa using hc0
        refine vc_skip ?_
        refine vc_cut (fun E H => ∃ E0 H0 F, Env.le E0 E ∧ Sub H0 H F ∧ (fun E H => ∃ r25 r28 r6 : Nat, E = [(1, .slice B rl.length d), (2, .pointer (some ⟨r2, 0, none⟩)), (4, .pointer (some ⟨r4, 0, none⟩)), (6, .pointer (some ⟨r6, 0, none⟩))] ∧ H = [cells r6 [.slice (some ⟨r25, 0, none⟩) rl.length rl.length, .slice (some ⟨r28, 0, none⟩) rl.length rl.length] 58, TW (some ⟨r25, 0, none⟩) rl.length rl.length (fillG false rl.length (fun i => nl.getD (rl.getD i 0).toNat false) 0), IW (some ⟨r28, 0, none⟩) rl.length rl.length (fillG 0 rl.length (fun i => il.getD (rl.getD i 0).toNat 0) 0), cells r4 [.slice none 0 0, .slice none 0 0] 58, cells r2 [.slice An nl.length cn, .slice Ai il.length ci] 58]) E0 H0) ?_ (fun E H h => ?_)
        ·
          refine vc_drawsT 9 [0, 1, 3, 4, 6] ([]) (by repeat (first | exact .nil | (apply Sub.cons; · repeat (first | exact .head | apply Take.tail)))) rfl (by kernel_rfl) rfl (fun _ _ _ h => h) ?_
          refine vt_val 0 rfl rfl (by kernel_rfl) rfl (.some rfl) (val_move rfl) ?_
          refine vt_val 1 rfl rfl (by kernel_rfl) rfl (.some rfl) (val_lenSl Try.runUnderlying56 rfl) ?_
          refine vt_val 3 rfl rfl (by kernel_rfl) rfl (.some rfl) (val_move rfl) ?_
          refine vt_val 4 rfl rfl (by kernel_rfl) rfl (.some rfl) (val_lenSl Try.runUnderlying56 rfl) ?_
          refine vt_fork3 2 5 7 (by kernel_rfl) ?_ ?_ ?_
          · refine vt_op rfl ?_
            refine vl_makeSlice sT55 rfl rfl (.some rfl) rfl rfl (by omega) (by omega) (by omega) (made_bool _) (fun r25 => ?_)
            rw [Int.toNat_natCast, fillG_zero (f := (fun i => nl.getD (rl.getD i 0).toNat false))]
            refine vl_nil ?_
            refine ⟨⟨_, (by repeat (first | exact .nil | (apply Sub.cons; · repeat (first | exact .head | apply Take.tail))))⟩, ?_⟩
            refine vt_fork2 5 7 (by kernel_rfl) ?_ ?_
            · refine vt_op rfl ?_
              refine vl_makeSlice sT56 rfl rfl (.some rfl) rfl rfl (by omega) (by omega) (by omega) (made_int _ _) (fun r28 => ?_)
              rw [Int.toNat_natCast, fillG_zero (f := (fun i => il.getD (rl.getD i 0).toNat 0))]
              refine vl_nil ?_
              refine ⟨⟨_, (by repeat (first | exact .nil | (apply Sub.cons; · repeat (first | exact .head | apply Take.tail))))⟩, ?_⟩
              refine vt_val 6 rfl rfl (by kernel_rfl) rfl (.some rfl) (val_buildSt (pl := #[(0, 1), (1, 1)]) (cs := #[.slice (some ⟨r25, 0, none⟩) rl.length rl.length, .slice (some ⟨r28, 0, none⟩) rl.length rl.length]) Try.runUnderlying58 Try.zeroValue58 (fun w => by kernel_rfl) rfl rfl) ?_
              refine vt_fork1 7 (by kernel_rfl) ?_
              · refine vt_op rfl ?_
                refine vl_alloc rfl rfl (.some rfl) Try.zeroValue58 (fun r6 => ?_)
                refine vl_nil ?_
                refine ⟨⟨_, (by repeat (first | exact .nil | (apply Sub.cons; · repeat (first | exact .head | apply Take.tail))))⟩, ?_⟩
                refine vt_fork1 8 (by kernel_rfl) ?_
                · refine vt_op rfl ?_
                  first | refine vl_store rfl rfl .none rfl rfl Try.sizeOf58 rfl (by repeat (first | exact .head | apply In.tail | apply Take.tail | apply Upd.tail)) (by first | decide | exact Nat.le_refl _ | exact Nat.le_of_ble_eq_true rfl | (simp; omega)) ?_ | refine vl_storeSl rfl rfl .none rfl rfl Try.sizeOf58 rfl (by simp [Value.cells]) (by repeat (first | exact .head | apply In.tail | apply Take.tail | apply Upd.tail)) (by first | decide | (simp [Value.cells]; omega)) ?_
                  refine vl_nil ?_
                  refine ⟨⟨_, (by repeat (first | exact .nil | (apply Sub.cons; · repeat (first | exact .head | apply Take.tail))))⟩, ?_⟩
                  refine vt_nil (by kernel_rfl) ?_
                  exact ⟨_, _, _, (by repeat (first | exact trivial | refine ⟨rfl, ?_⟩ | refine ⟨le_item rfl (by first | rfl | (congr 1; omega) | (simp; done) | (simp; omega)), ?_⟩)), (by repeat (first | exact .nil | (apply Sub.cons; · repeat (first | exact .head | apply Take.tail)))), ⟨r25, r28, r6, rfl, rfl⟩⟩
            · refine vt_op rfl ?_
              refine vl_alloc rfl rfl (.some rfl) Try.zeroValue58 (fun r6 => ?_)
              refine vl_nil ?_
              refine ⟨⟨_, (by repeat (first | exact .nil | (apply Sub.cons; · repeat (first | exact .head | apply Take.tail))))⟩, ?_⟩
              refine vt_fork1 5 (by kernel_rfl) ?_
              · refine vt_op rfl ?_
                refine vl_makeSlice sT56 rfl rfl (.some rfl) rfl rfl (by omega) (by omega) (by omega) (made_int _ _) (fun r28 => ?_)
                rw [Int.toNat_natCast, fillG_zero (f := (fun i => il.getD (rl.getD i 0).toNat 0))]
                refine vl_nil ?_
                refine ⟨⟨_, (by repeat (first | exact .nil | (apply Sub.cons; · repeat (first | exact .head | apply Take.tail))))⟩, ?_⟩
                refine vt_val 6 rfl rfl (by kernel_rfl) rfl (.some rfl) (val_buildSt (pl := #[(0, 1), (1, 1)]) (cs := #[.slice (some ⟨r25, 0, none⟩) rl.length rl.length, .slice (some ⟨r28, 0, none⟩) rl.length rl.length]) Try.runUnderlying58 Try.zeroValue58 (fun w => by kernel_rfl) rfl rfl) ?_
                refine vt_fork1 8 (by kernel_rfl) ?_
                · refine vt_op rfl ?_
                  first | refine vl_store rfl rfl .none rfl rfl Try.sizeOf58 rfl (by repeat (first | exact .head | apply In.tail | apply Take.tail | apply Upd.tail)) (by first | decide | exact Nat.le_refl _ | exact Nat.le_of_ble_eq_true rfl | (simp; omega)) ?_ | refine vl_storeSl rfl rfl .none rfl rfl Try.sizeOf58 rfl (by simp [Value.cells]) (by repeat (first | exact .head | apply In.tail | apply Take.tail | apply Upd.tail)) (by first | decide | (simp [Value.cells]; omega)) ?_
                  refine vl_nil ?_
                  refine ⟨⟨_, (by repeat (first | exact .nil | (apply Sub.cons; · repeat (first | exact .head | apply Take.tail))))⟩, ?_⟩
                  refine vt_nil (by kernel_rfl) ?_
                  exact ⟨_, _, _, (by repeat (first | exact trivial | refine ⟨rfl, ?_⟩ | refine ⟨le_item rfl (by first | rfl | (congr 1; omega) | (simp; done) | (simp; omega)), ?_⟩)), (by repeat (first | exact .nil | (apply Sub.cons; · repeat (first | exact .head | apply Take.tail)))), ⟨r25, r28, r6, rfl, rfl⟩⟩
          · refine vt_op rfl ?_
            refine vl_makeSlice sT56 rfl rfl (.some rfl) rfl rfl (by omega) (by omega) (by omega) (made_int _ _) (fun r28 => ?_)
            rw [Int.toNat_natCast, fillG_zero (f := (fun i => il.getD (rl.getD i 0).toNat 0))]
            refine vl_nil ?_
            refine ⟨⟨_, (by repeat (first | exact .nil | (apply Sub.cons; · repeat (first | exact .head | apply Take.tail))))⟩, ?_⟩
            refine vt_fork2 2 7 (by kernel_rfl) ?_ ?_
            · refine vt_op rfl ?_
              refine vl_makeSlice sT55 rfl rfl (.some rfl) rfl rfl (by omega) (by omega) (by omega) (made_bool _) (fun r25 => ?_)
              rw [Int.toNat_natCast, fillG_zero (f := (fun i => nl.getD (rl.getD i 0).toNat false))]
              refine vl_nil ?_
              refine ⟨⟨_, (by repeat (first | exact .nil | (apply Sub.cons; · repeat (first | exact .head | apply Take.tail))))⟩, ?_⟩
              refine vt_val 6 rfl rfl (by kernel_rfl) rfl (.some rfl) (val_buildSt (pl := #[(0, 1), (1, 1)]) (cs := #[.slice (some ⟨r25, 0, none⟩) rl.length rl.length, .slice (some ⟨r28, 0, none⟩) rl.length rl.length]) Try.runUnderlying58 Try.zeroValue58 (fun w => by kernel_rfl) rfl rfl) ?_
              refine vt_fork1 7 (by kernel_rfl) ?_
              · refine vt_op rfl ?_
                refine vl_alloc rfl rfl (.some rfl) Try.zeroValue58 (fun r6 => ?_)
                refine vl_nil ?_
                refine ⟨⟨_, (by repeat (first | exact .nil | (apply Sub.cons; · repeat (first | exact .head | apply Take.tail))))⟩, ?_⟩
                refine vt_fork1 8 (by kernel_rfl) ?_
                · refine vt_op rfl ?_
                  first | refine vl_store rfl rfl .none rfl rfl Try.sizeOf58 rfl (by repeat (first | exact .head | apply In.tail | apply Take.tail | apply Upd.tail)) (by first | decide | exact Nat.le_refl _ | exact Nat.le_of_ble_eq_true rfl | (simp; omega)) ?_ | refine vl_storeSl rfl rfl .none rfl rfl Try.sizeOf58 rfl (by simp [Value.cells]) (by repeat (first | exact .head | apply In.tail | apply Take.tail | apply Upd.tail)) (by first | decide | (simp [Value.cells]; omega)) ?_
                  refine vl_nil ?_
                  refine ⟨⟨_, (by repeat (first | exact .nil | (apply Sub.cons; · repeat (first | exact .head | apply Take.tail))))⟩, ?_⟩
                  refine vt_nil (by kernel_rfl) ?_
                  exact ⟨_, _, _, (by repeat (first | exact trivial | refine ⟨rfl, ?_⟩ | refine ⟨le_item rfl (by first | rfl | (congr 1; omega) | (simp; done) | (simp; omega)), ?_⟩)), (by repeat (first | exact .nil | (apply Sub.cons; · repeat (first | exact .head | apply Take.tail)))), ⟨r25, r28, r6, rfl, rfl⟩⟩
            · refine vt_op rfl ?_
              refine vl_alloc rfl rfl (.some rfl) Try.zeroValue58 (fun r6 => ?_)
              refine vl_nil ?_
              refine ⟨⟨_, (by repeat (first | exact .nil | (apply Sub.cons; · repeat (first | exact .head | apply Take.tail))))⟩, ?_⟩
              refine vt_fork1 2 (by kernel_rfl) ?_
              · refine vt_op rfl ?_
                refine vl_makeSlice sT55 rfl rfl (.some rfl) rfl rfl (by omega) (by omega) (by omega) (made_bool _) (fun r25 => ?_)
                rw [Int.toNat_natCast, fillG_zero (f := (fun i => nl.getD (rl.getD i 0).toNat false))]
                refine vl_nil ?_
                refine ⟨⟨_, (by repeat (first | exact .nil | (apply Sub.cons; · repeat (first | exact .head | apply Take.tail))))⟩, ?_⟩
                refine vt_val 6 rfl rfl (by kernel_rfl) rfl (.some rfl) (val_buildSt (pl := #[(0, 1), (1, 1)]) (cs := #[.slice (some ⟨r25, 0, none⟩) rl.length rl.length, .slice (some ⟨r28, 0, none⟩) rl.length rl.length]) Try.runUnderlying58 Try.zeroValue58 (fun w => by kernel_rfl) rfl rfl) ?_
                refine vt_fork1 8 (by kernel_rfl) ?_
                · refine vt_op rfl ?_
                  first | refine vl_store rfl rfl .none rfl rfl Try.sizeOf58 rfl (by repeat (first | exact .head | apply In.tail | apply Take.tail | apply Upd.tail)) (by first | decide | exact Nat.le_refl _ | exact Nat.le_of_ble_eq_true rfl | (simp; omega)) ?_ | refine vl_storeSl rfl rfl .none rfl rfl Try.sizeOf58 rfl (by simp [Value.cells]) (by repeat (first | exact .head | apply In.tail | apply Take.tail | apply Upd.tail)) (by first | decide | (simp [Value.cells]; omega)) ?_
                  refine vl_nil ?_
                  refine ⟨⟨_, (by repeat (first | exact .nil | (apply Sub.cons; · repeat (first | exact .head | apply Take.tail))))⟩, ?_⟩
                  refine vt_nil (by kernel_rfl) ?_
                  exact ⟨_, _, _, (by repeat (first | exact trivial | refine ⟨rfl, ?_⟩ | refine ⟨le_item rfl (by first | rfl | (congr 1; omega) | (simp; done) | (simp; omega)), ?_⟩)), (by repeat (first | exact .nil | (apply Sub.cons; · repeat (first | exact .head | apply Take.tail)))), ⟨r25, r28, r6, rfl, rfl⟩⟩
          · refine vt_op rfl ?_
            refine vl_alloc rfl rfl (.some rfl) Try.zeroValue58 (fun r6 => ?_)
            refine vl_nil ?_
            refine ⟨⟨_, (by repeat (first | exact .nil | (apply Sub.cons; · repeat (first | exact .head | apply Take.tail))))⟩, ?_⟩
            refine vt_fork2 2 5 (by kernel_rfl) ?_ ?_
            · refine vt_op rfl ?_
              refine vl_makeSlice sT55 rfl rfl (.some rfl) rfl rfl (by omega) (by omega) (by omega) (made_bool _) (fun r25 => ?_)
              rw [Int.toNat_natCast, fillG_zero (f := (fun i => nl.getD (rl.getD i 0).toNat false))]
              refine vl_nil ?_
              refine ⟨⟨_, (by repeat (first | exact .nil | (apply Sub.cons; · repeat (first | exact .head | apply Take.tail))))⟩, ?_⟩
              refine vt_fork1 5 (by kernel_rfl) ?_
              · refine vt_op rfl ?_
                refine vl_makeSlice sT56 rfl rfl (.some rfl) rfl rfl (by omega) (by omega) (by omega) (made_int _ _) (fun r28 => ?_)
                rw [Int.toNat_natCast, fillG_zero (f := (fun i => il.getD (rl.getD i 0).toNat 0))]
                refine vl_nil ?_
                refine ⟨⟨_, (by repeat (first | exact .nil | (apply Sub.cons; · repeat (first | exact .head | apply Take.tail))))⟩, ?_⟩
                refine vt_val 6 rfl rfl (by kernel_rfl) rfl (.some rfl) (val_buildSt (pl := #[(0, 1), (1, 1)]) (cs := #[.slice (some ⟨r25, 0, none⟩) rl.length rl.length, .slice (some ⟨r28, 0, none⟩) rl.length rl.length]) Try.runUnderlying58 Try.zeroValue58 (fun w => by kernel_rfl) rfl rfl) ?_
                refine vt_fork1 8 (by kernel_rfl) ?_
                · refine vt_op rfl ?_
                  first | refine vl_store rfl rfl .none rfl rfl Try.sizeOf58 rfl (by repeat (first | exact .head | apply In.tail | apply Take.tail | apply Upd.tail)) (by first | decide | exact Nat.le_refl _ | exact Nat.le_of_ble_eq_true rfl | (simp; omega)) ?_ | refine vl_storeSl rfl rfl .none rfl rfl Try.sizeOf58 rfl (by simp [Value.cells]) (by repeat (first | exact .head | apply In.tail | apply Take.tail | apply Upd.tail)) (by first | decide | (simp [Value.cells]; omega)) ?_
                  refine vl_nil ?_
                  refine ⟨⟨_, (by repeat (first | exact .nil | (apply Sub.cons; · repeat (first | exact .head | apply Take.tail))))⟩, ?_⟩
                  refine vt_nil (by kernel_rfl) ?_
                  exact ⟨_, _, _, (by repeat (first | exact trivial | refine ⟨rfl, ?_⟩ | refine ⟨le_item rfl (by first | rfl | (congr 1; omega) | (simp; done) | (simp; omega)), ?_⟩)), (by repeat (first | exact .nil | (apply Sub.cons; · repeat (first | exact .head | apply Take.tail)))), ⟨r25, r28, r6, rfl, rfl⟩⟩
            · refine vt_op rfl ?_
              refine vl_makeSlice sT56 rfl rfl (.some rfl) rfl rfl (by omega) (by omega) (by omega) (made_int _ _) (fun r28 => ?_)
              rw [Int.toNat_natCast, fillG_zero (f := (fun i => il.getD (rl.getD i 0).toNat 0))]
              refine vl_nil ?_
              refine ⟨⟨_, (by repeat (first | exact .nil | (apply Sub.cons; · repeat (first | exact .head | apply Take.tail))))⟩, ?_⟩
              refine vt_fork1 2 (by kernel_rfl) ?_
              · refine vt_op rfl ?_
                refine vl_makeSlice sT55 rfl rfl (.some rfl) rfl rfl (by omega) (by omega) (by omega) (made_bool _) (fun r25 => ?_)
                rw [Int.toNat_natCast, fillG_zero (f := (fun i => nl.getD (rl.getD i 0).toNat false))]
                refine vl_nil ?_
                refine ⟨⟨_, (by repeat (first | exact .nil | (apply Sub.cons; · repeat (first | exact .head | apply Take.tail))))⟩, ?_⟩
                refine vt_val 6 rfl rfl (by kernel_rfl) rfl (.some rfl) (val_buildSt (pl := #[(0, 1), (1, 1)]) (cs := #[.slice (some ⟨r25, 0, none⟩) rl.length rl.length, .slice (some ⟨r28, 0, none⟩) rl.length rl.length]) Try.runUnderlying58 Try.zeroValue58 (fun w => by kernel_rfl) rfl rfl) ?_
                refine vt_fork1 8 (by kernel_rfl) ?_
                · refine vt_op rfl ?_
                  first | refine vl_store rfl rfl .none rfl rfl Try.sizeOf58 rfl (by repeat (first | exact .head | apply In.tail | apply Take.tail | apply Upd.tail)) (by first | decide | exact Nat.le_refl _ | exact Nat.le_of_ble_eq_true rfl | (simp; omega)) ?_ | refine vl_storeSl rfl rfl .none rfl rfl Try.sizeOf58 rfl (by simp [Value.cells]) (by repeat (first | exact .head | apply In.tail | apply Take.tail | apply Upd.tail)) (by first | decide | (simp [Value.cells]; omega)) ?_
                  refine vl_nil ?_
                  refine ⟨⟨_, (by repeat (first | exact .nil | (apply Sub.cons; · repeat (first | exact .head | apply Take.tail))))⟩, ?_⟩
                  refine vt_nil (by kernel_rfl) ?_
                  exact ⟨_, _, _, (by repeat (first | exact trivial | refine ⟨rfl, ?_⟩ | refine ⟨le_item rfl (by first | rfl | (congr 1; omega) | (simp; done) | (simp; omega)), ?_⟩)), (by repeat (first | exact .nil | (apply Sub.cons; · repeat (first | exact .head | apply Take.tail)))), ⟨r25, r28, r6, rfl, rfl⟩⟩
        · obtain ⟨E0, H0, F, hE0, hH0, hJ⟩ := h
          obtain ⟨r25, r28, r6, rfl, rfl⟩ := hJ
          refine vc_weak hE0 hH0 ?_
          refine vc_seq ?_
          refine vc_seq ?_
          refine vc_region ?_
          refine vl_val rfl (.some rfl) (val_move rfl) ?_
          refine vl_val rfl (.some rfl) (val_lenSl Try.runUnderlying56 rfl) ?_
          refine vl_val rfl (.some rfl) (val_move rfl) ?_
          refine vl_nil ?_
          refine vc_block ?_
          refine vc_loopw (fun k E H => ∃ i : Nat, i ≤ rl.length ∧ k = rl.length - i ∧ E = [(1, .slice B rl.length d), (2, .pointer (some ⟨r2, 0, none⟩)), (4, .pointer (some ⟨r4, 0, none⟩)), (6, .pointer (some ⟨r6, 0, none⟩)), (30, .slice B rl.length d), (31, .int .i64 rl.length), (32, .int .i64 i)] ∧ H = [cells r6 [.slice (some ⟨r25, 0, none⟩) rl.length rl.length, .slice (some ⟨r28, 0, none⟩) rl.length rl.length] 58, TW (some ⟨r25, 0, none⟩) rl.length rl.length (fillG false rl.length (fun i => nl.getD (rl.getD i 0).toNat false) i), IW (some ⟨r28, 0, none⟩) rl.length rl.length (fillG 0 rl.length (fun i => il.getD (rl.getD i 0).toNat 0) i), cells r4 [.slice none 0 0, .slice none 0 0] 58, cells r2 [.slice An nl.length cn, .slice Ai il.length ci] 58]) (rl.length) ⟨_, _, _, ⟨0, by omega, rfl, rfl, rfl⟩, (by repeat (first | exact trivial | refine ⟨rfl, ?_⟩ | refine ⟨le_item rfl (by first | rfl | (congr 1; omega) | (simp; done) | (simp; omega)), ?_⟩)), (by repeat (first | exact .nil | (apply Sub.cons; · repeat (first | exact .head | apply Take.tail))))⟩ ?_
          intro k E H hI
          obtain ⟨i, hil, rfl, rfl, rfl⟩ := hI
          refine vc_seq ?_
          refine vc_region ?_
          refine vl_val rfl (.some rfl) (val_lt rfl rfl) ?_
          refine vl_nil ?_
          refine vc_seq ?_
          refine vc_cond rfl (fun hc1 => ?_) (fun hc1 => ?_)
          · (try replace hc1 := of_decide_eq_true hc1)
            have hi8 : i < rl.length := by omega
            have hri8 := hin i hi8
            refine vc_skip ?_
            refine vc_seq ?_
            refine vc_block ?_
            refine vc_seq ?_
            refine vc_region ?_
            refine vl_val rfl (.some rfl) (val_move rfl) ?_
            refine vl_val rfl (.some rfl) (val_indexAddr Try.runUnderlying56 Try.sizeOf3 rfl rfl (by first | exact rd_sl (by repeat (first | exact .head | apply In.tail | apply Take.tail | apply Upd.tail)) | exact rd_slr (by repeat (first | exact .head | apply In.tail | apply Take.tail | apply Upd.tail)) | exact rd_old (by assumption) rfl) (by omega) (by omega) (by first | omega | (simp only [bcells_length, icells_length, ucells_length, tcells_length]; omega) | (simp only [bcells_length, icells_length, ucells_length, tcells_length, fillG_length]; omega) | (simp; omega))) ?_
            refine vl_val rfl (.some rfl) (val_load Try.isAgg3 rfl (by first | exact cell_cells (by repeat (first | exact .head | apply In.tail | apply Take.tail | apply Upd.tail)) rfl | exact cell_rd (rd_sl (by repeat (first | exact .head | apply In.tail | apply Take.tail | apply Upd.tail))) (by first | exact bcells_at (by omega) | exact ucells_at (by omega) | exact icells_at (by omega) | exact tcells_at (by omega) | exact bcells_get (by omega) | exact icells_get (by omega) | exact tcells_get (by omega) | exact ucells_get (by omega)) | exact cell_rd (rd_old (by assumption) rfl) (by first | exact bcells_at (by omega) | exact ucells_at (by omega) | exact icells_at (by omega) | exact tcells_at (by omega) | exact bcells_get (by omega) | exact icells_get (by omega) | exact tcells_get (by omega) | exact ucells_get (by omega)) | exact cell_old (by assumption) (by simp [fps]))) ?_
            refine vl_val rfl (.some rfl) (val_assign rfl) ?_
            refine vl_val rfl (.some rfl) (val_assign rfl) ?_
            refine vl_nil ?_
            refine vc_drawsS [0, 1, 2, 3, 4, 5, 6, 7, 8, 9, 10, 11, 12, 13, 14, 15, 16, 18] [19] [0, 1, 2, 3, 4, 5, 6, 7, 8, 9, 10, 11, 12, 13, 14, 15, 16, 17, 18, 19] [cells r6 [.slice (some ⟨r25, 0, none⟩) rl.length rl.length, .slice (some ⟨r28, 0, none⟩) rl.length rl.length] 58, cells r2 [.slice An nl.length cn, .slice Ai il.length ci] 58] (by repeat (first | exact .nil | (apply Sub.cons; · repeat (first | exact .head | apply Take.tail)))) rfl (by kernel_rfl) (fun _ _ _ h => h) ?_
            refine vd_val rfl rfl rfl (.some rfl) (by first | exact val_fieldAddr Try.runUnderlying58 rfl Try.sizeOf55 rfl | exact val_fieldAddrR Try.runUnderlying58 rfl Try.sizeOf55 rfl) ?_
            refine vd_val rfl rfl rfl (.some rfl) (val_load Try.isAgg55 rfl (by first | exact cell_cells (by repeat (first | exact .head | apply In.tail | apply Take.tail | apply Upd.tail)) rfl | exact cell_rd (rd_sl (by repeat (first | exact .head | apply In.tail | apply Take.tail | apply Upd.tail))) (by first | exact bcells_at (by omega) | exact ucells_at (by omega) | exact icells_at (by omega) | exact tcells_at (by omega) | exact bcells_get (by omega) | exact icells_get (by omega) | exact tcells_get (by omega) | exact ucells_get (by omega)) | exact cell_rd (rd_old (by assumption) rfl) (by first | exact bcells_at (by omega) | exact ucells_at (by omega) | exact icells_at (by omega) | exact tcells_at (by omega) | exact bcells_get (by omega) | exact icells_get (by omega) | exact tcells_get (by omega) | exact ucells_get (by omega)) | exact cell_old (by assumption) (by simp [fps]))) ?_
            refine vd_val rfl rfl rfl (.some rfl) (val_move rfl) ?_
            refine vd_val rfl rfl rfl (.some rfl) (by first | exact val_fieldAddr Try.runUnderlying58 rfl Try.sizeOf56 rfl | exact val_fieldAddrR Try.runUnderlying58 rfl Try.sizeOf56 rfl) ?_
            refine vd_val rfl rfl rfl (.some rfl) (val_load Try.isAgg56 rfl (by first | exact cell_cells (by repeat (first | exact .head | apply In.tail | apply Take.tail | apply Upd.tail)) rfl | exact cell_rd (rd_sl (by repeat (first | exact .head | apply In.tail | apply Take.tail | apply Upd.tail))) (by first | exact bcells_at (by omega) | exact ucells_at (by omega) | exact icells_at (by omega) | exact tcells_at (by omega) | exact bcells_get (by omega) | exact icells_get (by omega) | exact tcells_get (by omega) | exact ucells_get (by omega)) | exact cell_rd (rd_old (by assumption) rfl) (by first | exact bcells_at (by omega) | exact ucells_at (by omega) | exact icells_at (by omega) | exact tcells_at (by omega) | exact bcells_get (by omega) | exact icells_get (by omega) | exact tcells_get (by omega) | exact ucells_get (by omega)) | exact cell_old (by assumption) (by simp [fps]))) ?_
            refine vd_val rfl rfl rfl (.some rfl) (val_move rfl) ?_
            refine vd_val rfl rfl rfl (.some rfl) (by first | exact val_fieldAddr Try.runUnderlying58 rfl Try.sizeOf55 rfl | exact val_fieldAddrR Try.runUnderlying58 rfl Try.sizeOf55 rfl) ?_
            refine vd_val rfl rfl rfl (.some rfl) (val_load Try.isAgg55 rfl (by first | exact cell_cells (by repeat (first | exact .head | apply In.tail | apply Take.tail | apply Upd.tail)) rfl | exact cell_rd (rd_sl (by repeat (first | exact .head | apply In.tail | apply Take.tail | apply Upd.tail))) (by first | exact bcells_at (by omega) | exact ucells_at (by omega) | exact icells_at (by omega) | exact tcells_at (by omega) | exact bcells_get (by omega) | exact icells_get (by omega) | exact tcells_get (by omega) | exact ucells_get (by omega)) | exact cell_rd (rd_old (by assumption) rfl) (by first | exact bcells_at (by omega) | exact ucells_at (by omega) | exact icells_at (by omega) | exact tcells_at (by omega) | exact bcells_get (by omega) | exact icells_get (by omega) | exact tcells_get (by omega) | exact ucells_get (by omega)) | exact cell_old (by assumption) (by simp [fps]))) ?_
            refine vd_val rfl rfl rfl (.some rfl) (val_move rfl) ?_
            refine vd_val rfl rfl rfl (.some rfl) (val_indexAddr Try.runUnderlying55 Try.sizeOf4 rfl rfl (by first | exact rd_sl (by repeat (first | exact .head | apply In.tail | apply Take.tail | apply Upd.tail)) | exact rd_slr (by repeat (first | exact .head | apply In.tail | apply Take.tail | apply Upd.tail)) | exact rd_old (by assumption) rfl) (by omega) (by omega) (by first | omega | (simp only [bcells_length, icells_length, ucells_length, tcells_length]; omega) | (simp only [bcells_length, icells_length, ucells_length, tcells_length, fillG_length]; omega) | (simp; omega))) ?_
            refine vd_val rfl rfl rfl (.some rfl) (val_load Try.isAgg4 rfl (cell_rd (rd_old hrn rfl) (tcells_of (p := (rl.getD i 0).toNat) (by omega) (by omega)))) ?_
            refine vd_val rfl rfl rfl (.some rfl) (by first | exact val_fieldAddr Try.runUnderlying58 rfl Try.sizeOf56 rfl | exact val_fieldAddrR Try.runUnderlying58 rfl Try.sizeOf56 rfl) ?_
            refine vd_val rfl rfl rfl (.some rfl) (val_load Try.isAgg56 rfl (by first | exact cell_cells (by repeat (first | exact .head | apply In.tail | apply Take.tail | apply Upd.tail)) rfl | exact cell_rd (rd_sl (by repeat (first | exact .head | apply In.tail | apply Take.tail | apply Upd.tail))) (by first | exact bcells_at (by omega) | exact ucells_at (by omega) | exact icells_at (by omega) | exact tcells_at (by omega) | exact bcells_get (by omega) | exact icells_get (by omega) | exact tcells_get (by omega) | exact ucells_get (by omega)) | exact cell_rd (rd_old (by assumption) rfl) (by first | exact bcells_at (by omega) | exact ucells_at (by omega) | exact icells_at (by omega) | exact tcells_at (by omega) | exact bcells_get (by omega) | exact icells_get (by omega) | exact tcells_get (by omega) | exact ucells_get (by omega)) | exact cell_old (by assumption) (by simp [fps]))) ?_
            refine vd_val rfl rfl rfl (.some rfl) (val_move rfl) ?_
            refine vd_val rfl rfl rfl (.some rfl) (val_indexAddr Try.runUnderlying56 Try.sizeOf3 rfl rfl (by first | exact rd_sl (by repeat (first | exact .head | apply In.tail | apply Take.tail | apply Upd.tail)) | exact rd_slr (by repeat (first | exact .head | apply In.tail | apply Take.tail | apply Upd.tail)) | exact rd_old (by assumption) rfl) (by omega) (by omega) (by first | omega | (simp only [bcells_length, icells_length, ucells_length, tcells_length]; omega) | (simp only [bcells_length, icells_length, ucells_length, tcells_length, fillG_length]; omega) | (simp; omega))) ?_
            refine vd_val rfl rfl rfl (.some rfl) (val_load Try.isAgg3 rfl (cell_rd (rd_old hri rfl) (icells_of (p := (rl.getD i 0).toNat) (by omega) (by omega)))) ?_
            refine vd_val rfl rfl rfl (.some rfl) (val_indexAddrA Try.runUnderlying55 Try.sizeOf4 rfl rfl (by omega) (by omega)) ?_
            refine vd_op rfl rfl ?_
            refine vl_storeSl rfl rfl .none rfl rfl Try.sizeOf4 rfl (by simp [Value.cells]) (by repeat (first | exact .head | apply In.tail | apply Take.tail | apply Upd.tail)) (by rw [tcells_length, fillG_length]; show Int.toNat (i : Int) * 1 + 1 ≤ _; omega) ?_
            rw [laid_t (j := i) (by omega) (by rw [fillG_length]; omega), fillG_set (f := (fun i => nl.getD (rl.getD i 0).toNat false)) (by omega)]
            refine vl_nil ?_
            refine ⟨fun _ => ⟨_, (by repeat (first | exact .nil | (apply Sub.cons; · repeat (first | exact .head | apply Take.tail))))⟩, ?_⟩
            refine vd_val rfl rfl rfl (.some rfl) (val_indexAddrA Try.runUnderlying56 Try.sizeOf3 rfl rfl (by omega) (by omega)) ?_
            refine vd_op rfl rfl ?_
            refine vl_storeSl rfl rfl .none rfl rfl Try.sizeOf3 rfl (by simp [Value.cells]) (by repeat (first | exact .head | apply In.tail | apply Take.tail | apply Upd.tail)) (by rw [icells_length, fillG_length]; show Int.toNat (i : Int) * 1 + 1 ≤ _; omega) ?_
            rw [laid_i (j := i) (by omega) (by rw [fillG_length]; omega), fillG_set (f := (fun i => il.getD (rl.getD i 0).toNat 0)) (by omega)]
            refine vl_nil ?_
            refine ⟨fun h => (by cases h), ?_⟩
            refine vd_nil ?_
            refine vc_region ?_
            refine vl_val rfl (.some rfl) (val_add rfl rfl (by first | exact w_i64 (by omega) (by omega) | rfl)) ?_
            refine vl_val rfl (.some rfl) (val_move rfl) ?_
            refine vl_nil ?_
            exact ⟨rl.length - (i + 1), _, _, _, by omega, (by repeat (first | exact trivial | refine ⟨rfl, ?_⟩ | refine ⟨le_item rfl (by first | rfl | (congr 1; omega) | (simp; done) | (simp; omega)), ?_⟩)), (by repeat (first | exact .nil | (apply Sub.cons; · repeat (first | exact .head | apply Take.tail)))), ⟨i + 1, by omega, rfl, rfl, rfl⟩⟩
          · (try replace hc1 := of_decide_eq_false hc1)
            obtain rfl : i = rl.length := by omega
            rw [fill_pkN, fill_pkI]
            refine vc_exit ?_
            refine vc_seq ?_
            refine vc_region ?_
            refine vl_val rfl (.some rfl) (val_loadAgg Try.isAgg58 Try.sizeOf58 rfl (by first | exact cells_whole (by repeat (first | exact .head | apply In.tail | apply Take.tail | apply Upd.tail)) | exact cells_part (by repeat (first | exact .head | apply In.tail | apply Take.tail | apply Upd.tail)) rfl) rfl) ?_
            first | refine vl_store rfl rfl .none rfl rfl Try.sizeOf58 rfl (by repeat (first | exact .head | apply In.tail | apply Take.tail | apply Upd.tail)) (by first | decide | exact Nat.le_refl _ | exact Nat.le_of_ble_eq_true rfl | (simp; omega)) ?_ | refine vl_storeSl rfl rfl .none rfl rfl Try.sizeOf58 rfl (by simp [Value.cells]) (by repeat (first | exact .head | apply In.tail | apply Take.tail | apply Upd.tail)) (by first | decide | (simp [Value.cells]; omega)) ?_
            refine vl_val rfl (.some rfl) (val_assign rfl) ?_
            refine vl_nil ?_
            refine vc_ret ?_
            refine ⟨_, [TW (some ⟨r25, 0, none⟩) rl.length rl.length (pkN nl rl), IW (some ⟨r28, 0, none⟩) rl.length rl.length (pkI il rl)], _, resC2 Try.results42 rfl (whole_agg Try.isAgg58 Try.sizeOf58 (cells_whole (by repeat (first | exact .head | apply In.tail | apply Take.tail | apply Upd.tail))) rfl) rfl, (by repeat (first | exact .nil | (apply Sub.cons; · repeat (first | exact .head | apply Take.tail)))), ?_⟩
            obtain ⟨e1, e2, e3⟩ := pick_ok (nl := nl) (il := il) (rl := rl) ⟨hok, hr3, hin⟩
            show ∃ An' Ai' cn' ci', _ ∧ _
            rw [e1, e2, e3]
            have q1 := pkN_len nl rl
            have q2 := pkI_len il rl
            exact ⟨some ⟨r25, 0, none⟩, some ⟨r28, 0, none⟩, rl.length, rl.length, by rw [VA, q1, q2]; rfl, by rw [q1, q2]⟩
set_option maxRecDepth 20000 in
theorem rPick (An Ai : Option Addr) (cn ci : Nat) (nl : List Bool) (il : List Int) (hn : nl.length < 9223372036854775808) (hi : il.length < 9223372036854775808) (B : Option Addr) (d : Nat) (rl : List Int) (hrl : rl.length < 9223372036854775808) (w : World) (hrn : Reads w An (tcells nl)) (hri : Reads w Ai (icells .i64 il)) (hrb : Reads w B (icells .i64 rl)) : Fn Try.prog 45 [(VA An cn nl Ai ci il), .slice B rl.length d] [] (ret fun v H' => ∃ An' Ai' cn' ci', v = .tuple #[VA An' cn' (pickN nl il rl) Ai' ci' (pickI nl il rl), .int .i64 (pickE nl il rl)] ∧ H' = [TW An' (pickN nl il rl).length cn' (pickN nl il rl), IW Ai' (pickI nl il rl).length ci' (pickI nl il rl)]) w := by
  refine fn_enter Try.func45 rfl Try.ntmps45 rfl ?_
  refine vc_seq ?_
  refine vc_region ?_
  refine vl_box rfl rfl (.some rfl) rfl (fun r2 => ?_)
  refine vl_alloc rfl rfl (.some rfl) Try.zeroValue64 (fun r4 => ?_)
  refine vl_val rfl (.some rfl) (val_assign rfl) ?_
  refine vl_nil ?_
  refine vc_seq ?_
  refine vc_seq ?_
  refine vc_region ?_
  refine vl_val rfl (.some rfl) (val_loadAgg Try.isAgg64 Try.sizeOf64 rfl (by first | exact cells_whole (by repeat (first | exact .head | apply In.tail | apply Take.tail | apply Upd.tail)) | exact cells_part (by repeat (first | exact .head | apply In.tail | apply Take.tail | apply Upd.tail)) rfl) rfl) ?_
  refine vl_callV rfl rfl (.some rfl) Try.call37 rfl (fun w hw => rGood _ _ _ _ nl il (by omega) (by omega) w (rdw (rd_old hrn rfl) hw) (rdw (rd_old hri rfl) hw)) ?_
  refine vl_val rfl (.some rfl) (val_not rfl) ?_
  refine vl_val rfl (.some rfl) (val_move rfl) ?_
  refine vl_split (t := 12) rfl (fun hg12 => ?_) (fun hg12 => ?_)
  · (try replace hg12 := of_decide_eq_true hg12)
    refine vl_off rfl rfl rfl rfl (.some rfl) ?_
    refine vl_off rfl rfl rfl rfl (.some rfl) ?_
    refine vl_off rfl rfl rfl rfl (.some rfl) ?_
    refine vl_val rfl (.some rfl) (val_pick rfl rfl) ?_
    refine vl_nil ?_
    refine vc_cond rfl (fun _ => ?_) (fun h => by cases h)
    refine vc_seq ?_
    refine vc_region ?_
    refine vl_val rfl (.some rfl) (val_buildSt (pl := #[(0, 1), (1, 1)]) (cs := #[.slice none 0 0, .slice none 0 0]) Try.runUnderlying64 Try.zeroValue64 (fun w => by kernel_rfl) rfl rfl) ?_
    refine vl_nilSl 4 1 ?_
    refine vl_nilSl 3 1 ?_
    first | refine vl_store rfl rfl .none rfl rfl Try.sizeOf64 rfl (by repeat (first | exact .head | apply In.tail | apply Take.tail | apply Upd.tail)) (by first | decide | exact Nat.le_refl _ | exact Nat.le_of_ble_eq_true rfl | (simp; omega)) ?_ | refine vl_storeSl rfl rfl .none rfl rfl Try.sizeOf64 rfl (by simp [Value.cells]) (by repeat (first | exact .head | apply In.tail | apply Take.tail | apply Upd.tail)) (by first | decide | (simp [Value.cells]; omega)) ?_
    refine vl_val rfl (.some rfl) (val_assign rfl) ?_
    refine vl_nil ?_
    refine vc_ret ?_
    refine ⟨_, [TW none 0 0 [], IW none 0 0 []], _, resC2 Try.results45 rfl (whole_agg Try.isAgg64 Try.sizeOf64 (cells_whole (by repeat (first | exact .head | apply In.tail | apply Take.tail | apply Upd.tail))) rfl) rfl, (by repeat (first | exact .nil | (apply Sub.cons; · repeat (first | exact .head | apply Take.tail)))), ?_⟩
    obtain ⟨e1, e2, e3⟩ := pick_no (nl := nl) (il := il) (rl := rl) (by
      intro h
      first | (have h9 := h.1; simp [h9] at hg12; done) | (have := h.2.1; omega))
    show ∃ An' Ai' cn' ci', _ ∧ _
    rw [e1, e2, e3]
    exact ⟨none, none, 0, 0, rfl, rfl⟩
  · (try replace hg12 := of_decide_eq_false hg12)
    refine vl_on rfl rfl rfl rfl ?_
    refine vl_val rfl (.some rfl) (val_move rfl) ?_
    refine vl_on rfl rfl rfl rfl ?_
    refine vl_val rfl (.some rfl) (val_lenSl Try.runUnderlying56 rfl) ?_
    refine vl_on rfl rfl rfl rfl ?_
    refine vl_val rfl (.some rfl) (val_gt rfl rfl) ?_
    refine vl_val rfl (.some rfl) (val_pick rfl rfl) ?_
    refine vl_nil ?_
    refine vc_cond rfl (fun hc0 => ?_) (fun hc0 => ?_)
    · (try replace hc0 := of_decide_eq_true hc0)
      refine vc_seq ?_
      refine vc_region ?_
      refine vl_val rfl (.some rfl) (val_buildSt (pl := #[(0, 1), (1, 1)]) (cs := #[.slice none 0 0, .slice none 0 0]) Try.runUnderlying64 Try.zeroValue64 (fun w => by kernel_rfl) rfl rfl) ?_
      refine vl_nilSl 4 1 ?_
      refine vl_nilSl 3 1 ?_
      first | refine vl_store rfl rfl .none rfl rfl Try.sizeOf64 rfl (by repeat (first | exact .head | apply In.tail | apply Take.tail | apply Upd.tail)) (by first | decide | exact Nat.le_refl _ | exact Nat.le_of_ble_eq_true rfl | (simp; omega)) ?_ | refine vl_storeSl rfl rfl .none rfl rfl Try.sizeOf64 rfl (by simp [Value.cells]) (by repeat (first | exact .head | apply In.tail | apply Take.tail | apply Upd.tail)) (by first | decide | (simp [Value.cells]; omega)) ?_
      refine vl_val rfl (.some rfl) (val_assign rfl) ?_
      refine vl_nil ?_
      refine vc_ret ?_
      refine ⟨_, [TW none 0 0 [], IW none 0 0 []], _, resC2 Try.results45 rfl (whole_agg Try.isAgg64 Try.sizeOf64 (cells_whole (by repeat (first | exact .head | apply In.tail | apply Take.tail | apply Upd.tail))) rfl) rfl, (by repeat (first | exact .nil | (apply Sub.cons; · repeat (first | exact .head | apply Take.tail)))), ?_⟩
      obtain ⟨e1, e2, e3⟩ := pick_no (nl := nl) (il := il) (rl := rl) (by
        intro h
        first | (have h9 := h.1; simp [h9] at hg12; done) | (have := h.2.1; omega))
      show ∃ An' Ai' cn' ci', _ ∧ _
      rw [e1, e2, e3]
      exact ⟨none, none, 0, 0, rfl, rfl⟩
    · (try replace hc0 := of_decide_eq_false hc0)
      have hok : okV nl il := by simpa using hg12
      have hle := hok.1
      have hle2 := hok.2.1
      have hr3 : rl.length ≤ 1000 := by omega
      refine vc_skip ?_
      refine vc_seq ?_
      refine vc_region ?_
      refine vl_alloc rfl rfl (.some rfl) Try.zeroValue64 (fun r6 => ?_)
      refine vl_nilSl 4 1 ?_
      refine vl_nilSl 3 1 ?_
      refine vl_nil ?_
      refine vc_seq ?_
      refine vc_seq ?_
      refine vc_region ?_
      refine vl_val rfl (.some rfl) (val_move rfl) ?_
      refine vl_val rfl (.some rfl) (val_lenSl Try.runUnderlying56 rfl) ?_
      refine vl_val rfl (.some rfl) (val_move rfl) ?_
      refine vl_nil ?_
      refine vc_block ?_
      refine vc_loopw (fun k E H => ∃ (i : Nat) (An' : Option Addr) (cn' : Nat) (Ai' : Option Addr) (ci' : Nat), i ≤ rl.length ∧ k = rl.length - i ∧ (∀ j, j < i → 0 ≤ rl.getD j 0 ∧ rl.getD j 0 < (il.length : Int)) ∧ E = [(1, .slice B rl.length d), (2, .pointer (some ⟨r2, 0, none⟩)), (4, .pointer (some ⟨r4, 0, none⟩)), (6, .pointer (some ⟨r6, 0, none⟩)), (18, .slice B rl.length d), (19, .int .i64 rl.length), (20, .int .i64 i)] ∧ H = [cells r6 [.slice An' (pkN nl (rl.take i)).length cn', .slice Ai' (pkI il (rl.take i)).length ci'] 64, TW An' (pkN nl (rl.take i)).length cn' (pkN nl (rl.take i)), IW Ai' (pkI il (rl.take i)).length ci' (pkI il (rl.take i)), cells r4 [.slice none 0 0, .slice none 0 0] 64, cells r2 [.slice An nl.length cn, .slice Ai il.length ci] 64]) (rl.length) ⟨_, _, _, ⟨0, none, 0, none, 0, by omega, rfl, fun j hj => absurd hj (by omega), rfl, rfl⟩, (by repeat (first | exact trivial | refine ⟨rfl, ?_⟩ | refine ⟨le_item rfl (by first | rfl | (congr 1; omega) | (simp; done) | (simp; omega)), ?_⟩)), (by repeat (first | exact .nil | (apply Sub.cons; · repeat (first | exact .head | apply Take.tail))))⟩ ?_
      intro k E H hI
      obtain ⟨i, An', cn', Ai', ci', hil, rfl, hall, rfl, rfl⟩ := hI
      refine vc_seq ?_
      refine vc_region ?_
      refine vl_val rfl (.some rfl) (val_lt rfl rfl) ?_
      refine vl_nil ?_
      refine vc_seq ?_
      refine vc_cond rfl (fun hc1 => ?_) (fun hc1 => ?_)
      · (try replace hc1 := of_decide_eq_true hc1)
        have hi8 : i < rl.length := by omega
        have hq1 : (pkN nl (rl.take i)).length = i := by rw [pkN_len, List.length_take]; omega
        have hq2 : (pkI il (rl.take i)).length = i := by rw [pkI_len, List.length_take]; omega
        have hq3 : (pkN nl (rl.take (i + 1))).length = i + 1 := by rw [pkN_len, List.length_take]; omega
        have hq4 : (pkI il (rl.take (i + 1))).length = i + 1 := by rw [pkI_len, List.length_take]; omega
        refine vc_skip ?_
        refine vc_seq ?_
        refine vc_block ?_
        refine vc_seq ?_
        refine vc_region ?_
        refine vl_val rfl (.some rfl) (val_indexAddr Try.runUnderlying56 Try.sizeOf3 rfl rfl (by first | exact rd_sl (by repeat (first | exact .head | apply In.tail | apply Take.tail | apply Upd.tail)) | exact rd_slr (by repeat (first | exact .head | apply In.tail | apply Take.tail | apply Upd.tail)) | exact rd_old (by assumption) rfl) (by omega) (by omega) (by first | omega | (simp only [bcells_length, icells_length, ucells_length, tcells_length]; omega) | (simp only [bcells_length, icells_length, ucells_length, tcells_length, fillG_length]; omega) | (simp; omega))) ?_
        refine vl_val rfl (.some rfl) (val_load Try.isAgg3 rfl (by first | exact cell_cells (by repeat (first | exact .head | apply In.tail | apply Take.tail | apply Upd.tail)) rfl | exact cell_rd (rd_sl (by repeat (first | exact .head | apply In.tail | apply Take.tail | apply Upd.tail))) (by first | exact bcells_at (by omega) | exact ucells_at (by omega) | exact icells_at (by omega) | exact tcells_at (by omega) | exact bcells_get (by omega) | exact icells_get (by omega) | exact tcells_get (by omega) | exact ucells_get (by omega)) | exact cell_rd (rd_old (by assumption) rfl) (by first | exact bcells_at (by omega) | exact ucells_at (by omega) | exact icells_at (by omega) | exact tcells_at (by omega) | exact bcells_get (by omega) | exact icells_get (by omega) | exact tcells_get (by omega) | exact ucells_get (by omega)) | exact cell_old (by assumption) (by simp [fps]))) ?_
        refine vl_val rfl (.some rfl) (val_assign rfl) ?_
        refine vl_nil ?_
        refine vc_seq ?_
        refine vc_seq ?_
        refine vc_region ?_
        refine vl_val rfl (.some rfl) (val_move rfl) ?_
        refine vl_val rfl (.some rfl) (val_lt rfl rfl) ?_
        refine vl_val rfl (.some rfl) (val_move rfl) ?_
        refine vl_split (t := 26) rfl (fun hg26 => ?_) (fun hg26 => ?_)
        · (try replace hg26 := of_decide_eq_true hg26)
          refine vl_off rfl rfl rfl rfl (.some rfl) ?_
          refine vl_off rfl rfl rfl rfl (.some rfl) ?_
          refine vl_off rfl rfl rfl rfl (.some rfl) ?_
          refine vl_off rfl rfl rfl rfl (.some rfl) ?_
          refine vl_off rfl rfl rfl rfl (.some rfl) ?_
          refine vl_val rfl (.some rfl) (val_pick rfl rfl) ?_
          refine vl_nil ?_
          refine vc_cond rfl (fun _ => ?_) (fun h => by cases h)
          refine vc_seq ?_
          refine vc_region ?_
          refine vl_val rfl (.some rfl) (val_buildSt (pl := #[(0, 1), (1, 1)]) (cs := #[.slice none 0 0, .slice none 0 0]) Try.runUnderlying64 Try.zeroValue64 (fun w => by kernel_rfl) rfl rfl) ?_
          refine vl_nilSl 4 1 ?_
          refine vl_nilSl 3 1 ?_
          first | refine vl_store rfl rfl .none rfl rfl Try.sizeOf64 rfl (by repeat (first | exact .head | apply In.tail | apply Take.tail | apply Upd.tail)) (by first | decide | exact Nat.le_refl _ | exact Nat.le_of_ble_eq_true rfl | (simp; omega)) ?_ | refine vl_storeSl rfl rfl .none rfl rfl Try.sizeOf64 rfl (by simp [Value.cells]) (by repeat (first | exact .head | apply In.tail | apply Take.tail | apply Upd.tail)) (by first | decide | (simp [Value.cells]; omega)) ?_
          refine vl_val rfl (.some rfl) (val_assign rfl) ?_
          refine vl_nil ?_
          refine vc_ret ?_
          refine ⟨_, [TW none 0 0 [], IW none 0 0 []], _, resC2 Try.results45 rfl (whole_agg Try.isAgg64 Try.sizeOf64 (cells_whole (by repeat (first | exact .head | apply In.tail | apply Take.tail | apply Upd.tail))) rfl) rfl, (by repeat (first | exact .nil | (apply Sub.cons; · repeat (first | exact .head | apply Take.tail)))), ?_⟩
          obtain ⟨e1, e2, e3⟩ := pick_no (nl := nl) (il := il) (rl := rl) (by
            intro h
            have := h.2.2 i (by omega)
            omega)
          show ∃ An' Ai' cn' ci', _ ∧ _
          rw [e1, e2, e3]
          exact ⟨none, none, 0, 0, rfl, rfl⟩
        · (try replace hg26 := of_decide_eq_false hg26)
          refine vl_on rfl rfl rfl rfl ?_
          refine vl_val rfl (.some rfl) (val_move rfl) ?_
          refine vl_on rfl rfl rfl rfl ?_
          refine vl_val rfl (.some rfl) (by first | exact val_fieldAddr Try.runUnderlying64 rfl Try.sizeOf56 rfl | exact val_fieldAddrR Try.runUnderlying64 rfl Try.sizeOf56 rfl) ?_
          refine vl_on rfl rfl rfl rfl ?_
          refine vl_val rfl (.some rfl) (val_load Try.isAgg56 rfl (by first | exact cell_cells (by repeat (first | exact .head | apply In.tail | apply Take.tail | apply Upd.tail)) rfl | exact cell_rd (rd_sl (by repeat (first | exact .head | apply In.tail | apply Take.tail | apply Upd.tail))) (by first | exact bcells_at (by omega) | exact ucells_at (by omega) | exact icells_at (by omega) | exact tcells_at (by omega) | exact bcells_get (by omega) | exact icells_get (by omega) | exact tcells_get (by omega) | exact ucells_get (by omega)) | exact cell_rd (rd_old (by assumption) rfl) (by first | exact bcells_at (by omega) | exact ucells_at (by omega) | exact icells_at (by omega) | exact tcells_at (by omega) | exact bcells_get (by omega) | exact icells_get (by omega) | exact tcells_get (by omega) | exact ucells_get (by omega)) | exact cell_old (by assumption) (by simp [fps]))) ?_
          refine vl_on rfl rfl rfl rfl ?_
          refine vl_val rfl (.some rfl) (val_lenSl Try.runUnderlying56 rfl) ?_
          refine vl_on rfl rfl rfl rfl ?_
          refine vl_val rfl (.some rfl) (val_ge rfl rfl) ?_
          refine vl_val rfl (.some rfl) (val_pick rfl rfl) ?_
          refine vl_nil ?_
          refine vc_cond rfl (fun hc2 => ?_) (fun hc2 => ?_)
          · (try replace hc2 := of_decide_eq_true hc2)
            refine vc_seq ?_
            refine vc_region ?_
            refine vl_val rfl (.some rfl) (val_buildSt (pl := #[(0, 1), (1, 1)]) (cs := #[.slice none 0 0, .slice none 0 0]) Try.runUnderlying64 Try.zeroValue64 (fun w => by kernel_rfl) rfl rfl) ?_
            refine vl_nilSl 4 1 ?_
            refine vl_nilSl 3 1 ?_
            first | refine vl_store rfl rfl .none rfl rfl Try.sizeOf64 rfl (by repeat (first | exact .head | apply In.tail | apply Take.tail | apply Upd.tail)) (by first | decide | exact Nat.le_refl _ | exact Nat.le_of_ble_eq_true rfl | (simp; omega)) ?_ | refine vl_storeSl rfl rfl .none rfl rfl Try.sizeOf64 rfl (by simp [Value.cells]) (by repeat (first | exact .head | apply In.tail | apply Take.tail | apply Upd.tail)) (by first | decide | (simp [Value.cells]; omega)) ?_
            refine vl_val rfl (.some rfl) (val_assign rfl) ?_
            refine vl_nil ?_
            refine vc_ret ?_
            refine ⟨_, [TW none 0 0 [], IW none 0 0 []], _, resC2 Try.results45 rfl (whole_agg Try.isAgg64 Try.sizeOf64 (cells_whole (by repeat (first | exact .head | apply In.tail | apply Take.tail | apply Upd.tail))) rfl) rfl, (by repeat (first | exact .nil | (apply Sub.cons; · repeat (first | exact .head | apply Take.tail)))), ?_⟩
            obtain ⟨e1, e2, e3⟩ := pick_no (nl := nl) (il := il) (rl := rl) (by
              intro h
              have := h.2.2 i (by omega)
              omega)
            show ∃ An' Ai' cn' ci', _ ∧ _
            rw [e1, e2, e3]
            exact ⟨none, none, 0, 0, rfl, rfl⟩
          · (try replace hc2 := of_decide_eq_false hc2)
            refine vc_skip ?_
            refine vc_seq ?_
            refine vc_drawsS [0, 1, 2, 3, 4, 5, 6, 9] [10] [0, 1, 2, 3, 4, 5, 6, 7, 8, 9, 10] [cells r6 [.slice An' (pkN nl (rl.take i)).length cn', .slice Ai' (pkI il (rl.take i)).length ci'] 64, cells r2 [.slice An nl.length cn, .slice Ai il.length ci] 64] (by repeat (first | exact .nil | (apply Sub.cons; · repeat (first | exact .head | apply Take.tail)))) rfl (by kernel_rfl) (fun _ _ _ h => h) ?_
            refine vd_val rfl rfl rfl (.some rfl) (by first | exact val_fieldAddr Try.runUnderlying64 rfl Try.sizeOf55 rfl | exact val_fieldAddrR Try.runUnderlying64 rfl Try.sizeOf55 rfl) ?_
            refine vd_val rfl rfl rfl (.some rfl) (val_load Try.isAgg55 rfl (by first | exact cell_cells (by repeat (first | exact .head | apply In.tail | apply Take.tail | apply Upd.tail)) rfl | exact cell_rd (rd_sl (by repeat (first | exact .head | apply In.tail | apply Take.tail | apply Upd.tail))) (by first | exact bcells_at (by omega) | exact ucells_at (by omega) | exact icells_at (by omega) | exact tcells_at (by omega) | exact bcells_get (by omega) | exact icells_get (by omega) | exact tcells_get (by omega) | exact ucells_get (by omega)) | exact cell_rd (rd_old (by assumption) rfl) (by first | exact bcells_at (by omega) | exact ucells_at (by omega) | exact icells_at (by omega) | exact tcells_at (by omega) | exact bcells_get (by omega) | exact icells_get (by omega) | exact tcells_get (by omega) | exact ucells_get (by omega)) | exact cell_old (by assumption) (by simp [fps]))) ?_
            refine vd_val rfl rfl rfl (.some rfl) (by first | exact val_fieldAddr Try.runUnderlying64 rfl Try.sizeOf55 rfl | exact val_fieldAddrR Try.runUnderlying64 rfl Try.sizeOf55 rfl) ?_
            refine vd_val rfl rfl rfl (.some rfl) (val_load Try.isAgg55 rfl (by first | exact cell_cells (by repeat (first | exact .head | apply In.tail | apply Take.tail | apply Upd.tail)) rfl | exact cell_rd (rd_sl (by repeat (first | exact .head | apply In.tail | apply Take.tail | apply Upd.tail))) (by first | exact bcells_at (by omega) | exact ucells_at (by omega) | exact icells_at (by omega) | exact tcells_at (by omega) | exact bcells_get (by omega) | exact icells_get (by omega) | exact tcells_get (by omega) | exact ucells_get (by omega)) | exact cell_rd (rd_old (by assumption) rfl) (by first | exact bcells_at (by omega) | exact ucells_at (by omega) | exact icells_at (by omega) | exact tcells_at (by omega) | exact bcells_get (by omega) | exact icells_get (by omega) | exact tcells_get (by omega) | exact ucells_get (by omega)) | exact cell_old (by assumption) (by simp [fps]))) ?_
            refine vd_val rfl rfl rfl (.some rfl) (val_move rfl) ?_
            refine vd_val rfl rfl rfl (.some rfl) (val_indexAddr Try.runUnderlying55 Try.sizeOf4 rfl rfl (by first | exact rd_sl (by repeat (first | exact .head | apply In.tail | apply Take.tail | apply Upd.tail)) | exact rd_slr (by repeat (first | exact .head | apply In.tail | apply Take.tail | apply Upd.tail)) | exact rd_old (by assumption) rfl) (by omega) (by omega) (by first | omega | (simp only [bcells_length, icells_length, ucells_length, tcells_length]; omega) | (simp only [bcells_length, icells_length, ucells_length, tcells_length, fillG_length]; omega) | (simp; omega))) ?_
            refine vd_val rfl rfl rfl (.some rfl) (val_load Try.isAgg4 rfl (cell_rd (rd_old hrn rfl) (tcells_of (p := (rl.getD i 0).toNat) (by omega) (by omega)))) ?_
            refine vd_op rfl rfl ?_
            refine vl_lit sT55 rfl rfl (.some rfl) rfl rfl rfl (by decide) (by decide) rfl (flat_one rfl) (fun r41 => ?_)
            refine vl_nil ?_
            refine ⟨fun _ => ⟨_, (by repeat (first | exact .nil | (apply Sub.cons; · repeat (first | exact .head | apply Take.tail))))⟩, ?_⟩
            refine vd_op rfl rfl ?_
            refine vl_append sT55 rfl rfl (.some rfl) rfl rfl (rd_sl (by repeat (first | exact .head | apply In.tail | apply Take.tail | apply Upd.tail))) (by first | rfl | simp) (by first | rfl | exact one_t _) (by omega) (by omega) (by repeat (first | exact .head | apply In.tail | apply Take.tail | apply Upd.tail)) (fun A42 k42 => ?_)
            rw [push_pkN hi8, show (pkN nl (rl.take i)).length + 1 = (pkN nl (rl.take (i + 1))).length by omega]
            refine vl_nil ?_
            refine ⟨fun _ => ⟨_, (by repeat (first | exact .nil | (apply Sub.cons; · repeat (first | exact .head | apply Take.tail))))⟩, ?_⟩
            refine vd_val rfl rfl rfl (.some rfl) (by first | exact val_fieldAddr Try.runUnderlying64 rfl Try.sizeOf55 rfl | exact val_fieldAddrR Try.runUnderlying64 rfl Try.sizeOf55 rfl) ?_
            refine vd_op rfl rfl ?_
            first | refine vl_store rfl rfl .none rfl rfl Try.sizeOf55 rfl (by repeat (first | exact .head | apply In.tail | apply Take.tail | apply Upd.tail)) (by first | decide | exact Nat.le_refl _ | exact Nat.le_of_ble_eq_true rfl | (simp; omega)) ?_ | refine vl_storeSl rfl rfl .none rfl rfl Try.sizeOf55 rfl (by simp [Value.cells]) (by repeat (first | exact .head | apply In.tail | apply Take.tail | apply Upd.tail)) (by first | decide | (simp [Value.cells]; omega)) ?_
            refine vl_nil ?_
            refine ⟨fun h => (by cases h), ?_⟩
            refine vd_nil ?_
            refine vc_drawsS [0, 1, 2, 3, 4, 5, 6, 9] [10] [0, 1, 2, 3, 4, 5, 6, 7, 8, 9, 10] [cells r6 [.slice A42 (pkN nl (rl.take (i + 1))).length k42, .slice Ai' (pkI il (rl.take i)).length ci'] 64, cells r2 [.slice An nl.length cn, .slice Ai il.length ci] 64] (by repeat (first | exact .nil | (apply Sub.cons; · repeat (first | exact .head | apply Take.tail)))) rfl (by kernel_rfl) (fun _ _ _ h => h) ?_
            refine vd_val rfl rfl rfl (.some rfl) (by first | exact val_fieldAddr Try.runUnderlying64 rfl Try.sizeOf56 rfl | exact val_fieldAddrR Try.runUnderlying64 rfl Try.sizeOf56 rfl) ?_
            refine vd_val rfl rfl rfl (.some rfl) (val_load Try.isAgg56 rfl (by first | exact cell_cells (by repeat (first | exact .head | apply In.tail | apply Take.tail | apply Upd.tail)) rfl | exact cell_rd (rd_sl (by repeat (first | exact .head | apply In.tail | apply Take.tail | apply Upd.tail))) (by first | exact bcells_at (by omega) | exact ucells_at (by omega) | exact icells_at (by omega) | exact tcells_at (by omega) | exact bcells_get (by omega) | exact icells_get (by omega) | exact tcells_get (by omega) | exact ucells_get (by omega)) | exact cell_rd (rd_old (by assumption) rfl) (by first | exact bcells_at (by omega) | exact ucells_at (by omega) | exact icells_at (by omega) | exact tcells_at (by omega) | exact bcells_get (by omega) | exact icells_get (by omega) | exact tcells_get (by omega) | exact ucells_get (by omega)) | exact cell_old (by assumption) (by simp [fps]))) ?_
            refine vd_val rfl rfl rfl (.some rfl) (by first | exact val_fieldAddr Try.runUnderlying64 rfl Try.sizeOf56 rfl | exact val_fieldAddrR Try.runUnderlying64 rfl Try.sizeOf56 rfl) ?_
            refine vd_val rfl rfl rfl (.some rfl) (val_load Try.isAgg56 rfl (by first | exact cell_cells (by repeat (first | exact .head | apply In.tail | apply Take.tail | apply Upd.tail)) rfl | exact cell_rd (rd_sl (by repeat (first | exact .head | apply In.tail | apply Take.tail | apply Upd.tail))) (by first | exact bcells_at (by omega) | exact ucells_at (by omega) | exact icells_at (by omega) | exact tcells_at (by omega) | exact bcells_get (by omega) | exact icells_get (by omega) | exact tcells_get (by omega) | exact ucells_get (by omega)) | exact cell_rd (rd_old (by assumption) rfl) (by first | exact bcells_at (by omega) | exact ucells_at (by omega) | exact icells_at (by omega) | exact tcells_at (by omega) | exact bcells_get (by omega) | exact icells_get (by omega) | exact tcells_get (by omega) | exact ucells_get (by omega)) | exact cell_old (by assumption) (by simp [fps]))) ?_
            refine vd_val rfl rfl rfl (.some rfl) (val_move rfl) ?_
            refine vd_val rfl rfl rfl (.some rfl) (val_indexAddr Try.runUnderlying56 Try.sizeOf3 rfl rfl (by first | exact rd_sl (by repeat (first | exact .head | apply In.tail | apply Take.tail | apply Upd.tail)) | exact rd_slr (by repeat (first | exact .head | apply In.tail | apply Take.tail | apply Upd.tail)) | exact rd_old (by assumption) rfl) (by omega) (by omega) (by first | omega | (simp only [bcells_length, icells_length, ucells_length, tcells_length]; omega) | (simp only [bcells_length, icells_length, ucells_length, tcells_length, fillG_length]; omega) | (simp; omega))) ?_
            refine vd_val rfl rfl rfl (.some rfl) (val_load Try.isAgg3 rfl (cell_rd (rd_old hri rfl) (icells_of (p := (rl.getD i 0).toNat) (by omega) (by omega)))) ?_
            refine vd_op rfl rfl ?_
            refine vl_lit sT56 rfl rfl (.some rfl) rfl rfl rfl (by decide) (by decide) rfl (flat_one rfl) (fun r51 => ?_)
            refine vl_nil ?_
            refine ⟨fun _ => ⟨_, (by repeat (first | exact .nil | (apply Sub.cons; · repeat (first | exact .head | apply Take.tail))))⟩, ?_⟩
            refine vd_op rfl rfl ?_
            refine vl_append sT56 rfl rfl (.some rfl) rfl rfl (rd_sl (by repeat (first | exact .head | apply In.tail | apply Take.tail | apply Upd.tail))) (by first | rfl | simp) (by first | rfl | exact one_i _) (by omega) (by omega) (by repeat (first | exact .head | apply In.tail | apply Take.tail | apply Upd.tail)) (fun A52 k52 => ?_)
            rw [push_pkI hi8, show (pkI il (rl.take i)).length + 1 = (pkI il (rl.take (i + 1))).length by omega]
            refine vl_nil ?_
            refine ⟨fun _ => ⟨_, (by repeat (first | exact .nil | (apply Sub.cons; · repeat (first | exact .head | apply Take.tail))))⟩, ?_⟩
            refine vd_val rfl rfl rfl (.some rfl) (by first | exact val_fieldAddr Try.runUnderlying64 rfl Try.sizeOf56 rfl | exact val_fieldAddrR Try.runUnderlying64 rfl Try.sizeOf56 rfl) ?_
            refine vd_op rfl rfl ?_
            first | refine vl_store rfl rfl .none rfl rfl Try.sizeOf56 rfl (by repeat (first | exact .head | apply In.tail | apply Take.tail | apply Upd.tail)) (by first | decide | exact Nat.le_refl _ | exact Nat.le_of_ble_eq_true rfl | (simp; omega)) ?_ | refine vl_storeSl rfl rfl .none rfl rfl Try.sizeOf56 rfl (by simp [Value.cells]) (by repeat (first | exact .head | apply In.tail | apply Take.tail | apply Upd.tail)) (by first | decide | (simp [Value.cells]; omega)) ?_
            refine vl_nil ?_
            refine ⟨fun h => (by cases h), ?_⟩
            refine vd_nil ?_
            refine vc_region ?_
            refine vl_val rfl (.some rfl) (val_add rfl rfl (by first | exact w_i64 (by omega) (by omega) | rfl)) ?_
            refine vl_val rfl (.some rfl) (val_move rfl) ?_
            refine vl_nil ?_
            exact ⟨rl.length - (i + 1), _, _, _, by omega, (by repeat (first | exact trivial | refine ⟨rfl, ?_⟩ | refine ⟨le_item rfl (by first | rfl | (congr 1; omega) | (simp; done) | (simp; omega)), ?_⟩)), (by repeat (first | exact .nil | (apply Sub.cons; · repeat (first | exact .head | apply Take.tail)))), ⟨i + 1, A42, k42, A52, k52, by omega, rfl, fun j hj => by
              rcases Nat.lt_or_ge j i with h | h
              · exact hall j h
              · obtain rfl : j = i := by omega
                omega, rfl, rfl⟩⟩
      · (try replace hc1 := of_decide_eq_false hc1)
        obtain rfl : i = rl.length := by omega
        rw [List.take_length]
        refine vc_exit ?_
        refine vc_seq ?_
        refine vc_region ?_
        refine vl_val rfl (.some rfl) (val_loadAgg Try.isAgg64 Try.sizeOf64 rfl (by first | exact cells_whole (by repeat (first | exact .head | apply In.tail | apply Take.tail | apply Upd.tail)) | exact cells_part (by repeat (first | exact .head | apply In.tail | apply Take.tail | apply Upd.tail)) rfl) rfl) ?_
        first | refine vl_store rfl rfl .none rfl rfl Try.sizeOf64 rfl (by repeat (first | exact .head | apply In.tail | apply Take.tail | apply Upd.tail)) (by first | decide | exact Nat.le_refl _ | exact Nat.le_of_ble_eq_true rfl | (simp; omega)) ?_ | refine vl_storeSl rfl rfl .none rfl rfl Try.sizeOf64 rfl (by simp [Value.cells]) (by repeat (first | exact .head | apply In.tail | apply Take.tail | apply Upd.tail)) (by first | decide | (simp [Value.cells]; omega)) ?_
        refine vl_val rfl (.some rfl) (val_assign rfl) ?_
        refine vl_nil ?_
        refine vc_ret ?_
        refine ⟨_, [TW An' (pkN nl rl).length cn' (pkN nl rl), IW Ai' (pkI il rl).length ci' (pkI il rl)], _, resC2 Try.results45 rfl (whole_agg Try.isAgg64 Try.sizeOf64 (cells_whole (by repeat (first | exact .head | apply In.tail | apply Take.tail | apply Upd.tail))) rfl) rfl, (by repeat (first | exact .nil | (apply Sub.cons; · repeat (first | exact .head | apply Take.tail)))), ?_⟩
        obtain ⟨e1, e2, e3⟩ := pick_ok (nl := nl) (il := il) (rl := rl) ⟨hok, hr3, fun j hj => hall j (by omega)⟩
        show ∃ An' Ai' cn' ci', _ ∧ _
        rw [e1, e2, e3]
        exact ⟨An', Ai', cn', ci', rfl, rfl⟩

end Go.Proofs.Ytibfngjfjddaiaa.K
