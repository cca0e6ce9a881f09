/- Walks of the program's functions, printed by a program of this session; Lean checks them. -/
import Derived.Test.YtdehjgpdcdjhjaaDoorKz
import Derived.Test.YtdehjgpdcdjhjaaDoorMb
import Derived.Test.YtdehjgpdcdjhjaaDoorYsd
namespace Go.Proofs.YtdehjgpdcdjhjaaDoor.K
open Go Go.RowKit Go.Proofs
set_option linter.unusedVariables false
set_option linter.unusedSimpArgs false


abbrev Cq := List UInt8 × Int
abbrev colV (q : Cq) : List Value := [.string (sL q.1), .int .i64 q.2]
abbrev colA (q : Cq) : Value := .agg (colV q).toArray
theorem colC_len (l : List Cq) : (l.flatMap colV).length = l.length * 2 := flat_length (f := colV) (m := 2) (fun _ => rfl) l
theorem colC_at {l : List Cq} {i : Nat} {q : Int} {d : Cq} (hq : q = (i : Int)) (h : i < l.length) : ((l.flatMap colV).drop (Int.toNat q * 2)).take 2 = colV (l.getD i d) := by
  rw [hq, Int.toNat_natCast]; exact flat_atM (m := 2) (f := colV) (fun _ => rfl) d l i h

abbrev Mq := Int × List UInt8
abbrev meaV (q : Mq) : List Value := [.int .i64 q.1, .string (sL q.2)]
abbrev meaA (q : Mq) : Value := .agg (meaV q).toArray
theorem meaC_len (l : List Mq) : (l.flatMap meaV).length = l.length * 2 := flat_length (f := meaV) (m := 2) (fun _ => rfl) l
theorem meaC_at {l : List Mq} {i : Nat} {q : Int} {d : Mq} (hq : q = (i : Int)) (h : i < l.length) : ((l.flatMap meaV).drop (Int.toNat q * 2)).take 2 = meaV (l.getD i d) := by
  rw [hq, Int.toNat_natCast]; exact flat_atM (m := 2) (f := meaV) (fun _ => rfl) d l i h

set_option maxRecDepth 20000 in
theorem colIdxF (A : Option Addr) (n c : Nat) (xs : List Cq) (hn : xs.length = n) (hn2 : n < 9223372036854775808) (g : Go.Fn) (fs cs : Array Value) (p : Nat → Bool) (w0 : World) (C : List Chunk) (hC : ∀ k ∈ fps C, w0.heap.size ≤ k) (hR : ∀ w, Old w0 w → (∀ k ∈ C, k.A w) → Reads w A (xs.flatMap colV)) (hA : ∀ i, i < n → Ans Tryd.prog w0 C (.func g fs cs) [colA (xs.getD i ([], 0))] (.bool (p i))) (w : World) (hw0 : Old w0 w) : Fn Tryd.prog 24 [.slice A n c, .func g fs cs] C (ret fun u H' => ∃ q : Int, u = .int .i64 q ∧ ((0 ≤ q → q.toNat < n ∧ p q.toNat = true ∧ ∀ j, j < q.toNat → p j = false) ∧ (q < 0 → ∀ j, j < n → p j = false)) ∧ H' = C) w := by
  refine fn_enter Tryd.func24 rfl Tryd.ntmps24 rfl ?_
  refine vc_seq ?_
  refine vc_region ?_
  refine vl_val rfl (.some rfl) (val_assign rfl) ?_
  refine vl_nil ?_
  refine vc_seq ?_
  refine vc_seq ?_
  refine vc_region ?_
  refine vl_val rfl (.some rfl) (val_move rfl) ?_
  refine vl_val rfl (.some rfl) (val_lenSl Tryd.runUnderlying24 rfl) ?_
  refine vl_val rfl (.some rfl) (val_move rfl) ?_
  refine vl_nil ?_
  refine vc_block ?_
  refine vc_loopw (fun m E H => ∃ i : Nat, i ≤ n ∧ m = n - i ∧ (∀ j, j < i → p j = false) ∧ E = [(0, .slice A n c), (1, .func g fs cs), (7, .int .i64 n), (8, .int .i64 i)] ∧ H = C) (n) ⟨_, _, _, ⟨0, by omega, rfl, fun j hj => absurd hj (by omega), rfl, rfl⟩, (by repeat (first | exact trivial | refine ⟨rfl, ?_⟩ | refine ⟨le_item rfl (by first | rfl | (congr 1; omega) | (simp; done) | (simp; omega)), ?_⟩)), (by repeat (first | exact .nil | exact sub_self _ | exact sub_skip (sub_self _) | exact sub_skip (sub_skip (sub_self _)) | exact sub_skip (sub_skip (sub_skip (sub_self _))) | (apply Sub.cons; · repeat (first | exact .head | apply Take.tail))))⟩ ?_
  intro m E H hI
  obtain ⟨i, hi, rfl, hz, rfl, hHC⟩ := hI
  rw [hHC]
  refine vc_seq ?_
  refine vc_region ?_
  refine vl_val rfl (.some rfl) (val_lt rfl rfl) ?_
  refine vl_nil ?_
  refine vc_seq ?_
  refine vc_cond rfl (fun hc0 => ?_) (fun hc0 => ?_)
  · (try replace hc0 := of_decide_eq_true hc0)
    refine vc_skip ?_
    refine vc_seq ?_
    refine vc_block ?_
    refine vc_seq ?_
    refine vc_region ?_
    refine vl_val rfl (.some rfl) (val_move rfl) ?_
    refine vl_val rfl (.some rfl) (val_assign rfl) ?_
    refine vl_nil ?_
    refine vc_seq ?_
    refine vc_region ?_
    refine vl_val rfl (.some rfl) (val_move rfl) ?_
    refine vl_val rfl (.some rfl) (val_move rfl) ?_
    refine vl_val rfl (.some rfl) (val_move rfl) ?_
    refine vl_val rfl (.some rfl) (val_indexAddr Tryd.runUnderlying24 Tryd.sizeOf41 rfl rfl (vs := xs.flatMap colV) (rd_ans hR hw0 hC (fun _ h => h)) (by omega) (by omega) (by rw [colC_len, Int.toNat_natCast]; omega)) ?_
    refine vl_val rfl (.some rfl) (val_loadAgg Tryd.isAgg41 Tryd.sizeOf41 rfl (cells_rd (us := colV (xs.getD i ([], 0))) (rd_ans hR hw0 hC (fun _ h => h)) (colC_at rfl (by omega))) rfl) ?_
    refine vl_callAns (C := C) rfl rfl (.some rfl) rfl rfl (sub_self _) hw0 hC (hA i (by omega)) ?_
    refine vl_nil ?_
    refine vc_cond rfl (fun hc1 => ?_) (fun hc1 => ?_)
    · (try replace hc1 := of_decide_eq_true hc1)
      refine vc_seq ?_
      refine vc_region ?_
      refine vl_val rfl (.some rfl) (val_move rfl) ?_
      refine vl_val rfl (.some rfl) (val_assign rfl) ?_
      refine vl_nil ?_
      refine vc_ret ?_
      refine ⟨_, C, _, res1 Tryd.results24 rfl, (by first | exact sub_self _ | exact sub_skip (sub_self _) | exact sub_skip (sub_skip (sub_self _))), ?_⟩
      exact ⟨_, rfl, ⟨fun _ => by rw [Int.toNat_natCast]; exact ⟨by omega, hc1, hz⟩, fun h => by omega⟩, rfl⟩
    · (try replace hc1 := of_decide_eq_false hc1)
      refine vc_skip ?_
      refine vc_region ?_
      refine vl_val rfl (.some rfl) (val_add rfl rfl (by first | exact w_i64 (by omega) (by omega) | rfl)) ?_
      refine vl_val rfl (.some rfl) (val_move rfl) ?_
      refine vl_nil ?_
      exact ⟨(n - (i + 1)), _, _, _, by omega, (by repeat (first | exact trivial | refine ⟨rfl, ?_⟩ | refine ⟨le_item rfl (by first | rfl | (congr 1; omega) | (simp; done) | (simp; omega)), ?_⟩)), (by repeat (first | exact .nil | exact sub_self _ | exact sub_skip (sub_self _) | exact sub_skip (sub_skip (sub_self _)) | exact sub_skip (sub_skip (sub_skip (sub_self _))) | (apply Sub.cons; · repeat (first | exact .head | apply Take.tail)))), ⟨i + 1, by omega, rfl, fun j hj => by
        rcases Nat.lt_or_ge j i with h | h
        · exact hz j h
        · obtain rfl : j = i := by omega
          exact hc1, rfl, rfl⟩⟩
  · (try replace hc0 := of_decide_eq_false hc0)
    refine vc_exit ?_
    refine vc_seq ?_
    refine vc_region ?_
    refine vl_val rfl (.some rfl) (val_assign rfl) ?_
    refine vl_nil ?_
    refine vc_ret ?_
    refine ⟨_, C, _, res1 Tryd.results24 rfl, (by first | exact sub_self _ | exact sub_skip (sub_self _) | exact sub_skip (sub_skip (sub_self _))), ?_⟩
    exact ⟨_, rfl, ⟨fun h => absurd h (by omega), fun _ j hj => hz j (by omega)⟩, rfl⟩
set_option maxRecDepth 20000 in
theorem colHasF (A : Option Addr) (n c : Nat) (xs : List Cq) (hn : xs.length = n) (hn2 : n < 9223372036854775808) (g : Go.Fn) (fs cs : Array Value) (p : Nat → Bool) (w0 : World) (C : List Chunk) (hC : ∀ k ∈ fps C, w0.heap.size ≤ k) (hR : ∀ w, Old w0 w → (∀ k ∈ C, k.A w) → Reads w A (xs.flatMap colV)) (hA : ∀ i, i < n → Ans Tryd.prog w0 C (.func g fs cs) [colA (xs.getD i ([], 0))] (.bool (p i))) (w : World) (hw0 : Old w0 w) (b : Bool) (hb : b = true ↔ ∃ i, i < n ∧ p i = true) : FnR Tryd.prog 52 [.slice A n c, .func g fs cs] C (.bool b) w := by
  refine fn_enter Tryd.func52 rfl Tryd.ntmps52 rfl ?_
  refine vc_seq ?_
  refine vc_region ?_
  refine vl_val rfl (.some rfl) (val_assign rfl) ?_
  refine vl_nil ?_
  refine vc_seq ?_
  refine vc_region ?_
  refine vl_val rfl (.some rfl) (val_move rfl) ?_
  refine vl_val rfl (.some rfl) (val_move rfl) ?_
  refine vl_call (C := C) rfl rfl (.some rfl) Tryd.call24 rfl (sub_self _) (fun w hw => colIdxF A n c xs hn hn2 g fs cs p w0 C hC hR hA w (old_here hw0 hC hw)) (fun u H' h => ?_)
  obtain ⟨q, rfl, hq, hHC⟩ := h
  rw [hHC, List.append_nil]
  refine vl_val rfl (.some rfl) (val_ge rfl rfl) ?_
  refine vl_val rfl (.some rfl) (val_assign rfl) ?_
  refine vl_nil ?_
  refine vc_ret ?_
  refine ⟨_, C, _, res1 Tryd.results52 rfl, (by first | exact sub_self _ | exact sub_skip (sub_self _) | exact sub_skip (sub_skip (sub_self _))), ?_⟩
  exact ⟨by refine congrArg Value.bool ?_; rw [Bool.eq_iff_iff, decide_eq_true_eq, hb]; exact ⟨fun h => ⟨_, (hq.1 h).1, (hq.1 h).2.1⟩, fun ⟨j, h1, h2⟩ => Classical.byContradiction fun hn => by have := hq.2 (by omega) j h1; rw [h2] at this; cases this⟩, rfl⟩
set_option maxRecDepth 20000 in
theorem colEv11 (x : Cq) (g : Go.Fn) (fs cs : Array Value) (r3 : Nat) (b : Bool) (w0 : World) (C : List Chunk) (h3 : w0.heap.size ≤ r3) (hC : ∀ k ∈ fps C, w0.heap.size ≤ k) (hA : Ans Tryd.prog w0 C (.func g fs cs) [colA x] (.bool b)) (w : World) (hw0 : Old w0 w) : FnR Tryd.prog 53 [colA x, .pointer (some ⟨r3, 0, none⟩)] (cells r3 [.func g fs cs] 55 :: C) (.bool (!b)) w := by
  have hM : ∀ k ∈ fps (cells r3 [.func g fs cs] 55 :: C), w0.heap.size ≤ k := by
    intro k hk
    rw [fps_cons] at hk
    simp only [cells, List.mem_append, List.mem_singleton] at hk
    rcases hk with hk | hk
    · omega
    · exact hC k hk
  refine fn_enter Tryd.func53 rfl Tryd.ntmps53 rfl ?_
  refine vc_seq ?_
  refine vc_region ?_
  refine vl_box rfl rfl (.some rfl) rfl (fun r2 => ?_)
  refine vl_val rfl (.some rfl) (val_assign rfl) ?_
  refine vl_nil ?_
  refine vc_seq ?_
  refine vc_region ?_
  refine vl_val rfl (.some rfl) (val_load Tryd.isAgg55 rfl (by first | exact cell_cells (by repeat (first | exact .head | apply In.tail | apply Take.tail | apply Upd.tail)) rfl | exact cell_rd (rd_sl (by repeat (first | exact .head | apply In.tail | apply Take.tail | apply Upd.tail))) (by first | exact bcells_at (by omega) | exact ucells_at (by omega) | exact icells_at (by omega) | exact tcells_at (by omega) | exact bcells_get (by omega) | exact icells_get (by omega) | exact tcells_get (by omega) | exact ucells_get (by omega)) | exact cell_rd (rd_old (by assumption) rfl) (by first | exact bcells_at (by omega) | exact ucells_at (by omega) | exact icells_at (by omega) | exact tcells_at (by omega) | exact bcells_get (by omega) | exact icells_get (by omega) | exact tcells_get (by omega) | exact ucells_get (by omega)) | exact cell_old (by assumption) (by simp [fps]))) ?_
  refine vl_val rfl (.some rfl) (val_loadAgg Tryd.isAgg41 Tryd.sizeOf41 rfl (by first | exact cells_whole (by repeat (first | exact .head | apply In.tail | apply Take.tail | apply Upd.tail)) | exact cells_part (by repeat (first | exact .head | apply In.tail | apply Take.tail | apply Upd.tail)) rfl) rfl) ?_
  refine vl_callAns (C := C) rfl rfl (.some rfl) rfl rfl (sub_skip (sub_skip (sub_self _))) hw0 hM hA ?_
  refine vl_val rfl (.some rfl) (val_not rfl) ?_
  refine vl_val rfl (.some rfl) (val_assign rfl) ?_
  refine vl_nil ?_
  refine vc_ret ?_
  refine ⟨_, cells r3 [.func g fs cs] 55 :: C, _, res1 Tryd.results53 rfl, (by first | exact sub_self _ | exact sub_skip (sub_self _) | exact sub_skip (sub_skip (sub_self _))), ?_⟩
  exact ⟨rfl, rfl⟩
set_option maxRecDepth 20000 in
theorem meaIdxF (A : Option Addr) (n c : Nat) (xs : List Mq) (hn : xs.length = n) (hn2 : n < 9223372036854775808) (g : Go.Fn) (fs cs : Array Value) (p : Nat → Bool) (w0 : World) (C : List Chunk) (hC : ∀ k ∈ fps C, w0.heap.size ≤ k) (hR : ∀ w, Old w0 w → (∀ k ∈ C, k.A w) → Reads w A (xs.flatMap meaV)) (hA : ∀ i, i < n → Ans Tryd.prog w0 C (.func g fs cs) [meaA (xs.getD i (0, []))] (.bool (p i))) (w : World) (hw0 : Old w0 w) : Fn Tryd.prog 64 [.slice A n c, .func g fs cs] C (ret fun u H' => ∃ q : Int, u = .int .i64 q ∧ ((0 ≤ q → q.toNat < n ∧ p q.toNat = true ∧ ∀ j, j < q.toNat → p j = false) ∧ (q < 0 → ∀ j, j < n → p j = false)) ∧ H' = C) w := by
  refine fn_enter Tryd.func64 rfl Tryd.ntmps64 rfl ?_
  refine vc_seq ?_
  refine vc_region ?_
  refine vl_val rfl (.some rfl) (val_assign rfl) ?_
  refine vl_nil ?_
  refine vc_seq ?_
  refine vc_seq ?_
  refine vc_region ?_
  refine vl_val rfl (.some rfl) (val_move rfl) ?_
  refine vl_val rfl (.some rfl) (val_lenSl Tryd.runUnderlying28 rfl) ?_
  refine vl_val rfl (.some rfl) (val_move rfl) ?_
  refine vl_nil ?_
  refine vc_block ?_
  refine vc_loopw (fun m E H => ∃ i : Nat, i ≤ n ∧ m = n - i ∧ (∀ j, j < i → p j = false) ∧ E = [(0, .slice A n c), (1, .func g fs cs), (7, .int .i64 n), (8, .int .i64 i)] ∧ H = C) (n) ⟨_, _, _, ⟨0, by omega, rfl, fun j hj => absurd hj (by omega), rfl, rfl⟩, (by repeat (first | exact trivial | refine ⟨rfl, ?_⟩ | refine ⟨le_item rfl (by first | rfl | (congr 1; omega) | (simp; done) | (simp; omega)), ?_⟩)), (by repeat (first | exact .nil | exact sub_self _ | exact sub_skip (sub_self _) | exact sub_skip (sub_skip (sub_self _)) | exact sub_skip (sub_skip (sub_skip (sub_self _))) | (apply Sub.cons; · repeat (first | exact .head | apply Take.tail))))⟩ ?_
  intro m E H hI
  obtain ⟨i, hi, rfl, hz, rfl, hHC⟩ := hI
  rw [hHC]
  refine vc_seq ?_
  refine vc_region ?_
  refine vl_val rfl (.some rfl) (val_lt rfl rfl) ?_
  refine vl_nil ?_
  refine vc_seq ?_
  refine vc_cond rfl (fun hc0 => ?_) (fun hc0 => ?_)
  · (try replace hc0 := of_decide_eq_true hc0)
    refine vc_skip ?_
    refine vc_seq ?_
    refine vc_block ?_
    refine vc_seq ?_
    refine vc_region ?_
    refine vl_val rfl (.some rfl) (val_move rfl) ?_
    refine vl_val rfl (.some rfl) (val_assign rfl) ?_
    refine vl_nil ?_
    refine vc_seq ?_
    refine vc_region ?_
    refine vl_val rfl (.some rfl) (val_move rfl) ?_
    refine vl_val rfl (.some rfl) (val_move rfl) ?_
    refine vl_val rfl (.some rfl) (val_move rfl) ?_
    refine vl_val rfl (.some rfl) (val_indexAddr Tryd.runUnderlying28 Tryd.sizeOf43 rfl rfl (vs := xs.flatMap meaV) (rd_ans hR hw0 hC (fun _ h => h)) (by omega) (by omega) (by rw [meaC_len, Int.toNat_natCast]; omega)) ?_
    refine vl_val rfl (.some rfl) (val_loadAgg Tryd.isAgg43 Tryd.sizeOf43 rfl (cells_rd (us := meaV (xs.getD i (0, []))) (rd_ans hR hw0 hC (fun _ h => h)) (meaC_at rfl (by omega))) rfl) ?_
    refine vl_callAns (C := C) rfl rfl (.some rfl) rfl rfl (sub_self _) hw0 hC (hA i (by omega)) ?_
    refine vl_nil ?_
    refine vc_cond rfl (fun hc1 => ?_) (fun hc1 => ?_)
    · (try replace hc1 := of_decide_eq_true hc1)
      refine vc_seq ?_
      refine vc_region ?_
      refine vl_val rfl (.some rfl) (val_move rfl) ?_
      refine vl_val rfl (.some rfl) (val_assign rfl) ?_
      refine vl_nil ?_
      refine vc_ret ?_
      refine ⟨_, C, _, res1 Tryd.results64 rfl, (by first | exact sub_self _ | exact sub_skip (sub_self _) | exact sub_skip (sub_skip (sub_self _))), ?_⟩
      exact ⟨_, rfl, ⟨fun _ => by rw [Int.toNat_natCast]; exact ⟨by omega, hc1, hz⟩, fun h => by omega⟩, rfl⟩
    · (try replace hc1 := of_decide_eq_false hc1)
      refine vc_skip ?_
      refine vc_region ?_
      refine vl_val rfl (.some rfl) (val_add rfl rfl (by first | exact w_i64 (by omega) (by omega) | rfl)) ?_
      refine vl_val rfl (.some rfl) (val_move rfl) ?_
      refine vl_nil ?_
      exact ⟨(n - (i + 1)), _, _, _, by omega, (by repeat (first | exact trivial | refine ⟨rfl, ?_⟩ | refine ⟨le_item rfl (by first | rfl | (congr 1; omega) | (simp; done) | (simp; omega)), ?_⟩)), (by repeat (first | exact .nil | exact sub_self _ | exact sub_skip (sub_self _) | exact sub_skip (sub_skip (sub_self _)) | exact sub_skip (sub_skip (sub_skip (sub_self _))) | (apply Sub.cons; · repeat (first | exact .head | apply Take.tail)))), ⟨i + 1, by omega, rfl, fun j hj => by
        rcases Nat.lt_or_ge j i with h | h
        · exact hz j h
        · obtain rfl : j = i := by omega
          exact hc1, rfl, rfl⟩⟩
  · (try replace hc0 := of_decide_eq_false hc0)
    refine vc_exit ?_
    refine vc_seq ?_
    refine vc_region ?_
    refine vl_val rfl (.some rfl) (val_assign rfl) ?_
    refine vl_nil ?_
    refine vc_ret ?_
    refine ⟨_, C, _, res1 Tryd.results64 rfl, (by first | exact sub_self _ | exact sub_skip (sub_self _) | exact sub_skip (sub_skip (sub_self _))), ?_⟩
    exact ⟨_, rfl, ⟨fun h => absurd h (by omega), fun _ j hj => hz j (by omega)⟩, rfl⟩
set_option maxRecDepth 20000 in
theorem meaHasF (A : Option Addr) (n c : Nat) (xs : List Mq) (hn : xs.length = n) (hn2 : n < 9223372036854775808) (g : Go.Fn) (fs cs : Array Value) (p : Nat → Bool) (w0 : World) (C : List Chunk) (hC : ∀ k ∈ fps C, w0.heap.size ≤ k) (hR : ∀ w, Old w0 w → (∀ k ∈ C, k.A w) → Reads w A (xs.flatMap meaV)) (hA : ∀ i, i < n → Ans Tryd.prog w0 C (.func g fs cs) [meaA (xs.getD i (0, []))] (.bool (p i))) (w : World) (hw0 : Old w0 w) (b : Bool) (hb : b = true ↔ ∃ i, i < n ∧ p i = true) : FnR Tryd.prog 56 [.slice A n c, .func g fs cs] C (.bool b) w := by
  refine fn_enter Tryd.func56 rfl Tryd.ntmps56 rfl ?_
  refine vc_seq ?_
  refine vc_region ?_
  refine vl_val rfl (.some rfl) (val_assign rfl) ?_
  refine vl_nil ?_
  refine vc_seq ?_
  refine vc_region ?_
  refine vl_val rfl (.some rfl) (val_move rfl) ?_
  refine vl_val rfl (.some rfl) (val_move rfl) ?_
  refine vl_call (C := C) rfl rfl (.some rfl) Tryd.call64 rfl (sub_self _) (fun w hw => meaIdxF A n c xs hn hn2 g fs cs p w0 C hC hR hA w (old_here hw0 hC hw)) (fun u H' h => ?_)
  obtain ⟨q, rfl, hq, hHC⟩ := h
  rw [hHC, List.append_nil]
  refine vl_val rfl (.some rfl) (val_ge rfl rfl) ?_
  refine vl_val rfl (.some rfl) (val_assign rfl) ?_
  refine vl_nil ?_
  refine vc_ret ?_
  refine ⟨_, C, _, res1 Tryd.results56 rfl, (by first | exact sub_self _ | exact sub_skip (sub_self _) | exact sub_skip (sub_skip (sub_self _))), ?_⟩
  exact ⟨by refine congrArg Value.bool ?_; rw [Bool.eq_iff_iff, decide_eq_true_eq, hb]; exact ⟨fun h => ⟨_, (hq.1 h).1, (hq.1 h).2.1⟩, fun ⟨j, h1, h2⟩ => Classical.byContradiction fun hn => by have := hq.2 (by omega) j h1; rw [h2] at this; cases this⟩, rfl⟩
set_option maxRecDepth 20000 in
theorem meaEv11 (x : Mq) (g : Go.Fn) (fs cs : Array Value) (r3 : Nat) (b : Bool) (w0 : World) (C : List Chunk) (h3 : w0.heap.size ≤ r3) (hC : ∀ k ∈ fps C, w0.heap.size ≤ k) (hA : Ans Tryd.prog w0 C (.func g fs cs) [meaA x] (.bool b)) (w : World) (hw0 : Old w0 w) : FnR Tryd.prog 57 [meaA x, .pointer (some ⟨r3, 0, none⟩)] (cells r3 [.func g fs cs] 63 :: C) (.bool (!b)) w := by
  have hM : ∀ k ∈ fps (cells r3 [.func g fs cs] 63 :: C), w0.heap.size ≤ k := by
    intro k hk
    rw [fps_cons] at hk
    simp only [cells, List.mem_append, List.mem_singleton] at hk
    rcases hk with hk | hk
    · omega
    · exact hC k hk
  refine fn_enter Tryd.func57 rfl Tryd.ntmps57 rfl ?_
  refine vc_seq ?_
  refine vc_region ?_
  refine vl_box rfl rfl (.some rfl) rfl (fun r2 => ?_)
  refine vl_val rfl (.some rfl) (val_assign rfl) ?_
  refine vl_nil ?_
  refine vc_seq ?_
  refine vc_region ?_
  refine vl_val rfl (.some rfl) (val_load Tryd.isAgg63 rfl (by first | exact cell_cells (by repeat (first | exact .head | apply In.tail | apply Take.tail | apply Upd.tail)) rfl | exact cell_rd (rd_sl (by repeat (first | exact .head | apply In.tail | apply Take.tail | apply Upd.tail))) (by first | exact bcells_at (by omega) | exact ucells_at (by omega) | exact icells_at (by omega) | exact tcells_at (by omega) | exact bcells_get (by omega) | exact icells_get (by omega) | exact tcells_get (by omega) | exact ucells_get (by omega)) | exact cell_rd (rd_old (by assumption) rfl) (by first | exact bcells_at (by omega) | exact ucells_at (by omega) | exact icells_at (by omega) | exact tcells_at (by omega) | exact bcells_get (by omega) | exact icells_get (by omega) | exact tcells_get (by omega) | exact ucells_get (by omega)) | exact cell_old (by assumption) (by simp [fps]))) ?_
  refine vl_val rfl (.some rfl) (val_loadAgg Tryd.isAgg43 Tryd.sizeOf43 rfl (by first | exact cells_whole (by repeat (first | exact .head | apply In.tail | apply Take.tail | apply Upd.tail)) | exact cells_part (by repeat (first | exact .head | apply In.tail | apply Take.tail | apply Upd.tail)) rfl) rfl) ?_
  refine vl_callAns (C := C) rfl rfl (.some rfl) rfl rfl (sub_skip (sub_skip (sub_self _))) hw0 hM hA ?_
  refine vl_val rfl (.some rfl) (val_not rfl) ?_
  refine vl_val rfl (.some rfl) (val_assign rfl) ?_
  refine vl_nil ?_
  refine vc_ret ?_
  refine ⟨_, cells r3 [.func g fs cs] 63 :: C, _, res1 Tryd.results57 rfl, (by first | exact sub_self _ | exact sub_skip (sub_self _) | exact sub_skip (sub_skip (sub_self _))), ?_⟩
  exact ⟨rfl, rfl⟩




set_option maxRecDepth 20000 in
theorem colEv1 (r2 r3 : Nat) (A : Option Addr) (n c : Nat) (xs : List Cq) (hn : xs.length = n) (hn2 : n < 9223372036854775808) (g : Go.Fn) (fs cs : Array Value) (p : Nat → Bool) (w0 : World) (C : List Chunk) (h2 : w0.heap.size ≤ r2) (h3 : w0.heap.size ≤ r3) (hC : ∀ k ∈ fps C, w0.heap.size ≤ k) (hR : ∀ w, Old w0 w → (∀ k ∈ C, k.A w) → Reads w A (xs.flatMap colV)) (hA : ∀ i, i < n → Ans Tryd.prog w0 C (.func g fs cs) [colA (xs.getD i ([], 0))] (.bool (p i))) (b : Bool) (hb : b = true ↔ ∀ i, i < n → p i = true) (w : World) (hw0 : Old w0 w) : FnR Tryd.prog 51 [.pointer (some ⟨r2, 0, none⟩), .pointer (some ⟨r3, 0, none⟩)] (cells r2 [.slice A n c] 24 :: cells r3 [.func g fs cs] 55 :: C) (.bool b) w := by
  have hM2 : ∀ k ∈ fps (cells r3 [.func g fs cs] 55 :: C), w0.heap.size ≤ k := by
    intro k hk
    rw [fps_cons] at hk
    simp only [cells, List.mem_append, List.mem_singleton] at hk
    rcases hk with hk | hk
    · omega
    · exact hC k hk
  have hM : ∀ k ∈ fps (cells r2 [.slice A n c] 24 :: cells r3 [.func g fs cs] 55 :: C), w0.heap.size ≤ k := by
    intro k hk
    rw [fps_cons] at hk
    rcases List.mem_append.1 hk with hk | hk
    · simp only [cells, List.mem_singleton] at hk; omega
    · exact hM2 k hk
  refine fn_enter Tryd.func51 rfl Tryd.ntmps51 rfl ?_
  refine vc_seq ?_
  refine vc_region ?_
  refine vl_val rfl (.some rfl) (val_assign rfl) ?_
  refine vl_nil ?_
  refine vc_seq ?_
  refine vc_region ?_
  refine vl_val rfl (.some rfl) (val_load Tryd.isAgg24 rfl (by first | exact cell_cells (by repeat (first | exact .head | apply In.tail | apply Take.tail | apply Upd.tail)) rfl | exact cell_rd (rd_sl (by repeat (first | exact .head | apply In.tail | apply Take.tail | apply Upd.tail))) (by first | exact bcells_at (by omega) | exact ucells_at (by omega) | exact icells_at (by omega) | exact tcells_at (by omega) | exact bcells_get (by omega) | exact icells_get (by omega) | exact tcells_get (by omega) | exact ucells_get (by omega)) | exact cell_rd (rd_old (by assumption) rfl) (by first | exact bcells_at (by omega) | exact ucells_at (by omega) | exact icells_at (by omega) | exact tcells_at (by omega) | exact bcells_get (by omega) | exact icells_get (by omega) | exact tcells_get (by omega) | exact ucells_get (by omega)) | exact cell_old (by assumption) (by simp [fps]))) ?_
  refine vl_val rfl (.some rfl) (val_mkFunc rfl rfl) ?_
  refine vl_callR (cells r3 [.func g fs cs] 55 :: C) rfl rfl (.some rfl) Tryd.call52 rfl (sub_skip (sub_self _)) (fun w hw => colHasF A n c xs hn hn2 (.func 53) #[] #[.pointer (some ⟨r3, 0, none⟩)] (fun i => !p i) w0 (cells r3 [.func g fs cs] 55 :: C) hM2 (fun w ho hk => hR w ho (fun k h => hk k (List.mem_cons_of_mem _ h))) (fun i hi => ⟨53, [], [.pointer (some ⟨r3, 0, none⟩)], rfl, Tryd.call53, fun w hw => colEv11 (xs.getD i ([], 0)) g fs cs r3 (p i) w0 C h3 hC (hA i hi) w hw⟩) w (old_here hw0 hM hw) (!b) (every_not hb)) ?_
  refine vl_val rfl (.some rfl) (val_not rfl) ?_
  refine vl_val rfl (.some rfl) (val_assign rfl) ?_
  refine vl_nil ?_
  refine vc_ret ?_
  refine ⟨_, cells r2 [.slice A n c] 24 :: cells r3 [.func g fs cs] 55 :: C, _, res1 Tryd.results51 rfl, (by first | exact sub_self _ | exact sub_skip (sub_self _) | exact sub_skip (sub_skip (sub_self _))), ?_⟩
  exact ⟨by simp, rfl⟩
set_option maxRecDepth 20000 in
theorem colEvery (A : Option Addr) (n c : Nat) (g : Go.Fn) (fs cs : Array Value) (w : World) : Fn Tryd.prog 31 [.slice A n c, .func g fs cs] [] (ret fun v H' => ∃ r2 r3, v = .func (.func 51) #[] #[.pointer (some ⟨r2, 0, none⟩), .pointer (some ⟨r3, 0, none⟩)] ∧ H' = [cells r2 [.slice A n c] 24, cells r3 [.func g fs cs] 55]) w := by
  refine fn_enter Tryd.func31 rfl Tryd.ntmps31 rfl ?_
  refine vc_seq ?_
  refine vc_region ?_
  refine vl_box rfl rfl (.some rfl) rfl (fun r2 => ?_)
  refine vl_box rfl rfl (.some rfl) rfl (fun r3 => ?_)
  refine vl_val rfl (.some rfl) (val_assign rfl) ?_
  refine vl_nil ?_
  refine vc_seq ?_
  refine vc_region ?_
  refine vl_val rfl (.some rfl) (val_mkFunc rfl rfl) ?_
  refine vl_val rfl (.some rfl) (val_assign rfl) ?_
  refine vl_nil ?_
  refine vc_ret ?_
  refine ⟨_, [cells r2 [.slice A n c] 24, cells r3 [.func g fs cs] 55], _, res1 Tryd.results31 rfl, (by repeat (first | exact .nil | (apply Sub.cons; · repeat (first | exact .head | apply Take.tail)))), ?_⟩
  exact ⟨r2, r3, rfl, rfl⟩
set_option maxRecDepth 20000 in
theorem meaEv1 (r2 r3 : Nat) (A : Option Addr) (n c : Nat) (xs : List Mq) (hn : xs.length = n) (hn2 : n < 9223372036854775808) (g : Go.Fn) (fs cs : Array Value) (p : Nat → Bool) (w0 : World) (C : List Chunk) (h2 : w0.heap.size ≤ r2) (h3 : w0.heap.size ≤ r3) (hC : ∀ k ∈ fps C, w0.heap.size ≤ k) (hR : ∀ w, Old w0 w → (∀ k ∈ C, k.A w) → Reads w A (xs.flatMap meaV)) (hA : ∀ i, i < n → Ans Tryd.prog w0 C (.func g fs cs) [meaA (xs.getD i (0, []))] (.bool (p i))) (b : Bool) (hb : b = true ↔ ∀ i, i < n → p i = true) (w : World) (hw0 : Old w0 w) : FnR Tryd.prog 55 [.pointer (some ⟨r2, 0, none⟩), .pointer (some ⟨r3, 0, none⟩)] (cells r2 [.slice A n c] 28 :: cells r3 [.func g fs cs] 63 :: C) (.bool b) w := by
  have hM2 : ∀ k ∈ fps (cells r3 [.func g fs cs] 63 :: C), w0.heap.size ≤ k := by
    intro k hk
    rw [fps_cons] at hk
    simp only [cells, List.mem_append, List.mem_singleton] at hk
    rcases hk with hk | hk
    · omega
    · exact hC k hk
  have hM : ∀ k ∈ fps (cells r2 [.slice A n c] 28 :: cells r3 [.func g fs cs] 63 :: C), w0.heap.size ≤ k := by
    intro k hk
    rw [fps_cons] at hk
    rcases List.mem_append.1 hk with hk | hk
    · simp only [cells, List.mem_singleton] at hk; omega
    · exact hM2 k hk
  refine fn_enter Tryd.func55 rfl Tryd.ntmps55 rfl ?_
  refine vc_seq ?_
  refine vc_region ?_
  refine vl_val rfl (.some rfl) (val_assign rfl) ?_
  refine vl_nil ?_
  refine vc_seq ?_
  refine vc_region ?_
  refine vl_val rfl (.some rfl) (val_load Tryd.isAgg28 rfl (by first | exact cell_cells (by repeat (first | exact .head | apply In.tail | apply Take.tail | apply Upd.tail)) rfl | exact cell_rd (rd_sl (by repeat (first | exact .head | apply In.tail | apply Take.tail | apply Upd.tail))) (by first | exact bcells_at (by omega) | exact ucells_at (by omega) | exact icells_at (by omega) | exact tcells_at (by omega) | exact bcells_get (by omega) | exact icells_get (by omega) | exact tcells_get (by omega) | exact ucells_get (by omega)) | exact cell_rd (rd_old (by assumption) rfl) (by first | exact bcells_at (by omega) | exact ucells_at (by omega) | exact icells_at (by omega) | exact tcells_at (by omega) | exact bcells_get (by omega) | exact icells_get (by omega) | exact tcells_get (by omega) | exact ucells_get (by omega)) | exact cell_old (by assumption) (by simp [fps]))) ?_
  refine vl_val rfl (.some rfl) (val_mkFunc rfl rfl) ?_
  refine vl_callR (cells r3 [.func g fs cs] 63 :: C) rfl rfl (.some rfl) Tryd.call56 rfl (sub_skip (sub_self _)) (fun w hw => meaHasF A n c xs hn hn2 (.func 57) #[] #[.pointer (some ⟨r3, 0, none⟩)] (fun i => !p i) w0 (cells r3 [.func g fs cs] 63 :: C) hM2 (fun w ho hk => hR w ho (fun k h => hk k (List.mem_cons_of_mem _ h))) (fun i hi => ⟨57, [], [.pointer (some ⟨r3, 0, none⟩)], rfl, Tryd.call57, fun w hw => meaEv11 (xs.getD i (0, [])) g fs cs r3 (p i) w0 C h3 hC (hA i hi) w hw⟩) w (old_here hw0 hM hw) (!b) (every_not hb)) ?_
  refine vl_val rfl (.some rfl) (val_not rfl) ?_
  refine vl_val rfl (.some rfl) (val_assign rfl) ?_
  refine vl_nil ?_
  refine vc_ret ?_
  refine ⟨_, cells r2 [.slice A n c] 28 :: cells r3 [.func g fs cs] 63 :: C, _, res1 Tryd.results55 rfl, (by first | exact sub_self _ | exact sub_skip (sub_self _) | exact sub_skip (sub_skip (sub_self _))), ?_⟩
  exact ⟨by simp, rfl⟩
set_option maxRecDepth 20000 in
theorem meaEvery (A : Option Addr) (n c : Nat) (g : Go.Fn) (fs cs : Array Value) (w : World) : Fn Tryd.prog 38 [.slice A n c, .func g fs cs] [] (ret fun v H' => ∃ r2 r3, v = .func (.func 55) #[] #[.pointer (some ⟨r2, 0, none⟩), .pointer (some ⟨r3, 0, none⟩)] ∧ H' = [cells r2 [.slice A n c] 28, cells r3 [.func g fs cs] 63]) w := by
  refine fn_enter Tryd.func38 rfl Tryd.ntmps38 rfl ?_
  refine vc_seq ?_
  refine vc_region ?_
  refine vl_box rfl rfl (.some rfl) rfl (fun r2 => ?_)
  refine vl_box rfl rfl (.some rfl) rfl (fun r3 => ?_)
  refine vl_val rfl (.some rfl) (val_assign rfl) ?_
  refine vl_nil ?_
  refine vc_seq ?_
  refine vc_region ?_
  refine vl_val rfl (.some rfl) (val_mkFunc rfl rfl) ?_
  refine vl_val rfl (.some rfl) (val_assign rfl) ?_
  refine vl_nil ?_
  refine vc_ret ?_
  refine ⟨_, [cells r2 [.slice A n c] 28, cells r3 [.func g fs cs] 63], _, res1 Tryd.results38 rfl, (by repeat (first | exact .nil | (apply Sub.cons; · repeat (first | exact .head | apply Take.tail)))), ?_⟩
  exact ⟨r2, r3, rfl, rfl⟩




theorem mea_fs : (Tryd.prog.fieldsOf 43).toList = [⟨"Kind", 3, 0, false, "", "", 0⟩, ⟨"Column", 9, 1, false, "", "", 8⟩] := by kernel_rfl
theorem mea_equal (p q : Mq) (w : World) : (Op.equal 43 (meaA p) (meaA q)).run Tryd.prog w = .ok (decide (p = q)) w := by
  obtain ⟨k, s⟩ := p
  obtain ⟨k', s'⟩ := q
  unfold Op.equal meaA meaV
  rw [show Op.maxDepth = 9999 + 1 from rfl, run_equalIn_agg w 9999 43 _ _ (by kernel_rfl) (by kernel_rfl), mea_fs]
  have e3 : ∀ a b : Int, (Op.equalIn 9999 3 (.int .i64 a) (.int .i64 b)).run Tryd.prog w = .ok (decide (a = b)) w := fun a b => by
    rw [show (9999 : Nat) = 9998 + 1 from rfl, run_equalIn_int w 9998 3 .i64 .i64 a b Tryd.underlying3, int_beq]
  have e9 : ∀ a b : ByteArray, (Op.equalIn 9999 9 (.string a) (.string b)).run Tryd.prog w = .ok (decide (a = b)) w := fun a b => by
    rw [show (9999 : Nat) = 9998 + 1 from rfl, run_equalIn_string w 9998 9 a b Tryd.underlying9, bytes_beq]
  simp only [Op.eqFields, part, Sem.run_bind, Tryd.isAgg3, Tryd.isAgg9, Result.andThen_ok]
  simp [e3, e9]
  by_cases h1 : k = k' <;> simp [h1, e3, e9, sL_inj]
  by_cases h3 : s = s' <;> simp [h3]
theorem flat_takeM {α : Type} {f : α → List Value} {m : Nat} (hm : ∀ a, (f a).length = m) : ∀ (l : List α) (i : Nat), (l.flatMap f).take (i * m) = (l.take i).flatMap f
  | [], i => by simp
  | a :: l, 0 => by simp
  | a :: l, i + 1 => by
    rw [List.flatMap_cons, List.take_succ_cons, List.flatMap_cons, List.take_append, List.take_of_length_le (by rw [hm, Nat.add_mul]; omega), hm, Nat.add_mul, Nat.one_mul, Nat.add_sub_cancel, flat_takeM hm l i]
theorem mea_take {w : World} {A : Option Addr} {xs : List Mq} (h : Reads w A (xs.flatMap meaV)) (i : Nat) : Reads w A ((xs.take i).flatMap meaV) := by
  have := h.take (i * 2)
  rwa [flat_takeM (m := 2) (fun _ => rfl)] at this
theorem nodup_atM {α : Type} (d : α) {ws : List α} {i : Nat} (hi : i < ws.length) (h : ws.getD i d ∈ ws.take i) : ¬ ws.Nodup := fun hn => by
  obtain ⟨j, hj, e⟩ := List.mem_iff_getElem.1 h
  rw [List.length_take] at hj
  rw [List.getElem_take] at e
  have h2 : ws.getD i d = ws[i] := by simp [List.getD, hi]
  rw [h2] at e
  rw [List.Nodup, List.pairwise_iff_getElem] at hn
  exact hn j i (by omega) hi (by omega) e
theorem nodup_allM {α : Type} (d : α) {ws : List α} (h : ∀ i, i < ws.length → ws.getD i d ∉ ws.take i) : ws.Nodup := by
  rw [List.Nodup, List.pairwise_iff_getElem]
  intro i j hi hj hij e
  refine h j hj ?_
  have h2 : ws.getD j d = ws[j] := by simp [List.getD, hj]
  rw [h2, ← e]
  exact List.mem_iff_getElem.2 ⟨i, by rw [List.length_take]; omega, by rw [List.getElem_take]⟩
theorem mem_firstM {α : Type} (d : α) {ws : List α} {v : α} {i : Nat} (hi : i < ws.length) (h : ws.getD i d = v) : v ∈ ws := by
  rw [← h]; simp [List.getD, hi]
theorem mem_noneM {α : Type} (d : α) {ws : List α} {v : α} (hb : ∀ j, j < ws.length → ws.getD j d ≠ v) : v ∉ ws := fun h => by
  obtain ⟨j, hj, e⟩ := List.mem_iff_getElem.1 h
  exact hb j hj (by simp [List.getD, hj, e])

set_option maxRecDepth 20000 in
theorem mFind (A : Option Addr) (n c : Nat) (xs : List Mq) (hn : xs.length = n) (hl : n < 9223372036854775808) (v : Mq) (w : World) (hr : Reads w A (xs.flatMap meaV)) : Fn Tryd.prog 59 [.slice A n c, meaA v] [] (ret fun u H' => ∃ p : Int, u = .int .i64 p ∧ (0 ≤ p ↔ v ∈ xs) ∧ H' = []) w := by
  refine fn_enter Tryd.func59 rfl Tryd.ntmps59 rfl ?_
  refine vc_seq ?_
  refine vc_region ?_
  refine vl_box rfl rfl (.some rfl) rfl (fun r3 => ?_)
  refine vl_val rfl (.some rfl) (val_assign rfl) ?_
  refine vl_nil ?_
  refine vc_seq ?_
  refine vc_seq ?_
  refine vc_region ?_
  refine vl_val rfl (.some rfl) (val_move rfl) ?_
  refine vl_val rfl (.some rfl) (val_lenSl Tryd.runUnderlying28 rfl) ?_
  refine vl_val rfl (.some rfl) (val_move rfl) ?_
  refine vl_nil ?_
  refine vc_block ?_
  refine vc_loopw (fun m E H => ∃ i : Nat, i ≤ n ∧ m = n - i ∧ (∀ j, j < i → xs.getD j (0, []) ≠ v) ∧ E = [(0, .slice A n c), (3, .pointer (some ⟨r3, 0, none⟩)), (7, .int .i64 n), (8, .int .i64 i)] ∧ H = [cells r3 (meaV v) 43]) (n) ⟨_, _, _, ⟨0, by omega, rfl, fun j hj => absurd hj (by omega), rfl, rfl⟩, (by repeat (first | exact trivial | refine ⟨rfl, ?_⟩ | refine ⟨le_item rfl (by first | rfl | (congr 1; omega) | (simp; done) | (simp; omega)), ?_⟩)), (by repeat (first | exact .nil | (apply Sub.cons; · repeat (first | exact .head | apply Take.tail))))⟩ ?_
  intro m E H hI
  obtain ⟨i, hi, rfl, hb, rfl, rfl⟩ := hI
  refine vc_seq ?_
  refine vc_region ?_
  refine vl_val rfl (.some rfl) (val_lt rfl rfl) ?_
  refine vl_nil ?_
  refine vc_seq ?_
  refine vc_cond rfl (fun hc0 => ?_) (fun hc0 => ?_)
  · (try replace hc0 := of_decide_eq_true hc0)
    refine vc_skip ?_
    refine vc_seq ?_
    refine vc_block ?_
    refine vc_seq ?_
    refine vc_region ?_
    refine vl_val rfl (.some rfl) (val_move rfl) ?_
    refine vl_val rfl (.some rfl) (val_assign rfl) ?_
    refine vl_nil ?_
    refine vc_seq ?_
    refine vc_draws [0, 1, 2, 3, 4, 5] [] [0, 1, 2, 3, 4, 5] rfl (by kernel_rfl) (fun _ _ _ h => h) ?_
    refine vd_val rfl rfl rfl (.some rfl) (val_loadAgg Tryd.isAgg43 Tryd.sizeOf43 rfl (by first | exact cells_whole (by repeat (first | exact .head | apply In.tail | apply Take.tail | apply Upd.tail)) | exact cells_part (by repeat (first | exact .head | apply In.tail | apply Take.tail | apply Upd.tail)) rfl) rfl) ?_
    refine vd_val rfl rfl rfl (.some rfl) (val_move rfl) ?_
    refine vd_val rfl rfl rfl (.some rfl) (val_move rfl) ?_
    refine vd_val rfl rfl rfl (.some rfl) (val_indexAddr Tryd.runUnderlying28 Tryd.sizeOf43 rfl rfl (vs := xs.flatMap meaV) (rd_old hr rfl) (by omega) (by omega) (by rw [meaC_len, Int.toNat_natCast]; omega)) ?_
    refine vd_val rfl rfl rfl (.some rfl) (val_loadAgg Tryd.isAgg43 Tryd.sizeOf43 rfl (cells_rd (us := meaV (xs.getD i (0, []))) (rd_old hr rfl) (meaC_at rfl (by omega))) rfl) ?_
    refine vd_val rfl rfl rfl (.some rfl) (val_opO rfl rfl (fun w => run_eqGuard_agg w _ _ _ _ _ _ (by kernel_rfl)) (bin_agg_eq (mea_equal v (xs.getD i (0, []))))) ?_
    refine vd_nil ?_
    refine vc_cond rfl (fun hc1 => ?_) (fun hc1 => ?_)
    · (try replace hc1 := of_decide_eq_true hc1)
      refine vc_seq ?_
      refine vc_region ?_
      refine vl_val rfl (.some rfl) (val_move rfl) ?_
      refine vl_val rfl (.some rfl) (val_assign rfl) ?_
      refine vl_nil ?_
      refine vc_ret ?_
      refine ⟨_, [], _, res1 Tryd.results59 rfl, (by repeat (first | exact .nil | (apply Sub.cons; · repeat (first | exact .head | apply Take.tail)))), ?_⟩
      exact ⟨_, rfl, ⟨fun _ => mem_firstM (0, []) (by omega) (by simpa using hc1 : v = xs.getD i (0, [])).symm, fun _ => by omega⟩, rfl⟩
    · (try replace hc1 := of_decide_eq_false hc1)
      refine vc_skip ?_
      refine vc_region ?_
      refine vl_val rfl (.some rfl) (val_add rfl rfl (by first | exact w_i64 (by omega) (by omega) | rfl)) ?_
      refine vl_val rfl (.some rfl) (val_move rfl) ?_
      refine vl_nil ?_
      exact ⟨(n - (i + 1)), _, _, _, by omega, (by repeat (first | exact trivial | refine ⟨rfl, ?_⟩ | refine ⟨le_item rfl (by first | rfl | (congr 1; omega) | (simp; done) | (simp; omega)), ?_⟩)), (by repeat (first | exact .nil | (apply Sub.cons; · repeat (first | exact .head | apply Take.tail)))), ⟨i + 1, by omega, rfl, fun j hj => by
        rcases Nat.lt_or_ge j i with h | h
        · exact hb j h
        · obtain rfl : j = i := by omega
          exact fun e => (by simpa using hc1 : ¬ v = xs.getD j (0, [])) e.symm, rfl, rfl⟩⟩
  · (try replace hc0 := of_decide_eq_false hc0)
    refine vc_exit ?_
    refine vc_seq ?_
    refine vc_region ?_
    refine vl_val rfl (.some rfl) (val_assign rfl) ?_
    refine vl_nil ?_
    refine vc_ret ?_
    refine ⟨_, [], _, res1 Tryd.results59 rfl, (by repeat (first | exact .nil | (apply Sub.cons; · repeat (first | exact .head | apply Take.tail)))), ?_⟩
    obtain rfl : i = n := by omega
    exact ⟨_, rfl, ⟨fun h => by omega, fun h => absurd h (mem_noneM (0, []) (fun j hj => hb j (by omega)))⟩, rfl⟩
set_option maxRecDepth 20000 in
theorem mHas (A : Option Addr) (n c : Nat) (xs : List Mq) (hn : xs.length = n) (hl : n < 9223372036854775808) (v : Mq) (w : World) (hr : Reads w A (xs.flatMap meaV)) : FnV Tryd.prog 44 [.slice A n c, meaA v] (.bool (decide (v ∈ xs))) w := by
  refine fn_enter Tryd.func44 rfl Tryd.ntmps44 rfl ?_
  refine vc_seq ?_
  refine vc_region ?_
  refine vl_box rfl rfl (.some rfl) rfl (fun r3 => ?_)
  refine vl_val rfl (.some rfl) (val_assign rfl) ?_
  refine vl_nil ?_
  refine vc_seq ?_
  refine vc_region ?_
  refine vl_val rfl (.some rfl) (val_move rfl) ?_
  refine vl_val rfl (.some rfl) (val_loadAgg Tryd.isAgg43 Tryd.sizeOf43 rfl (by first | exact cells_whole (by repeat (first | exact .head | apply In.tail | apply Take.tail | apply Upd.tail)) | exact cells_part (by repeat (first | exact .head | apply In.tail | apply Take.tail | apply Upd.tail)) rfl) rfl) ?_
  refine vl_call (C := []) rfl rfl (.some rfl) Tryd.call59 rfl .nil (fun w hw => mFind A n c xs hn hl v w (rdw (rd_old hr rfl) hw)) (fun u H' h => ?_)
  obtain ⟨p, rfl, hp, rfl⟩ := h
  show VL _ _ _ _ _ _
  refine vl_val rfl (.some rfl) (val_ge rfl rfl) ?_
  refine vl_val rfl (.some rfl) (val_assign rfl) ?_
  refine vl_nil ?_
  refine vc_ret ?_
  refine ⟨_, [], _, res1 Tryd.results44 rfl, .nil, ?_⟩
  show Value.bool _ = Value.bool _
  refine congrArg Value.bool ?_
  rw [decide_eq_decide]; exact hp
set_option maxRecDepth 20000 in
theorem mUnl1 (r1 : Nat) (A : Option Addr) (n c : Nat) (ws : List Mq) (hwn : ws.length = n) (hn : n < 9223372036854775808) (hcap : n ≤ c) (w0 : World) (C : List Chunk) (h1 : w0.heap.size ≤ r1) (hC : ∀ k ∈ fps C, w0.heap.size ≤ k) (hR : ∀ w, Old w0 w → (∀ k ∈ C, k.A w) → Reads w A (ws.flatMap meaV)) (w : World) (hw0 : Old w0 w) : FnR Tryd.prog 58 [.pointer (some ⟨r1, 0, none⟩)] (cells r1 [.slice A n c] 28 :: C) (.bool (decide ws.Nodup)) w := by
  have hM : ∀ k ∈ fps (cells r1 [.slice A n c] 28 :: C), w0.heap.size ≤ k := by
    intro k hk
    rw [fps_cons] at hk
    simp only [cells, List.mem_append, List.mem_singleton] at hk
    rcases hk with hk | hk
    · omega
    · exact hC k hk
  refine fn_enter Tryd.func58 rfl Tryd.ntmps58 rfl ?_
  refine vc_seq ?_
  refine vc_region ?_
  refine vl_val rfl (.some rfl) (val_assign rfl) ?_
  refine vl_nil ?_
  refine vc_seq ?_
  refine vc_seq ?_
  refine vc_region ?_
  refine vl_val rfl (.some rfl) (val_load Tryd.isAgg28 rfl (cell_cells .head rfl)) ?_
  refine vl_val rfl (.some rfl) (val_lenSl Tryd.runUnderlying28 rfl) ?_
  refine vl_val rfl (.some rfl) (val_move rfl) ?_
  refine vl_nil ?_
  refine vc_block ?_
  refine vc_loopw (fun m E H => ∃ i : Nat, i ≤ n ∧ m = n - i ∧ (∀ j, j < i → ws.getD j (0, []) ∉ ws.take j) ∧ E = [(0, .pointer (some ⟨r1, 0, none⟩)), (4, .slice A n c), (5, .int .i64 n), (6, .int .i64 i)] ∧ H = cells r1 [.slice A n c] 28 :: C) (n) ⟨_, _, _, ⟨0, by omega, rfl, fun j hj => absurd hj (by omega), rfl, rfl⟩, (by repeat (first | exact trivial | refine ⟨rfl, ?_⟩ | refine ⟨le_item rfl (by first | rfl | (congr 1; omega) | (simp; done) | (simp; omega)), ?_⟩)), (by repeat (first | exact .nil | exact sub_self _ | exact sub_skip (sub_self _) | exact sub_skip (sub_skip (sub_self _)) | exact sub_skip (sub_skip (sub_skip (sub_self _))) | (apply Sub.cons; · repeat (first | exact .head | apply Take.tail))))⟩ ?_
  intro m E H hI
  obtain ⟨i, hi, rfl, hz, rfl, hHC⟩ := hI
  rw [hHC]
  refine vc_seq ?_
  refine vc_region ?_
  refine vl_val rfl (.some rfl) (val_lt rfl rfl) ?_
  refine vl_nil ?_
  refine vc_seq ?_
  refine vc_cond rfl (fun hc0 => ?_) (fun hc0 => ?_)
  · (try replace hc0 := of_decide_eq_true hc0)
    refine vc_skip ?_
    refine vc_seq ?_
    refine vc_block ?_
    refine vc_seq ?_
    refine vc_region ?_
    refine vl_val rfl (.some rfl) (val_move rfl) ?_
    refine vl_val rfl (.some rfl) (val_indexAddr Tryd.runUnderlying28 Tryd.sizeOf43 rfl rfl (vs := ws.flatMap meaV) (rd_ans hR hw0 hM (fun k h => by simp [h])) (by omega) (by omega) (by rw [meaC_len, Int.toNat_natCast]; omega)) ?_
    refine vl_val rfl (.some rfl) (val_loadAgg Tryd.isAgg43 Tryd.sizeOf43 rfl (cells_rd (us := meaV (ws.getD i (0, []))) (rd_ans hR hw0 hM (fun k h => by simp [h])) (meaC_at rfl (by omega))) rfl) ?_
    refine vl_alloc rfl rfl (.some rfl) Tryd.zeroValue43 (fun r3 => ?_)
    refine vl_val rfl (.some rfl) (val_assign rfl) ?_
    first | refine vl_store rfl rfl .none rfl rfl Tryd.sizeOf43 rfl (by repeat (first | exact .head | apply In.tail | apply Take.tail | apply Upd.tail)) (by first | decide | exact Nat.le_refl _ | exact Nat.le_of_ble_eq_true rfl | (simp; omega)) ?_ | refine vl_storeSl rfl rfl .none rfl rfl Tryd.sizeOf43 rfl (by simp [Value.cells]) (by repeat (first | exact .head | apply In.tail | apply Take.tail | apply Upd.tail)) (by first | decide | (simp [Value.cells]; omega)) ?_
    refine vl_nil ?_
    refine vc_seq ?_
    refine vc_draws [0, 1, 2, 3] [] [0, 1, 2, 3, 4] rfl (by kernel_rfl) (fun _ _ _ h => h) ?_
    refine vd_val rfl rfl rfl (.some rfl) (val_load Tryd.isAgg28 rfl (cell_cells (.tail .head) rfl)) ?_
    refine vd_val rfl rfl rfl (.some rfl) (val_move rfl) ?_
    refine vd_val rfl rfl rfl (.some rfl) (val_cutTo Tryd.runUnderlying28 Tryd.sizeOf43 rfl rfl (by omega) (by omega)) ?_
    refine vd_val rfl rfl rfl (.some rfl) (val_loadAgg Tryd.isAgg43 Tryd.sizeOf43 rfl (cells_whole .head) rfl) ?_
    refine vd_op rfl rfl ?_
    refine vl_callV rfl rfl (.some rfl) Tryd.call44 rfl (fun w hw => by
      have h := mHas A i c (ws.take i) (by rw [List.length_take]; omega) (by omega) (ws.getD i (0, [])) w (mea_take (hR w (old_here hw0 hM hw) (fun k hk => hw.chunk k (by simp [hk]))) i)
      exact h) ?_
    refine vl_nil ?_
    refine ⟨fun _ => ⟨_, (by repeat (first | exact .nil | exact sub_self _ | exact sub_skip (sub_self _) | exact sub_skip (sub_skip (sub_self _)) | exact sub_skip (sub_skip (sub_skip (sub_self _))) | (apply Sub.cons; · repeat (first | exact .head | apply Take.tail))))⟩, ?_⟩
    refine vd_nil ?_
    refine vc_cond rfl (fun hc1 => ?_) (fun hc1 => ?_)
    · (try replace hc1 := of_decide_eq_true hc1)
      refine vc_seq ?_
      refine vc_region ?_
      refine vl_val rfl (.some rfl) (val_assign rfl) ?_
      refine vl_nil ?_
      refine vc_ret ?_
      refine ⟨_, cells r1 [.slice A n c] 28 :: C, _, res1 Tryd.results58 rfl, (by first | exact sub_self _ | exact sub_skip (sub_self _) | exact sub_skip (sub_skip (sub_self _))), ?_⟩
      exact ⟨by rw [decide_eq_false (p := ws.Nodup) (nodup_atM (0, []) (i := i) (by omega) (by simpa using hc1))], rfl⟩
    · (try replace hc1 := of_decide_eq_false hc1)
      refine vc_skip ?_
      refine vc_region ?_
      refine vl_val rfl (.some rfl) (val_add rfl rfl (by first | exact w_i64 (by omega) (by omega) | rfl)) ?_
      refine vl_val rfl (.some rfl) (val_move rfl) ?_
      refine vl_nil ?_
      exact ⟨(n - (i + 1)), _, _, _, by omega, (by repeat (first | exact trivial | refine ⟨rfl, ?_⟩ | refine ⟨le_item rfl (by first | rfl | (congr 1; omega) | (simp; done) | (simp; omega)), ?_⟩)), (by repeat (first | exact .nil | exact sub_self _ | exact sub_skip (sub_self _) | exact sub_skip (sub_skip (sub_self _)) | exact sub_skip (sub_skip (sub_skip (sub_self _))) | (apply Sub.cons; · repeat (first | exact .head | apply Take.tail)))), ⟨i + 1, by omega, rfl, fun j hj => by
        rcases Nat.lt_or_ge j i with h | h
        · exact hz j h
        · obtain rfl : j = i := by omega
          simpa using hc1, rfl, rfl⟩⟩
  · (try replace hc0 := of_decide_eq_false hc0)
    refine vc_exit ?_
    refine vc_seq ?_
    refine vc_region ?_
    refine vl_val rfl (.some rfl) (val_assign rfl) ?_
    refine vl_nil ?_
    refine vc_ret ?_
    refine ⟨_, cells r1 [.slice A n c] 28 :: C, _, res1 Tryd.results58 rfl, (by first | exact sub_self _ | exact sub_skip (sub_self _) | exact sub_skip (sub_skip (sub_self _))), ?_⟩
    exact ⟨by rw [decide_eq_true (p := ws.Nodup) (nodup_allM (0, []) (fun j hj => hz j (by omega)))], rfl⟩
set_option maxRecDepth 20000 in
theorem mUnlike (A : Option Addr) (n c : Nat) (w : World) : Fn Tryd.prog 41 [.slice A n c] [] (ret fun v H' => ∃ r1, v = .func (.func 58) #[] #[.pointer (some ⟨r1, 0, none⟩)] ∧ H' = [cells r1 [.slice A n c] 28]) w := by
  refine fn_enter Tryd.func41 rfl Tryd.ntmps41 rfl ?_
  refine vc_seq ?_
  refine vc_region ?_
  refine vl_box rfl rfl (.some rfl) rfl (fun r1 => ?_)
  refine vl_val rfl (.some rfl) (val_assign rfl) ?_
  refine vl_nil ?_
  refine vc_seq ?_
  refine vc_region ?_
  refine vl_val rfl (.some rfl) (val_mkFunc rfl rfl) ?_
  refine vl_val rfl (.some rfl) (val_assign rfl) ?_
  refine vl_nil ?_
  refine vc_ret ?_
  refine ⟨_, [cells r1 [.slice A n c] 28], _, res1 Tryd.results41 rfl, (by repeat (first | exact .nil | (apply Sub.cons; · repeat (first | exact .head | apply Take.tail)))), ?_⟩
  exact ⟨r1, rfl, rfl⟩
set_option maxRecDepth 20000 in
theorem sHas (rn rt : ByteArray) (Ad : Option Addr) (nd cd : Nat) (A : Option Addr) (n c : Nat) (xs : List Mq) (hn : xs.length = n) (hl : n < 9223372036854775808) (v : Mq) (w : World) (hr : Reads w A (xs.flatMap meaV)) : FnV Tryd.prog 18 [.agg #[.string rn, .string rt, .slice Ad nd cd, .slice A n c], meaA v] (.bool (decide (v ∈ xs))) w := by
  refine fn_enter Tryd.func18 rfl Tryd.ntmps18 rfl ?_
  refine vc_seq ?_
  refine vc_region ?_
  refine vl_box rfl rfl (.some rfl) rfl (fun r2 => ?_)
  refine vl_box rfl rfl (.some rfl) rfl (fun r3 => ?_)
  refine vl_val rfl (.some rfl) (val_assign rfl) ?_
  refine vl_nil ?_
  refine vc_seq ?_
  refine vc_region ?_
  refine vl_val rfl (.some rfl) (by first | exact val_fieldAddr Tryd.runUnderlying30 rfl Tryd.sizeOf28 rfl | exact val_fieldAddrR Tryd.runUnderlying30 rfl Tryd.sizeOf28 rfl) ?_
  refine vl_val rfl (.some rfl) (val_load Tryd.isAgg28 rfl (by first | exact cell_cells (by repeat (first | exact .head | apply In.tail | apply Take.tail | apply Upd.tail)) rfl | exact cell_rd (rd_sl (by repeat (first | exact .head | apply In.tail | apply Take.tail | apply Upd.tail))) (by first | exact bcells_at (by omega) | exact ucells_at (by omega) | exact icells_at (by omega) | exact tcells_at (by omega) | exact bcells_get (by omega) | exact icells_get (by omega) | exact tcells_get (by omega) | exact ucells_get (by omega)) | exact cell_rd (rd_old (by assumption) rfl) (by first | exact bcells_at (by omega) | exact ucells_at (by omega) | exact icells_at (by omega) | exact tcells_at (by omega) | exact bcells_get (by omega) | exact icells_get (by omega) | exact tcells_get (by omega) | exact ucells_get (by omega)) | exact cell_old (by assumption) (by simp [fps]))) ?_
  refine vl_val rfl (.some rfl) (val_loadAgg Tryd.isAgg43 Tryd.sizeOf43 rfl (by first | exact cells_whole (by repeat (first | exact .head | apply In.tail | apply Take.tail | apply Upd.tail)) | exact cells_part (by repeat (first | exact .head | apply In.tail | apply Take.tail | apply Upd.tail)) rfl) rfl) ?_
  refine vl_callV rfl rfl (.some rfl) Tryd.call44 rfl (fun w hw => mHas A n c xs hn hl v w (rdw (rd_old hr rfl) hw)) ?_
  refine vl_val rfl (.some rfl) (val_assign rfl) ?_
  refine vl_nil ?_
  refine vc_ret ?_
  refine ⟨_, [], _, res1 Tryd.results18 rfl, .nil, ?_⟩
  rfl




def fitP (m k : Int) : Prop := (m ≠ 2 ∨ k = 1) ∧ (m ≠ 6 ∨ k = 1 ∨ k = 2)
instance (m k : Int) : Decidable (fitP m k) := by unfold fitP; infer_instance
/-- A column's place, kind, and whether there is one. -/
def colI (cs : List Cq) (nm : List UInt8) : Nat := cs.findIdx fun q => decide (q.1 = nm)
def colN (cs : List Cq) (nm : List UInt8) : Int := if colI cs nm < cs.length then (colI cs nm : Int) else 0
def colK (cs : List Cq) (nm : List UInt8) : Int := if colI cs nm < cs.length then (cs.getD (colI cs nm) ([], 0)).2 else 0
def colB (cs : List Cq) (nm : List UInt8) : Bool := decide (colI cs nm < cs.length)
abbrev colT (cs : List Cq) (nm : List UInt8) : Value := .tuple #[.int .i64 (colN cs nm), .int .i64 (colK cs nm), .bool (colB cs nm)]
theorem colI_at {cs : List Cq} {nm : List UInt8} {i : Nat} (hi : i < cs.length) (h : (cs.getD i ([], 0)).1 = nm) (hb : ∀ j, j < i → (cs.getD j ([], 0)).1 ≠ nm) : colI cs nm = i := by
  unfold colI
  refine (List.findIdx_eq hi).2 ⟨?_, fun j hj => ?_⟩
  · simpa [List.getD, hi] using h
  · have := hb j hj
    simpa [List.getD, show j < cs.length by omega] using this
theorem colI_no {cs : List Cq} {nm : List UInt8} (hb : ∀ j, j < cs.length → (cs.getD j ([], 0)).1 ≠ nm) : colI cs nm = cs.length := by
  unfold colI
  rw [List.findIdx_eq_length]
  intro x hx
  obtain ⟨j, hj, e⟩ := List.mem_iff_getElem.1 hx
  have := hb j hj
  rw [← e]
  simpa [List.getD, hj] using this
theorem col_yes {cs : List Cq} {nm : List UInt8} {i : Nat} (hi : i < cs.length) (h : (cs.getD i ([], 0)).1 = nm) (hb : ∀ j, j < i → (cs.getD j ([], 0)).1 ≠ nm) : colT cs nm = .tuple #[.int .i64 i, .int .i64 (cs.getD i ([], 0)).2, .bool true] := by
  have e := colI_at hi h hb
  unfold colT colN colK colB
  rw [e, if_pos hi, if_pos hi, decide_eq_true hi]
theorem col_not {cs : List Cq} {nm : List UInt8} (hb : ∀ j, j < cs.length → (cs.getD j ([], 0)).1 ≠ nm) : colT cs nm = .tuple #[.int .i64 0, .int .i64 0, .bool false] := by
  have e := colI_no hb
  unfold colT colN colK colB
  rw [e, if_neg (by omega), if_neg (by omega), decide_eq_false (by omega)]
theorem colC_k {cs : List Cq} {i : Nat} (h : i < cs.length) : (cs.flatMap colV)[Int.toNat (i : Int) * 2 + 1]? = some (.int .i64 (cs.getD i ([], 0)).2) := by
  have := flat_atM (m := 2) (f := colV) (fun _ => rfl) ([], 0) cs i h
  rw [Int.toNat_natCast]
  have h2 := congrArg (fun l : List Value => l[1]?) this
  simp only [List.getElem?_take, List.getElem?_drop] at h2
  simpa using h2

set_option maxRecDepth 20000 in
theorem xCol1 (q : Cq) (r1 : Nat) (nm : List UInt8) (w : World) : FnR Tryd.prog 25 [colA q, .pointer (some ⟨r1, 0, none⟩)] [cells r1 [.string (sL nm)] 9] (.bool (decide (q.1 = nm))) w := by
  refine fn_enter Tryd.func25 rfl Tryd.ntmps25 rfl ?_
  refine vc_seq ?_
  refine vc_region ?_
  refine vl_box rfl rfl (.some rfl) rfl (fun r2 => ?_)
  refine vl_val rfl (.some rfl) (val_assign rfl) ?_
  refine vl_nil ?_
  refine vc_seq ?_
  refine vc_region ?_
  refine vl_val rfl (.some rfl) (by first | exact val_fieldAddr Tryd.runUnderlying41 rfl Tryd.sizeOf9 rfl | exact val_fieldAddrR Tryd.runUnderlying41 rfl Tryd.sizeOf9 rfl) ?_
  refine vl_val rfl (.some rfl) (val_load Tryd.isAgg9 rfl (by first | exact cell_cells (by repeat (first | exact .head | apply In.tail | apply Take.tail | apply Upd.tail)) rfl | exact cell_rd (rd_sl (by repeat (first | exact .head | apply In.tail | apply Take.tail | apply Upd.tail))) (by first | exact bcells_at (by omega) | exact ucells_at (by omega) | exact icells_at (by omega) | exact tcells_at (by omega) | exact bcells_get (by omega) | exact icells_get (by omega) | exact tcells_get (by omega) | exact ucells_get (by omega)) | exact cell_rd (rd_old (by assumption) rfl) (by first | exact bcells_at (by omega) | exact ucells_at (by omega) | exact icells_at (by omega) | exact tcells_at (by omega) | exact bcells_get (by omega) | exact icells_get (by omega) | exact tcells_get (by omega) | exact ucells_get (by omega)) | exact cell_old (by assumption) (by simp [fps]))) ?_
  refine vl_val rfl (.some rfl) (val_load Tryd.isAgg9 rfl (by first | exact cell_cells (by repeat (first | exact .head | apply In.tail | apply Take.tail | apply Upd.tail)) rfl | exact cell_rd (rd_sl (by repeat (first | exact .head | apply In.tail | apply Take.tail | apply Upd.tail))) (by first | exact bcells_at (by omega) | exact ucells_at (by omega) | exact icells_at (by omega) | exact tcells_at (by omega) | exact bcells_get (by omega) | exact icells_get (by omega) | exact tcells_get (by omega) | exact ucells_get (by omega)) | exact cell_rd (rd_old (by assumption) rfl) (by first | exact bcells_at (by omega) | exact ucells_at (by omega) | exact icells_at (by omega) | exact tcells_at (by omega) | exact bcells_get (by omega) | exact icells_get (by omega) | exact tcells_get (by omega) | exact ucells_get (by omega)) | exact cell_old (by assumption) (by simp [fps]))) ?_
  refine vl_val rfl (.some rfl) (val_seq rfl rfl) ?_
  refine vl_val rfl (.some rfl) (val_assign rfl) ?_
  refine vl_nil ?_
  refine vc_ret ?_
  refine ⟨_, [cells r1 [.string (sL nm)] 9], _, res1 Tryd.results25 rfl, (by repeat (first | exact .nil | (apply Sub.cons; · repeat (first | exact .head | apply Take.tail)))), ?_⟩
  exact ⟨by refine congrArg Value.bool ?_; rw [decide_eq_decide, sL_inj], rfl⟩
set_option maxRecDepth 20000 in
theorem xColumn (A : Option Addr) (n c : Nat) (cs : List Cq) (hn : cs.length = n) (hn2 : n < 9223372036854775808) (nm0 : ByteArray) (nm : List UInt8) (w : World) (hr : Reads w A (cs.flatMap colV)) : FnV Tryd.prog 11 [.agg #[.string nm0, .slice A n c], .string (sL nm)] (colT cs nm) w := by
  refine fn_enter Tryd.func11 rfl Tryd.ntmps11 rfl ?_
  refine vc_seq ?_
  refine vc_region ?_
  refine vl_box rfl rfl (.some rfl) rfl (fun r2 => ?_)
  refine vl_box rfl rfl (.some rfl) rfl (fun r3 => ?_)
  refine vl_val rfl (.some rfl) (val_assign rfl) ?_
  refine vl_val rfl (.some rfl) (val_assign rfl) ?_
  refine vl_val rfl (.some rfl) (val_assign rfl) ?_
  refine vl_nil ?_
  refine vc_seq ?_
  refine vc_region ?_
  refine vl_val rfl (.some rfl) (by first | exact val_fieldAddr Tryd.runUnderlying26 rfl Tryd.sizeOf24 rfl | exact val_fieldAddrR Tryd.runUnderlying26 rfl Tryd.sizeOf24 rfl) ?_
  refine vl_val rfl (.some rfl) (val_load Tryd.isAgg24 rfl (by first | exact cell_cells (by repeat (first | exact .head | apply In.tail | apply Take.tail | apply Upd.tail)) rfl | exact cell_rd (rd_sl (by repeat (first | exact .head | apply In.tail | apply Take.tail | apply Upd.tail))) (by first | exact bcells_at (by omega) | exact ucells_at (by omega) | exact icells_at (by omega) | exact tcells_at (by omega) | exact bcells_get (by omega) | exact icells_get (by omega) | exact tcells_get (by omega) | exact ucells_get (by omega)) | exact cell_rd (rd_old (by assumption) rfl) (by first | exact bcells_at (by omega) | exact ucells_at (by omega) | exact icells_at (by omega) | exact tcells_at (by omega) | exact bcells_get (by omega) | exact icells_get (by omega) | exact tcells_get (by omega) | exact ucells_get (by omega)) | exact cell_old (by assumption) (by simp [fps]))) ?_
  refine vl_val rfl (.some rfl) (val_mkFunc rfl rfl) ?_
  refine vl_mine (fun hm => ?_)
  have hC : ∀ k ∈ fps [cells r3 [.string (sL nm)] 9], w.heap.size ≤ k := fun k hk => (hm k (by simp [fps] at hk ⊢; first | exact .inl hk | exact .inr hk)).resolve_left (fun h => by simp [fps] at h)
  refine vl_call (C := [cells r3 [.string (sL nm)] 9]) rfl rfl (.some rfl) Tryd.call24 rfl (by repeat (first | exact .nil | (apply Sub.cons; · repeat (first | exact .head | apply Take.tail)))) (fun w' hw => colIdxF A n c cs hn hn2 (.func 25) #[] #[.pointer (some ⟨r3, 0, none⟩)] (fun i => decide ((cs.getD i ([], 0)).1 = nm)) w [cells r3 [.string (sL nm)] 9] hC (fun w2 ho _ => ho.reads hr) (fun i hi => ⟨25, [], [.pointer (some ⟨r3, 0, none⟩)], rfl, Tryd.call25, fun w2 _ => xCol1 (cs.getD i ([], 0)) r3 nm w2⟩) w' (old_here (Old.refl w) (fun b hb => by simp [fps] at hb) hw)) (fun u H' h => ?_)
  obtain ⟨q, rfl, ⟨hq1, hq2⟩, rfl⟩ := h
  show VL _ _ _ _ _ (_ :: _)
  refine vl_val rfl (.some rfl) (val_assign rfl) ?_
  refine vl_nil ?_
  refine vc_seq ?_
  refine vc_seq ?_
  refine vc_region ?_
  refine vl_val rfl (.some rfl) (val_move rfl) ?_
  refine vl_val rfl (.some rfl) (val_lt rfl rfl) ?_
  refine vl_nil ?_
  refine vc_cond rfl (fun hc0 => ?_) (fun hc0 => ?_)
  · (try replace hc0 := of_decide_eq_true hc0)
    refine vc_seq ?_
    refine vc_region ?_
    refine vl_val rfl (.some rfl) (val_assign rfl) ?_
    refine vl_val rfl (.some rfl) (val_assign rfl) ?_
    refine vl_val rfl (.some rfl) (val_assign rfl) ?_
    refine vl_nil ?_
    refine vc_ret ?_
    refine ⟨_, [], _, res3 Tryd.results11 rfl rfl rfl, (by repeat (first | exact .nil | (apply Sub.cons; · repeat (first | exact .head | apply Take.tail)))), ?_⟩
    rw [col_not (fun j hj => by simpa using hq2 (by omega) j (by omega))]
    rfl
  · (try replace hc0 := of_decide_eq_false hc0)
    obtain ⟨i, rfl⟩ := Int.eq_ofNat_of_zero_le (show 0 ≤ q by omega)
    obtain ⟨hq3, hq4, hq5⟩ := hq1 (by omega)
    rw [Int.toNat_natCast] at hq3 hq4 hq5
    refine vc_skip ?_
    refine vc_seq ?_
    refine vc_drawsS [0, 1, 2, 3, 4, 5, 6, 7, 8, 9] [] [0, 1, 2, 3, 4, 5, 6, 7, 8, 9] [cells r2 [.string nm0, .slice A n c] 26] (by repeat (first | exact .nil | (apply Sub.cons; · repeat (first | exact .head | apply Take.tail)))) rfl (by kernel_rfl) (fun _ _ _ h => h) ?_
    refine vd_val rfl rfl rfl (.some rfl) (val_move rfl) ?_
    refine vd_val rfl rfl rfl (.some rfl) (by first | exact val_fieldAddr Tryd.runUnderlying26 rfl Tryd.sizeOf24 rfl | exact val_fieldAddrR Tryd.runUnderlying26 rfl Tryd.sizeOf24 rfl) ?_
    refine vd_val rfl rfl rfl (.some rfl) (val_load Tryd.isAgg24 rfl (by first | exact cell_cells (by repeat (first | exact .head | apply In.tail | apply Take.tail | apply Upd.tail)) rfl | exact cell_rd (rd_sl (by repeat (first | exact .head | apply In.tail | apply Take.tail | apply Upd.tail))) (by first | exact bcells_at (by omega) | exact ucells_at (by omega) | exact icells_at (by omega) | exact tcells_at (by omega) | exact bcells_get (by omega) | exact icells_get (by omega) | exact tcells_get (by omega) | exact ucells_get (by omega)) | exact cell_rd (rd_old (by assumption) rfl) (by first | exact bcells_at (by omega) | exact ucells_at (by omega) | exact icells_at (by omega) | exact tcells_at (by omega) | exact bcells_get (by omega) | exact icells_get (by omega) | exact tcells_get (by omega) | exact ucells_get (by omega)) | exact cell_old (by assumption) (by simp [fps]))) ?_
    refine vd_val rfl rfl rfl (.some rfl) (val_move rfl) ?_
    refine vd_val rfl rfl rfl (.some rfl) (val_indexAddr Tryd.runUnderlying24 Tryd.sizeOf41 rfl rfl (vs := cs.flatMap colV) (rd_old hr rfl) (by omega) (by omega) (by rw [colC_len, Int.toNat_natCast]; omega)) ?_
    refine vd_val rfl rfl rfl (.some rfl) (by first | exact val_fieldAddr Tryd.runUnderlying41 rfl Tryd.sizeOf3 rfl | exact val_fieldAddrR Tryd.runUnderlying41 rfl Tryd.sizeOf3 rfl) ?_
    refine vd_val rfl rfl rfl (.some rfl) (val_load Tryd.isAgg3 rfl (cell_rd (rd_old hr rfl) (colC_k (by omega)))) ?_
    refine vd_val rfl rfl rfl (.some rfl) (val_assign rfl) ?_
    refine vd_val rfl rfl rfl (.some rfl) (val_assign rfl) ?_
    refine vd_val rfl rfl rfl (.some rfl) (val_assign rfl) ?_
    refine vd_nil ?_
    refine vc_ret ?_
    refine ⟨_, [], _, res3 Tryd.results11 rfl rfl rfl, (by repeat (first | exact .nil | (apply Sub.cons; · repeat (first | exact .head | apply Take.tail)))), ?_⟩
    rw [col_yes (i := i) (by omega) (by simpa using hq4) (fun j hj => by simpa using hq5 j hj)]
    rfl
set_option maxRecDepth 20000 in
theorem xFits (m : Int) (s : ByteArray) (k : Int) (w : World) : FnV Tryd.prog 43 [.agg #[.int .i64 m, .string s], .int .i64 k] (.bool (decide (fitP m k))) w := by
  refine fn_enter Tryd.func43 rfl Tryd.ntmps43 rfl ?_
  refine vc_seq ?_
  refine vc_region ?_
  refine vl_box rfl rfl (.some rfl) rfl (fun r2 => ?_)
  refine vl_val rfl (.some rfl) (val_assign rfl) ?_
  refine vl_nil ?_
  refine vc_seq ?_
  refine vc_seq ?_
  refine vc_region ?_
  refine vl_val rfl (.some rfl) (by first | exact val_fieldAddr Tryd.runUnderlying43 rfl Tryd.sizeOf3 rfl | exact val_fieldAddrR Tryd.runUnderlying43 rfl Tryd.sizeOf3 rfl) ?_
  refine vl_val rfl (.some rfl) (val_load Tryd.isAgg3 rfl (by first | exact cell_cells (by repeat (first | exact .head | apply In.tail | apply Take.tail | apply Upd.tail)) rfl | exact cell_rd (rd_sl (by repeat (first | exact .head | apply In.tail | apply Take.tail | apply Upd.tail))) (by first | exact bcells_at (by omega) | exact ucells_at (by omega) | exact icells_at (by omega) | exact tcells_at (by omega) | exact bcells_get (by omega) | exact icells_get (by omega) | exact tcells_get (by omega) | exact ucells_get (by omega)) | exact cell_rd (rd_old (by assumption) rfl) (by first | exact bcells_at (by omega) | exact ucells_at (by omega) | exact icells_at (by omega) | exact tcells_at (by omega) | exact bcells_get (by omega) | exact icells_get (by omega) | exact tcells_get (by omega) | exact ucells_get (by omega)) | exact cell_old (by assumption) (by simp [fps]))) ?_
  refine vl_nil ?_
  refine vc_block ?_
  refine vc_seq ?_
  refine vc_region ?_
  refine vl_val rfl (.some rfl) (val_eq rfl rfl) ?_
  refine vl_val rfl (.some rfl) (val_assign rfl) ?_
  refine vl_nil ?_
  refine vc_cond rfl (fun hc0 => ?_) (fun hc0 => ?_)
  · (try replace hc0 := of_decide_eq_true hc0)
    refine vc_seq ?_
    refine vc_region ?_
    refine vl_val rfl (.some rfl) (val_move rfl) ?_
    refine vl_val rfl (.some rfl) (val_eq rfl rfl) ?_
    refine vl_val rfl (.some rfl) (val_assign rfl) ?_
    refine vl_nil ?_
    refine vc_ret ?_
    refine ⟨_, [], _, res1 Tryd.results43 rfl, .nil, ?_⟩
    show Value.bool _ = Value.bool _
    refine congrArg Value.bool ?_
    first | (rw [decide_eq_decide]; unfold fitP; omega) | exact (decide_eq_true (by unfold fitP; omega)).symm | exact (decide_eq_false (by unfold fitP; omega)).symm
  · (try replace hc0 := of_decide_eq_false hc0)
    refine vc_seq ?_
    refine vc_region ?_
    refine vl_val rfl (.some rfl) (val_eq rfl rfl) ?_
    refine vl_val rfl (.some rfl) (val_assign rfl) ?_
    refine vl_nil ?_
    refine vc_cond rfl (fun hc1 => ?_) (fun hc1 => ?_)
    · (try replace hc1 := of_decide_eq_true hc1)
      refine vc_seq ?_
      refine vc_region ?_
      refine vl_val rfl (.some rfl) (val_move rfl) ?_
      refine vl_val rfl (.some rfl) (val_eq rfl rfl) ?_
      refine vl_val rfl (.some rfl) (val_move rfl) ?_
      refine vl_split (t := 15) rfl (fun hg15 => ?_) (fun hg15 => ?_)
      · (try replace hg15 := of_decide_eq_true hg15)
        refine vl_off rfl rfl rfl rfl (.some rfl) ?_
        refine vl_off rfl rfl rfl rfl (.some rfl) ?_
        refine vl_val rfl (.some rfl) (val_pick rfl rfl) ?_
        refine vl_val rfl (.some rfl) (val_assign rfl) ?_
        refine vl_nil ?_
        refine vc_ret ?_
        refine ⟨_, [], _, res1 Tryd.results43 rfl, .nil, ?_⟩
        show Value.bool _ = Value.bool _
        refine congrArg Value.bool ?_
        first | (rw [decide_eq_decide]; unfold fitP; omega) | exact (decide_eq_true (by unfold fitP; omega)).symm | exact (decide_eq_false (by unfold fitP; omega)).symm
      · (try replace hg15 := of_decide_eq_false hg15)
        refine vl_on rfl rfl rfl rfl ?_
        refine vl_val rfl (.some rfl) (val_move rfl) ?_
        refine vl_on rfl rfl rfl rfl ?_
        refine vl_val rfl (.some rfl) (val_eq rfl rfl) ?_
        refine vl_val rfl (.some rfl) (val_pick rfl rfl) ?_
        refine vl_val rfl (.some rfl) (val_assign rfl) ?_
        refine vl_nil ?_
        refine vc_ret ?_
        refine ⟨_, [], _, res1 Tryd.results43 rfl, .nil, ?_⟩
        show Value.bool _ = Value.bool _
        refine congrArg Value.bool ?_
        first | (rw [decide_eq_decide]; unfold fitP; omega) | exact (decide_eq_true (by unfold fitP; omega)).symm | exact (decide_eq_false (by unfold fitP; omega)).symm
    · (try replace hc1 := of_decide_eq_false hc1)
      refine vc_skip ?_
      refine vc_seq ?_
      refine vc_region ?_
      refine vl_val rfl (.some rfl) (val_assign rfl) ?_
      refine vl_nil ?_
      refine vc_ret ?_
      refine ⟨_, [], _, res1 Tryd.results43 rfl, .nil, ?_⟩
      show Value.bool _ = Value.bool _
      refine congrArg Value.bool ?_
      first | (rw [decide_eq_decide]; unfold fitP; omega) | exact (decide_eq_true (by unfold fitP; omega)).symm | exact (decide_eq_false (by unfold fitP; omega)).symm
set_option maxRecDepth 20000 in
theorem xRol1 (r1 : Nat) (A : Option Addr) (n c : Nat) (cs : List Cq) (hn : cs.length = n) (hn2 : n < 9223372036854775808) (nm0 : ByteArray) (nm : List UInt8) (w0 : World) (h1 : w0.heap.size ≤ r1) (hr : Reads w0 A (cs.flatMap colV)) (w : World) (hw0 : Old w0 w) : FnR Tryd.prog 34 [.string (sL nm), .pointer (some ⟨r1, 0, none⟩)] [cells r1 [.string nm0, .slice A n c] 26] (.bool (colB cs nm)) w := by
  have hM : ∀ k ∈ fps [cells r1 [.string nm0, .slice A n c] 26], w0.heap.size ≤ k := by
    intro k hk
    simp only [fps_cons, cells, List.mem_append, List.mem_singleton] at hk
    rcases hk with hk | hk
    · omega
    · simp [fps] at hk
  refine fn_enter Tryd.func34 rfl Tryd.ntmps34 rfl ?_
  refine vc_seq ?_
  refine vc_region ?_
  refine vl_val rfl (.some rfl) (val_assign rfl) ?_
  refine vl_nil ?_
  refine vc_seq ?_
  refine vc_region ?_
  refine vl_val rfl (.some rfl) (val_loadAgg Tryd.isAgg26 Tryd.sizeOf26 rfl (by first | exact cells_whole (by repeat (first | exact .head | apply In.tail | apply Take.tail | apply Upd.tail)) | exact cells_part (by repeat (first | exact .head | apply In.tail | apply Take.tail | apply Upd.tail)) rfl) rfl) ?_
  refine vl_val rfl (.some rfl) (val_move rfl) ?_
  refine vl_callV rfl rfl (.some rfl) Tryd.call11 rfl (fun w2 hw => xColumn A n c cs hn hn2 nm0 nm w2 ((old_here hw0 hM hw).reads hr)) ?_
  refine vl_val rfl (.some rfl) (val_move rfl) ?_
  refine vl_val rfl (.some rfl) (val_extract rfl rfl) ?_
  refine vl_val rfl (.some rfl) (val_extract rfl rfl) ?_
  refine vl_val rfl (.some rfl) (val_extract rfl rfl) ?_
  refine vl_val rfl (.some rfl) (val_assign rfl) ?_
  refine vl_val rfl (.some rfl) (val_assign rfl) ?_
  refine vl_val rfl (.some rfl) (val_assign rfl) ?_
  refine vl_nil ?_
  refine vc_seq ?_
  refine vc_region ?_
  refine vl_val rfl (.some rfl) (val_move rfl) ?_
  refine vl_val rfl (.some rfl) (val_assign rfl) ?_
  refine vl_nil ?_
  refine vc_ret ?_
  refine ⟨_, [cells r1 [.string nm0, .slice A n c] 26], _, res1 Tryd.results34 rfl, (by repeat (first | exact .nil | (apply Sub.cons; · repeat (first | exact .head | apply Take.tail)))), ?_⟩
  exact ⟨rfl, rfl⟩
set_option maxRecDepth 20000 in
theorem xRol2 (r1 : Nat) (rn rt : List UInt8) (Ad : Option Addr) (nd cd : Nat) (Am : Option Addr) (nm cm : Nat) (hlb : rn.length < 9223372036854775808) (w : World) : FnR Tryd.prog 35 [.pointer (some ⟨r1, 0, none⟩)] [cells r1 [.string (sL rn), .string (sL rt), .slice Ad nd cd, .slice Am nm cm] 30] (.bool (decide (nameP rn))) w := by
  refine fn_enter Tryd.func35 rfl Tryd.ntmps35 rfl ?_
  refine vc_seq ?_
  refine vc_region ?_
  refine vl_val rfl (.some rfl) (val_assign rfl) ?_
  refine vl_nil ?_
  refine vc_seq ?_
  refine vc_region ?_
  refine vl_val rfl (.some rfl) (by first | exact val_fieldAddr Tryd.runUnderlying30 rfl Tryd.sizeOf9 rfl | exact val_fieldAddrR Tryd.runUnderlying30 rfl Tryd.sizeOf9 rfl) ?_
  refine vl_val rfl (.some rfl) (val_load Tryd.isAgg9 rfl (by first | exact cell_cells (by repeat (first | exact .head | apply In.tail | apply Take.tail | apply Upd.tail)) rfl | exact cell_rd (rd_sl (by repeat (first | exact .head | apply In.tail | apply Take.tail | apply Upd.tail))) (by first | exact bcells_at (by omega) | exact ucells_at (by omega) | exact icells_at (by omega) | exact tcells_at (by omega) | exact bcells_get (by omega) | exact icells_get (by omega) | exact tcells_get (by omega) | exact ucells_get (by omega)) | exact cell_rd (rd_old (by assumption) rfl) (by first | exact bcells_at (by omega) | exact ucells_at (by omega) | exact icells_at (by omega) | exact tcells_at (by omega) | exact bcells_get (by omega) | exact icells_get (by omega) | exact tcells_get (by omega) | exact ucells_get (by omega)) | exact cell_old (by assumption) (by simp [fps]))) ?_
  refine vl_callV rfl rfl (.some rfl) Tryd.call9 rfl (fun w hw => sName rn hlb w) ?_
  refine vl_val rfl (.some rfl) (val_assign rfl) ?_
  refine vl_nil ?_
  refine vc_ret ?_
  refine ⟨_, [cells r1 [.string (sL rn), .string (sL rt), .slice Ad nd cd, .slice Am nm cm] 30], _, res1 Tryd.results35 rfl, (by repeat (first | exact .nil | (apply Sub.cons; · repeat (first | exact .head | apply Take.tail)))), ?_⟩
  exact ⟨rfl, rfl⟩
set_option maxRecDepth 20000 in
theorem xRol3 (r1 : Nat) (rn rt : List UInt8) (Ad : Option Addr) (nd cd : Nat) (Am : Option Addr) (nm cm : Nat) (r2 : Nat) (tn : List UInt8) (A : Option Addr) (n c : Nat) (w : World) : FnR Tryd.prog 36 [.pointer (some ⟨r1, 0, none⟩), .pointer (some ⟨r2, 0, none⟩)] [cells r1 [.string (sL rn), .string (sL rt), .slice Ad nd cd, .slice Am nm cm] 30, cells r2 [.string (sL tn), .slice A n c] 26] (.bool (decide (rt = tn))) w := by
  refine fn_enter Tryd.func36 rfl Tryd.ntmps36 rfl ?_
  refine vc_seq ?_
  refine vc_region ?_
  refine vl_val rfl (.some rfl) (val_assign rfl) ?_
  refine vl_nil ?_
  refine vc_seq ?_
  refine vc_region ?_
  refine vl_val rfl (.some rfl) (by first | exact val_fieldAddr Tryd.runUnderlying30 rfl Tryd.sizeOf9 rfl | exact val_fieldAddrR Tryd.runUnderlying30 rfl Tryd.sizeOf9 rfl) ?_
  refine vl_val rfl (.some rfl) (val_load Tryd.isAgg9 rfl (by first | exact cell_cells (by repeat (first | exact .head | apply In.tail | apply Take.tail | apply Upd.tail)) rfl | exact cell_rd (rd_sl (by repeat (first | exact .head | apply In.tail | apply Take.tail | apply Upd.tail))) (by first | exact bcells_at (by omega) | exact ucells_at (by omega) | exact icells_at (by omega) | exact tcells_at (by omega) | exact bcells_get (by omega) | exact icells_get (by omega) | exact tcells_get (by omega) | exact ucells_get (by omega)) | exact cell_rd (rd_old (by assumption) rfl) (by first | exact bcells_at (by omega) | exact ucells_at (by omega) | exact icells_at (by omega) | exact tcells_at (by omega) | exact bcells_get (by omega) | exact icells_get (by omega) | exact tcells_get (by omega) | exact ucells_get (by omega)) | exact cell_old (by assumption) (by simp [fps]))) ?_
  refine vl_val rfl (.some rfl) (by first | exact val_fieldAddr Tryd.runUnderlying26 rfl Tryd.sizeOf9 rfl | exact val_fieldAddrR Tryd.runUnderlying26 rfl Tryd.sizeOf9 rfl) ?_
  refine vl_val rfl (.some rfl) (val_load Tryd.isAgg9 rfl (by first | exact cell_cells (by repeat (first | exact .head | apply In.tail | apply Take.tail | apply Upd.tail)) rfl | exact cell_rd (rd_sl (by repeat (first | exact .head | apply In.tail | apply Take.tail | apply Upd.tail))) (by first | exact bcells_at (by omega) | exact ucells_at (by omega) | exact icells_at (by omega) | exact tcells_at (by omega) | exact bcells_get (by omega) | exact icells_get (by omega) | exact tcells_get (by omega) | exact ucells_get (by omega)) | exact cell_rd (rd_old (by assumption) rfl) (by first | exact bcells_at (by omega) | exact ucells_at (by omega) | exact icells_at (by omega) | exact tcells_at (by omega) | exact bcells_get (by omega) | exact icells_get (by omega) | exact tcells_get (by omega) | exact ucells_get (by omega)) | exact cell_old (by assumption) (by simp [fps]))) ?_
  refine vl_val rfl (.some rfl) (val_seq rfl rfl) ?_
  refine vl_val rfl (.some rfl) (val_assign rfl) ?_
  refine vl_nil ?_
  refine vc_ret ?_
  refine ⟨_, [cells r1 [.string (sL rn), .string (sL rt), .slice Ad nd cd, .slice Am nm cm] 30, cells r2 [.string (sL tn), .slice A n c] 26], _, res1 Tryd.results36 rfl, (by repeat (first | exact .nil | (apply Sub.cons; · repeat (first | exact .head | apply Take.tail)))), ?_⟩
  exact ⟨by refine congrArg Value.bool ?_; rw [decide_eq_decide, sL_inj], rfl⟩
set_option maxRecDepth 20000 in
theorem xRol4 (r1 : Nat) (rn rt : List UInt8) (Ad : Option Addr) (nd cd : Nat) (Am : Option Addr) (nm cm : Nat) (w : World) : FnR Tryd.prog 37 [.pointer (some ⟨r1, 0, none⟩)] [cells r1 [.string (sL rn), .string (sL rt), .slice Ad nd cd, .slice Am nm cm] 30] (.bool (decide (nd ≤ 8 ∧ nm ≤ 16))) w := by
  refine fn_enter Tryd.func37 rfl Tryd.ntmps37 rfl ?_
  refine vc_seq ?_
  refine vc_region ?_
  refine vl_val rfl (.some rfl) (val_assign rfl) ?_
  refine vl_nil ?_
  refine vc_seq ?_
  refine vc_region ?_
  refine vl_val rfl (.some rfl) (by first | exact val_fieldAddr Tryd.runUnderlying30 rfl Tryd.sizeOf27 rfl | exact val_fieldAddrR Tryd.runUnderlying30 rfl Tryd.sizeOf27 rfl) ?_
  refine vl_val rfl (.some rfl) (val_load Tryd.isAgg27 rfl (by first | exact cell_cells (by repeat (first | exact .head | apply In.tail | apply Take.tail | apply Upd.tail)) rfl | exact cell_rd (rd_sl (by repeat (first | exact .head | apply In.tail | apply Take.tail | apply Upd.tail))) (by first | exact bcells_at (by omega) | exact ucells_at (by omega) | exact icells_at (by omega) | exact tcells_at (by omega) | exact bcells_get (by omega) | exact icells_get (by omega) | exact tcells_get (by omega) | exact ucells_get (by omega)) | exact cell_rd (rd_old (by assumption) rfl) (by first | exact bcells_at (by omega) | exact ucells_at (by omega) | exact icells_at (by omega) | exact tcells_at (by omega) | exact bcells_get (by omega) | exact icells_get (by omega) | exact tcells_get (by omega) | exact ucells_get (by omega)) | exact cell_old (by assumption) (by simp [fps]))) ?_
  refine vl_val rfl (.some rfl) (val_lenSl Tryd.runUnderlying27 rfl) ?_
  refine vl_val rfl (.some rfl) (val_le rfl rfl) ?_
  refine vl_val rfl (.some rfl) (val_move rfl) ?_
  refine vl_split (t := 6) rfl (fun hg6 => ?_) (fun hg6 => ?_)
  · (try replace hg6 := of_decide_eq_true hg6)
    refine vl_on rfl rfl rfl rfl ?_
    refine vl_val rfl (.some rfl) (by first | exact val_fieldAddr Tryd.runUnderlying30 rfl Tryd.sizeOf28 rfl | exact val_fieldAddrR Tryd.runUnderlying30 rfl Tryd.sizeOf28 rfl) ?_
    refine vl_on rfl rfl rfl rfl ?_
    refine vl_val rfl (.some rfl) (val_load Tryd.isAgg28 rfl (by first | exact cell_cells (by repeat (first | exact .head | apply In.tail | apply Take.tail | apply Upd.tail)) rfl | exact cell_rd (rd_sl (by repeat (first | exact .head | apply In.tail | apply Take.tail | apply Upd.tail))) (by first | exact bcells_at (by omega) | exact ucells_at (by omega) | exact icells_at (by omega) | exact tcells_at (by omega) | exact bcells_get (by omega) | exact icells_get (by omega) | exact tcells_get (by omega) | exact ucells_get (by omega)) | exact cell_rd (rd_old (by assumption) rfl) (by first | exact bcells_at (by omega) | exact ucells_at (by omega) | exact icells_at (by omega) | exact tcells_at (by omega) | exact bcells_get (by omega) | exact icells_get (by omega) | exact tcells_get (by omega) | exact ucells_get (by omega)) | exact cell_old (by assumption) (by simp [fps]))) ?_
    refine vl_on rfl rfl rfl rfl ?_
    refine vl_val rfl (.some rfl) (val_lenSl Tryd.runUnderlying28 rfl) ?_
    refine vl_on rfl rfl rfl rfl ?_
    refine vl_val rfl (.some rfl) (val_le rfl rfl) ?_
    refine vl_val rfl (.some rfl) (val_pick rfl rfl) ?_
    refine vl_val rfl (.some rfl) (val_assign rfl) ?_
    refine vl_nil ?_
    refine vc_ret ?_
    refine ⟨_, [cells r1 [.string (sL rn), .string (sL rt), .slice Ad nd cd, .slice Am nm cm] 30], _, res1 Tryd.results37 rfl, (by repeat (first | exact .nil | (apply Sub.cons; · repeat (first | exact .head | apply Take.tail)))), ?_⟩
    exact ⟨by refine congrArg Value.bool ?_; first | (rw [decide_eq_decide]; omega) | exact (decide_eq_false (by omega)).symm | exact (decide_eq_true (by omega)).symm, rfl⟩
  · (try replace hg6 := of_decide_eq_false hg6)
    refine vl_off rfl rfl rfl rfl (.some rfl) ?_
    refine vl_off rfl rfl rfl rfl (.some rfl) ?_
    refine vl_off rfl rfl rfl rfl (.some rfl) ?_
    refine vl_off rfl rfl rfl rfl (.some rfl) ?_
    refine vl_val rfl (.some rfl) (val_pick rfl rfl) ?_
    refine vl_val rfl (.some rfl) (val_assign rfl) ?_
    refine vl_nil ?_
    refine vc_ret ?_
    refine ⟨_, [cells r1 [.string (sL rn), .string (sL rt), .slice Ad nd cd, .slice Am nm cm] 30], _, res1 Tryd.results37 rfl, (by repeat (first | exact .nil | (apply Sub.cons; · repeat (first | exact .head | apply Take.tail)))), ?_⟩
    exact ⟨by refine congrArg Value.bool ?_; first | (rw [decide_eq_decide]; omega) | exact (decide_eq_false (by omega)).symm | exact (decide_eq_true (by omega)).symm, rfl⟩
set_option maxRecDepth 20000 in
theorem xRol5 (k : Int) (s : ByteArray) (w : World) : FnV Tryd.prog 39 [.agg #[.int .i64 k, .string s]] (.bool (decide (1 ≤ k ∧ k ≤ 7))) w := by
  refine fn_enter Tryd.func39 rfl Tryd.ntmps39 rfl ?_
  refine vc_seq ?_
  refine vc_region ?_
  refine vl_box rfl rfl (.some rfl) rfl (fun r1 => ?_)
  refine vl_val rfl (.some rfl) (val_assign rfl) ?_
  refine vl_nil ?_
  refine vc_seq ?_
  refine vc_region ?_
  refine vl_val rfl (.some rfl) (by first | exact val_fieldAddr Tryd.runUnderlying43 rfl Tryd.sizeOf3 rfl | exact val_fieldAddrR Tryd.runUnderlying43 rfl Tryd.sizeOf3 rfl) ?_
  refine vl_val rfl (.some rfl) (val_load Tryd.isAgg3 rfl (by first | exact cell_cells (by repeat (first | exact .head | apply In.tail | apply Take.tail | apply Upd.tail)) rfl | exact cell_rd (rd_sl (by repeat (first | exact .head | apply In.tail | apply Take.tail | apply Upd.tail))) (by first | exact bcells_at (by omega) | exact ucells_at (by omega) | exact icells_at (by omega) | exact tcells_at (by omega) | exact bcells_get (by omega) | exact icells_get (by omega) | exact tcells_get (by omega) | exact ucells_get (by omega)) | exact cell_rd (rd_old (by assumption) rfl) (by first | exact bcells_at (by omega) | exact ucells_at (by omega) | exact icells_at (by omega) | exact tcells_at (by omega) | exact bcells_get (by omega) | exact icells_get (by omega) | exact tcells_get (by omega) | exact ucells_get (by omega)) | exact cell_old (by assumption) (by simp [fps]))) ?_
  refine vl_val rfl (.some rfl) (val_ge rfl rfl) ?_
  refine vl_val rfl (.some rfl) (val_move rfl) ?_
  refine vl_split (t := 6) rfl (fun hg6 => ?_) (fun hg6 => ?_)
  · (try replace hg6 := of_decide_eq_true hg6)
    refine vl_on rfl rfl rfl rfl ?_
    refine vl_val rfl (.some rfl) (by first | exact val_fieldAddr Tryd.runUnderlying43 rfl Tryd.sizeOf3 rfl | exact val_fieldAddrR Tryd.runUnderlying43 rfl Tryd.sizeOf3 rfl) ?_
    refine vl_on rfl rfl rfl rfl ?_
    refine vl_val rfl (.some rfl) (val_load Tryd.isAgg3 rfl (by first | exact cell_cells (by repeat (first | exact .head | apply In.tail | apply Take.tail | apply Upd.tail)) rfl | exact cell_rd (rd_sl (by repeat (first | exact .head | apply In.tail | apply Take.tail | apply Upd.tail))) (by first | exact bcells_at (by omega) | exact ucells_at (by omega) | exact icells_at (by omega) | exact tcells_at (by omega) | exact bcells_get (by omega) | exact icells_get (by omega) | exact tcells_get (by omega) | exact ucells_get (by omega)) | exact cell_rd (rd_old (by assumption) rfl) (by first | exact bcells_at (by omega) | exact ucells_at (by omega) | exact icells_at (by omega) | exact tcells_at (by omega) | exact bcells_get (by omega) | exact icells_get (by omega) | exact tcells_get (by omega) | exact ucells_get (by omega)) | exact cell_old (by assumption) (by simp [fps]))) ?_
    refine vl_on rfl rfl rfl rfl ?_
    refine vl_val rfl (.some rfl) (val_le rfl rfl) ?_
    refine vl_val rfl (.some rfl) (val_pick rfl rfl) ?_
    refine vl_val rfl (.some rfl) (val_assign rfl) ?_
    refine vl_nil ?_
    refine vc_ret ?_
    refine ⟨_, [], _, res1 Tryd.results39 rfl, .nil, ?_⟩
    show Value.bool _ = Value.bool _
    refine congrArg Value.bool ?_
    first | (rw [decide_eq_decide]; omega) | exact (decide_eq_false (by omega)).symm | exact (decide_eq_true (by omega)).symm
  · (try replace hg6 := of_decide_eq_false hg6)
    refine vl_off rfl rfl rfl rfl (.some rfl) ?_
    refine vl_off rfl rfl rfl rfl (.some rfl) ?_
    refine vl_off rfl rfl rfl rfl (.some rfl) ?_
    refine vl_val rfl (.some rfl) (val_pick rfl rfl) ?_
    refine vl_val rfl (.some rfl) (val_assign rfl) ?_
    refine vl_nil ?_
    refine vc_ret ?_
    refine ⟨_, [], _, res1 Tryd.results39 rfl, .nil, ?_⟩
    show Value.bool _ = Value.bool _
    refine congrArg Value.bool ?_
    first | (rw [decide_eq_decide]; omega) | exact (decide_eq_false (by omega)).symm | exact (decide_eq_true (by omega)).symm
set_option maxRecDepth 20000 in
theorem xRol6 (q : Mq) (r1 : Nat) (g : Go.Fn) (fs cc : Array Value) (b : Bool) (w0 : World) (C : List Chunk) (h1 : w0.heap.size ≤ r1) (hC : ∀ k ∈ fps C, w0.heap.size ≤ k) (hA : Ans Tryd.prog w0 C (.func g fs cc) [.string (sL q.2)] (.bool b)) (w : World) (hw0 : Old w0 w) : FnR Tryd.prog 40 [meaA q, .pointer (some ⟨r1, 0, none⟩)] (cells r1 [.func g fs cc] 23 :: C) (.bool b) w := by
  have hM : ∀ k ∈ fps (cells r1 [.func g fs cc] 23 :: C), w0.heap.size ≤ k := by
    intro k hk
    rw [fps_cons] at hk
    simp only [cells, List.mem_append, List.mem_singleton] at hk
    rcases hk with hk | hk
    · omega
    · exact hC k hk
  refine fn_enter Tryd.func40 rfl Tryd.ntmps40 rfl ?_
  refine vc_seq ?_
  refine vc_region ?_
  refine vl_box rfl rfl (.some rfl) rfl (fun r2 => ?_)
  refine vl_val rfl (.some rfl) (val_assign rfl) ?_
  refine vl_nil ?_
  refine vc_seq ?_
  refine vc_region ?_
  refine vl_val rfl (.some rfl) (val_load Tryd.isAgg23 rfl (by first | exact cell_cells (by repeat (first | exact .head | apply In.tail | apply Take.tail | apply Upd.tail)) rfl | exact cell_rd (rd_sl (by repeat (first | exact .head | apply In.tail | apply Take.tail | apply Upd.tail))) (by first | exact bcells_at (by omega) | exact ucells_at (by omega) | exact icells_at (by omega) | exact tcells_at (by omega) | exact bcells_get (by omega) | exact icells_get (by omega) | exact tcells_get (by omega) | exact ucells_get (by omega)) | exact cell_rd (rd_old (by assumption) rfl) (by first | exact bcells_at (by omega) | exact ucells_at (by omega) | exact icells_at (by omega) | exact tcells_at (by omega) | exact bcells_get (by omega) | exact icells_get (by omega) | exact tcells_get (by omega) | exact ucells_get (by omega)) | exact cell_old (by assumption) (by simp [fps]))) ?_
  refine vl_val rfl (.some rfl) (by first | exact val_fieldAddr Tryd.runUnderlying43 rfl Tryd.sizeOf9 rfl | exact val_fieldAddrR Tryd.runUnderlying43 rfl Tryd.sizeOf9 rfl) ?_
  refine vl_val rfl (.some rfl) (val_load Tryd.isAgg9 rfl (by first | exact cell_cells (by repeat (first | exact .head | apply In.tail | apply Take.tail | apply Upd.tail)) rfl | exact cell_rd (rd_sl (by repeat (first | exact .head | apply In.tail | apply Take.tail | apply Upd.tail))) (by first | exact bcells_at (by omega) | exact ucells_at (by omega) | exact icells_at (by omega) | exact tcells_at (by omega) | exact bcells_get (by omega) | exact icells_get (by omega) | exact tcells_get (by omega) | exact ucells_get (by omega)) | exact cell_rd (rd_old (by assumption) rfl) (by first | exact bcells_at (by omega) | exact ucells_at (by omega) | exact icells_at (by omega) | exact tcells_at (by omega) | exact bcells_get (by omega) | exact icells_get (by omega) | exact tcells_get (by omega) | exact ucells_get (by omega)) | exact cell_old (by assumption) (by simp [fps]))) ?_
  refine vl_callAns (C := C) rfl rfl (.some rfl) rfl rfl (sub_skip (sub_skip (sub_self _))) hw0 hM hA ?_
  refine vl_val rfl (.some rfl) (val_assign rfl) ?_
  refine vl_nil ?_
  refine vc_ret ?_
  refine ⟨_, cells r1 [.func g fs cc] 23 :: C, _, res1 Tryd.results40 rfl, (by first | exact sub_self _ | exact sub_skip (sub_self _) | exact sub_skip (sub_skip (sub_self _))), ?_⟩
  exact ⟨rfl, rfl⟩
set_option maxRecDepth 20000 in
theorem xRol7 (q : Mq) (r1 : Nat) (A : Option Addr) (n c : Nat) (cs : List Cq) (hn : cs.length = n) (hn2 : n < 9223372036854775808) (nm0 : ByteArray) (w0 : World) (h1 : w0.heap.size ≤ r1) (hr : Reads w0 A (cs.flatMap colV)) (w : World) (hw0 : Old w0 w) : FnR Tryd.prog 42 [meaA q, .pointer (some ⟨r1, 0, none⟩)] [cells r1 [.string nm0, .slice A n c] 26] (.bool (decide (fitP q.1 (colK cs q.2)))) w := by
  have hM : ∀ k ∈ fps [cells r1 [.string nm0, .slice A n c] 26], w0.heap.size ≤ k := by
    intro k hk
    simp only [fps_cons, cells, List.mem_append, List.mem_singleton] at hk
    rcases hk with hk | hk
    · omega
    · simp [fps] at hk
  refine fn_enter Tryd.func42 rfl Tryd.ntmps42 rfl ?_
  refine vc_seq ?_
  refine vc_region ?_
  refine vl_box rfl rfl (.some rfl) rfl (fun r2 => ?_)
  refine vl_val rfl (.some rfl) (val_assign rfl) ?_
  refine vl_nil ?_
  refine vc_seq ?_
  refine vc_region ?_
  refine vl_val rfl (.some rfl) (val_loadAgg Tryd.isAgg26 Tryd.sizeOf26 rfl (by first | exact cells_whole (by repeat (first | exact .head | apply In.tail | apply Take.tail | apply Upd.tail)) | exact cells_part (by repeat (first | exact .head | apply In.tail | apply Take.tail | apply Upd.tail)) rfl) rfl) ?_
  refine vl_val rfl (.some rfl) (by first | exact val_fieldAddr Tryd.runUnderlying43 rfl Tryd.sizeOf9 rfl | exact val_fieldAddrR Tryd.runUnderlying43 rfl Tryd.sizeOf9 rfl) ?_
  refine vl_val rfl (.some rfl) (val_load Tryd.isAgg9 rfl (by first | exact cell_cells (by repeat (first | exact .head | apply In.tail | apply Take.tail | apply Upd.tail)) rfl | exact cell_rd (rd_sl (by repeat (first | exact .head | apply In.tail | apply Take.tail | apply Upd.tail))) (by first | exact bcells_at (by omega) | exact ucells_at (by omega) | exact icells_at (by omega) | exact tcells_at (by omega) | exact bcells_get (by omega) | exact icells_get (by omega) | exact tcells_get (by omega) | exact ucells_get (by omega)) | exact cell_rd (rd_old (by assumption) rfl) (by first | exact bcells_at (by omega) | exact ucells_at (by omega) | exact icells_at (by omega) | exact tcells_at (by omega) | exact bcells_get (by omega) | exact icells_get (by omega) | exact tcells_get (by omega) | exact ucells_get (by omega)) | exact cell_old (by assumption) (by simp [fps]))) ?_
  refine vl_callV rfl rfl (.some rfl) Tryd.call11 rfl (fun w2 hw => xColumn A n c cs hn hn2 nm0 q.2 w2 ((old_here hw0 hM hw).reads hr)) ?_
  refine vl_val rfl (.some rfl) (val_move rfl) ?_
  refine vl_val rfl (.some rfl) (val_extract rfl rfl) ?_
  refine vl_val rfl (.some rfl) (val_extract rfl rfl) ?_
  refine vl_val rfl (.some rfl) (val_extract rfl rfl) ?_
  refine vl_val rfl (.some rfl) (val_assign rfl) ?_
  refine vl_val rfl (.some rfl) (val_assign rfl) ?_
  refine vl_val rfl (.some rfl) (val_assign rfl) ?_
  refine vl_nil ?_
  refine vc_seq ?_
  refine vc_region ?_
  refine vl_val rfl (.some rfl) (val_loadAgg Tryd.isAgg43 Tryd.sizeOf43 rfl (by first | exact cells_whole (by repeat (first | exact .head | apply In.tail | apply Take.tail | apply Upd.tail)) | exact cells_part (by repeat (first | exact .head | apply In.tail | apply Take.tail | apply Upd.tail)) rfl) rfl) ?_
  refine vl_val rfl (.some rfl) (val_move rfl) ?_
  refine vl_callV rfl rfl (.some rfl) Tryd.call43 rfl (fun w hw => xFits q.1 (sL q.2) (colK cs q.2) w) ?_
  refine vl_val rfl (.some rfl) (val_assign rfl) ?_
  refine vl_nil ?_
  refine vc_ret ?_
  refine ⟨_, [cells r1 [.string nm0, .slice A n c] 26], _, res1 Tryd.results42 rfl, (by repeat (first | exact .nil | (apply Sub.cons; · repeat (first | exact .head | apply Take.tail)))), ?_⟩
  exact ⟨rfl, rfl⟩


end Go.Proofs.YtdehjgpdcdjhjaaDoor.K
