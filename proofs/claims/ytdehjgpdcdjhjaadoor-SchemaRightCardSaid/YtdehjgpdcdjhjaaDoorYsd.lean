/- Walks of the program's functions, printed by a program of this session; Lean checks them. -/
import Derived.Test.YtdehjgpdcdjhjaaDoorMi
import Derived.Test.YtdehjgpdcdjhjaaDoorYsa
namespace Go.Proofs.YtdehjgpdcdjhjaaDoor.K
open Go Go.RowKit Go.Proofs
set_option linter.unusedVariables false
set_option linter.unusedSimpArgs false


set_option maxRecDepth 20000 in
theorem xUnless (g : Go.Fn) (fs cs : Array Value) (e : Int) (w : World) : Fn Tryd.prog 27 [.func g fs cs, .int .i64 e] [] (ret fun v H' => ∃ r2 r3, v = .func (.func 47) #[] #[.pointer (some ⟨r2, 0, none⟩), .pointer (some ⟨r3, 0, none⟩)] ∧ H' = [cells r2 [.func g fs cs] 22, cells r3 [.int .i64 e] 33]) w := by
  refine fn_enter Tryd.func27 rfl Tryd.ntmps27 rfl ?_
  refine vc_seq ?_
  refine vc_region ?_
  refine vl_box rfl rfl (.some rfl) rfl (fun r2 => ?_)
  refine vl_box rfl rfl (.some rfl) rfl (fun r3 => ?_)
  refine vl_val rfl (.some rfl) (val_assign rfl) ?_
  refine vl_nil ?_
  refine vc_seq ?_
  refine vc_region ?_
  refine vl_val rfl (.some rfl) (val_mkFunc rfl rfl) ?_
  refine vl_val rfl (.some rfl) (val_assign rfl) ?_
  refine vl_nil ?_
  refine vc_ret ?_
  refine ⟨_, [cells r2 [.func g fs cs] 22, cells r3 [.int .i64 e] 33], _, res1 Tryd.results27 rfl, (by repeat (first | exact .nil | (apply Sub.cons; · repeat (first | exact .head | apply Take.tail)))), ?_⟩
  exact ⟨r2, r3, rfl, rfl⟩
set_option maxRecDepth 20000 in
theorem xUnless1 (g : Go.Fn) (fs cs : Array Value) (e : Int) (r2 r3 : Nat) (b : Bool) (w0 : World) (C : List Chunk) (h2 : w0.heap.size ≤ r2) (h3 : w0.heap.size ≤ r3) (hC : ∀ k ∈ fps C, w0.heap.size ≤ k) (hA : Ans Tryd.prog w0 C (.func g fs cs) [] (.bool b)) (w : World) (hw0 : Old w0 w) : FnR Tryd.prog 47 [.pointer (some ⟨r2, 0, none⟩), .pointer (some ⟨r3, 0, none⟩)] ([cells r2 [.func g fs cs] 22, cells r3 [.int .i64 e] 33] ++ C) (.int .i64 (if b = true then 0 else e)) w := by
  have hM : ∀ k ∈ fps ([cells r2 [.func g fs cs] 22, cells r3 [.int .i64 e] 33] ++ C), w0.heap.size ≤ k := by
    intro k hk
    rw [List.cons_append, List.cons_append, List.nil_append, fps_cons, fps_cons] at hk
    simp only [cells, List.mem_append, List.mem_singleton] at hk
    rcases hk with hk | hk | hk
    · omega
    · omega
    · exact hC k hk
  refine fn_enter Tryd.func47 rfl Tryd.ntmps47 rfl ?_
  refine vc_seq ?_
  refine vc_region ?_
  refine vl_val rfl (.some rfl) (val_assign rfl) ?_
  refine vl_nil ?_
  refine vc_seq ?_
  refine vc_seq ?_
  refine vc_region ?_
  refine vl_val rfl (.some rfl) (val_load Tryd.isAgg22 rfl (by first | exact cell_cells (by repeat (first | exact .head | apply In.tail | apply Take.tail | apply Upd.tail)) rfl | exact cell_rd (rd_sl (by repeat (first | exact .head | apply In.tail | apply Take.tail | apply Upd.tail))) (by first | exact bcells_at (by omega) | exact ucells_at (by omega) | exact icells_at (by omega) | exact tcells_at (by omega) | exact bcells_get (by omega) | exact icells_get (by omega) | exact tcells_get (by omega) | exact ucells_get (by omega)) | exact cell_rd (rd_old (by assumption) rfl) (by first | exact bcells_at (by omega) | exact ucells_at (by omega) | exact icells_at (by omega) | exact tcells_at (by omega) | exact bcells_get (by omega) | exact icells_get (by omega) | exact tcells_get (by omega) | exact ucells_get (by omega)) | exact cell_old (by assumption) (by simp [fps]))) ?_
  refine vl_callAns (C := C) rfl rfl (.some rfl) rfl rfl (sub_skip (sub_skip (sub_self _))) hw0 hM hA ?_
  refine vl_nil ?_
  refine vc_cond rfl (fun hc0 => ?_) (fun hc0 => ?_)
  · (try replace hc0 := of_decide_eq_true hc0)
    refine vc_seq ?_
    refine vc_region ?_
    refine vl_val rfl (.some rfl) (val_assign rfl) ?_
    refine vl_nil ?_
    refine vc_ret ?_
    refine ⟨_, [cells r2 [.func g fs cs] 22, cells r3 [.int .i64 e] 33] ++ C, _, res1 Tryd.results47 rfl, (by first | exact sub_self _ | exact sub_skip (sub_self _) | exact sub_skip (sub_skip (sub_self _))), ?_⟩
    exact ⟨by rw [if_pos (by assumption)], rfl⟩
  · (try replace hc0 := of_decide_eq_false hc0)
    refine vc_skip ?_
    refine vc_seq ?_
    refine vc_region ?_
    refine vl_val rfl (.some rfl) (val_load Tryd.isAgg33 rfl (by first | exact cell_cells (by repeat (first | exact .head | apply In.tail | apply Take.tail | apply Upd.tail)) rfl | exact cell_rd (rd_sl (by repeat (first | exact .head | apply In.tail | apply Take.tail | apply Upd.tail))) (by first | exact bcells_at (by omega) | exact ucells_at (by omega) | exact icells_at (by omega) | exact tcells_at (by omega) | exact bcells_get (by omega) | exact icells_get (by omega) | exact tcells_get (by omega) | exact ucells_get (by omega)) | exact cell_rd (rd_old (by assumption) rfl) (by first | exact bcells_at (by omega) | exact ucells_at (by omega) | exact icells_at (by omega) | exact tcells_at (by omega) | exact bcells_get (by omega) | exact icells_get (by omega) | exact tcells_get (by omega) | exact ucells_get (by omega)) | exact cell_old (by assumption) (by simp [fps]))) ?_
    refine vl_val rfl (.some rfl) (val_assign rfl) ?_
    refine vl_nil ?_
    refine vc_ret ?_
    refine ⟨_, [cells r2 [.func g fs cs] 22, cells r3 [.int .i64 e] 33] ++ C, _, res1 Tryd.results47 rfl, (by first | exact sub_self _ | exact sub_skip (sub_self _) | exact sub_skip (sub_skip (sub_self _))), ?_⟩
    exact ⟨by first | rw [if_neg (by assumption)] | rw [if_neg (by simpa using hc0)], rfl⟩
set_option maxRecDepth 20000 in
theorem xFirst (A : Option Addr) (n c : Nat) (qs : List Value) (es : List Int) (hn : qs.length = n) (hne : es.length = n) (hn2 : n ≤ 1000) (w0 : World) (C : List Chunk) (hC : ∀ k ∈ fps (sl A n c 57 1 qs :: C), w0.heap.size ≤ k) (hA : ∀ i, i < n → Ans Tryd.prog w0 C (qs.getD i (.bool false)) [] (.int .i64 (es.getD i 0))) (w : World) (hw0 : Old w0 w) : FnR Tryd.prog 26 [.slice A n c] (sl A n c 57 1 qs :: C) (.int .i64 (firstE es)) w := by
  refine fn_enter Tryd.func26 rfl Tryd.ntmps26 rfl ?_
  refine vc_seq ?_
  refine vc_region ?_
  refine vl_val rfl (.some rfl) (val_assign rfl) ?_
  refine vl_nil ?_
  refine vc_seq ?_
  refine vc_seq ?_
  refine vc_region ?_
  refine vl_val rfl (.some rfl) (val_move rfl) ?_
  refine vl_val rfl (.some rfl) (val_lenSl Tryd.runUnderlying69 rfl) ?_
  refine vl_val rfl (.some rfl) (val_move rfl) ?_
  refine vl_nil ?_
  refine vc_block ?_
  refine vc_loopw (fun m E H => ∃ i : Nat, i ≤ n ∧ m = n - i ∧ (∀ j, j < i → es.getD j 0 = 0) ∧ E = [(6, .slice A n c), (7, .int .i64 n), (8, .int .i64 i)] ∧ H = sl A n c 57 1 qs :: C) (n) ⟨_, _, _, ⟨0, by omega, rfl, fun j hj => absurd hj (by omega), rfl, rfl⟩, (by repeat (first | exact trivial | refine ⟨rfl, ?_⟩ | refine ⟨le_item rfl (by first | rfl | (congr 1; omega) | (simp; done) | (simp; omega)), ?_⟩)), (by repeat (first | exact .nil | exact sub_self _ | exact sub_skip (sub_self _) | exact sub_skip (sub_skip (sub_self _)) | exact sub_skip (sub_skip (sub_skip (sub_self _))) | (apply Sub.cons; · repeat (first | exact .head | apply Take.tail))))⟩ ?_
  intro m E H hI
  obtain ⟨i, hi, rfl, hz, rfl, rfl⟩ := hI
  refine vc_seq ?_
  refine vc_region ?_
  refine vl_val rfl (.some rfl) (val_lt rfl rfl) ?_
  refine vl_nil ?_
  refine vc_seq ?_
  refine vc_cond rfl (fun hc0 => ?_) (fun hc0 => ?_)
  · (try replace hc0 := of_decide_eq_true hc0)
    refine vc_skip ?_
    refine vc_seq ?_
    refine vc_block ?_
    refine vc_seq ?_
    refine vc_region ?_
    refine vl_val rfl (.some rfl) (val_indexAddr Tryd.runUnderlying69 Tryd.sizeOf57 rfl rfl (rd_sl (vs := qs) .head) (by omega) (by omega) (by rw [Int.toNat_natCast]; omega)) ?_
    refine vl_val rfl (.some rfl) (val_load Tryd.isAgg57 rfl (cell_rd (rd_sl (vs := qs) .head) (show _ = some (qs.getD i (.bool false)) by rw [Int.toNat_natCast, Nat.mul_one]; simp [List.getD, show i < qs.length by omega]))) ?_
    refine vl_val rfl (.some rfl) (val_assign rfl) ?_
    refine vl_nil ?_
    refine vc_seq ?_
    refine vc_region ?_
    refine vl_val rfl (.some rfl) (val_move rfl) ?_
    refine vl_callAns (C := C) rfl rfl (.some rfl) rfl rfl (sub_skip (sub_self _)) hw0 hC (hA i (by omega)) ?_
    refine vl_val rfl (.some rfl) (val_assign rfl) ?_
    refine vl_nil ?_
    refine vc_seq ?_
    refine vc_region ?_
    refine vl_val rfl (.some rfl) (val_move rfl) ?_
    refine vl_val rfl (.some rfl) (val_ne rfl rfl) ?_
    refine vl_nil ?_
    refine vc_cond rfl (fun hc1 => ?_) (fun hc1 => ?_)
    · (try replace hc1 := of_decide_eq_true hc1)
      refine vc_seq ?_
      refine vc_region ?_
      refine vl_val rfl (.some rfl) (val_move rfl) ?_
      refine vl_val rfl (.some rfl) (val_assign rfl) ?_
      refine vl_nil ?_
      refine vc_ret ?_
      refine ⟨_, sl A n c 57 1 qs :: C, _, res1 Tryd.results26 rfl, (by first | exact sub_self _ | exact sub_skip (sub_self _) | exact sub_skip (sub_skip (sub_self _))), ?_⟩
      exact ⟨by rw [firstE_step (i := i) (by omega) hz (by omega)], rfl⟩
    · (try replace hc1 := of_decide_eq_false hc1)
      refine vc_skip ?_
      refine vc_region ?_
      refine vl_val rfl (.some rfl) (val_add rfl rfl (by first | exact w_i64 (by omega) (by omega) | rfl)) ?_
      refine vl_val rfl (.some rfl) (val_move rfl) ?_
      refine vl_nil ?_
      exact ⟨(n - (i + 1)), _, _, _, by omega, (by repeat (first | exact trivial | refine ⟨rfl, ?_⟩ | refine ⟨le_item rfl (by first | rfl | (congr 1; omega) | (simp; done) | (simp; omega)), ?_⟩)), (by repeat (first | exact .nil | exact sub_self _ | exact sub_skip (sub_self _) | exact sub_skip (sub_skip (sub_self _)) | exact sub_skip (sub_skip (sub_skip (sub_self _))) | (apply Sub.cons; · repeat (first | exact .head | apply Take.tail)))), ⟨i + 1, by omega, rfl, fun j hj => by
        rcases Nat.lt_or_ge j i with h | h
        · exact hz j h
        · obtain rfl : j = i := by omega
          omega, rfl, rfl⟩⟩
  · (try replace hc0 := of_decide_eq_false hc0)
    refine vc_exit ?_
    refine vc_seq ?_
    refine vc_region ?_
    refine vl_val rfl (.some rfl) (val_assign rfl) ?_
    refine vl_nil ?_
    refine vc_ret ?_
    refine ⟨_, sl A n c 57 1 qs :: C, _, res1 Tryd.results26 rfl, (by first | exact sub_self _ | exact sub_skip (sub_self _) | exact sub_skip (sub_skip (sub_self _))), ?_⟩
    exact ⟨by rw [firstE_zero (fun j hj => hz j (by omega))], rfl⟩




set_option maxRecDepth 20000 in
theorem xIdxF (A : Option Addr) (n c : Nat) (xs : List Value) (hn : xs.length = n) (hn2 : n < 9223372036854775808) (g : Go.Fn) (fs cs : Array Value) (p : Nat → Bool) (w0 : World) (C : List Chunk) (hC : ∀ k ∈ fps C, w0.heap.size ≤ k) (hR : ∀ w, Old w0 w → (∀ k ∈ C, k.A w) → Reads w A xs) (hA : ∀ i, i < n → Ans Tryd.prog w0 C (.func g fs cs) [xs.getD i (.bool false)] (.bool (p i))) (w : World) (hw0 : Old w0 w) : Fn Tryd.prog 63 [.slice A n c, .func g fs cs] C (ret fun u H' => ∃ q : Int, u = .int .i64 q ∧ (0 ≤ q ↔ ∃ i, i < n ∧ p i = true) ∧ H' = C) w := by
  refine fn_enter Tryd.func63 rfl Tryd.ntmps63 rfl ?_
  refine vc_seq ?_
  refine vc_region ?_
  refine vl_val rfl (.some rfl) (val_assign rfl) ?_
  refine vl_nil ?_
  refine vc_seq ?_
  refine vc_seq ?_
  refine vc_region ?_
  refine vl_val rfl (.some rfl) (val_move rfl) ?_
  refine vl_val rfl (.some rfl) (val_lenSl Tryd.runUnderlying27 rfl) ?_
  refine vl_val rfl (.some rfl) (val_move rfl) ?_
  refine vl_nil ?_
  refine vc_block ?_
  refine vc_loopw (fun m E H => ∃ i : Nat, i ≤ n ∧ m = n - i ∧ (∀ j, j < i → p j = false) ∧ E = [(0, .slice A n c), (1, .func g fs cs), (7, .int .i64 n), (8, .int .i64 i)] ∧ H = C) (n) ⟨_, _, _, ⟨0, by omega, rfl, fun j hj => absurd hj (by omega), rfl, rfl⟩, (by repeat (first | exact trivial | refine ⟨rfl, ?_⟩ | refine ⟨le_item rfl (by first | rfl | (congr 1; omega) | (simp; done) | (simp; omega)), ?_⟩)), (by repeat (first | exact .nil | exact sub_self _ | exact sub_skip (sub_self _) | exact sub_skip (sub_skip (sub_self _)) | exact sub_skip (sub_skip (sub_skip (sub_self _))) | (apply Sub.cons; · repeat (first | exact .head | apply Take.tail))))⟩ ?_
  intro m E H hI
  obtain ⟨i, hi, rfl, hz, rfl, hHC⟩ := hI
  rw [hHC]
  refine vc_seq ?_
  refine vc_region ?_
  refine vl_val rfl (.some rfl) (val_lt rfl rfl) ?_
  refine vl_nil ?_
  refine vc_seq ?_
  refine vc_cond rfl (fun hc0 => ?_) (fun hc0 => ?_)
  · (try replace hc0 := of_decide_eq_true hc0)
    refine vc_skip ?_
    refine vc_seq ?_
    refine vc_block ?_
    refine vc_seq ?_
    refine vc_region ?_
    refine vl_val rfl (.some rfl) (val_move rfl) ?_
    refine vl_val rfl (.some rfl) (val_assign rfl) ?_
    refine vl_nil ?_
    refine vc_seq ?_
    refine vc_region ?_
    refine vl_val rfl (.some rfl) (val_move rfl) ?_
    refine vl_val rfl (.some rfl) (val_move rfl) ?_
    refine vl_val rfl (.some rfl) (val_move rfl) ?_
    refine vl_val rfl (.some rfl) (val_indexAddr Tryd.runUnderlying27 Tryd.sizeOf9 rfl rfl (vs := xs) (rd_ans hR hw0 hC (fun _ h => h)) (by omega) (by omega) (by rw [Int.toNat_natCast]; omega)) ?_
    refine vl_val rfl (.some rfl) (val_load Tryd.isAgg9 rfl (cell_rd (rd_ans hR hw0 hC (fun _ h => h)) (show _ = some (xs.getD i (.bool false)) by rw [Int.toNat_natCast, Nat.mul_one]; simp [List.getD, show i < xs.length by omega]))) ?_
    refine vl_callAns (C := C) rfl rfl (.some rfl) rfl rfl (sub_self _) hw0 hC (hA i (by omega)) ?_
    refine vl_nil ?_
    refine vc_cond rfl (fun hc1 => ?_) (fun hc1 => ?_)
    · (try replace hc1 := of_decide_eq_true hc1)
      refine vc_seq ?_
      refine vc_region ?_
      refine vl_val rfl (.some rfl) (val_move rfl) ?_
      refine vl_val rfl (.some rfl) (val_assign rfl) ?_
      refine vl_nil ?_
      refine vc_ret ?_
      refine ⟨_, C, _, res1 Tryd.results63 rfl, (by first | exact sub_self _ | exact sub_skip (sub_self _) | exact sub_skip (sub_skip (sub_self _))), ?_⟩
      exact ⟨_, rfl, ⟨fun _ => ⟨i, by omega, hc1⟩, fun _ => by omega⟩, rfl⟩
    · (try replace hc1 := of_decide_eq_false hc1)
      refine vc_skip ?_
      refine vc_region ?_
      refine vl_val rfl (.some rfl) (val_add rfl rfl (by first | exact w_i64 (by omega) (by omega) | rfl)) ?_
      refine vl_val rfl (.some rfl) (val_move rfl) ?_
      refine vl_nil ?_
      exact ⟨(n - (i + 1)), _, _, _, by omega, (by repeat (first | exact trivial | refine ⟨rfl, ?_⟩ | refine ⟨le_item rfl (by first | rfl | (congr 1; omega) | (simp; done) | (simp; omega)), ?_⟩)), (by repeat (first | exact .nil | exact sub_self _ | exact sub_skip (sub_self _) | exact sub_skip (sub_skip (sub_self _)) | exact sub_skip (sub_skip (sub_skip (sub_self _))) | (apply Sub.cons; · repeat (first | exact .head | apply Take.tail)))), ⟨i + 1, by omega, rfl, fun j hj => by
        rcases Nat.lt_or_ge j i with h | h
        · exact hz j h
        · obtain rfl : j = i := by omega
          exact hc1, rfl, rfl⟩⟩
  · (try replace hc0 := of_decide_eq_false hc0)
    refine vc_exit ?_
    refine vc_seq ?_
    refine vc_region ?_
    refine vl_val rfl (.some rfl) (val_assign rfl) ?_
    refine vl_nil ?_
    refine vc_ret ?_
    refine ⟨_, C, _, res1 Tryd.results63 rfl, (by first | exact sub_self _ | exact sub_skip (sub_self _) | exact sub_skip (sub_skip (sub_self _))), ?_⟩
    exact ⟨_, rfl, ⟨fun h => absurd h (by omega), fun ⟨j, h1, h2⟩ => by rw [hz j (by omega)] at h2; cases h2⟩, rfl⟩
set_option maxRecDepth 20000 in
theorem xHasF (A : Option Addr) (n c : Nat) (xs : List Value) (hn : xs.length = n) (hn2 : n < 9223372036854775808) (g : Go.Fn) (fs cs : Array Value) (p : Nat → Bool) (w0 : World) (C : List Chunk) (hC : ∀ k ∈ fps C, w0.heap.size ≤ k) (hR : ∀ w, Old w0 w → (∀ k ∈ C, k.A w) → Reads w A xs) (hA : ∀ i, i < n → Ans Tryd.prog w0 C (.func g fs cs) [xs.getD i (.bool false)] (.bool (p i))) (w : World) (hw0 : Old w0 w) (b : Bool) (hb : b = true ↔ ∃ i, i < n ∧ p i = true) : FnR Tryd.prog 49 [.slice A n c, .func g fs cs] C (.bool b) w := by
  refine fn_enter Tryd.func49 rfl Tryd.ntmps49 rfl ?_
  refine vc_seq ?_
  refine vc_region ?_
  refine vl_val rfl (.some rfl) (val_assign rfl) ?_
  refine vl_nil ?_
  refine vc_seq ?_
  refine vc_region ?_
  refine vl_val rfl (.some rfl) (val_move rfl) ?_
  refine vl_val rfl (.some rfl) (val_move rfl) ?_
  refine vl_call (C := C) rfl rfl (.some rfl) Tryd.call63 rfl (sub_self _) (fun w hw => xIdxF A n c xs hn hn2 g fs cs p w0 C hC hR hA w (old_here hw0 hC hw)) (fun u H' h => ?_)
  obtain ⟨q, rfl, hq, hHC⟩ := h
  rw [hHC, List.append_nil]
  refine vl_val rfl (.some rfl) (val_ge rfl rfl) ?_
  refine vl_val rfl (.some rfl) (val_assign rfl) ?_
  refine vl_nil ?_
  refine vc_ret ?_
  refine ⟨_, C, _, res1 Tryd.results49 rfl, (by first | exact sub_self _ | exact sub_skip (sub_self _) | exact sub_skip (sub_skip (sub_self _))), ?_⟩
  exact ⟨by refine congrArg Value.bool ?_; rw [Bool.eq_iff_iff, decide_eq_true_eq]; exact hq.trans hb.symm, rfl⟩
set_option maxRecDepth 20000 in
theorem xEv11 (x : Value) (hx : x.oneCell' = true) (g : Go.Fn) (fs cs : Array Value) (r3 : Nat) (b : Bool) (w0 : World) (C : List Chunk) (h3 : w0.heap.size ≤ r3) (hC : ∀ k ∈ fps C, w0.heap.size ≤ k) (hA : Ans Tryd.prog w0 C (.func g fs cs) [x] (.bool b)) (w : World) (hw0 : Old w0 w) : FnR Tryd.prog 50 [x, .pointer (some ⟨r3, 0, none⟩)] (cells r3 [.func g fs cs] 23 :: C) (.bool (!b)) w := by
  have hM : ∀ k ∈ fps (cells r3 [.func g fs cs] 23 :: C), w0.heap.size ≤ k := by
    intro k hk
    rw [fps_cons] at hk
    simp only [cells, List.mem_append, List.mem_singleton] at hk
    rcases hk with hk | hk
    · omega
    · exact hC k hk
  refine fn_enter Tryd.func50 rfl Tryd.ntmps50 rfl ?_
  refine vc_seq ?_
  refine vc_region ?_
  refine vl_val rfl (.some rfl) (val_assign rfl) ?_
  refine vl_nil ?_
  refine vc_seq ?_
  refine vc_region ?_
  refine vl_val rfl (.some rfl) (val_load Tryd.isAgg23 rfl (by first | exact cell_cells (by repeat (first | exact .head | apply In.tail | apply Take.tail | apply Upd.tail)) rfl | exact cell_rd (rd_sl (by repeat (first | exact .head | apply In.tail | apply Take.tail | apply Upd.tail))) (by first | exact bcells_at (by omega) | exact ucells_at (by omega) | exact icells_at (by omega) | exact tcells_at (by omega) | exact bcells_get (by omega) | exact icells_get (by omega) | exact tcells_get (by omega) | exact ucells_get (by omega)) | exact cell_rd (rd_old (by assumption) rfl) (by first | exact bcells_at (by omega) | exact ucells_at (by omega) | exact icells_at (by omega) | exact tcells_at (by omega) | exact bcells_get (by omega) | exact icells_get (by omega) | exact tcells_get (by omega) | exact ucells_get (by omega)) | exact cell_old (by assumption) (by simp [fps]))) ?_
  refine vl_val rfl (.some rfl) (val_move rfl) ?_
  refine vl_callAns (C := C) rfl rfl (.some rfl) rfl rfl (sub_skip (sub_self _)) hw0 hM hA ?_
  refine vl_val rfl (.some rfl) (val_not rfl) ?_
  refine vl_val rfl (.some rfl) (val_assign rfl) ?_
  refine vl_nil ?_
  refine vc_ret ?_
  refine ⟨_, cells r3 [.func g fs cs] 23 :: C, _, res1 Tryd.results50 rfl, (by first | exact sub_self _ | exact sub_skip (sub_self _) | exact sub_skip (sub_skip (sub_self _))), ?_⟩
  exact ⟨rfl, rfl⟩




theorem every_not {n : Nat} {p : Nat → Bool} {b : Bool} (h : b = true ↔ ∀ i, i < n → p i = true) : (!b) = true ↔ ∃ i, i < n ∧ (!p i) = true := by
  constructor
  · intro hb
    refine Classical.byContradiction fun hc => ?_
    have : b = true := h.2 fun i hi => by
      cases hp : p i with
      | true => rfl
      | false => exact absurd ⟨i, hi, by rw [hp]; rfl⟩ hc
    rw [this] at hb; cases hb
  · rintro ⟨i, hi, hp⟩
    cases hb : b with
    | false => rfl
    | true => rw [h.1 hb i hi] at hp; cases hp

set_option maxRecDepth 20000 in
theorem xEv1 (r2 r3 : Nat) (A : Option Addr) (n c : Nat) (xs : List Value) (hn : xs.length = n) (hn2 : n < 9223372036854775808) (hx1 : ∀ i, i < n → (xs.getD i (.bool false)).oneCell' = true) (g : Go.Fn) (fs cs : Array Value) (p : Nat → Bool) (w0 : World) (C : List Chunk) (h2 : w0.heap.size ≤ r2) (h3 : w0.heap.size ≤ r3) (hC : ∀ k ∈ fps C, w0.heap.size ≤ k) (hR : ∀ w, Old w0 w → (∀ k ∈ C, k.A w) → Reads w A xs) (hA : ∀ i, i < n → Ans Tryd.prog w0 C (.func g fs cs) [xs.getD i (.bool false)] (.bool (p i))) (b : Bool) (hb : b = true ↔ ∀ i, i < n → p i = true) (w : World) (hw0 : Old w0 w) : FnR Tryd.prog 48 [.pointer (some ⟨r2, 0, none⟩), .pointer (some ⟨r3, 0, none⟩)] (cells r2 [.slice A n c] 27 :: cells r3 [.func g fs cs] 23 :: C) (.bool b) w := by
  have hM2 : ∀ k ∈ fps (cells r3 [.func g fs cs] 23 :: C), w0.heap.size ≤ k := by
    intro k hk
    rw [fps_cons] at hk
    simp only [cells, List.mem_append, List.mem_singleton] at hk
    rcases hk with hk | hk
    · omega
    · exact hC k hk
  have hM : ∀ k ∈ fps (cells r2 [.slice A n c] 27 :: cells r3 [.func g fs cs] 23 :: C), w0.heap.size ≤ k := by
    intro k hk
    rw [fps_cons] at hk
    rcases List.mem_append.1 hk with hk | hk
    · simp only [cells, List.mem_singleton] at hk; omega
    · exact hM2 k hk
  refine fn_enter Tryd.func48 rfl Tryd.ntmps48 rfl ?_
  refine vc_seq ?_
  refine vc_region ?_
  refine vl_val rfl (.some rfl) (val_assign rfl) ?_
  refine vl_nil ?_
  refine vc_seq ?_
  refine vc_region ?_
  refine vl_val rfl (.some rfl) (val_load Tryd.isAgg27 rfl (by first | exact cell_cells (by repeat (first | exact .head | apply In.tail | apply Take.tail | apply Upd.tail)) rfl | exact cell_rd (rd_sl (by repeat (first | exact .head | apply In.tail | apply Take.tail | apply Upd.tail))) (by first | exact bcells_at (by omega) | exact ucells_at (by omega) | exact icells_at (by omega) | exact tcells_at (by omega) | exact bcells_get (by omega) | exact icells_get (by omega) | exact tcells_get (by omega) | exact ucells_get (by omega)) | exact cell_rd (rd_old (by assumption) rfl) (by first | exact bcells_at (by omega) | exact ucells_at (by omega) | exact icells_at (by omega) | exact tcells_at (by omega) | exact bcells_get (by omega) | exact icells_get (by omega) | exact tcells_get (by omega) | exact ucells_get (by omega)) | exact cell_old (by assumption) (by simp [fps]))) ?_
  refine vl_val rfl (.some rfl) (val_mkFunc rfl rfl) ?_
  refine vl_callR (cells r3 [.func g fs cs] 23 :: C) rfl rfl (.some rfl) Tryd.call49 rfl (sub_skip (sub_self _)) (fun w hw => xHasF A n c xs hn hn2 (.func 50) #[] #[.pointer (some ⟨r3, 0, none⟩)] (fun i => !p i) w0 (cells r3 [.func g fs cs] 23 :: C) hM2 (fun w ho hk => hR w ho (fun k h => hk k (List.mem_cons_of_mem _ h))) (fun i hi => ⟨50, [], [.pointer (some ⟨r3, 0, none⟩)], rfl, Tryd.call50, fun w hw => xEv11 (xs.getD i (.bool false)) (hx1 i hi) g fs cs r3 (p i) w0 C h3 hC (hA i hi) w hw⟩) w (old_here hw0 hM hw) (!b) (every_not hb)) ?_
  refine vl_val rfl (.some rfl) (val_not rfl) ?_
  refine vl_val rfl (.some rfl) (val_assign rfl) ?_
  refine vl_nil ?_
  refine vc_ret ?_
  refine ⟨_, cells r2 [.slice A n c] 27 :: cells r3 [.func g fs cs] 23 :: C, _, res1 Tryd.results48 rfl, (by first | exact sub_self _ | exact sub_skip (sub_self _) | exact sub_skip (sub_skip (sub_self _))), ?_⟩
  exact ⟨by simp, rfl⟩
set_option maxRecDepth 20000 in
theorem xEvery (A : Option Addr) (n c : Nat) (g : Go.Fn) (fs cs : Array Value) (w : World) : Fn Tryd.prog 29 [.slice A n c, .func g fs cs] [] (ret fun v H' => ∃ r2 r3, v = .func (.func 48) #[] #[.pointer (some ⟨r2, 0, none⟩), .pointer (some ⟨r3, 0, none⟩)] ∧ H' = [cells r2 [.slice A n c] 27, cells r3 [.func g fs cs] 23]) w := by
  refine fn_enter Tryd.func29 rfl Tryd.ntmps29 rfl ?_
  refine vc_seq ?_
  refine vc_region ?_
  refine vl_box rfl rfl (.some rfl) rfl (fun r2 => ?_)
  refine vl_box rfl rfl (.some rfl) rfl (fun r3 => ?_)
  refine vl_val rfl (.some rfl) (val_assign rfl) ?_
  refine vl_nil ?_
  refine vc_seq ?_
  refine vc_region ?_
  refine vl_val rfl (.some rfl) (val_mkFunc rfl rfl) ?_
  refine vl_val rfl (.some rfl) (val_assign rfl) ?_
  refine vl_nil ?_
  refine vc_ret ?_
  refine ⟨_, [cells r2 [.slice A n c] 27, cells r3 [.func g fs cs] 23], _, res1 Tryd.results29 rfl, (by repeat (first | exact .nil | (apply Sub.cons; · repeat (first | exact .head | apply Take.tail)))), ?_⟩
  exact ⟨r2, r3, rfl, rfl⟩




set_option maxRecDepth 20000 in
theorem xTab1 (r1 : Nat) (nm : List UInt8) (A : Option Addr) (n c : Nat) (hlb : nm.length < 9223372036854775808) (w : World) : FnR Tryd.prog 28 [.pointer (some ⟨r1, 0, none⟩)] [cells r1 [.string (sL nm), .slice A n c] 26] (.bool (decide (nameP nm))) w := by
  refine fn_enter Tryd.func28 rfl Tryd.ntmps28 rfl ?_
  refine vc_seq ?_
  refine vc_region ?_
  refine vl_val rfl (.some rfl) (val_assign rfl) ?_
  refine vl_nil ?_
  refine vc_seq ?_
  refine vc_region ?_
  refine vl_val rfl (.some rfl) (by first | exact val_fieldAddr Tryd.runUnderlying26 rfl Tryd.sizeOf9 rfl | exact val_fieldAddrR Tryd.runUnderlying26 rfl Tryd.sizeOf9 rfl) ?_
  refine vl_val rfl (.some rfl) (val_load Tryd.isAgg9 rfl (by first | exact cell_cells (by repeat (first | exact .head | apply In.tail | apply Take.tail | apply Upd.tail)) rfl | exact cell_rd (rd_sl (by repeat (first | exact .head | apply In.tail | apply Take.tail | apply Upd.tail))) (by first | exact bcells_at (by omega) | exact ucells_at (by omega) | exact icells_at (by omega) | exact tcells_at (by omega) | exact bcells_get (by omega) | exact icells_get (by omega) | exact tcells_get (by omega) | exact ucells_get (by omega)) | exact cell_rd (rd_old (by assumption) rfl) (by first | exact bcells_at (by omega) | exact ucells_at (by omega) | exact icells_at (by omega) | exact tcells_at (by omega) | exact bcells_get (by omega) | exact icells_get (by omega) | exact tcells_get (by omega) | exact ucells_get (by omega)) | exact cell_old (by assumption) (by simp [fps]))) ?_
  refine vl_callV rfl rfl (.some rfl) Tryd.call9 rfl (fun w hw => sName nm hlb w) ?_
  refine vl_val rfl (.some rfl) (val_assign rfl) ?_
  refine vl_nil ?_
  refine vc_ret ?_
  refine ⟨_, [cells r1 [.string (sL nm), .slice A n c] 26], _, res1 Tryd.results28 rfl, (by repeat (first | exact .nil | (apply Sub.cons; · repeat (first | exact .head | apply Take.tail)))), ?_⟩
  exact ⟨rfl, rfl⟩
set_option maxRecDepth 20000 in
theorem xTab3 (r1 : Nat) (n : Int) (w : World) : FnR Tryd.prog 30 [.pointer (some ⟨r1, 0, none⟩)] [cells r1 [.int .i64 n] 3] (.bool (decide (1 ≤ n ∧ n ≤ 8))) w := by
  refine fn_enter Tryd.func30 rfl Tryd.ntmps30 rfl ?_
  refine vc_seq ?_
  refine vc_region ?_
  refine vl_val rfl (.some rfl) (val_assign rfl) ?_
  refine vl_nil ?_
  refine vc_seq ?_
  refine vc_region ?_
  refine vl_val rfl (.some rfl) (val_load Tryd.isAgg3 rfl (by first | exact cell_cells (by repeat (first | exact .head | apply In.tail | apply Take.tail | apply Upd.tail)) rfl | exact cell_rd (rd_sl (by repeat (first | exact .head | apply In.tail | apply Take.tail | apply Upd.tail))) (by first | exact bcells_at (by omega) | exact ucells_at (by omega) | exact icells_at (by omega) | exact tcells_at (by omega) | exact bcells_get (by omega) | exact icells_get (by omega) | exact tcells_get (by omega) | exact ucells_get (by omega)) | exact cell_rd (rd_old (by assumption) rfl) (by first | exact bcells_at (by omega) | exact ucells_at (by omega) | exact icells_at (by omega) | exact tcells_at (by omega) | exact bcells_get (by omega) | exact icells_get (by omega) | exact tcells_get (by omega) | exact ucells_get (by omega)) | exact cell_old (by assumption) (by simp [fps]))) ?_
  refine vl_val rfl (.some rfl) (val_ge rfl rfl) ?_
  refine vl_val rfl (.some rfl) (val_move rfl) ?_
  refine vl_split (t := 4) rfl (fun hg4 => ?_) (fun hg4 => ?_)
  · (try replace hg4 := of_decide_eq_true hg4)
    refine vl_on rfl rfl rfl rfl ?_
    refine vl_val rfl (.some rfl) (val_load Tryd.isAgg3 rfl (by first | exact cell_cells (by repeat (first | exact .head | apply In.tail | apply Take.tail | apply Upd.tail)) rfl | exact cell_rd (rd_sl (by repeat (first | exact .head | apply In.tail | apply Take.tail | apply Upd.tail))) (by first | exact bcells_at (by omega) | exact ucells_at (by omega) | exact icells_at (by omega) | exact tcells_at (by omega) | exact bcells_get (by omega) | exact icells_get (by omega) | exact tcells_get (by omega) | exact ucells_get (by omega)) | exact cell_rd (rd_old (by assumption) rfl) (by first | exact bcells_at (by omega) | exact ucells_at (by omega) | exact icells_at (by omega) | exact tcells_at (by omega) | exact bcells_get (by omega) | exact icells_get (by omega) | exact tcells_get (by omega) | exact ucells_get (by omega)) | exact cell_old (by assumption) (by simp [fps]))) ?_
    refine vl_on rfl rfl rfl rfl ?_
    refine vl_val rfl (.some rfl) (val_le rfl rfl) ?_
    refine vl_val rfl (.some rfl) (val_pick rfl rfl) ?_
    refine vl_val rfl (.some rfl) (val_assign rfl) ?_
    refine vl_nil ?_
    refine vc_ret ?_
    refine ⟨_, [cells r1 [.int .i64 n] 3], _, res1 Tryd.results30 rfl, (by repeat (first | exact .nil | (apply Sub.cons; · repeat (first | exact .head | apply Take.tail)))), ?_⟩
    exact ⟨by refine congrArg Value.bool ?_; first | (rw [decide_eq_decide]; omega) | exact (decide_eq_false (by omega)).symm, rfl⟩
  · (try replace hg4 := of_decide_eq_false hg4)
    refine vl_off rfl rfl rfl rfl (.some rfl) ?_
    refine vl_off rfl rfl rfl rfl (.some rfl) ?_
    refine vl_val rfl (.some rfl) (val_pick rfl rfl) ?_
    refine vl_val rfl (.some rfl) (val_assign rfl) ?_
    refine vl_nil ?_
    refine vc_ret ?_
    refine ⟨_, [cells r1 [.int .i64 n] 3], _, res1 Tryd.results30 rfl, (by repeat (first | exact .nil | (apply Sub.cons; · repeat (first | exact .head | apply Take.tail)))), ?_⟩
    exact ⟨by refine congrArg Value.bool ?_; first | (rw [decide_eq_decide]; omega) | exact (decide_eq_false (by omega)).symm, rfl⟩
set_option maxRecDepth 20000 in
theorem xTab2 (nm : ByteArray) (k : Int) (w : World) : FnV Tryd.prog 32 [.agg #[.string nm, .int .i64 k]] (.bool (decide (1 ≤ k ∧ k ≤ 4))) w := by
  refine fn_enter Tryd.func32 rfl Tryd.ntmps32 rfl ?_
  refine vc_seq ?_
  refine vc_region ?_
  refine vl_box rfl rfl (.some rfl) rfl (fun r1 => ?_)
  refine vl_val rfl (.some rfl) (val_assign rfl) ?_
  refine vl_nil ?_
  refine vc_seq ?_
  refine vc_region ?_
  refine vl_val rfl (.some rfl) (by first | exact val_fieldAddr Tryd.runUnderlying41 rfl Tryd.sizeOf3 rfl | exact val_fieldAddrR Tryd.runUnderlying41 rfl Tryd.sizeOf3 rfl) ?_
  refine vl_val rfl (.some rfl) (val_load Tryd.isAgg3 rfl (by first | exact cell_cells (by repeat (first | exact .head | apply In.tail | apply Take.tail | apply Upd.tail)) rfl | exact cell_rd (rd_sl (by repeat (first | exact .head | apply In.tail | apply Take.tail | apply Upd.tail))) (by first | exact bcells_at (by omega) | exact ucells_at (by omega) | exact icells_at (by omega) | exact tcells_at (by omega) | exact bcells_get (by omega) | exact icells_get (by omega) | exact tcells_get (by omega) | exact ucells_get (by omega)) | exact cell_rd (rd_old (by assumption) rfl) (by first | exact bcells_at (by omega) | exact ucells_at (by omega) | exact icells_at (by omega) | exact tcells_at (by omega) | exact bcells_get (by omega) | exact icells_get (by omega) | exact tcells_get (by omega) | exact ucells_get (by omega)) | exact cell_old (by assumption) (by simp [fps]))) ?_
  refine vl_val rfl (.some rfl) (val_ge rfl rfl) ?_
  refine vl_val rfl (.some rfl) (val_move rfl) ?_
  refine vl_split (t := 6) rfl (fun hg6 => ?_) (fun hg6 => ?_)
  · (try replace hg6 := of_decide_eq_true hg6)
    refine vl_on rfl rfl rfl rfl ?_
    refine vl_val rfl (.some rfl) (by first | exact val_fieldAddr Tryd.runUnderlying41 rfl Tryd.sizeOf3 rfl | exact val_fieldAddrR Tryd.runUnderlying41 rfl Tryd.sizeOf3 rfl) ?_
    refine vl_on rfl rfl rfl rfl ?_
    refine vl_val rfl (.some rfl) (val_load Tryd.isAgg3 rfl (by first | exact cell_cells (by repeat (first | exact .head | apply In.tail | apply Take.tail | apply Upd.tail)) rfl | exact cell_rd (rd_sl (by repeat (first | exact .head | apply In.tail | apply Take.tail | apply Upd.tail))) (by first | exact bcells_at (by omega) | exact ucells_at (by omega) | exact icells_at (by omega) | exact tcells_at (by omega) | exact bcells_get (by omega) | exact icells_get (by omega) | exact tcells_get (by omega) | exact ucells_get (by omega)) | exact cell_rd (rd_old (by assumption) rfl) (by first | exact bcells_at (by omega) | exact ucells_at (by omega) | exact icells_at (by omega) | exact tcells_at (by omega) | exact bcells_get (by omega) | exact icells_get (by omega) | exact tcells_get (by omega) | exact ucells_get (by omega)) | exact cell_old (by assumption) (by simp [fps]))) ?_
    refine vl_on rfl rfl rfl rfl ?_
    refine vl_val rfl (.some rfl) (val_le rfl rfl) ?_
    refine vl_val rfl (.some rfl) (val_pick rfl rfl) ?_
    refine vl_val rfl (.some rfl) (val_assign rfl) ?_
    refine vl_nil ?_
    refine vc_ret ?_
    refine ⟨_, [], _, res1 Tryd.results32 rfl, .nil, ?_⟩
    show Value.bool _ = Value.bool _
    refine congrArg Value.bool ?_
    first | (rw [decide_eq_decide]; omega) | exact (decide_eq_false (by omega)).symm
  · (try replace hg6 := of_decide_eq_false hg6)
    refine vl_off rfl rfl rfl rfl (.some rfl) ?_
    refine vl_off rfl rfl rfl rfl (.some rfl) ?_
    refine vl_off rfl rfl rfl rfl (.some rfl) ?_
    refine vl_val rfl (.some rfl) (val_pick rfl rfl) ?_
    refine vl_val rfl (.some rfl) (val_assign rfl) ?_
    refine vl_nil ?_
    refine vc_ret ?_
    refine ⟨_, [], _, res1 Tryd.results32 rfl, .nil, ?_⟩
    show Value.bool _ = Value.bool _
    refine congrArg Value.bool ?_
    first | (rw [decide_eq_decide]; omega) | exact (decide_eq_false (by omega)).symm




theorem take_reads {w : World} {A : Option Addr} {ws : List (List UInt8)} (h : Reads w A (tcS ws)) (i : Nat) : Reads w A (tcS (ws.take i)) := by
  intro j u hj
  refine h j u ?_
  unfold tcS at hj ⊢
  rw [List.map_take, List.getElem?_take] at hj
  split at hj
  · exact hj
  · cases hj
theorem nodup_at {ws : List (List UInt8)} {i : Nat} (hi : i < ws.length) (h : ws.getD i [] ∈ ws.take i) : ¬ ws.Nodup := fun hn => by
  obtain ⟨j, hj, e⟩ := List.mem_iff_getElem.1 h
  rw [List.length_take] at hj
  rw [List.getElem_take] at e
  have h2 : ws.getD i [] = ws[i] := by simp [List.getD, hi]
  rw [h2] at e
  rw [List.Nodup, List.pairwise_iff_getElem] at hn
  exact hn j i (by omega) hi (by omega) e
theorem nodup_all {ws : List (List UInt8)} (h : ∀ i, i < ws.length → ws.getD i [] ∉ ws.take i) : ws.Nodup := by
  rw [List.Nodup, List.pairwise_iff_getElem]
  intro i j hi hj hij e
  refine h j hj ?_
  have h2 : ws.getD j [] = ws[j] := by simp [List.getD, hj]
  rw [h2, ← e]
  exact List.mem_iff_getElem.2 ⟨i, by rw [List.length_take]; omega, by rw [List.getElem_take]⟩

set_option maxRecDepth 20000 in
theorem xUnl1 (r1 : Nat) (A : Option Addr) (c : Nat) (ws : List (List UInt8)) (hn : ws.length < 9223372036854775808) (hcap : ws.length ≤ c) (w0 : World) (C : List Chunk) (h1 : w0.heap.size ≤ r1) (hC : ∀ k ∈ fps C, w0.heap.size ≤ k) (hR : ∀ w, Old w0 w → (∀ k ∈ C, k.A w) → Reads w A (tcS ws)) (w : World) (hw0 : Old w0 w) : FnR Tryd.prog 54 [.pointer (some ⟨r1, 0, none⟩)] (cells r1 [.slice A ws.length c] 27 :: C) (.bool (decide ws.Nodup)) w := by
  have hM : ∀ k ∈ fps (cells r1 [.slice A ws.length c] 27 :: C), w0.heap.size ≤ k := by
    intro k hk
    rw [fps_cons] at hk
    simp only [cells, List.mem_append, List.mem_singleton] at hk
    rcases hk with hk | hk
    · omega
    · exact hC k hk
  refine fn_enter Tryd.func54 rfl Tryd.ntmps54 rfl ?_
  refine vc_seq ?_
  refine vc_region ?_
  refine vl_val rfl (.some rfl) (val_assign rfl) ?_
  refine vl_nil ?_
  refine vc_seq ?_
  refine vc_seq ?_
  refine vc_region ?_
  refine vl_val rfl (.some rfl) (val_load Tryd.isAgg27 rfl (cell_cells .head rfl)) ?_
  refine vl_val rfl (.some rfl) (val_lenSl Tryd.runUnderlying27 rfl) ?_
  refine vl_val rfl (.some rfl) (val_move rfl) ?_
  refine vl_nil ?_
  refine vc_block ?_
  refine vc_loopw (fun m E H => ∃ i : Nat, i ≤ ws.length ∧ m = ws.length - i ∧ (∀ j, j < i → ws.getD j [] ∉ ws.take j) ∧ E = [(0, .pointer (some ⟨r1, 0, none⟩)), (4, .slice A ws.length c), (5, .int .i64 ws.length), (6, .int .i64 i)] ∧ H = cells r1 [.slice A ws.length c] 27 :: C) (ws.length) ⟨_, _, _, ⟨0, by omega, rfl, fun j hj => absurd hj (by omega), rfl, rfl⟩, (by repeat (first | exact trivial | refine ⟨rfl, ?_⟩ | refine ⟨le_item rfl (by first | rfl | (congr 1; omega) | (simp; done) | (simp; omega)), ?_⟩)), (by repeat (first | exact .nil | exact sub_self _ | exact sub_skip (sub_self _) | exact sub_skip (sub_skip (sub_self _)) | exact sub_skip (sub_skip (sub_skip (sub_self _))) | (apply Sub.cons; · repeat (first | exact .head | apply Take.tail))))⟩ ?_
  intro m E H hI
  obtain ⟨i, hi, rfl, hz, rfl, hHC⟩ := hI
  rw [hHC]
  refine vc_seq ?_
  refine vc_region ?_
  refine vl_val rfl (.some rfl) (val_lt rfl rfl) ?_
  refine vl_nil ?_
  refine vc_seq ?_
  refine vc_cond rfl (fun hc0 => ?_) (fun hc0 => ?_)
  · (try replace hc0 := of_decide_eq_true hc0)
    refine vc_skip ?_
    refine vc_seq ?_
    refine vc_block ?_
    refine vc_seq ?_
    refine vc_region ?_
    refine vl_val rfl (.some rfl) (val_move rfl) ?_
    refine vl_val rfl (.some rfl) (val_indexAddr Tryd.runUnderlying27 Tryd.sizeOf9 rfl rfl (vs := tcS ws) (rd_ans hR hw0 hM (fun k h => by simp [h])) (by omega) (by omega) (by rw [tcS_length]; omega)) ?_
    refine vl_val rfl (.some rfl) (val_load Tryd.isAgg9 rfl (cell_rd (rd_ans hR hw0 hM (fun k h => by simp [h])) (tcS_at (i := i) (by omega)))) ?_
    refine vl_val rfl (.some rfl) (val_assign rfl) ?_
    refine vl_val rfl (.some rfl) (val_assign rfl) ?_
    refine vl_nil ?_
    refine vc_seq ?_
    refine vc_region ?_
    refine vl_val rfl (.some rfl) (val_load Tryd.isAgg27 rfl (cell_cells .head rfl)) ?_
    refine vl_val rfl (.some rfl) (val_move rfl) ?_
    refine vl_val rfl (.some rfl) (val_cutTo Tryd.runUnderlying27 Tryd.sizeOf9 rfl rfl (by omega) (by omega)) ?_
    refine vl_val rfl (.some rfl) (val_move rfl) ?_
    refine vl_callV rfl rfl (.some rfl) Tryd.call22 rfl (fun w hw => by
      have h := xHas A c (ws.take i) (ws.getD i []) (by rw [List.length_take]; omega) w (take_reads (hR w (old_here hw0 hM hw) (fun k hk => hw.chunk k (by simp [hk]))) i)
      rw [List.length_take, Nat.min_eq_left (by omega)] at h
      exact h) ?_
    refine vl_nil ?_
    refine vc_cond rfl (fun hc1 => ?_) (fun hc1 => ?_)
    · (try replace hc1 := of_decide_eq_true hc1)
      refine vc_seq ?_
      refine vc_region ?_
      refine vl_val rfl (.some rfl) (val_assign rfl) ?_
      refine vl_nil ?_
      refine vc_ret ?_
      refine ⟨_, cells r1 [.slice A ws.length c] 27 :: C, _, res1 Tryd.results54 rfl, (by first | exact sub_self _ | exact sub_skip (sub_self _) | exact sub_skip (sub_skip (sub_self _))), ?_⟩
      exact ⟨by rw [decide_eq_false (p := ws.Nodup) (nodup_at (i := i) (by omega) (by simpa using hc1))], rfl⟩
    · (try replace hc1 := of_decide_eq_false hc1)
      refine vc_skip ?_
      refine vc_region ?_
      refine vl_val rfl (.some rfl) (val_add rfl rfl (by first | exact w_i64 (by omega) (by omega) | rfl)) ?_
      refine vl_val rfl (.some rfl) (val_move rfl) ?_
      refine vl_nil ?_
      exact ⟨(ws.length - (i + 1)), _, _, _, by omega, (by repeat (first | exact trivial | refine ⟨rfl, ?_⟩ | refine ⟨le_item rfl (by first | rfl | (congr 1; omega) | (simp; done) | (simp; omega)), ?_⟩)), (by repeat (first | exact .nil | exact sub_self _ | exact sub_skip (sub_self _) | exact sub_skip (sub_skip (sub_self _)) | exact sub_skip (sub_skip (sub_skip (sub_self _))) | (apply Sub.cons; · repeat (first | exact .head | apply Take.tail)))), ⟨i + 1, by omega, rfl, fun j hj => by
        rcases Nat.lt_or_ge j i with h | h
        · exact hz j h
        · obtain rfl : j = i := by omega
          simpa using hc1, rfl, rfl⟩⟩
  · (try replace hc0 := of_decide_eq_false hc0)
    refine vc_exit ?_
    refine vc_seq ?_
    refine vc_region ?_
    refine vl_val rfl (.some rfl) (val_assign rfl) ?_
    refine vl_nil ?_
    refine vc_ret ?_
    refine ⟨_, cells r1 [.slice A ws.length c] 27 :: C, _, res1 Tryd.results54 rfl, (by first | exact sub_self _ | exact sub_skip (sub_self _) | exact sub_skip (sub_skip (sub_self _))), ?_⟩
    exact ⟨by rw [decide_eq_true (p := ws.Nodup) (nodup_all (fun j hj => hz j (by omega)))], rfl⟩
set_option maxRecDepth 20000 in
theorem xUnlike (A : Option Addr) (n c : Nat) (w : World) : Fn Tryd.prog 33 [.slice A n c] [] (ret fun v H' => ∃ r1, v = .func (.func 54) #[] #[.pointer (some ⟨r1, 0, none⟩)] ∧ H' = [cells r1 [.slice A n c] 27]) w := by
  refine fn_enter Tryd.func33 rfl Tryd.ntmps33 rfl ?_
  refine vc_seq ?_
  refine vc_region ?_
  refine vl_box rfl rfl (.some rfl) rfl (fun r1 => ?_)
  refine vl_val rfl (.some rfl) (val_assign rfl) ?_
  refine vl_nil ?_
  refine vc_seq ?_
  refine vc_region ?_
  refine vl_val rfl (.some rfl) (val_mkFunc rfl rfl) ?_
  refine vl_val rfl (.some rfl) (val_assign rfl) ?_
  refine vl_nil ?_
  refine vc_ret ?_
  refine ⟨_, [cells r1 [.slice A n c] 27], _, res1 Tryd.results33 rfl, (by repeat (first | exact .nil | (apply Sub.cons; · repeat (first | exact .head | apply Take.tail)))), ?_⟩
  exact ⟨r1, rfl, rfl⟩


end Go.Proofs.YtdehjgpdcdjhjaaDoor.K
