/- Walks of the program's functions, printed by a program of this session; Lean checks them. -/
import Derived.Test.YtclknendeeljaaaVcmp
namespace Go.Proofs.Ytclknendeeljaaa.K
open Go Go.RowKit Go.Proofs
set_option linter.unusedVariables false
set_option linter.unusedSimpArgs false

def ofI (a : Int) : Vk := if a = 0 ∨ a = 1 then ⟨4, a, ⟨#[]⟩⟩ else ⟨0, 0, ⟨#[]⟩⟩
/-! Which value comes first: it is an order. -/
theorem sgn_neg (a b : Int) : sgnI a b = - sgnI b a := by unfold sgnI; (repeat' split) <;> omega
theorem sgn_trans {a b c : Int} (h1 : sgnI a b ≤ 0) (h2 : sgnI b c ≤ 0) : sgnI a c ≤ 0 := by
  unfold sgnI at *
  split at h1 <;> split at h2 <;> (repeat' split) <;> omega
theorem cmpS_neg (a b : Nat) : cmpS a b = - cmpS b a := by
  unfold cmpS
  by_cases ha : isN a <;> by_cases hb : isN b <;> simp [ha, hb]
  (repeat' split) <;> omega
theorem cmpS_trans {a b c : Nat} (h1 : cmpS a b ≤ 0) (h2 : cmpS b c ≤ 0) : cmpS a c ≤ 0 := by
  unfold cmpS at *
  by_cases ha : isN a <;> by_cases hb : isN b <;> by_cases hc : isN c <;> simp [ha, hb, hc] at h1 h2 ⊢
  revert h1 h2
  (repeat' split) <;> intros <;> omega
theorem cl_neg : ∀ a b : List UInt8, Lib.compareBytes a b = - Lib.compareBytes b a
  | [], [] => by simp [Lib.compareBytes]
  | [], _ :: _ => by simp [Lib.compareBytes]
  | _ :: _, [] => by simp [Lib.compareBytes]
  | a :: xs, b :: ys => by
    unfold Lib.compareBytes
    by_cases h : a < b
    · have : ¬ b < a := fun h2 => UInt8.lt_irrefl a (UInt8.lt_trans h h2)
      simp [h, this]
    · by_cases h2 : b < a
      · simp [h, h2]
      · rw [if_neg h, if_neg h2, if_neg h2, if_neg h]; exact cl_neg xs ys
theorem cl_trans : ∀ {a b c : List UInt8}, Lib.compareBytes a b ≤ 0 → Lib.compareBytes b c ≤ 0 → Lib.compareBytes a c ≤ 0
  | [], _, [], _, _ => by simp [Lib.compareBytes]
  | [], _, _ :: _, _, _ => by simp [Lib.compareBytes]
  | _ :: _, [], _, h, _ => by simp [Lib.compareBytes] at h
  | _ :: _, _ :: _, [], _, h => by simp [Lib.compareBytes] at h
  | a :: xs, b :: ys, c :: zs, h1, h2 => by
    unfold Lib.compareBytes at h1 h2 ⊢
    by_cases hab : a < b
    · by_cases hbc : b < c
      · rw [if_pos (UInt8.lt_trans hab hbc)]; decide
      · by_cases hcb : c < b
        · rw [if_neg hbc, if_pos hcb] at h2; exact absurd h2 (by decide)
        · have : b = c := UInt8.le_antisymm (UInt8.not_lt.1 hcb) (UInt8.not_lt.1 hbc)
          subst this
          rw [if_pos hab]; decide
    · by_cases hba : b < a
      · rw [if_neg hab, if_pos hba] at h1; exact absurd h1 (by decide)
      · have : a = b := UInt8.le_antisymm (UInt8.not_lt.1 hba) (UInt8.not_lt.1 hab)
        subst this
        rw [if_neg hab, if_neg hab] at h1
        by_cases hbc : a < c
        · rw [if_pos hbc]; decide
        · by_cases hcb : c < a
          · rw [if_neg hbc, if_pos hcb] at h2; exact absurd h2 (by decide)
          · rw [if_neg hbc, if_neg hcb] at h2 ⊢
            exact cl_trans h1 h2
theorem cmpV_neg (p q : Vk) : cmpV p q = - cmpV q p := by
  unfold cmpV
  by_cases h : p.k = q.k
  · have hn1 : ¬ p.k ≠ q.k := fun e => e h
    have hn2 : ¬ q.k ≠ p.k := fun e => e h.symm
    rw [if_neg hn1, if_neg hn2, h]
    by_cases c0 : q.k = 0
    · rw [if_pos c0, if_pos c0]; rfl
    · rw [if_neg c0, if_neg c0]
      by_cases c2 : q.k = 2
      · rw [if_pos c2, if_pos c2]; exact cmpS_neg _ _
      · rw [if_neg c2, if_neg c2]
        by_cases c3 : q.k = 3
        · rw [if_pos c3, if_pos c3]; exact cl_neg _ _
        · rw [if_neg c3, if_neg c3]; exact sgn_neg _ _
  · rw [if_pos h, if_pos (Ne.symm h)]
    exact sgn_neg _ _
theorem sgn_ne {a b : Int} (h : a ≠ b) (h1 : sgnI a b ≤ 0) : a < b := by unfold sgnI at h1; split at h1; assumption; split at h1 <;> omega
theorem sgn_lt {a b : Int} (h : a < b) : sgnI a b ≤ 0 := by unfold sgnI; rw [if_pos h]; decide
theorem cmpV_trans {p q r : Vk} (h1 : cmpV p q ≤ 0) (h2 : cmpV q r ≤ 0) : cmpV p r ≤ 0 := by
  unfold cmpV at *
  by_cases a : p.k = q.k
  · by_cases b : q.k = r.k
    · rw [if_neg (by simp [a])] at h1
      rw [if_neg (by simp [b])] at h2
      rw [if_neg (by simp [a, b])]
      rw [a] at h1 ⊢
      by_cases c0 : q.k = 0
      · rw [if_pos c0]; decide
      · rw [if_neg c0] at h1 h2 ⊢
        by_cases c2 : q.k = 2
        · rw [if_pos c2] at h1 h2 ⊢; exact cmpS_trans h1 h2
        · rw [if_neg c2] at h1 h2 ⊢
          by_cases c3 : q.k = 3
          · rw [if_pos c3] at h1 h2 ⊢; exact cl_trans h1 h2
          · rw [if_neg c3] at h1 h2 ⊢; exact sgn_trans h1 h2
    · rw [if_pos b] at h2
      have := sgn_ne b h2
      rw [if_pos (by rw [a]; exact b), a]
      exact h2
  · rw [if_pos a] at h1
    have ha := sgn_ne a h1
    by_cases b : q.k = r.k
    · rw [if_pos (by rw [← b]; exact a), ← b]; exact h1
    · rw [if_pos b] at h2
      have hb := sgn_ne b h2
      rw [if_pos (by omega)]
      exact sgn_lt (by omega)

set_option maxRecDepth 20000 in
theorem vOfI (a : Int) (w : World) : FnV Try.prog 40 [.int .i64 a] (vk (ofI a)) w := by
  refine fn_enter Try.func40 rfl Try.ntmps40 rfl ?_
  refine vc_seq ?_
  refine vc_region ?_
  refine vl_alloc rfl rfl (.some rfl) Try.zeroValue64 (fun r2 => ?_)
  refine vl_nil ?_
  refine vc_seq ?_
  refine vc_seq ?_
  refine vc_region ?_
  refine vl_val rfl (.some rfl) (val_move rfl) ?_
  refine vl_val rfl (.some rfl) (val_ne rfl rfl) ?_
  refine vl_val rfl (.some rfl) (val_move rfl) ?_
  refine vl_split (t := 5) rfl (fun hg5 => ?_) (fun hg5 => ?_)
  · (try replace hg5 := of_decide_eq_true hg5)
    refine vl_on rfl rfl rfl rfl ?_
    refine vl_val rfl (.some rfl) (val_move rfl) ?_
    refine vl_on rfl rfl rfl rfl ?_
    refine vl_val rfl (.some rfl) (val_ne rfl rfl) ?_
    refine vl_val rfl (.some rfl) (val_pick rfl rfl) ?_
    refine vl_nil ?_
    refine vc_cond rfl (fun hc0 => ?_) (fun hc0 => ?_)
    · (try replace hc0 := of_decide_eq_true hc0)
      refine vc_seq ?_
      refine vc_region ?_
      refine vl_val rfl (.some rfl) (val_buildSt (pl := #[(0, 1), (1, 1), (2, 1)]) (cs := #[.int .i64 0, .int .i64 0, .string ⟨#[]⟩]) Try.runUnderlying64 Try.zeroValue64 (fun w => by kernel_rfl) rfl rfl) ?_
      first | refine vl_store rfl rfl .none rfl rfl Try.sizeOf64 rfl (by repeat (first | exact .head | apply In.tail | apply Take.tail | apply Upd.tail)) (by first | decide | exact Nat.le_refl _ | exact Nat.le_of_ble_eq_true rfl | (simp; omega)) ?_ | refine vl_storeSl rfl rfl .none rfl rfl Try.sizeOf64 rfl (by simp [Value.cells]) (by repeat (first | exact .head | apply In.tail | apply Take.tail | apply Upd.tail)) (by first | decide | (simp [Value.cells]; omega)) ?_
      refine vl_nil ?_
      refine vc_ret ?_
      refine ⟨_, [], _, resC Try.results40 rfl (whole_agg Try.isAgg64 Try.sizeOf64 (cells_whole (by repeat (first | exact .head | apply In.tail | apply Take.tail | apply Upd.tail))) rfl), (by repeat (first | exact .nil | (apply Sub.cons; · repeat (first | exact .head | apply Take.tail)))), ?_⟩
      show _ = _; unfold ofI; rw [if_neg (by omega)]; rfl
    · (try replace hc0 := of_decide_eq_false hc0)
      refine vc_skip ?_
      refine vc_seq ?_
      refine vc_region ?_
      refine vl_val rfl (.some rfl) (val_move rfl) ?_
      refine vl_val rfl (.some rfl) (val_buildSt (pl := #[(0, 1), (1, 1), (2, 1)]) (cs := #[.int .i64 4, .int .i64 a, .string ⟨#[]⟩]) Try.runUnderlying64 Try.zeroValue64 (fun w => by kernel_rfl) rfl rfl) ?_
      first | refine vl_store rfl rfl .none rfl rfl Try.sizeOf64 rfl (by repeat (first | exact .head | apply In.tail | apply Take.tail | apply Upd.tail)) (by first | decide | exact Nat.le_refl _ | exact Nat.le_of_ble_eq_true rfl | (simp; omega)) ?_ | refine vl_storeSl rfl rfl .none rfl rfl Try.sizeOf64 rfl (by simp [Value.cells]) (by repeat (first | exact .head | apply In.tail | apply Take.tail | apply Upd.tail)) (by first | decide | (simp [Value.cells]; omega)) ?_
      refine vl_nil ?_
      refine vc_ret ?_
      refine ⟨_, [], _, resC Try.results40 rfl (whole_agg Try.isAgg64 Try.sizeOf64 (cells_whole (by repeat (first | exact .head | apply In.tail | apply Take.tail | apply Upd.tail))) rfl), (by repeat (first | exact .nil | (apply Sub.cons; · repeat (first | exact .head | apply Take.tail)))), ?_⟩
      show _ = _; unfold ofI; rw [if_pos (by omega)]; rfl
  · (try replace hg5 := of_decide_eq_false hg5)
    refine vl_off rfl rfl rfl rfl (.some rfl) ?_
    refine vl_off rfl rfl rfl rfl (.some rfl) ?_
    refine vl_val rfl (.some rfl) (val_pick rfl rfl) ?_
    refine vl_nil ?_
    refine vc_cond rfl (fun h => by cases h) (fun _ => ?_)
    refine vc_skip ?_
    refine vc_seq ?_
    refine vc_region ?_
    refine vl_val rfl (.some rfl) (val_move rfl) ?_
    refine vl_val rfl (.some rfl) (val_buildSt (pl := #[(0, 1), (1, 1), (2, 1)]) (cs := #[.int .i64 4, .int .i64 a, .string ⟨#[]⟩]) Try.runUnderlying64 Try.zeroValue64 (fun w => by kernel_rfl) rfl rfl) ?_
    first | refine vl_store rfl rfl .none rfl rfl Try.sizeOf64 rfl (by repeat (first | exact .head | apply In.tail | apply Take.tail | apply Upd.tail)) (by first | decide | exact Nat.le_refl _ | exact Nat.le_of_ble_eq_true rfl | (simp; omega)) ?_ | refine vl_storeSl rfl rfl .none rfl rfl Try.sizeOf64 rfl (by simp [Value.cells]) (by repeat (first | exact .head | apply In.tail | apply Take.tail | apply Upd.tail)) (by first | decide | (simp [Value.cells]; omega)) ?_
    refine vl_nil ?_
    refine vc_ret ?_
    refine ⟨_, [], _, resC Try.results40 rfl (whole_agg Try.isAgg64 Try.sizeOf64 (cells_whole (by repeat (first | exact .head | apply In.tail | apply Take.tail | apply Upd.tail))) rfl), (by repeat (first | exact .nil | (apply Sub.cons; · repeat (first | exact .head | apply Take.tail)))), ?_⟩
    show _ = _; unfold ofI; rw [if_pos (by omega)]; rfl
set_option maxRecDepth 20000 in
theorem xOfI (a : Int) (w : World) : FnV Try.prog 41 [.int .i64 a] (vk (ofI a)) w := by
  refine fn_enter Try.func41 rfl Try.ntmps41 rfl ?_
  refine vc_seq ?_
  refine vc_region ?_
  refine vl_alloc rfl rfl (.some rfl) Try.zeroValue64 (fun r2 => ?_)
  refine vl_nil ?_
  refine vc_seq ?_
  refine vc_seq ?_
  refine vc_region ?_
  refine vl_val rfl (.some rfl) (val_move rfl) ?_
  refine vl_val rfl (.some rfl) (val_eq rfl rfl) ?_
  refine vl_val rfl (.some rfl) (val_move rfl) ?_
  refine vl_split (t := 5) rfl (fun hg5 => ?_) (fun hg5 => ?_)
  · (try replace hg5 := of_decide_eq_true hg5)
    refine vl_off rfl rfl rfl rfl (.some rfl) ?_
    refine vl_off rfl rfl rfl rfl (.some rfl) ?_
    refine vl_val rfl (.some rfl) (val_pick rfl rfl) ?_
    refine vl_nil ?_
    refine vc_cond rfl (fun _ => ?_) (fun h => by cases h)
    refine vc_seq ?_
    refine vc_region ?_
    refine vl_val rfl (.some rfl) (val_move rfl) ?_
    refine vl_val rfl (.some rfl) (val_buildSt (pl := #[(0, 1), (1, 1), (2, 1)]) (cs := #[.int .i64 4, .int .i64 a, .string ⟨#[]⟩]) Try.runUnderlying64 Try.zeroValue64 (fun w => by kernel_rfl) rfl rfl) ?_
    first | refine vl_store rfl rfl .none rfl rfl Try.sizeOf64 rfl (by repeat (first | exact .head | apply In.tail | apply Take.tail | apply Upd.tail)) (by first | decide | exact Nat.le_refl _ | exact Nat.le_of_ble_eq_true rfl | (simp; omega)) ?_ | refine vl_storeSl rfl rfl .none rfl rfl Try.sizeOf64 rfl (by simp [Value.cells]) (by repeat (first | exact .head | apply In.tail | apply Take.tail | apply Upd.tail)) (by first | decide | (simp [Value.cells]; omega)) ?_
    refine vl_nil ?_
    refine vc_ret ?_
    refine ⟨_, [], _, resC Try.results41 rfl (whole_agg Try.isAgg64 Try.sizeOf64 (cells_whole (by repeat (first | exact .head | apply In.tail | apply Take.tail | apply Upd.tail))) rfl), (by repeat (first | exact .nil | (apply Sub.cons; · repeat (first | exact .head | apply Take.tail)))), ?_⟩
    show _ = _; unfold ofI; rw [if_pos (by omega)]; rfl
  · (try replace hg5 := of_decide_eq_false hg5)
    refine vl_on rfl rfl rfl rfl ?_
    refine vl_val rfl (.some rfl) (val_move rfl) ?_
    refine vl_on rfl rfl rfl rfl ?_
    refine vl_val rfl (.some rfl) (val_eq rfl rfl) ?_
    refine vl_val rfl (.some rfl) (val_pick rfl rfl) ?_
    refine vl_nil ?_
    refine vc_cond rfl (fun hc0 => ?_) (fun hc0 => ?_)
    · (try replace hc0 := of_decide_eq_true hc0)
      refine vc_seq ?_
      refine vc_region ?_
      refine vl_val rfl (.some rfl) (val_move rfl) ?_
      refine vl_val rfl (.some rfl) (val_buildSt (pl := #[(0, 1), (1, 1), (2, 1)]) (cs := #[.int .i64 4, .int .i64 a, .string ⟨#[]⟩]) Try.runUnderlying64 Try.zeroValue64 (fun w => by kernel_rfl) rfl rfl) ?_
      first | refine vl_store rfl rfl .none rfl rfl Try.sizeOf64 rfl (by repeat (first | exact .head | apply In.tail | apply Take.tail | apply Upd.tail)) (by first | decide | exact Nat.le_refl _ | exact Nat.le_of_ble_eq_true rfl | (simp; omega)) ?_ | refine vl_storeSl rfl rfl .none rfl rfl Try.sizeOf64 rfl (by simp [Value.cells]) (by repeat (first | exact .head | apply In.tail | apply Take.tail | apply Upd.tail)) (by first | decide | (simp [Value.cells]; omega)) ?_
      refine vl_nil ?_
      refine vc_ret ?_
      refine ⟨_, [], _, resC Try.results41 rfl (whole_agg Try.isAgg64 Try.sizeOf64 (cells_whole (by repeat (first | exact .head | apply In.tail | apply Take.tail | apply Upd.tail))) rfl), (by repeat (first | exact .nil | (apply Sub.cons; · repeat (first | exact .head | apply Take.tail)))), ?_⟩
      show _ = _; unfold ofI; rw [if_pos (by omega)]; rfl
    · (try replace hc0 := of_decide_eq_false hc0)
      refine vc_skip ?_
      refine vc_seq ?_
      refine vc_region ?_
      refine vl_val rfl (.some rfl) (val_buildSt (pl := #[(0, 1), (1, 1), (2, 1)]) (cs := #[.int .i64 0, .int .i64 0, .string ⟨#[]⟩]) Try.runUnderlying64 Try.zeroValue64 (fun w => by kernel_rfl) rfl rfl) ?_
      first | refine vl_store rfl rfl .none rfl rfl Try.sizeOf64 rfl (by repeat (first | exact .head | apply In.tail | apply Take.tail | apply Upd.tail)) (by first | decide | exact Nat.le_refl _ | exact Nat.le_of_ble_eq_true rfl | (simp; omega)) ?_ | refine vl_storeSl rfl rfl .none rfl rfl Try.sizeOf64 rfl (by simp [Value.cells]) (by repeat (first | exact .head | apply In.tail | apply Take.tail | apply Upd.tail)) (by first | decide | (simp [Value.cells]; omega)) ?_
      refine vl_nil ?_
      refine vc_ret ?_
      refine ⟨_, [], _, resC Try.results41 rfl (whole_agg Try.isAgg64 Try.sizeOf64 (cells_whole (by repeat (first | exact .head | apply In.tail | apply Take.tail | apply Upd.tail))) rfl), (by repeat (first | exact .nil | (apply Sub.cons; · repeat (first | exact .head | apply Take.tail)))), ?_⟩
      show _ = _; unfold ofI; rw [if_neg (by omega)]; rfl

end Go.Proofs.Ytclknendeeljaaa.K
