/- Walks of the program's functions, printed by a program of this session; Lean checks them. -/
import Derived.Test.YtpgopfidbmiifaaDoorMg
import Derived.Test.YtpgopfidbmiifaaDoorYwa
namespace Go.Proofs.YtpgopfidbmiifaaDoor.K
open Go Go.RowKit Go.Proofs
set_option linter.unusedVariables false
set_option linter.unusedSimpArgs false


theorem hP_nat (n : Nat) (h : n < 340282366920938463463374607431768211456) : hP (n : Int) = ((n / 18446744073709551616 : Nat) : Int) := by unfold hP; omega
theorem lW_nat (n : Nat) : lW (n : Int) = ((n % 18446744073709551616 : Nat) : Int) := by unfold lW; omega
theorem wV_eq {x y : Int} (h : x = y ∨ x = y + 1 * 340282366920938463463374607431768211456) : wV x = wV y := by
  rcases h with h | h
  · rw [h]
  · rw [h, wV_per]
theorem trim_step {q : List UInt8} (h : 0 < q.length) (hc : ((bt (sL q) (Int.toNat 0) : Nat) : Int) = 48) : (q.drop 1).dropWhile (· == 48) = q.dropWhile (· == 48) := by
  cases q with
  | nil => simp at h
  | cons x t =>
    rw [show Int.toNat 0 = 0 from rfl, bt_sL] at hc
    have : x = 48 := UInt8.toNat_inj.1 (show x.toNat = 48 by simp at hc; omega)
    simp [this]
theorem trim_stop {q : List UInt8} (h : 0 < q.length) (hc : ¬ ((bt (sL q) (Int.toNat 0) : Nat) : Int) = 48) : q.dropWhile (· == 48) = q := by
  cases q with
  | nil => simp at h
  | cons x t =>
    rw [show Int.toNat 0 = 0 from rfl, bt_sL] at hc
    have : ¬ x = 48 := fun e => hc (by rw [e]; rfl)
    simp [this]
theorem trim_nil {q : List UInt8} (h : ¬ ((sL q).size : Int) > 0) : q.dropWhile (· == 48) = q := by
  rw [sL_size] at h
  rw [List.length_eq_zero_iff.1 (show q.length = 0 by omega)]; rfl
theorem pre_yes {l : List UInt8} (h : ((sL l).size : Int) ≥ ((sL [45]).size : Int)) : decide (sL (l.take 1) = sL [45]) = isNeg l := by
  rw [sL_size, sL_size] at h
  unfold isNeg
  cases l with
  | nil => simp at h
  | cons x t =>
    by_cases e : x = 45
    · subst e; simp
    · rw [decide_eq_false (fun c => e (by simpa using sL_inj.1 c))]; simp [e]
theorem pre_no {l : List UInt8} (h : ¬ ((sL l).size : Int) ≥ ((sL [45]).size : Int)) : false = isNeg l := by
  rw [sL_size, sL_size] at h
  rw [List.length_eq_zero_iff.1 (show l.length = 0 by simp at h; omega)]; rfl
theorem dig_set {n i : Nat} (h : i < 40) : laid (bcells (List.replicate (40 - i) 0 ++ digs i n)) (0 + Int.toNat ((39 - i : Nat) : Int) * 1) (Value.cells (.int .u8 (((dg (n / 10 ^ i % 10)).toNat : Nat) : Int))).toList = bcells (List.replicate (40 - (i + 1)) 0 ++ digs (i + 1) n) := by
  have e := laid_map (g := fun b : UInt8 => Value.int .u8 b.toNat) (l := List.replicate (40 - i) 0 ++ digs i n) (i := 0 + Int.toNat ((39 - i : Nat) : Int) * 1) (j := 39 - i) (v := .int .u8 (((dg (n / 10 ^ i % 10)).toNat : Nat) : Int)) (x := dg (n / 10 ^ i % 10)) (by omega) (by rw [List.length_append, List.length_replicate]; omega) rfl
  refine e.trans ?_
  rw [show 40 - i = (39 - i) + 1 by omega, set_rep, digs_high, show 40 - (i + 1) = 39 - i by omega]
  rfl
theorem prN_e {n : Nat} (h : n < 10 ^ 40) (hd : decF 40 n = []) : prN n = [48] := by
  have : n = 0 := Classical.byContradiction fun c => decF_some h c hd
  rw [this]; rfl
theorem prN_ne {n : Nat} (hd : decF 40 n ≠ []) : prN n = decF 40 n := by
  unfold prN
  exact if_neg fun c => hd (by rw [c]; exact decF_zero 40)
theorem pV_small {d : Nat} (h : d < 18446744073709551616) : pV (d : Int) = .agg #[.int .u64 0, .int .u64 (d : Int)] := by
  have h1 : hP (d : Int) = 0 := by unfold hP; omega
  have h2 : lW (d : Int) = d := by unfold lW; omega
  unfold pV; rw [h1, h2]
theorem par_len {l q : List UInt8} (hq : rest1 l = q) (h : q.length = 0 ∨ 39 < q.length) : parO l = none := parO_none fun x hx e => by
  have := rest_prL hx
  rw [e, hq] at this
  omega
theorem par_dig {l q : List UInt8} {i : Nat} (hq : rest1 l = q) (hi : i < q.length) (h : (q.getD i 0).toNat < 48 ∨ 57 < (q.getD i 0).toNat) : parO l = none := parO_none fun x hx e => by
  have := (rest_prL hx).2.2
  rw [e, hq] at this
  have := this (q.getD i 0) (by simp [List.getD, hi])
  omega
theorem sval_neg {l q : List UInt8} (hq : rest1 l = q) (h : isNeg l = true) : (0 : Int) - ((dval q : Nat) : Int) = sval l := by unfold sval; rw [if_pos h, hq]; omega
theorem sval_pos {l q : List UInt8} (hq : rest1 l = q) (h : ¬ isNeg l = true) : ((dval q : Nat) : Int) = sval l := by unfold sval; rw [if_neg h, hq]
theorem pV_up (b : Int) : (Value.agg #[.int .u64 (hP (b * 18446744073709551616)), .int .u64 0]) = pV (b * 18446744073709551616) := by
  have : lW (b * 18446744073709551616) = 0 := by unfold lW; omega
  unfold pV; rw [this]

set_option maxRecDepth 20000 in
theorem wMul (a b : Int) (ha : inI a) (hb : inI b) (w : World) : FnV Tryd.prog 13 [.int .i64 a, .int .i64 b] (wV (a * b)) w := by
  unfold inI at ha hb
  obtain ⟨A, hA⟩ : ∃ A : Nat, (A : Int) = a % 18446744073709551616 := ⟨(a % 18446744073709551616).toNat, by omega⟩
  obtain ⟨B, hB⟩ : ∃ B : Nat, (B : Int) = b % 18446744073709551616 := ⟨(b % 18446744073709551616).toNat, by omega⟩
  obtain ⟨m, hm⟩ : ∃ m : Nat, A * B = m := ⟨_, rfl⟩
  have hml := Nat.mul_le_mul (show A ≤ 18446744073709551615 by omega) (show B ≤ 18446744073709551615 by omega)
  rw [hm] at hml
  have hmi : (m : Int) = a * b + (if a < 0 then b * 18446744073709551616 else 0) + (if b < 0 then a * 18446744073709551616 else 0) + (if a < 0 then (if b < 0 then 340282366920938463463374607431768211456 else 0) else 0) := by
    rw [← hm, Int.natCast_mul]
    by_cases c1 : a < 0 <;> by_cases c2 : b < 0
    · rw [if_pos c1, if_pos c2, if_pos c1, if_pos c2, show (A : Int) = a + 18446744073709551616 by omega, show (B : Int) = b + 18446744073709551616 by omega, Int.add_mul, Int.mul_add, Int.mul_add]; omega
    · rw [if_pos c1, if_neg c2, if_pos c1, if_neg c2, show (A : Int) = a + 18446744073709551616 by omega, show (B : Int) = b by omega, Int.add_mul]; omega
    · rw [if_neg c1, if_pos c2, if_neg c1, show (A : Int) = a by omega, show (B : Int) = b + 18446744073709551616 by omega, Int.mul_add]; omega
    · rw [if_neg c1, if_neg c2, if_neg c1, show (A : Int) = a by omega, show (B : Int) = b by omega]; omega
  obtain ⟨z, hz⟩ : ∃ z, a * b = z := ⟨_, rfl⟩
  rw [hz] at hmi ⊢
  refine fn_enter Tryd.func13 rfl Tryd.ntmps13 rfl ?_
  refine vc_seq ?_
  refine vc_region ?_
  refine vl_alloc rfl rfl (.some rfl) Tryd.zeroValue24 (fun r4 => ?_)
  refine vl_nil ?_
  refine vc_seq ?_
  refine vc_region ?_
  refine vl_val rfl (.some rfl) (val_move rfl) ?_
  refine vl_val rfl (.some rfl) (val_convInt Tryd.runUnderlying3 Tryd.runUnderlying22 rfl (show _ = ((A : Nat) : Int) by rw [w_mod64]; exact hA.symm)) ?_
  refine vl_val rfl (.some rfl) (val_move rfl) ?_
  refine vl_val rfl (.some rfl) (val_convInt Tryd.runUnderlying3 Tryd.runUnderlying22 rfl (show _ = ((B : Nat) : Int) by rw [w_mod64]; exact hB.symm)) ?_
  refine vl_callV rfl rfl (.some rfl) Tryd.call28 rfl (fun w hw => bMul64 A B (by omega) (by omega) w) ?_
  rw [hm, ← hP_nat m (by omega), ← lW_nat m]
  refine vl_val rfl (.some rfl) (val_move rfl) ?_
  refine vl_val rfl (.some rfl) (val_extract rfl rfl) ?_
  refine vl_val rfl (.some rfl) (val_extract rfl rfl) ?_
  refine vl_val rfl (.some rfl) (val_assign rfl) ?_
  refine vl_val rfl (.some rfl) (val_assign rfl) ?_
  refine vl_nil ?_
  refine vc_seq ?_
  refine vc_region ?_
  refine vl_val rfl (.some rfl) (val_move rfl) ?_
  refine vl_val rfl (.some rfl) (val_move rfl) ?_
  refine vl_val rfl (.some rfl) (val_buildSt (pl := #[(0, 1), (1, 1)]) (cs := #[.int .u64 (hP m), .int .u64 (lW m)]) Tryd.runUnderlying46 Tryd.zeroValue46 (fun w => by kernel_rfl) rfl rfl) ?_
  refine vl_alloc rfl rfl (.some rfl) Tryd.zeroValue46 (fun r7 => ?_)
  first | refine vl_store rfl rfl .none rfl rfl Tryd.sizeOf46 rfl (by repeat (first | exact .head | apply In.tail | apply Take.tail | apply Upd.tail)) (by first | decide | exact Nat.le_refl _ | exact Nat.le_of_ble_eq_true rfl | (simp; omega)) ?_ | refine vl_storeSl rfl rfl .none rfl rfl Tryd.sizeOf46 rfl (by simp [Value.cells]) (by repeat (first | exact .head | apply In.tail | apply Take.tail | apply Upd.tail)) (by first | decide | (simp [Value.cells]; omega)) ?_
  refine vl_nil ?_
  refine vc_seq ?_
  refine vc_seq ?_
  refine vc_region ?_
  refine vl_val rfl (.some rfl) (val_move rfl) ?_
  refine vl_val rfl (.some rfl) (val_lt rfl rfl) ?_
  refine vl_nil ?_
  refine vc_cond rfl (fun hc0 => ?_) (fun hc0 => ?_)
  · (try replace hc0 := of_decide_eq_true hc0)
    refine vc_region ?_
    refine vl_val rfl (.some rfl) (val_loadAgg Tryd.isAgg46 Tryd.sizeOf46 rfl (by first | exact cells_whole (by repeat (first | exact .head | apply In.tail | apply Take.tail | apply Upd.tail)) | exact cells_part (by repeat (first | exact .head | apply In.tail | apply Take.tail | apply Upd.tail)) rfl) rfl) ?_
    refine vl_val rfl (.some rfl) (val_move rfl) ?_
    refine vl_val rfl (.some rfl) (val_convInt Tryd.runUnderlying3 Tryd.runUnderlying22 rfl (show _ = hP (b * 18446744073709551616) by rw [w_mod64]; unfold hP; omega)) ?_
    refine vl_val rfl (.some rfl) (val_buildSt (pl := #[(0, 1), (1, 1)]) (cs := #[.int .u64 (hP (b * 18446744073709551616)), .int .u64 (0)]) Tryd.runUnderlying46 Tryd.zeroValue46 (fun w => by kernel_rfl) rfl rfl) ?_
    rw [pV_up]
    refine vl_callV rfl rfl (.some rfl) Tryd.call29 rfl (fun w hw => wMinus _ _ w) ?_
    first | refine vl_store rfl rfl .none rfl rfl Tryd.sizeOf46 rfl (by repeat (first | exact .head | apply In.tail | apply Take.tail | apply Upd.tail)) (by first | decide | exact Nat.le_refl _ | exact Nat.le_of_ble_eq_true rfl | (simp; omega)) ?_ | refine vl_storeSl rfl rfl .none rfl rfl Tryd.sizeOf46 rfl (by simp [Value.cells]) (by repeat (first | exact .head | apply In.tail | apply Take.tail | apply Upd.tail)) (by first | decide | (simp [Value.cells]; omega)) ?_
    refine vl_nil ?_
    refine vc_seq ?_
    refine vc_seq ?_
    refine vc_region ?_
    refine vl_val rfl (.some rfl) (val_move rfl) ?_
    refine vl_val rfl (.some rfl) (val_lt rfl rfl) ?_
    refine vl_nil ?_
    refine vc_cond rfl (fun hc1 => ?_) (fun hc1 => ?_)
    · (try replace hc1 := of_decide_eq_true hc1)
      refine vc_region ?_
      refine vl_val rfl (.some rfl) (val_loadAgg Tryd.isAgg46 Tryd.sizeOf46 rfl (by first | exact cells_whole (by repeat (first | exact .head | apply In.tail | apply Take.tail | apply Upd.tail)) | exact cells_part (by repeat (first | exact .head | apply In.tail | apply Take.tail | apply Upd.tail)) rfl) rfl) ?_
      refine vl_val rfl (.some rfl) (val_move rfl) ?_
      refine vl_val rfl (.some rfl) (val_convInt Tryd.runUnderlying3 Tryd.runUnderlying22 rfl (show _ = hP (a * 18446744073709551616) by rw [w_mod64]; unfold hP; omega)) ?_
      refine vl_val rfl (.some rfl) (val_buildSt (pl := #[(0, 1), (1, 1)]) (cs := #[.int .u64 (hP (a * 18446744073709551616)), .int .u64 (0)]) Tryd.runUnderlying46 Tryd.zeroValue46 (fun w => by kernel_rfl) rfl rfl) ?_
      rw [pV_up]
      refine vl_callV rfl rfl (.some rfl) Tryd.call29 rfl (fun w hw => wMinus _ _ w) ?_
      first | refine vl_store rfl rfl .none rfl rfl Tryd.sizeOf46 rfl (by repeat (first | exact .head | apply In.tail | apply Take.tail | apply Upd.tail)) (by first | decide | exact Nat.le_refl _ | exact Nat.le_of_ble_eq_true rfl | (simp; omega)) ?_ | refine vl_storeSl rfl rfl .none rfl rfl Tryd.sizeOf46 rfl (by simp [Value.cells]) (by repeat (first | exact .head | apply In.tail | apply Take.tail | apply Upd.tail)) (by first | decide | (simp [Value.cells]; omega)) ?_
      refine vl_nil ?_
      refine vc_seq ?_
      refine vc_region ?_
      refine vl_val rfl (.some rfl) (val_loadAgg Tryd.isAgg46 Tryd.sizeOf46 rfl (by first | exact cells_whole (by repeat (first | exact .head | apply In.tail | apply Take.tail | apply Upd.tail)) | exact cells_part (by repeat (first | exact .head | apply In.tail | apply Take.tail | apply Upd.tail)) rfl) rfl) ?_
      refine vl_callV rfl rfl (.some rfl) Tryd.call30 rfl (fun w hw => wWide _ w) ?_
      first | refine vl_store rfl rfl .none rfl rfl Tryd.sizeOf24 rfl (by repeat (first | exact .head | apply In.tail | apply Take.tail | apply Upd.tail)) (by first | decide | exact Nat.le_refl _ | exact Nat.le_of_ble_eq_true rfl | (simp; omega)) ?_ | refine vl_storeSl rfl rfl .none rfl rfl Tryd.sizeOf24 rfl (by simp [Value.cells]) (by repeat (first | exact .head | apply In.tail | apply Take.tail | apply Upd.tail)) (by first | decide | (simp [Value.cells]; omega)) ?_
      refine vl_nil ?_
      refine vc_ret ?_
      refine ⟨_, [], _, resC Tryd.results13 rfl (whole_agg Tryd.isAgg24 Tryd.sizeOf24 (cells_whole (by repeat (first | exact .head | apply In.tail | apply Take.tail | apply Upd.tail))) rfl), .nil, ?_⟩
      show wV _ = wV _
      refine wV_eq ?_
      revert hmi
      first | rw [if_pos (show a < 0 by assumption), if_pos (show a < 0 by assumption)] | rw [if_neg (show ¬ a < 0 by assumption), if_neg (show ¬ a < 0 by assumption)]
      first | rw [if_pos (show b < 0 by assumption)] | rw [if_neg (show ¬ b < 0 by assumption)]
      try first | rw [if_pos (show b < 0 by assumption)] | rw [if_neg (show ¬ b < 0 by assumption)]
      intro hmi
      omega
    · (try replace hc1 := of_decide_eq_false hc1)
      refine vc_skip ?_
      refine vc_seq ?_
      refine vc_region ?_
      refine vl_val rfl (.some rfl) (val_loadAgg Tryd.isAgg46 Tryd.sizeOf46 rfl (by first | exact cells_whole (by repeat (first | exact .head | apply In.tail | apply Take.tail | apply Upd.tail)) | exact cells_part (by repeat (first | exact .head | apply In.tail | apply Take.tail | apply Upd.tail)) rfl) rfl) ?_
      refine vl_callV rfl rfl (.some rfl) Tryd.call30 rfl (fun w hw => wWide _ w) ?_
      first | refine vl_store rfl rfl .none rfl rfl Tryd.sizeOf24 rfl (by repeat (first | exact .head | apply In.tail | apply Take.tail | apply Upd.tail)) (by first | decide | exact Nat.le_refl _ | exact Nat.le_of_ble_eq_true rfl | (simp; omega)) ?_ | refine vl_storeSl rfl rfl .none rfl rfl Tryd.sizeOf24 rfl (by simp [Value.cells]) (by repeat (first | exact .head | apply In.tail | apply Take.tail | apply Upd.tail)) (by first | decide | (simp [Value.cells]; omega)) ?_
      refine vl_nil ?_
      refine vc_ret ?_
      refine ⟨_, [], _, resC Tryd.results13 rfl (whole_agg Tryd.isAgg24 Tryd.sizeOf24 (cells_whole (by repeat (first | exact .head | apply In.tail | apply Take.tail | apply Upd.tail))) rfl), .nil, ?_⟩
      show wV _ = wV _
      refine wV_eq ?_
      revert hmi
      first | rw [if_pos (show a < 0 by assumption), if_pos (show a < 0 by assumption)] | rw [if_neg (show ¬ a < 0 by assumption), if_neg (show ¬ a < 0 by assumption)]
      first | rw [if_pos (show b < 0 by assumption)] | rw [if_neg (show ¬ b < 0 by assumption)]
      try first | rw [if_pos (show b < 0 by assumption)] | rw [if_neg (show ¬ b < 0 by assumption)]
      intro hmi
      omega
  · (try replace hc0 := of_decide_eq_false hc0)
    refine vc_skip ?_
    refine vc_seq ?_
    refine vc_seq ?_
    refine vc_region ?_
    refine vl_val rfl (.some rfl) (val_move rfl) ?_
    refine vl_val rfl (.some rfl) (val_lt rfl rfl) ?_
    refine vl_nil ?_
    refine vc_cond rfl (fun hc1 => ?_) (fun hc1 => ?_)
    · (try replace hc1 := of_decide_eq_true hc1)
      refine vc_region ?_
      refine vl_val rfl (.some rfl) (val_loadAgg Tryd.isAgg46 Tryd.sizeOf46 rfl (by first | exact cells_whole (by repeat (first | exact .head | apply In.tail | apply Take.tail | apply Upd.tail)) | exact cells_part (by repeat (first | exact .head | apply In.tail | apply Take.tail | apply Upd.tail)) rfl) rfl) ?_
      refine vl_val rfl (.some rfl) (val_move rfl) ?_
      refine vl_val rfl (.some rfl) (val_convInt Tryd.runUnderlying3 Tryd.runUnderlying22 rfl (show _ = hP (a * 18446744073709551616) by rw [w_mod64]; unfold hP; omega)) ?_
      refine vl_val rfl (.some rfl) (val_buildSt (pl := #[(0, 1), (1, 1)]) (cs := #[.int .u64 (hP (a * 18446744073709551616)), .int .u64 (0)]) Tryd.runUnderlying46 Tryd.zeroValue46 (fun w => by kernel_rfl) rfl rfl) ?_
      rw [pV_up]
      refine vl_callV rfl rfl (.some rfl) Tryd.call29 rfl (fun w hw => wMinus _ _ w) ?_
      first | refine vl_store rfl rfl .none rfl rfl Tryd.sizeOf46 rfl (by repeat (first | exact .head | apply In.tail | apply Take.tail | apply Upd.tail)) (by first | decide | exact Nat.le_refl _ | exact Nat.le_of_ble_eq_true rfl | (simp; omega)) ?_ | refine vl_storeSl rfl rfl .none rfl rfl Tryd.sizeOf46 rfl (by simp [Value.cells]) (by repeat (first | exact .head | apply In.tail | apply Take.tail | apply Upd.tail)) (by first | decide | (simp [Value.cells]; omega)) ?_
      refine vl_nil ?_
      refine vc_seq ?_
      refine vc_region ?_
      refine vl_val rfl (.some rfl) (val_loadAgg Tryd.isAgg46 Tryd.sizeOf46 rfl (by first | exact cells_whole (by repeat (first | exact .head | apply In.tail | apply Take.tail | apply Upd.tail)) | exact cells_part (by repeat (first | exact .head | apply In.tail | apply Take.tail | apply Upd.tail)) rfl) rfl) ?_
      refine vl_callV rfl rfl (.some rfl) Tryd.call30 rfl (fun w hw => wWide _ w) ?_
      first | refine vl_store rfl rfl .none rfl rfl Tryd.sizeOf24 rfl (by repeat (first | exact .head | apply In.tail | apply Take.tail | apply Upd.tail)) (by first | decide | exact Nat.le_refl _ | exact Nat.le_of_ble_eq_true rfl | (simp; omega)) ?_ | refine vl_storeSl rfl rfl .none rfl rfl Tryd.sizeOf24 rfl (by simp [Value.cells]) (by repeat (first | exact .head | apply In.tail | apply Take.tail | apply Upd.tail)) (by first | decide | (simp [Value.cells]; omega)) ?_
      refine vl_nil ?_
      refine vc_ret ?_
      refine ⟨_, [], _, resC Tryd.results13 rfl (whole_agg Tryd.isAgg24 Tryd.sizeOf24 (cells_whole (by repeat (first | exact .head | apply In.tail | apply Take.tail | apply Upd.tail))) rfl), .nil, ?_⟩
      show wV _ = wV _
      refine wV_eq ?_
      revert hmi
      first | rw [if_pos (show a < 0 by assumption), if_pos (show a < 0 by assumption)] | rw [if_neg (show ¬ a < 0 by assumption), if_neg (show ¬ a < 0 by assumption)]
      first | rw [if_pos (show b < 0 by assumption)] | rw [if_neg (show ¬ b < 0 by assumption)]
      try first | rw [if_pos (show b < 0 by assumption)] | rw [if_neg (show ¬ b < 0 by assumption)]
      intro hmi
      omega
    · (try replace hc1 := of_decide_eq_false hc1)
      refine vc_skip ?_
      refine vc_seq ?_
      refine vc_region ?_
      refine vl_val rfl (.some rfl) (val_loadAgg Tryd.isAgg46 Tryd.sizeOf46 rfl (by first | exact cells_whole (by repeat (first | exact .head | apply In.tail | apply Take.tail | apply Upd.tail)) | exact cells_part (by repeat (first | exact .head | apply In.tail | apply Take.tail | apply Upd.tail)) rfl) rfl) ?_
      refine vl_callV rfl rfl (.some rfl) Tryd.call30 rfl (fun w hw => wWide _ w) ?_
      first | refine vl_store rfl rfl .none rfl rfl Tryd.sizeOf24 rfl (by repeat (first | exact .head | apply In.tail | apply Take.tail | apply Upd.tail)) (by first | decide | exact Nat.le_refl _ | exact Nat.le_of_ble_eq_true rfl | (simp; omega)) ?_ | refine vl_storeSl rfl rfl .none rfl rfl Tryd.sizeOf24 rfl (by simp [Value.cells]) (by repeat (first | exact .head | apply In.tail | apply Take.tail | apply Upd.tail)) (by first | decide | (simp [Value.cells]; omega)) ?_
      refine vl_nil ?_
      refine vc_ret ?_
      refine ⟨_, [], _, resC Tryd.results13 rfl (whole_agg Tryd.isAgg24 Tryd.sizeOf24 (cells_whole (by repeat (first | exact .head | apply In.tail | apply Take.tail | apply Upd.tail))) rfl), .nil, ?_⟩
      show wV _ = wV _
      refine wV_eq ?_
      revert hmi
      first | rw [if_pos (show a < 0 by assumption), if_pos (show a < 0 by assumption)] | rw [if_neg (show ¬ a < 0 by assumption), if_neg (show ¬ a < 0 by assumption)]
      first | rw [if_pos (show b < 0 by assumption)] | rw [if_neg (show ¬ b < 0 by assumption)]
      try first | rw [if_pos (show b < 0 by assumption)] | rw [if_neg (show ¬ b < 0 by assumption)]
      intro hmi
      omega
set_option maxRecDepth 20000 in
theorem wTenth (n : Nat) (hn : n < 340282366920938463463374607431768211456) (w : World) : FnV Tryd.prog 44 [.agg #[.int .u64 ((n / 18446744073709551616 : Nat) : Int), .int .u64 ((n % 18446744073709551616 : Nat) : Int)]] (.tuple #[.agg #[.int .u64 ((n / 10 / 18446744073709551616 : Nat) : Int), .int .u64 ((n / 10 % 18446744073709551616 : Nat) : Int)], .int .u8 ((n % 10 : Nat) : Int)]) w := by
  refine fn_enter Tryd.func44 rfl Tryd.ntmps44 rfl ?_
  refine vc_seq ?_
  refine vc_region ?_
  refine vl_box rfl rfl (.some rfl) rfl (fun r1 => ?_)
  refine vl_alloc rfl rfl (.some rfl) Tryd.zeroValue46 (fun r2 => ?_)
  refine vl_val rfl (.some rfl) (val_assign rfl) ?_
  refine vl_nil ?_
  refine vc_seq ?_
  refine vc_region ?_
  refine vl_val rfl (.some rfl) (by first | exact val_fieldAddr Tryd.runUnderlying46 rfl Tryd.sizeOf22 rfl | exact val_fieldAddrR Tryd.runUnderlying46 rfl Tryd.sizeOf22 rfl) ?_
  refine vl_val rfl (.some rfl) (val_load Tryd.isAgg22 rfl (by first | exact cell_cells (by repeat (first | exact .head | apply In.tail | apply Take.tail | apply Upd.tail)) rfl | exact cell_rd (rd_sl (by repeat (first | exact .head | apply In.tail | apply Take.tail | apply Upd.tail))) (by first | exact bcells_at (by omega) | exact ucells_at (by omega) | exact icells_at (by omega) | exact tcells_at (by omega) | exact bcells_get (by omega) | exact icells_get (by omega) | exact tcells_get (by omega) | exact ucells_get (by omega)) | exact cell_rd (rd_old (by assumption) rfl) (by first | exact bcells_at (by omega) | exact ucells_at (by omega) | exact icells_at (by omega) | exact tcells_at (by omega) | exact bcells_get (by omega) | exact icells_get (by omega) | exact tcells_get (by omega) | exact ucells_get (by omega)) | exact cell_old (by assumption) (by simp [fps]))) ?_
  refine vl_callV rfl rfl (.some rfl) Tryd.call47 rfl (fun w hw => bDiv64 0 (n / 18446744073709551616) 10 (by omega) (by omega) (by omega) w) ?_
  rw [show (0 * 18446744073709551616 + n / 18446744073709551616) / 10 = n / 10 / 18446744073709551616 by omega, show (0 * 18446744073709551616 + n / 18446744073709551616) % 10 = n / 18446744073709551616 % 10 by omega]
  refine vl_val rfl (.some rfl) (val_move rfl) ?_
  refine vl_val rfl (.some rfl) (val_extract rfl rfl) ?_
  refine vl_val rfl (.some rfl) (val_extract rfl rfl) ?_
  refine vl_val rfl (.some rfl) (val_assign rfl) ?_
  refine vl_val rfl (.some rfl) (val_assign rfl) ?_
  refine vl_nil ?_
  refine vc_seq ?_
  refine vc_region ?_
  refine vl_val rfl (.some rfl) (val_move rfl) ?_
  refine vl_val rfl (.some rfl) (by first | exact val_fieldAddr Tryd.runUnderlying46 rfl Tryd.sizeOf22 rfl | exact val_fieldAddrR Tryd.runUnderlying46 rfl Tryd.sizeOf22 rfl) ?_
  refine vl_val rfl (.some rfl) (val_load Tryd.isAgg22 rfl (by first | exact cell_cells (by repeat (first | exact .head | apply In.tail | apply Take.tail | apply Upd.tail)) rfl | exact cell_rd (rd_sl (by repeat (first | exact .head | apply In.tail | apply Take.tail | apply Upd.tail))) (by first | exact bcells_at (by omega) | exact ucells_at (by omega) | exact icells_at (by omega) | exact tcells_at (by omega) | exact bcells_get (by omega) | exact icells_get (by omega) | exact tcells_get (by omega) | exact ucells_get (by omega)) | exact cell_rd (rd_old (by assumption) rfl) (by first | exact bcells_at (by omega) | exact ucells_at (by omega) | exact icells_at (by omega) | exact tcells_at (by omega) | exact bcells_get (by omega) | exact icells_get (by omega) | exact tcells_get (by omega) | exact ucells_get (by omega)) | exact cell_old (by assumption) (by simp [fps]))) ?_
  refine vl_callV rfl rfl (.some rfl) Tryd.call47 rfl (fun w hw => bDiv64 (n / 18446744073709551616 % 10) (n % 18446744073709551616) 10 (by omega) (by omega) (by omega) w) ?_
  rw [show (n / 18446744073709551616 % 10 * 18446744073709551616 + n % 18446744073709551616) / 10 = n / 10 % 18446744073709551616 by omega, show (n / 18446744073709551616 % 10 * 18446744073709551616 + n % 18446744073709551616) % 10 = n % 10 by omega]
  refine vl_val rfl (.some rfl) (val_move rfl) ?_
  refine vl_val rfl (.some rfl) (val_extract rfl rfl) ?_
  refine vl_val rfl (.some rfl) (val_extract rfl rfl) ?_
  refine vl_val rfl (.some rfl) (val_assign rfl) ?_
  refine vl_val rfl (.some rfl) (val_assign rfl) ?_
  refine vl_nil ?_
  refine vc_seq ?_
  refine vc_region ?_
  refine vl_val rfl (.some rfl) (val_move rfl) ?_
  refine vl_val rfl (.some rfl) (val_move rfl) ?_
  refine vl_val rfl (.some rfl) (val_buildSt (pl := #[(0, 1), (1, 1)]) (cs := #[.int .u64 (((n / 10 / 18446744073709551616 : Nat) : Int)), .int .u64 (((n / 10 % 18446744073709551616 : Nat) : Int))]) Tryd.runUnderlying46 Tryd.zeroValue46 (fun w => by kernel_rfl) rfl rfl) ?_
  refine vl_val rfl (.some rfl) (val_move rfl) ?_
  refine vl_val rfl (.some rfl) (val_convInt Tryd.runUnderlying22 Tryd.runUnderlying5 rfl (show _ = ((n % 10 : Nat) : Int) by unfold IntKind.wrap; simp [IntKind.signed, IntKind.bits]; omega)) ?_
  first | refine vl_store rfl rfl .none rfl rfl Tryd.sizeOf46 rfl (by repeat (first | exact .head | apply In.tail | apply Take.tail | apply Upd.tail)) (by first | decide | exact Nat.le_refl _ | exact Nat.le_of_ble_eq_true rfl | (simp; omega)) ?_ | refine vl_storeSl rfl rfl .none rfl rfl Tryd.sizeOf46 rfl (by simp [Value.cells]) (by repeat (first | exact .head | apply In.tail | apply Take.tail | apply Upd.tail)) (by first | decide | (simp [Value.cells]; omega)) ?_
  refine vl_val rfl (.some rfl) (val_assign rfl) ?_
  refine vl_nil ?_
  refine vc_ret ?_
  refine ⟨_, [], _, resC2 Tryd.results44 rfl (whole_agg Tryd.isAgg46 Tryd.sizeOf46 (cells_whole (by repeat (first | exact .head | apply In.tail | apply Take.tail | apply Upd.tail))) rfl) rfl, .nil, ?_⟩
  rfl
set_option maxRecDepth 20000 in
theorem sTrimB (l : List UInt8) (w : World) : FnV Tryd.prog 48 [.string (sL l), .int .u8 48] (.string (sL (l.dropWhile (· == 48)))) w := by
  refine fn_enter Tryd.func48 rfl Tryd.ntmps48 rfl ?_
  refine vc_seq ?_
  refine vc_region ?_
  refine vl_val rfl (.some rfl) (val_assign rfl) ?_
  refine vl_nil ?_
  refine vc_seq ?_
  refine vc_block ?_
  refine vc_loopw (fun m E H => ∃ q : List UInt8, m = q.length ∧ q.dropWhile (· == 48) = l.dropWhile (· == 48) ∧ E = [(0, .string (sL q)), (1, .int .u8 48)] ∧ H = []) (l.length) ⟨_, _, _, ⟨l, rfl, rfl, rfl, rfl⟩, (by repeat (first | exact trivial | refine ⟨rfl, ?_⟩ | refine ⟨le_item rfl (by first | rfl | (congr 1; omega) | (simp; done) | (simp; omega)), ?_⟩)), (by repeat (first | exact .nil | (apply Sub.cons; · repeat (first | exact .head | apply Take.tail))))⟩ ?_
  intro m E H hI
  obtain ⟨q, rfl, hq, rfl, rfl⟩ := hI
  refine vc_seq ?_
  refine vc_seq ?_
  refine vc_region ?_
  refine vl_val rfl (.some rfl) (val_move rfl) ?_
  refine vl_val rfl (.some rfl) (val_lenStr Tryd.runUnderlying9 rfl) ?_
  refine vl_val rfl (.some rfl) (val_gt rfl rfl) ?_
  refine vl_val rfl (.some rfl) (val_move rfl) ?_
  refine vl_split (t := 8) rfl (fun hg8 => ?_) (fun hg8 => ?_)
  · (try replace hg8 := of_decide_eq_true hg8)
    have hln : 0 < q.length := by rw [sL_size] at hg8; omega
    refine vl_on rfl rfl rfl rfl ?_
    refine vl_val rfl (.some rfl) (val_move rfl) ?_
    refine vl_on rfl rfl rfl rfl ?_
    refine vl_val rfl (.some rfl) (val_indexStr Tryd.runUnderlying9 rfl rfl (by omega) (by rw [sL_size]; omega)) ?_
    refine vl_on rfl rfl rfl rfl ?_
    refine vl_val rfl (.some rfl) (val_move rfl) ?_
    refine vl_on rfl rfl rfl rfl ?_
    refine vl_val rfl (.some rfl) (val_eq rfl rfl) ?_
    refine vl_val rfl (.some rfl) (val_pick rfl rfl) ?_
    refine vl_nil ?_
    refine vc_cond rfl (fun hc0 => ?_) (fun hc0 => ?_)
    · (try replace hc0 := of_decide_eq_true hc0)
      
      refine vc_skip ?_
      refine vc_block ?_
      refine vc_region ?_
      refine vl_val rfl (.some rfl) (val_move rfl) ?_
      refine vl_val rfl (.some rfl) (val_cutStrFrom Tryd.runUnderlying9 rfl rfl (by omega) (by rw [sL_size]; omega)) ?_
      rw [sL_cut, sL_size, List.take_length, show Int.toNat 1 = 1 from rfl]
      refine vl_val rfl (.some rfl) (val_assign rfl) ?_
      refine vl_nil ?_
      exact ⟨(q.drop 1).length, _, _, _, by rw [List.length_drop]; omega, (by repeat (first | exact trivial | refine ⟨rfl, ?_⟩ | refine ⟨le_item rfl (by first | rfl | (congr 1; omega) | (simp; done) | (simp; omega)), ?_⟩)), (by repeat (first | exact .nil | (apply Sub.cons; · repeat (first | exact .head | apply Take.tail)))), ⟨q.drop 1, rfl, by rw [← hq, trim_step hln (by assumption)], rfl, rfl⟩⟩
    · (try replace hc0 := of_decide_eq_false hc0)
      
      refine vc_exit ?_
      refine vc_seq ?_
      refine vc_region ?_
      refine vl_val rfl (.some rfl) (val_move rfl) ?_
      refine vl_val rfl (.some rfl) (val_assign rfl) ?_
      refine vl_nil ?_
      refine vc_ret ?_
      refine ⟨_, [], _, res1 Tryd.results48 rfl, .nil, ?_⟩
      show Value.string _ = Value.string _
      rw [← hq]
      first | rw [trim_stop (by assumption) (by assumption)] | rw [trim_nil (by assumption)]
  · (try replace hg8 := of_decide_eq_false hg8)
    refine vl_off rfl rfl rfl rfl (.some rfl) ?_
    refine vl_off rfl rfl rfl rfl (.some rfl) ?_
    refine vl_off rfl rfl rfl rfl (.some rfl) ?_
    refine vl_off rfl rfl rfl rfl (.some rfl) ?_
    refine vl_val rfl (.some rfl) (val_pick rfl rfl) ?_
    refine vl_nil ?_
    refine vc_cond rfl (fun h => by cases h) (fun _ => ?_)
    refine vc_exit ?_
    refine vc_seq ?_
    refine vc_region ?_
    refine vl_val rfl (.some rfl) (val_move rfl) ?_
    refine vl_val rfl (.some rfl) (val_assign rfl) ?_
    refine vl_nil ?_
    refine vc_ret ?_
    refine ⟨_, [], _, res1 Tryd.results48 rfl, .nil, ?_⟩
    show Value.string _ = Value.string _
    rw [← hq]
    first | rw [trim_stop (by assumption) (by assumption)] | rw [trim_nil (by assumption)]
set_option maxRecDepth 20000 in
theorem sTrim (l : List UInt8) (w : World) : FnV Tryd.prog 45 [.string (sL l), .string (sL [48])] (.string (sL (l.dropWhile (· == 48)))) w := by
  refine fn_enter Tryd.func45 rfl Tryd.ntmps45 rfl ?_
  refine vc_seq ?_
  refine vc_region ?_
  refine vl_val rfl (.some rfl) (val_assign rfl) ?_
  refine vl_nil ?_
  refine vc_seq ?_
  refine vc_seq ?_
  refine vc_region ?_
  refine vl_val rfl (.some rfl) (val_move rfl) ?_
  refine vl_val rfl (.some rfl) (val_seq rfl rfl) ?_
  refine vl_val rfl (.some rfl) (val_move rfl) ?_
  refine vl_split (t := 9) rfl (fun hg9 => ?_) (fun hg9 => ?_)
  · (try replace hg9 := of_decide_eq_true hg9)
    refine vl_off rfl rfl rfl rfl (.some rfl) ?_
    refine vl_off rfl rfl rfl rfl (.some rfl) ?_
    refine vl_val rfl (.some rfl) (val_pick rfl rfl) ?_
    refine vl_nil ?_
    refine vc_cond rfl (fun _ => ?_) (fun h => by cases h)
    refine vc_seq ?_
    refine vc_region ?_
    refine vl_val rfl (.some rfl) (val_move rfl) ?_
    refine vl_val rfl (.some rfl) (val_assign rfl) ?_
    refine vl_nil ?_
    refine vc_ret ?_
    refine ⟨_, [], _, res1 Tryd.results45 rfl, .nil, ?_⟩
    show Value.string _ = Value.string _
    rw [show l = [] from sL_inj.1 hg9]
    rfl
  · (try replace hg9 := of_decide_eq_false hg9)
    refine vl_on rfl rfl rfl rfl ?_
    refine vl_val rfl (.some rfl) (val_move rfl) ?_
    refine vl_on rfl rfl rfl rfl ?_
    refine vl_val rfl (.some rfl) (val_seq rfl rfl) ?_
    refine vl_val rfl (.some rfl) (val_pick rfl rfl) ?_
    refine vl_nil ?_
    refine vc_cond rfl (fun hc0 => False.elim (by (try replace hc0 := of_decide_eq_true hc0); revert hc0; decide)) (fun hc0 => ?_)
    (try replace hc0 := of_decide_eq_false hc0)
    refine vc_skip ?_
    refine vc_seq ?_
    refine vc_seq ?_
    refine vc_region ?_
    refine vl_val rfl (.some rfl) (val_move rfl) ?_
    refine vl_val rfl (.some rfl) (val_lenStr Tryd.runUnderlying9 rfl) ?_
    refine vl_val rfl (.some rfl) (val_eq rfl rfl) ?_
    refine vl_val rfl (.some rfl) (val_move rfl) ?_
    refine vl_split (t := 17) rfl (fun hg17 => ?_) (fun hg17 => ?_)
    · (try replace hg17 := of_decide_eq_true hg17)
      refine vl_on rfl rfl rfl rfl ?_
      refine vl_val rfl (.some rfl) (val_move rfl) ?_
      refine vl_on rfl rfl rfl rfl ?_
      refine vl_val rfl (.some rfl) (val_indexStr Tryd.runUnderlying9 rfl rfl (by decide) (by decide)) ?_
      refine vl_on rfl rfl rfl rfl ?_
      refine vl_val rfl (.some rfl) (val_lt rfl rfl) ?_
      refine vl_val rfl (.some rfl) (val_pick rfl rfl) ?_
      refine vl_nil ?_
      refine vc_cond rfl (fun hc1 => ?_) (fun hc1 => False.elim (by (try replace hc1 := of_decide_eq_false hc1); revert hc1; decide))
      (try replace hc1 := of_decide_eq_true hc1)
      refine vc_seq ?_
      refine vc_region ?_
      refine vl_val rfl (.some rfl) (val_move rfl) ?_
      refine vl_val rfl (.some rfl) (val_move rfl) ?_
      refine vl_val rfl (.some rfl) (val_indexStr Tryd.runUnderlying9 rfl rfl (by decide) (by decide)) ?_
      refine vl_callV rfl rfl (.some rfl) Tryd.call48 rfl (fun w hw => sTrimB l w) ?_
      refine vl_val rfl (.some rfl) (val_assign rfl) ?_
      refine vl_nil ?_
      refine vc_ret ?_
      refine ⟨_, [], _, res1 Tryd.results45 rfl, .nil, ?_⟩
      rfl
    · (try replace hg17 := of_decide_eq_false hg17)
      exfalso
      revert hg17; decide
set_option maxRecDepth 20000 in
theorem sHasP (l : List UInt8) (w : World) : FnV Tryd.prog 46 [.string (sL l), .string (sL [45])] (.bool (isNeg l)) w := by
  refine fn_enter Tryd.func46 rfl Tryd.ntmps46 rfl ?_
  refine vc_seq ?_
  refine vc_region ?_
  refine vl_val rfl (.some rfl) (val_assign rfl) ?_
  refine vl_nil ?_
  refine vc_seq ?_
  refine vc_region ?_
  refine vl_val rfl (.some rfl) (val_move rfl) ?_
  refine vl_val rfl (.some rfl) (val_lenStr Tryd.runUnderlying9 rfl) ?_
  refine vl_val rfl (.some rfl) (val_move rfl) ?_
  refine vl_val rfl (.some rfl) (val_lenStr Tryd.runUnderlying9 rfl) ?_
  refine vl_val rfl (.some rfl) (val_ge rfl rfl) ?_
  refine vl_val rfl (.some rfl) (val_move rfl) ?_
  refine vl_split (t := 10) rfl (fun hg10 => ?_) (fun hg10 => ?_)
  · (try replace hg10 := of_decide_eq_true hg10)
    refine vl_on rfl rfl rfl rfl ?_
    refine vl_val rfl (.some rfl) (val_move rfl) ?_
    refine vl_on rfl rfl rfl rfl ?_
    refine vl_val rfl (.some rfl) (val_move rfl) ?_
    refine vl_on rfl rfl rfl rfl ?_
    refine vl_val rfl (.some rfl) (val_lenStr Tryd.runUnderlying9 rfl) ?_
    refine vl_on rfl rfl rfl rfl ?_
    refine vl_val rfl (.some rfl) (val_cutStrTo Tryd.runUnderlying9 rfl rfl (by omega) (by omega)) ?_
    rw [sL_cut, show Int.toNat ((sL [45]).size : Int) = 1 from rfl, List.drop_zero]
    refine vl_on rfl rfl rfl rfl ?_
    refine vl_val rfl (.some rfl) (val_move rfl) ?_
    refine vl_on rfl rfl rfl rfl ?_
    refine vl_val rfl (.some rfl) (val_seq rfl rfl) ?_
    refine vl_val rfl (.some rfl) (val_pick rfl rfl) ?_
    refine vl_val rfl (.some rfl) (val_assign rfl) ?_
    refine vl_nil ?_
    refine vc_ret ?_
    refine ⟨_, [], _, res1 Tryd.results46 rfl, .nil, ?_⟩
    show Value.bool _ = Value.bool _
    first | rw [pre_yes hg10] | rw [← pre_no hg10]
  · (try replace hg10 := of_decide_eq_false hg10)
    refine vl_off rfl rfl rfl rfl (.some rfl) ?_
    refine vl_off rfl rfl rfl rfl (.some rfl) ?_
    refine vl_off rfl rfl rfl rfl (.some rfl) ?_
    refine vl_off rfl rfl rfl rfl (.some rfl) ?_
    refine vl_off rfl rfl rfl rfl (.some rfl) ?_
    refine vl_off rfl rfl rfl rfl (.some rfl) ?_
    refine vl_val rfl (.some rfl) (val_pick rfl rfl) ?_
    refine vl_val rfl (.some rfl) (val_assign rfl) ?_
    refine vl_nil ?_
    refine vc_ret ?_
    refine ⟨_, [], _, res1 Tryd.results46 rfl, .nil, ?_⟩
    show Value.bool _ = Value.bool _
    first | rw [pre_yes hg10] | rw [← pre_no hg10]
set_option maxRecDepth 20000 in
theorem sCutP0 (l : List UInt8) (w : World) : FnV Tryd.prog 42 [.string (sL l), .string (sL [45])] (.tuple #[.string (sL (rest1 l)), .bool (isNeg l)]) w := by
  refine fn_enter Tryd.func42 rfl Tryd.ntmps42 rfl ?_
  refine vc_seq ?_
  refine vc_region ?_
  refine vl_val rfl (.some rfl) (val_assign rfl) ?_
  refine vl_val rfl (.some rfl) (val_assign rfl) ?_
  refine vl_nil ?_
  refine vc_seq ?_
  refine vc_seq ?_
  refine vc_region ?_
  refine vl_val rfl (.some rfl) (val_move rfl) ?_
  refine vl_val rfl (.some rfl) (val_move rfl) ?_
  refine vl_callV rfl rfl (.some rfl) Tryd.call46 rfl (fun w hw => sHasP l w) ?_
  refine vl_val rfl (.some rfl) (val_not rfl) ?_
  refine vl_nil ?_
  refine vc_cond rfl (fun hc0 => ?_) (fun hc0 => ?_)
  · (try replace hc0 := of_decide_eq_true hc0)
    have hn : ¬ isNeg l = true := by simpa using hc0
    refine vc_seq ?_
    refine vc_region ?_
    refine vl_val rfl (.some rfl) (val_move rfl) ?_
    refine vl_val rfl (.some rfl) (val_assign rfl) ?_
    refine vl_val rfl (.some rfl) (val_assign rfl) ?_
    refine vl_nil ?_
    refine vc_ret ?_
    refine ⟨_, [], _, res2 Tryd.results42 rfl rfl, .nil, ?_⟩
    show _ = _
    rw [rest1, if_neg hn, show isNeg l = false by simpa using hn]
  · (try replace hc0 := of_decide_eq_false hc0)
    have hn : isNeg l = true := by simpa using hc0
    have hll : 0 < l.length := by cases l with | nil => cases hn | cons a b => simp
    refine vc_skip ?_
    refine vc_seq ?_
    refine vc_region ?_
    refine vl_val rfl (.some rfl) (val_move rfl) ?_
    refine vl_val rfl (.some rfl) (val_move rfl) ?_
    refine vl_val rfl (.some rfl) (val_lenStr Tryd.runUnderlying9 rfl) ?_
    refine vl_val rfl (.some rfl) (val_cutStrFrom Tryd.runUnderlying9 rfl rfl (by omega) (by rw [sL_size, sL_size]; simp; omega)) ?_
    rw [sL_cut, show Int.toNat ((sL [45]).size : Int) = 1 from rfl, sL_size, List.take_length, List.drop_one]
    refine vl_val rfl (.some rfl) (val_assign rfl) ?_
    refine vl_val rfl (.some rfl) (val_assign rfl) ?_
    refine vl_nil ?_
    refine vc_ret ?_
    refine ⟨_, [], _, res2 Tryd.results42 rfl rfl, .nil, ?_⟩
    show _ = _
    rw [rest1, if_pos hn, hn]
set_option maxRecDepth 20000 in
theorem sCutP (l : List UInt8) (w : World) : FnV Tryd.prog 34 [.string (sL l), .string (sL [45])] (.tuple #[.string (sL (rest1 l)), .bool (isNeg l)]) w := by
  refine fn_enter Tryd.func34 rfl Tryd.ntmps34 rfl ?_
  refine vc_seq ?_
  refine vc_region ?_
  refine vl_val rfl (.some rfl) (val_assign rfl) ?_
  refine vl_val rfl (.some rfl) (val_assign rfl) ?_
  refine vl_nil ?_
  refine vc_seq ?_
  refine vc_region ?_
  refine vl_val rfl (.some rfl) (val_move rfl) ?_
  refine vl_val rfl (.some rfl) (val_move rfl) ?_
  refine vl_callV rfl rfl (.some rfl) Tryd.call42 rfl (fun w hw => sCutP0 l w) ?_
  refine vl_val rfl (.some rfl) (val_extract rfl rfl) ?_
  refine vl_val rfl (.some rfl) (val_extract rfl rfl) ?_
  refine vl_val rfl (.some rfl) (val_assign rfl) ?_
  refine vl_val rfl (.some rfl) (val_assign rfl) ?_
  refine vl_nil ?_
  refine vc_ret ?_
  refine ⟨_, [], _, res2 Tryd.results34 rfl rfl, .nil, ?_⟩
  rfl
set_option maxRecDepth 20000 in
set_option maxHeartbeats 1000000 in
theorem wDigits (n : Nat) (hn : n < 340282366920938463463374607431768211456) (w : World) : FnV Tryd.prog 38 [.agg #[.int .u64 ((n / 18446744073709551616 : Nat) : Int), .int .u64 ((n % 18446744073709551616 : Nat) : Int)]] (.string (sL (prN n))) w := by
  have h40 : n < 10 ^ 40 := Nat.lt_of_lt_of_le hn (by decide)
  refine fn_enter Tryd.func38 rfl Tryd.ntmps38 rfl ?_
  refine vc_seq ?_
  refine vc_region ?_
  refine vl_box rfl rfl (.some rfl) rfl (fun r1 => ?_)
  refine vl_val rfl (.some rfl) (val_assign rfl) ?_
  refine vl_nil ?_
  refine vc_seq ?_
  refine vc_region ?_
  refine vl_alloc rfl rfl (.some rfl) Tryd.zeroValue60 (fun r3 => ?_)
  refine vl_nil ?_
  refine vc_seq ?_
  refine vc_seq ?_
  refine vc_region ?_
  refine vl_val rfl (.some rfl) (val_move rfl) ?_
  refine vl_nil ?_
  refine vc_block ?_
  rw [show n / 18446744073709551616 = n / 10 ^ 0 / 18446744073709551616 by rw [Nat.pow_zero, Nat.div_one], show n % 18446744073709551616 = n / 10 ^ 0 % 18446744073709551616 by rw [Nat.pow_zero, Nat.div_one]]
  refine vc_loopw (fun m E H => ∃ i : Nat, i ≤ 40 ∧ m = 40 - i ∧ E = [(1, .pointer (some ⟨r1, 0, none⟩)), (3, .pointer (some ⟨r3, 0, none⟩)), (7, .int .i64 i)] ∧ H = [cells r1 [.int .u64 ((n / 10 ^ i / 18446744073709551616 : Nat) : Int), .int .u64 ((n / 10 ^ i % 18446744073709551616 : Nat) : Int)] 46, cells r3 (bcells (List.replicate (40 - i) 0 ++ digs i n)) 60]) (40) ⟨_, _, _, ⟨0, by omega, rfl, rfl, rfl⟩, (by repeat (first | exact trivial | refine ⟨rfl, ?_⟩ | refine ⟨le_item rfl (by first | rfl | (congr 1; omega) | (simp; done) | (simp; omega)), ?_⟩)), (by repeat (first | exact .nil | (apply Sub.cons; · repeat (first | exact .head | apply Take.tail))))⟩ ?_
  intro m E H hI
  obtain ⟨i, hi, rfl, rfl, rfl⟩ := hI
  refine vc_seq ?_
  refine vc_region ?_
  refine vl_val rfl (.some rfl) (val_lt rfl rfl) ?_
  refine vl_nil ?_
  refine vc_seq ?_
  refine vc_cond rfl (fun hc0 => ?_) (fun hc0 => ?_)
  · (try replace hc0 := of_decide_eq_true hc0)
    refine vc_skip ?_
    refine vc_seq ?_
    refine vc_block ?_
    refine vc_seq ?_
    refine vc_region ?_
    refine vl_val rfl (.some rfl) (val_move rfl) ?_
    refine vl_val rfl (.some rfl) (val_assign rfl) ?_
    refine vl_nil ?_
    refine vc_seq ?_
    refine vc_region ?_
    refine vl_val rfl (.some rfl) (val_assign rfl) ?_
    refine vl_nil ?_
    refine vc_seq ?_
    refine vc_region ?_
    refine vl_val rfl (.some rfl) (val_loadAgg Tryd.isAgg46 Tryd.sizeOf46 rfl (by first | exact cells_whole (by repeat (first | exact .head | apply In.tail | apply Take.tail | apply Upd.tail)) | exact cells_part (by repeat (first | exact .head | apply In.tail | apply Take.tail | apply Upd.tail)) rfl) rfl) ?_
    have hdl := Nat.div_le_self n (10 ^ i)
    refine vl_callV rfl rfl (.some rfl) Tryd.call44 rfl (fun w hw => wTenth (n / 10 ^ i) (by omega) w) ?_
    rw [show n / 10 ^ i / 10 = n / 10 ^ (i + 1) by rw [Nat.div_div_eq_div_mul, Nat.pow_succ]]
    refine vl_val rfl (.some rfl) (val_move rfl) ?_
    refine vl_val rfl (.some rfl) (val_extract rfl rfl) ?_
    refine vl_val rfl (.some rfl) (val_extract rfl rfl) ?_
    first | refine vl_store rfl rfl .none rfl rfl Tryd.sizeOf46 rfl (by repeat (first | exact .head | apply In.tail | apply Take.tail | apply Upd.tail)) (by first | decide | exact Nat.le_refl _ | exact Nat.le_of_ble_eq_true rfl | (simp; omega)) ?_ | refine vl_storeSl rfl rfl .none rfl rfl Tryd.sizeOf46 rfl (by simp [Value.cells]) (by repeat (first | exact .head | apply In.tail | apply Take.tail | apply Upd.tail)) (by first | decide | (simp [Value.cells]; omega)) ?_
    refine vl_val rfl (.some rfl) (val_assign rfl) ?_
    refine vl_nil ?_
    refine vc_region ?_
    refine vl_val rfl (.some rfl) (val_move rfl) ?_
    refine vl_val rfl (.some rfl) (val_sub rfl rfl (show _ = ((39 - i : Nat) : Int) by rw [w_i64 (by omega) (by omega)]; omega)) ?_
    refine vl_val rfl (.some rfl) (val_move rfl) ?_
    refine vl_val rfl (.some rfl) (val_add rfl rfl (show _ = (((dg (n / 10 ^ i % 10)).toNat : Nat) : Int) by rw [dg_nat (by omega)]; unfold IntKind.wrap; simp [IntKind.signed, IntKind.bits]; omega)) ?_
    refine vl_val rfl (.some rfl) (val_indexAddrArr Tryd.runUnderlying60 Tryd.sizeOf5 rfl rfl (by omega) (by omega)) ?_
    refine vl_store (vs := bcells (List.replicate (40 - i) 0 ++ digs i n)) rfl rfl .none rfl rfl Tryd.sizeOf5 rfl (by repeat (first | exact .head | apply In.tail | apply Take.tail | apply Upd.tail)) (by rw [bcells_length, List.length_append, List.length_replicate, digs_len]; show 0 + Int.toNat ((39 - i : Nat) : Int) * 1 + 1 ≤ _; omega) ?_
    rw [dig_set (by omega)]
    refine vl_nil ?_
    refine vc_region ?_
    refine vl_val rfl (.some rfl) (val_add rfl rfl (by first | exact w_i64 (by omega) (by omega) | rfl)) ?_
    refine vl_val rfl (.some rfl) (val_move rfl) ?_
    refine vl_nil ?_
    exact ⟨(40 - (i + 1)), _, _, _, by omega, (by repeat (first | exact trivial | refine ⟨rfl, ?_⟩ | refine ⟨le_item rfl (by first | rfl | (congr 1; omega) | (simp; done) | (simp; omega)), ?_⟩)), (by repeat (first | exact .nil | (apply Sub.cons; · repeat (first | exact .head | apply Take.tail)))), ⟨i + 1, by omega, rfl, rfl, rfl⟩⟩
  · (try replace hc0 := of_decide_eq_false hc0)
    refine vc_exit ?_
    refine vc_seq ?_
    refine vc_region ?_
    obtain rfl : i = 40 := by omega
    rw [Nat.sub_self, List.replicate_zero, List.nil_append]
    refine vl_val rfl (.some rfl) (val_cutArrAll Tryd.runUnderlying60 Tryd.sizeOf5 rfl (by decide)) ?_
    refine vl_val rfl (.some rfl) (val_bytesToStr (l := digs 40 n) Tryd.runUnderlying57 Tryd.runUnderlying5 Tryd.runUnderlying9 rfl (rd_cells (vs := bcells (digs 40 n)) (by repeat (first | exact .head | apply In.tail | apply Take.tail | apply Upd.tail))) (digs_len 40 n)) ?_
    refine vl_callV rfl rfl (.some rfl) Tryd.call45 rfl (fun w hw => sTrim (digs 40 n) w) ?_
    rw [trim_digs h40]
    refine vl_val rfl (.some rfl) (val_assign rfl) ?_
    refine vl_nil ?_
    refine vc_seq ?_
    refine vc_seq ?_
    refine vc_region ?_
    refine vl_val rfl (.some rfl) (val_move rfl) ?_
    refine vl_val rfl (.some rfl) (val_seq rfl rfl) ?_
    refine vl_nil ?_
    refine vc_cond rfl (fun hc1 => ?_) (fun hc1 => ?_)
    · (try replace hc1 := of_decide_eq_true hc1)
      refine vc_seq ?_
      refine vc_region ?_
      refine vl_val rfl (.some rfl) (val_assign rfl) ?_
      refine vl_nil ?_
      refine vc_ret ?_
      refine ⟨_, [], _, res1 Tryd.results38 rfl, .nil, ?_⟩
      show Value.string _ = Value.string _
      rw [prN_e h40 ((sL_inj (b := [])).1 (by assumption))]
    · (try replace hc1 := of_decide_eq_false hc1)
      refine vc_skip ?_
      refine vc_seq ?_
      refine vc_region ?_
      refine vl_val rfl (.some rfl) (val_move rfl) ?_
      refine vl_val rfl (.some rfl) (val_assign rfl) ?_
      refine vl_nil ?_
      refine vc_ret ?_
      refine ⟨_, [], _, res1 Tryd.results38 rfl, .nil, ?_⟩
      show Value.string _ = Value.string _
      rw [prN_ne (fun e => (show ¬ sL (decF 40 n) = sL [] by assumption) (by rw [e]))]
set_option maxRecDepth 20000 in
theorem wPrint (x : Int) (hx : inW x) (w : World) : FnV Tryd.prog 18 [wV x] (.string (sL (prL x))) w := by
  have hnl := inW_nat hx
  have hxb := hx
  unfold inW at hxb
  refine fn_enter Tryd.func18 rfl Tryd.ntmps18 rfl ?_
  refine vc_seq ?_
  refine vc_region ?_
  refine vl_box rfl rfl (.some rfl) rfl (fun r1 => ?_)
  refine vl_val rfl (.some rfl) (val_assign rfl) ?_
  refine vl_nil ?_
  refine vc_seq ?_
  refine vc_region ?_
  refine vl_val rfl (.some rfl) (val_loadAgg Tryd.isAgg24 Tryd.sizeOf24 rfl (by first | exact cells_whole (by repeat (first | exact .head | apply In.tail | apply Take.tail | apply Upd.tail)) | exact cells_part (by repeat (first | exact .head | apply In.tail | apply Take.tail | apply Upd.tail)) rfl) rfl) ?_
  refine vl_callV rfl rfl (.some rfl) Tryd.call36 rfl (fun w hw => wHalves _ w) ?_
  refine vl_alloc rfl rfl (.some rfl) Tryd.zeroValue46 (fun r3 => ?_)
  first | refine vl_store rfl rfl .none rfl rfl Tryd.sizeOf46 rfl (by repeat (first | exact .head | apply In.tail | apply Take.tail | apply Upd.tail)) (by first | decide | exact Nat.le_refl _ | exact Nat.le_of_ble_eq_true rfl | (simp; omega)) ?_ | refine vl_storeSl rfl rfl .none rfl rfl Tryd.sizeOf46 rfl (by simp [Value.cells]) (by repeat (first | exact .head | apply In.tail | apply Take.tail | apply Upd.tail)) (by first | decide | (simp [Value.cells]; omega)) ?_
  refine vl_nil ?_
  refine vc_seq ?_
  refine vc_seq ?_
  refine vc_region ?_
  refine vl_val rfl (.some rfl) (val_loadAgg Tryd.isAgg46 Tryd.sizeOf46 rfl (by first | exact cells_whole (by repeat (first | exact .head | apply In.tail | apply Take.tail | apply Upd.tail)) | exact cells_part (by repeat (first | exact .head | apply In.tail | apply Take.tail | apply Upd.tail)) rfl) rfl) ?_
  refine vl_callV rfl rfl (.some rfl) Tryd.call37 rfl (fun w hw => wBelow _ w) ?_
  refine vl_nil ?_
  refine vc_cond rfl (fun hc0 => ?_) (fun hc0 => ?_)
  · (try replace hc0 := of_decide_eq_true hc0)
    have hneg : x < 0 := (neg_in hx).1 (by simpa using hc0)
    have hpl := prN_len hnl.1 (by decide) (by decide)
    refine vc_seq ?_
    refine vc_region ?_
    refine vl_val rfl (.some rfl) (val_buildSt (pl := #[(0, 1), (1, 1)]) (cs := #[.int .u64 (hP 0), .int .u64 (lW 0)]) Tryd.runUnderlying46 Tryd.zeroValue46 (fun w => by kernel_rfl) rfl rfl) ?_
    refine vl_val rfl (.some rfl) (val_loadAgg Tryd.isAgg46 Tryd.sizeOf46 rfl (by first | exact cells_whole (by repeat (first | exact .head | apply In.tail | apply Take.tail | apply Upd.tail)) | exact cells_part (by repeat (first | exact .head | apply In.tail | apply Take.tail | apply Upd.tail)) rfl) rfl) ?_
    refine vl_callV rfl rfl (.some rfl) Tryd.call29 rfl (fun w hw => wMinus 0 x w) ?_
    refine vl_callV rfl rfl (.some rfl) Tryd.call38 rfl (fun w hw => by have h := wDigits (-x).toNat (by omega) w; rw [← hP_nat (-x).toNat (by omega), ← lW_nat, show (((-x).toNat : Nat) : Int) = 0 - x by omega] at h; exact h) ?_
    refine vl_val rfl (.some rfl) (val_cat (s := sL [45]) rfl rfl (by rw [sL_size, sL_size, List.length_singleton]; omega)) ?_
    rw [sL_cat]
    refine vl_val rfl (.some rfl) (val_assign rfl) ?_
    refine vl_nil ?_
    refine vc_ret ?_
    refine ⟨_, [], _, res1 Tryd.results18 rfl, .nil, ?_⟩
    show Value.string _ = Value.string _
    rw [prL_neg hneg]
    rfl
  · (try replace hc0 := of_decide_eq_false hc0)
    have hneg : ¬ x < 0 := fun h => (show ¬ hW x < 0 by simpa using hc0) ((neg_in hx).2 h)
    refine vc_skip ?_
    refine vc_seq ?_
    refine vc_region ?_
    refine vl_val rfl (.some rfl) (val_loadAgg Tryd.isAgg46 Tryd.sizeOf46 rfl (by first | exact cells_whole (by repeat (first | exact .head | apply In.tail | apply Take.tail | apply Upd.tail)) | exact cells_part (by repeat (first | exact .head | apply In.tail | apply Take.tail | apply Upd.tail)) rfl) rfl) ?_
    refine vl_callV rfl rfl (.some rfl) Tryd.call38 rfl (fun w hw => by have h := wDigits x.toNat (by omega) w; rw [← hP_nat x.toNat (by omega), ← lW_nat, show ((x.toNat : Nat) : Int) = x by omega] at h; exact h) ?_
    refine vl_val rfl (.some rfl) (val_assign rfl) ?_
    refine vl_nil ?_
    refine vc_ret ?_
    refine ⟨_, [], _, res1 Tryd.results18 rfl, .nil, ?_⟩
    show Value.string _ = Value.string _
    rw [prL_pos hneg]

end Go.Proofs.YtpgopfidbmiifaaDoor.K
