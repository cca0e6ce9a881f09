/- Walks of the program's functions, printed by a program of this session; Lean checks them. -/
import Derived.Test.YtpgopfidbmiifaaDoorYwe
namespace Go.Proofs.YtpgopfidbmiifaaDoor.K
open Go Go.RowKit Go.Proofs
set_option linter.unusedVariables false
set_option linter.unusedSimpArgs false
set_option maxRecDepth 20000 in
theorem sT57 : SlT Tryd.prog 57 5 1 1 (.int .u8 0) := ⟨Tryd.underlying57, ⟨Tryd.t5, Tryd.type5, rfl, rfl, rfl⟩, rfl, Nat.lt_of_sub_eq_succ rfl⟩

theorem decF_more : ∀ {k n : Nat}, n < 10 ^ k → decF (k + 1) n = decF k n
  | 0, n, h => by simp at h; subst h; rfl
  | k + 1, n, h => by
    rw [decF]
    by_cases z : n = 0
    · rw [if_pos z, z, decF_zero]
    · rw [if_neg z, decF_more (show n / 10 < 10 ^ k by rw [Nat.pow_succ] at h; omega)]
      rw [show decF (k + 1) n = if n = 0 then [] else decF k (n / 10) ++ [dg (n % 10)] from rfl, if_neg z]
theorem prN_one {v : Nat} (h : v / 10 = 0) : prN v = [dg (v % 10)] := by
  unfold prN
  by_cases z : v = 0
  · rw [if_pos z, z]; rfl
  · rw [if_neg z, show decF 40 v = if v = 0 then [] else decF 39 (v / 10) ++ [dg (v % 10)] from rfl, if_neg z, h, decF_zero]; rfl
theorem prN_step {v : Nat} (h : v / 10 ≠ 0) (hv : v < 10 ^ 40) : prN v = prN (v / 10) ++ [dg (v % 10)] := by
  have z : v ≠ 0 := by omega
  have h39 : v / 10 < 10 ^ 39 := by rw [Nat.pow_succ] at hv; omega
  unfold prN
  rw [if_neg z, if_neg h, show decF 40 v = if v = 0 then [] else decF 39 (v / 10) ++ [dg (v % 10)] from rfl, if_neg z, ← decF_more h39]
theorem fold_ge : ∀ (b : List UInt8) (a : Nat), a ≤ b.foldl (fun a d => 10 * a + (d.toNat - 48)) a
  | [], a => Nat.le_refl _
  | d :: b, a => Nat.le_trans (by omega) (fold_ge b (10 * a + (d.toNat - 48)))
theorem dval_le (q : List UInt8) (i : Nat) : dval (q.take i) ≤ dval q := by
  have : dval q = (q.drop i).foldl (fun a d => 10 * a + (d.toNat - 48)) (dval (q.take i)) := by
    unfold dval
    rw [← List.foldl_append, List.take_append_drop]
  rw [this]; exact fold_ge _ _
def sgn (b : Bool) (n : Nat) : Int := if b = true then -(n : Int) else n
theorem sgn_t {b : Bool} {n : Nat} (h : b = true) : -(n : Int) = sgn b n := by unfold sgn; rw [if_pos h]
theorem sgn_f {b : Bool} {n : Nat} (h : b = false) : (n : Int) = sgn b n := by unfold sgn; rw [h]; rfl
theorem sval_is {l q : List UInt8} {b : Bool} (hq : rest1 l = q) (hb : isNeg l = b) : sval l = sgn b (dval q) := by unfold sval sgn; rw [hq, hb]
theorem par_over {l q : List UInt8} {b : Bool} {i : Nat} (hq : rest1 l = q) (hb : isNeg l = b) (h : ¬ inW (sgn b (dval (q.take i)))) : parO l = none := by
  unfold parO
  refine if_neg fun hc => h ?_
  have h1 := hc.1
  rw [sval_is hq hb] at h1
  have h2 := dval_le q i
  unfold inW sgn at *
  split at h1 <;> split <;> first | omega | contradiction
theorem par_end {l q : List UInt8} {b : Bool} (hq : rest1 l = q) (hb : isNeg l = b) (hv : inW (sgn b (dval q))) : parO l = if prL (sgn b (dval q)) = l then some (sgn b (dval q)) else none := by
  unfold parO
  rw [sval_is hq hb]
  by_cases c : prL (sgn b (dval q)) = l
  · rw [if_pos c, if_pos ⟨hv, c⟩]
  · rw [if_neg c, if_neg fun h => c h.2]
theorem ref_yes {l : List UInt8} (h : ((sL l).size : Int) > 0) (hc : ((bt (sL l) (Int.toNat 0) : Nat) : Int) = 45) : rest1 l = l.drop 1 ∧ isNeg l = true := by
  rw [sL_size] at h
  rw [show Int.toNat 0 = 0 from rfl, bt_sL] at hc
  cases l with
  | nil => simp at h
  | cons x t =>
    have : x = 45 := UInt8.toNat_inj.1 (show x.toNat = 45 by simp at hc; omega)
    subst this
    exact ⟨rfl, rfl⟩
theorem ref_no {l : List UInt8} (h : ((sL l).size : Int) > 0) (hc : ¬ ((bt (sL l) (Int.toNat 0) : Nat) : Int) = 45) : rest1 l = l ∧ isNeg l = false := by
  rw [sL_size] at h
  rw [show Int.toNat 0 = 0 from rfl, bt_sL] at hc
  have hf : isNeg l = false := by
    cases l with
    | nil => simp at h
    | cons x t =>
      have : ¬ x = 45 := fun e => hc (by rw [e]; rfl)
      simp [isNeg, this]
  exact ⟨by unfold rest1; rw [hf]; rfl, hf⟩
theorem ref_nil {l : List UInt8} (h : ¬ ((sL l).size : Int) > 0) : rest1 l = l ∧ isNeg l = false := by
  rw [sL_size] at h
  rw [List.length_eq_zero_iff.1 (show l.length = 0 by omega)]
  exact ⟨rfl, rfl⟩
theorem mul_mono {v : Int} {j : Nat} (hj : j ≤ 10) (h : inW (10 * v)) : inW ((j : Int) * v) := by
  have h0 : (0 : Int) ≤ (j : Int) := by omega
  have h1 : (j : Int) ≤ 10 := by omega
  unfold inW at *
  rcases Int.le_total 0 v with c | c
  · have a1 := Int.mul_le_mul_of_nonneg_right h1 c
    have a2 := Int.mul_nonneg h0 c
    omega
  · have a1 := Int.mul_le_mul_of_nonpos_right h1 c
    have a2 : (j : Int) * v ≤ 0 := Int.mul_nonpos_of_nonneg_of_nonpos h0 c
    omega
theorem step_a {u e v : Int} {ok : Bool} (hok : ok = true) (h : ok = true → u = 10 * v) : (decide (inW (u + e)) = true → clW (u + e) = 10 * v + e ∧ inW (10 * v + e)) ∧ (decide (inW (u + e)) = false → ¬ inW (10 * v + e)) := by
  have hu := h hok
  subst hu
  exact ⟨fun hd => ⟨clW_id (of_decide_eq_true hd), of_decide_eq_true hd⟩, fun hd => of_decide_eq_false hd⟩
theorem step_b {u e v : Int} {ok b : Bool} {D d : Nat} (hok : ok = false) (hv : v = sgn b D) (he : e = sgn b d) (h : ok = false → ¬ inW (10 * v)) : (ok = true → u = 10 * v + e ∧ inW (10 * v + e)) ∧ (ok = false → ¬ inW (10 * v + e)) := by
  refine ⟨fun hd => absurd (hd.symm.trans hok) (by decide), fun hd => ?_⟩
  have h1 := h hd
  subst hv
  subst he
  unfold inW sgn at *
  split <;> split at h1 <;> first | omega | contradiction
theorem sgn_step {b : Bool} {D d : Nat} : 10 * sgn b D + sgn b d = sgn b (10 * D + d) := by unfold sgn; split <;> omega

set_option maxRecDepth 20000 in
set_option maxHeartbeats 1000000 in
theorem rPrint (x : Int) (hx : inW x) (w : World) : FnV Tryd.prog 19 [wV x] (.string (sL (prL x))) w := by
  have hxb := hx
  unfold inW at hxb
  refine fn_enter Tryd.func19 rfl Tryd.ntmps19 rfl ?_
  refine vc_seq ?_
  refine vc_region ?_
  refine vl_box rfl rfl (.some rfl) rfl (fun r1 => ?_)
  refine vl_val rfl (.some rfl) (val_assign rfl) ?_
  refine vl_nil ?_
  refine vc_seq ?_
  refine vc_region ?_
  refine vl_val rfl (.some rfl) (val_assign rfl) ?_
  refine vl_nil ?_
  refine vc_cut (fun E H => ∃ E0 H0 F, Env.le E0 E ∧ Sub H0 H F ∧ (fun E H => ∃ (z : Int) (n : Nat) (sg : List UInt8), z = (n : Int) ∧ n < 340282366920938463463374607431768211456 ∧ sg.length ≤ 1 ∧ prL x = sg ++ prN n ∧ E = [(1, .pointer (some ⟨r1, 0, none⟩)), (3, .string (sL sg))] ∧ H = [cells r1 [.int .i64 (hW z), .int .u64 (lW z)] 24]) E0 H0) ?_ (fun E H h => ?_)
  ·
    refine vc_seq ?_
    refine vc_region ?_
    refine vl_val rfl (.some rfl) (by first | exact val_fieldAddr Tryd.runUnderlying24 rfl Tryd.sizeOf3 rfl | exact val_fieldAddrR Tryd.runUnderlying24 rfl Tryd.sizeOf3 rfl) ?_
    refine vl_val rfl (.some rfl) (val_load Tryd.isAgg3 rfl (by first | exact cell_cells (by repeat (first | exact .head | apply In.tail | apply Take.tail | apply Upd.tail)) rfl | exact cell_rd (rd_sl (by repeat (first | exact .head | apply In.tail | apply Take.tail | apply Upd.tail))) (by first | exact bcells_at (by omega) | exact ucells_at (by omega) | exact icells_at (by omega) | exact tcells_at (by omega) | exact bcells_get (by omega) | exact icells_get (by omega) | exact tcells_get (by omega) | exact ucells_get (by omega)) | exact cell_rd (rd_old (by assumption) rfl) (by first | exact bcells_at (by omega) | exact ucells_at (by omega) | exact icells_at (by omega) | exact tcells_at (by omega) | exact bcells_get (by omega) | exact icells_get (by omega) | exact tcells_get (by omega) | exact ucells_get (by omega)) | exact cell_old (by assumption) (by simp [fps]))) ?_
    refine vl_val rfl (.some rfl) (val_lt rfl rfl) ?_
    refine vl_nil ?_
    refine vc_cond rfl (fun hc0 => ?_) (fun hc0 => ?_)
    · (try replace hc0 := of_decide_eq_true hc0)
      have hneg : x < 0 := (neg_in hx).1 (by simpa using hc0)
      refine vc_region ?_
      refine vl_val rfl (.some rfl) (val_loadAgg Tryd.isAgg24 Tryd.sizeOf24 rfl (by first | exact cells_whole (by repeat (first | exact .head | apply In.tail | apply Take.tail | apply Upd.tail)) | exact cells_part (by repeat (first | exact .head | apply In.tail | apply Take.tail | apply Upd.tail)) rfl) rfl) ?_
      refine vl_callV rfl rfl (.some rfl) Tryd.call33 rfl (fun w hw => rTurned x w) ?_
      refine vl_val rfl (.some rfl) (val_assign rfl) ?_
      first | refine vl_store rfl rfl .none rfl rfl Tryd.sizeOf24 rfl (by repeat (first | exact .head | apply In.tail | apply Take.tail | apply Upd.tail)) (by first | decide | exact Nat.le_refl _ | exact Nat.le_of_ble_eq_true rfl | (simp; omega)) ?_ | refine vl_storeSl rfl rfl .none rfl rfl Tryd.sizeOf24 rfl (by simp [Value.cells]) (by repeat (first | exact .head | apply In.tail | apply Take.tail | apply Upd.tail)) (by first | decide | (simp [Value.cells]; omega)) ?_
      refine vl_nil ?_
      first
        | exact ⟨_, _, _, (by repeat (first | exact trivial | refine ⟨rfl, ?_⟩ | refine ⟨le_item rfl (by first | rfl | (congr 1; omega) | (simp; done) | (simp; omega)), ?_⟩)), (by repeat (first | exact .nil | (apply Sub.cons; · repeat (first | exact .head | apply Take.tail)))), ⟨-x, (-x).toNat, [45], by omega, by omega, Nat.le_refl _, prL_neg hneg, rfl, rfl⟩⟩
        | exact ⟨_, _, _, (by repeat (first | exact trivial | refine ⟨rfl, ?_⟩ | refine ⟨le_item rfl (by first | rfl | (congr 1; omega) | (simp; done) | (simp; omega)), ?_⟩)), (by repeat (first | exact .nil | (apply Sub.cons; · repeat (first | exact .head | apply Take.tail)))), ⟨x, x.toNat, [], by omega, by omega, Nat.zero_le _, prL_pos hneg, rfl, rfl⟩⟩
    · (try replace hc0 := of_decide_eq_false hc0)
      have hneg : ¬ x < 0 := fun h => (show ¬ hW x < 0 by simpa using hc0) ((neg_in hx).2 h)
      refine vc_skip ?_
      first
        | exact ⟨_, _, _, (by repeat (first | exact trivial | refine ⟨rfl, ?_⟩ | refine ⟨le_item rfl (by first | rfl | (congr 1; omega) | (simp; done) | (simp; omega)), ?_⟩)), (by repeat (first | exact .nil | (apply Sub.cons; · repeat (first | exact .head | apply Take.tail)))), ⟨-x, (-x).toNat, [45], by omega, by omega, Nat.le_refl _, prL_neg hneg, rfl, rfl⟩⟩
        | exact ⟨_, _, _, (by repeat (first | exact trivial | refine ⟨rfl, ?_⟩ | refine ⟨le_item rfl (by first | rfl | (congr 1; omega) | (simp; done) | (simp; omega)), ?_⟩)), (by repeat (first | exact .nil | (apply Sub.cons; · repeat (first | exact .head | apply Take.tail)))), ⟨x, x.toNat, [], by omega, by omega, Nat.zero_le _, prL_pos hneg, rfl, rfl⟩⟩
  · obtain ⟨E0, H0, F, hE0, hH0, hJ⟩ := h
    obtain ⟨z, n, sg, rfl, hn, hsg, hpr, rfl, rfl⟩ := hJ
    rw [lW_nat n] at hH0
    have hn40 : n < 10 ^ 40 := Nat.lt_of_lt_of_le hn (by decide)
    refine vc_weak hE0 hH0 ?_
    refine vc_seq ?_
    refine vc_drawsS [0, 1, 2, 3, 4, 5, 6] [] [0, 1, 2, 3, 4, 5, 6] [cells r1 [.int .i64 (hW (n : Int)), .int .u64 ((n % 18446744073709551616 : Nat) : Int)] 24] (by repeat (first | exact .nil | (apply Sub.cons; · repeat (first | exact .head | apply Take.tail)))) rfl (by kernel_rfl) (fun _ _ _ h => h) ?_
    refine vd_val rfl rfl rfl (.some rfl) (by first | exact val_fieldAddr Tryd.runUnderlying24 rfl Tryd.sizeOf3 rfl | exact val_fieldAddrR Tryd.runUnderlying24 rfl Tryd.sizeOf3 rfl) ?_
    refine vd_val rfl rfl rfl (.some rfl) (val_load Tryd.isAgg3 rfl (by first | exact cell_cells (by repeat (first | exact .head | apply In.tail | apply Take.tail | apply Upd.tail)) rfl | exact cell_rd (rd_sl (by repeat (first | exact .head | apply In.tail | apply Take.tail | apply Upd.tail))) (by first | exact bcells_at (by omega) | exact ucells_at (by omega) | exact icells_at (by omega) | exact tcells_at (by omega) | exact bcells_get (by omega) | exact icells_get (by omega) | exact tcells_get (by omega) | exact ucells_get (by omega)) | exact cell_rd (rd_old (by assumption) rfl) (by first | exact bcells_at (by omega) | exact ucells_at (by omega) | exact icells_at (by omega) | exact tcells_at (by omega) | exact bcells_get (by omega) | exact icells_get (by omega) | exact tcells_get (by omega) | exact ucells_get (by omega)) | exact cell_old (by assumption) (by simp [fps]))) ?_
    refine vd_val rfl rfl rfl (.some rfl) (val_convInt Tryd.runUnderlying3 Tryd.runUnderlying22 rfl (show _ = ((n / 18446744073709551616 : Nat) : Int) by rw [hP_of, hP_nat n hn])) ?_
    refine vd_val rfl rfl rfl (.some rfl) (by first | exact val_fieldAddr Tryd.runUnderlying24 rfl Tryd.sizeOf22 rfl | exact val_fieldAddrR Tryd.runUnderlying24 rfl Tryd.sizeOf22 rfl) ?_
    refine vd_val rfl rfl rfl (.some rfl) (val_load Tryd.isAgg22 rfl (by first | exact cell_cells (by repeat (first | exact .head | apply In.tail | apply Take.tail | apply Upd.tail)) rfl | exact cell_rd (rd_sl (by repeat (first | exact .head | apply In.tail | apply Take.tail | apply Upd.tail))) (by first | exact bcells_at (by omega) | exact ucells_at (by omega) | exact icells_at (by omega) | exact tcells_at (by omega) | exact bcells_get (by omega) | exact icells_get (by omega) | exact tcells_get (by omega) | exact ucells_get (by omega)) | exact cell_rd (rd_old (by assumption) rfl) (by first | exact bcells_at (by omega) | exact ucells_at (by omega) | exact icells_at (by omega) | exact tcells_at (by omega) | exact bcells_get (by omega) | exact icells_get (by omega) | exact tcells_get (by omega) | exact ucells_get (by omega)) | exact cell_old (by assumption) (by simp [fps]))) ?_
    refine vd_val rfl rfl rfl (.some rfl) (val_assign rfl) ?_
    refine vd_val rfl rfl rfl (.some rfl) (val_assign rfl) ?_
    refine vd_nil ?_
    refine vc_seq ?_
    refine vc_region ?_
    refine vl_val rfl (.some rfl) (val_assign rfl) ?_
    refine vl_nil ?_
    refine vc_block ?_
    refine vc_loopw (fun m E H => ∃ (v : Nat) (s : List UInt8), v = m ∧ v ≤ n ∧ s.length ≤ 40 ∧ prN n = prN v ++ s ∧ E = [(3, .string (sL sg)), (4, .int .u64 ((v / 18446744073709551616 : Nat) : Int)), (5, .int .u64 ((v % 18446744073709551616 : Nat) : Int)), (6, .string (sL s))] ∧ H = []) (n) ⟨_, _, _, ⟨n, [], rfl, Nat.le_refl _, Nat.zero_le _, (List.append_nil _).symm, rfl, rfl⟩, (by repeat (first | exact trivial | refine ⟨rfl, ?_⟩ | refine ⟨le_item rfl (by first | rfl | (congr 1; omega) | (simp; done) | (simp; omega)), ?_⟩)), (by repeat (first | exact .nil | (apply Sub.cons; · repeat (first | exact .head | apply Take.tail))))⟩ ?_
    intro m E H hI
    obtain ⟨v, s, rfl, hvn, hsl, hs, rfl, rfl⟩ := hI
    refine vc_block ?_
    refine vc_seq ?_
    refine vc_region ?_
    refine vl_val rfl (.some rfl) (val_move rfl) ?_
    refine vl_val rfl (.some rfl) (val_rem rfl rfl (by omega) (remN (v / 18446744073709551616) 10)) ?_
    refine vl_val rfl (.some rfl) (val_move rfl) ?_
    have hh : ¬ 10 ≤ v / 18446744073709551616 % 10 := by omega
    refine vl_callV rfl rfl (.some rfl) Tryd.call39 rfl (fun w hw => gDivide (v / 18446744073709551616 % 10) (v % 18446744073709551616) 10 (by omega) (by omega) (by omega) w) ?_
    rw [if_neg hh, if_neg hh, decide_eq_true hh, show (v / 18446744073709551616 % 10 * 18446744073709551616 + v % 18446744073709551616) / 10 = v / 10 % 18446744073709551616 by omega, show (v / 18446744073709551616 % 10 * 18446744073709551616 + v % 18446744073709551616) % 10 = v % 10 by omega]
    refine vl_val rfl (.some rfl) (val_move rfl) ?_
    refine vl_val rfl (.some rfl) (val_extract rfl rfl) ?_
    refine vl_val rfl (.some rfl) (val_extract rfl rfl) ?_
    refine vl_val rfl (.some rfl) (val_extract rfl rfl) ?_
    refine vl_val rfl (.some rfl) (val_assign rfl) ?_
    refine vl_val rfl (.some rfl) (val_assign rfl) ?_
    refine vl_val rfl (.some rfl) (val_assign rfl) ?_
    refine vl_nil ?_
    refine vc_seq ?_
    refine vc_region ?_
    refine vl_val rfl (.some rfl) (val_move rfl) ?_
    refine vl_val rfl (.some rfl) (val_add rfl rfl (show _ = ((48 + v % 10 : Nat) : Int) by rw [w_u64 (by omega) (by omega)]; omega)) ?_
    refine vl_val rfl (.some rfl) (val_convInt Tryd.runUnderlying22 Tryd.runUnderlying5 rfl (show _ = (((dg (v % 10)).toNat : Nat) : Int) by rw [dg_nat (by omega), w8 (by omega) (by omega)])) ?_
    refine vl_lit sT57 rfl rfl (.some rfl) rfl rfl rfl (by decide) (by decide) rfl (show _ = bcells [dg (v % 10)] from rfl) (fun r31 => ?_)
    refine vl_val rfl (.some rfl) (val_bytesToStr (l := [dg (v % 10)]) Tryd.runUnderlying57 Tryd.runUnderlying5 Tryd.runUnderlying9 rfl (rd_sl (vs := bcells [dg (v % 10)]) (by repeat (first | exact .head | apply In.tail | apply Take.tail | apply Upd.tail))) rfl) ?_
    refine vl_val rfl (.some rfl) (val_move rfl) ?_
    refine vl_val rfl (.some rfl) (val_cat (s := sL [dg (v % 10)]) (t := sL s) rfl rfl (by rw [sL_size, sL_size, List.length_singleton]; omega)) ?_
    rw [sL_cat]
    refine vl_val rfl (.some rfl) (val_assign rfl) ?_
    refine vl_nil ?_
    refine vc_seq ?_
    refine vc_region ?_
    refine vl_val rfl (.some rfl) (val_move rfl) ?_
    refine vl_val rfl (.some rfl) (val_quo rfl rfl (by omega) ((quoN (a := v / 18446744073709551616) (b := 10) (by omega)).trans (show _ = ((v / 10 / 18446744073709551616 : Nat) : Int) by congr 1; omega))) ?_
    refine vl_val rfl (.some rfl) (val_move rfl) ?_
    refine vl_val rfl (.some rfl) (val_assign rfl) ?_
    refine vl_val rfl (.some rfl) (val_assign rfl) ?_
    refine vl_nil ?_
    refine vc_seq ?_
    refine vc_region ?_
    refine vl_val rfl (.some rfl) (val_move rfl) ?_
    refine vl_val rfl (.some rfl) (val_eq rfl rfl) ?_
    refine vl_val rfl (.some rfl) (val_move rfl) ?_
    refine vl_split (t := 40) rfl (fun hg40 => ?_) (fun hg40 => ?_)
    · (try replace hg40 := of_decide_eq_true hg40)
      have hq0 : v / 10 / 18446744073709551616 = 0 := by omega
      refine vl_on rfl rfl rfl rfl ?_
      refine vl_val rfl (.some rfl) (val_move rfl) ?_
      refine vl_on rfl rfl rfl rfl ?_
      refine vl_val rfl (.some rfl) (val_eq rfl rfl) ?_
      refine vl_val rfl (.some rfl) (val_pick rfl rfl) ?_
      refine vl_nil ?_
      refine vc_cond rfl (fun hc1 => ?_) (fun hc1 => ?_)
      · (try replace hc1 := of_decide_eq_true hc1)
        have hv0 : v / 10 = 0 := by omega
        refine vc_seq ?_
        refine vc_region ?_
        refine vl_val rfl (.some rfl) (val_move rfl) ?_
        refine vl_val rfl (.some rfl) (val_move rfl) ?_
        refine vl_val rfl (.some rfl) (val_cat (s := sL sg) (t := sL ([dg (v % 10)] ++ s)) rfl rfl (by rw [sL_size, sL_size, List.length_append, List.length_singleton]; omega)) ?_
        rw [sL_cat]
        refine vl_val rfl (.some rfl) (val_assign rfl) ?_
        refine vl_nil ?_
        refine vc_ret ?_
        refine ⟨_, [], _, res1 Tryd.results19 rfl, .nil, ?_⟩
        show Value.string _ = Value.string _
        rw [hpr, hs, prN_one hv0]
      · (try replace hc1 := of_decide_eq_false hc1)
        have hv0 : v / 10 ≠ 0 := by omega
        refine vc_skip ?_
        have hs2 : prN n = prN (v / 10) ++ ([dg (v % 10)] ++ s) := by rw [hs, prN_step hv0 (by omega), List.append_assoc]
        have hl2 := congrArg List.length hs2
        rw [List.length_append, List.length_append] at hl2
        have hl3 := (prN_len hn40 (by decide) (by decide)).1
        exact ⟨v / 10, _, _, _, by omega, (by repeat (first | exact trivial | refine ⟨rfl, ?_⟩ | refine ⟨le_item rfl (by first | rfl | (congr 1; omega) | (simp; done) | (simp; omega)), ?_⟩)), (by repeat (first | exact .nil | (apply Sub.cons; · repeat (first | exact .head | apply Take.tail)))), ⟨v / 10, [dg (v % 10)] ++ s, rfl, by omega, by rw [List.length_append]; omega, hs2, rfl, rfl⟩⟩
    · (try replace hg40 := of_decide_eq_false hg40)
      have hv0 : v / 10 ≠ 0 := by omega
      refine vl_off rfl rfl rfl rfl (.some rfl) ?_
      refine vl_off rfl rfl rfl rfl (.some rfl) ?_
      refine vl_val rfl (.some rfl) (val_pick rfl rfl) ?_
      refine vl_nil ?_
      refine vc_cond rfl (fun h => by cases h) (fun _ => ?_)
      refine vc_skip ?_
      have hs2 : prN n = prN (v / 10) ++ ([dg (v % 10)] ++ s) := by rw [hs, prN_step hv0 (by omega), List.append_assoc]
      have hl2 := congrArg List.length hs2
      rw [List.length_append, List.length_append] at hl2
      have hl3 := (prN_len hn40 (by decide) (by decide)).1
      exact ⟨v / 10, _, _, _, by omega, (by repeat (first | exact trivial | refine ⟨rfl, ?_⟩ | refine ⟨le_item rfl (by first | rfl | (congr 1; omega) | (simp; done) | (simp; omega)), ?_⟩)), (by repeat (first | exact .nil | (apply Sub.cons; · repeat (first | exact .head | apply Take.tail)))), ⟨v / 10, [dg (v % 10)] ++ s, rfl, by omega, by rw [List.length_append]; omega, hs2, rfl, rfl⟩⟩
set_option maxRecDepth 20000 in
set_option maxHeartbeats 2000000 in
theorem rParse (l : List UInt8) (hlb : l.length < 9223372036854775808) (w : World) : FnV Tryd.prog 17 [.string (sL l)] (.tuple #[wV ((parO l).getD 0), .bool (parO l).isSome]) w := by
  have hszl := sL_size l
  refine fn_enter Tryd.func17 rfl Tryd.ntmps17 rfl ?_
  refine vc_seq ?_
  refine vc_region ?_
  refine vl_alloc rfl rfl (.some rfl) Tryd.zeroValue24 (fun r2 => ?_)
  refine vl_val rfl (.some rfl) (val_assign rfl) ?_
  refine vl_nil ?_
  refine vc_seq ?_
  refine vc_region ?_
  refine vl_val rfl (.some rfl) (val_move rfl) ?_
  refine vl_val rfl (.some rfl) (val_assign rfl) ?_
  refine vl_val rfl (.some rfl) (val_assign rfl) ?_
  refine vl_nil ?_
  refine vc_cut (fun E H => ∃ E0 H0 F, Env.le E0 E ∧ Sub H0 H F ∧ (fun E H => ∃ (q : List UInt8) (b : Bool), rest1 l = q ∧ isNeg l = b ∧ E = [(0, .string (sL l)), (2, .pointer (some ⟨r2, 0, none⟩)), (4, .string (sL q)), (5, .bool b)] ∧ H = [cells r2 [.int .i64 0, .int .u64 0] 24]) E0 H0) ?_ (fun E H h => ?_)
  ·
    refine vc_seq ?_
    refine vc_region ?_
    refine vl_val rfl (.some rfl) (val_move rfl) ?_
    refine vl_val rfl (.some rfl) (val_lenStr Tryd.runUnderlying9 rfl) ?_
    refine vl_val rfl (.some rfl) (val_gt rfl rfl) ?_
    refine vl_val rfl (.some rfl) (val_move rfl) ?_
    refine vl_split (t := 16) rfl (fun hg16 => ?_) (fun hg16 => ?_)
    · (try replace hg16 := of_decide_eq_true hg16)
      refine vl_on rfl rfl rfl rfl ?_
      refine vl_val rfl (.some rfl) (val_move rfl) ?_
      refine vl_on rfl rfl rfl rfl ?_
      refine vl_val rfl (.some rfl) (val_indexStr Tryd.runUnderlying9 rfl rfl (by omega) (by omega)) ?_
      refine vl_on rfl rfl rfl rfl ?_
      refine vl_val rfl (.some rfl) (val_eq rfl rfl) ?_
      refine vl_val rfl (.some rfl) (val_pick rfl rfl) ?_
      refine vl_nil ?_
      refine vc_cond rfl (fun hc0 => ?_) (fun hc0 => ?_)
      · (try replace hc0 := of_decide_eq_true hc0)
        refine vc_region ?_
        refine vl_val rfl (.some rfl) (val_move rfl) ?_
        refine vl_val rfl (.some rfl) (val_cutStrFrom Tryd.runUnderlying9 rfl rfl (by omega) (by omega)) ?_
        rw [sL_cut, sL_size, List.take_length, show Int.toNat 1 = 1 from rfl]
        refine vl_val rfl (.some rfl) (val_assign rfl) ?_
        refine vl_val rfl (.some rfl) (val_assign rfl) ?_
        refine vl_nil ?_
        first
          | exact ⟨_, _, _, (by repeat (first | exact trivial | refine ⟨rfl, ?_⟩ | refine ⟨le_item rfl (by first | rfl | (congr 1; omega) | (simp; done) | (simp; omega)), ?_⟩)), (by repeat (first | exact .nil | (apply Sub.cons; · repeat (first | exact .head | apply Take.tail)))), ⟨l.drop 1, true, (ref_yes hg16 hc0).1, (ref_yes hg16 hc0).2, rfl, rfl⟩⟩
          | exact ⟨_, _, _, (by repeat (first | exact trivial | refine ⟨rfl, ?_⟩ | refine ⟨le_item rfl (by first | rfl | (congr 1; omega) | (simp; done) | (simp; omega)), ?_⟩)), (by repeat (first | exact .nil | (apply Sub.cons; · repeat (first | exact .head | apply Take.tail)))), ⟨l, false, (ref_no hg16 hc0).1, (ref_no hg16 hc0).2, rfl, rfl⟩⟩
          | exact ⟨_, _, _, (by repeat (first | exact trivial | refine ⟨rfl, ?_⟩ | refine ⟨le_item rfl (by first | rfl | (congr 1; omega) | (simp; done) | (simp; omega)), ?_⟩)), (by repeat (first | exact .nil | (apply Sub.cons; · repeat (first | exact .head | apply Take.tail)))), ⟨l, false, (ref_nil hg16).1, (ref_nil hg16).2, rfl, rfl⟩⟩
      · (try replace hc0 := of_decide_eq_false hc0)
        refine vc_skip ?_
        first
          | exact ⟨_, _, _, (by repeat (first | exact trivial | refine ⟨rfl, ?_⟩ | refine ⟨le_item rfl (by first | rfl | (congr 1; omega) | (simp; done) | (simp; omega)), ?_⟩)), (by repeat (first | exact .nil | (apply Sub.cons; · repeat (first | exact .head | apply Take.tail)))), ⟨l.drop 1, true, (ref_yes hg16 hc0).1, (ref_yes hg16 hc0).2, rfl, rfl⟩⟩
          | exact ⟨_, _, _, (by repeat (first | exact trivial | refine ⟨rfl, ?_⟩ | refine ⟨le_item rfl (by first | rfl | (congr 1; omega) | (simp; done) | (simp; omega)), ?_⟩)), (by repeat (first | exact .nil | (apply Sub.cons; · repeat (first | exact .head | apply Take.tail)))), ⟨l, false, (ref_no hg16 hc0).1, (ref_no hg16 hc0).2, rfl, rfl⟩⟩
          | exact ⟨_, _, _, (by repeat (first | exact trivial | refine ⟨rfl, ?_⟩ | refine ⟨le_item rfl (by first | rfl | (congr 1; omega) | (simp; done) | (simp; omega)), ?_⟩)), (by repeat (first | exact .nil | (apply Sub.cons; · repeat (first | exact .head | apply Take.tail)))), ⟨l, false, (ref_nil hg16).1, (ref_nil hg16).2, rfl, rfl⟩⟩
    · (try replace hg16 := of_decide_eq_false hg16)
      refine vl_off rfl rfl rfl rfl (.some rfl) ?_
      refine vl_off rfl rfl rfl rfl (.some rfl) ?_
      refine vl_off rfl rfl rfl rfl (.some rfl) ?_
      refine vl_val rfl (.some rfl) (val_pick rfl rfl) ?_
      refine vl_nil ?_
      refine vc_cond rfl (fun h => by cases h) (fun _ => ?_)
      refine vc_skip ?_
      first
        | exact ⟨_, _, _, (by repeat (first | exact trivial | refine ⟨rfl, ?_⟩ | refine ⟨le_item rfl (by first | rfl | (congr 1; omega) | (simp; done) | (simp; omega)), ?_⟩)), (by repeat (first | exact .nil | (apply Sub.cons; · repeat (first | exact .head | apply Take.tail)))), ⟨l.drop 1, true, (ref_yes hg16 hc0).1, (ref_yes hg16 hc0).2, rfl, rfl⟩⟩
        | exact ⟨_, _, _, (by repeat (first | exact trivial | refine ⟨rfl, ?_⟩ | refine ⟨le_item rfl (by first | rfl | (congr 1; omega) | (simp; done) | (simp; omega)), ?_⟩)), (by repeat (first | exact .nil | (apply Sub.cons; · repeat (first | exact .head | apply Take.tail)))), ⟨l, false, (ref_no hg16 hc0).1, (ref_no hg16 hc0).2, rfl, rfl⟩⟩
        | exact ⟨_, _, _, (by repeat (first | exact trivial | refine ⟨rfl, ?_⟩ | refine ⟨le_item rfl (by first | rfl | (congr 1; omega) | (simp; done) | (simp; omega)), ?_⟩)), (by repeat (first | exact .nil | (apply Sub.cons; · repeat (first | exact .head | apply Take.tail)))), ⟨l, false, (ref_nil hg16).1, (ref_nil hg16).2, rfl, rfl⟩⟩
  · obtain ⟨E0, H0, F, hE0, hH0, hJ⟩ := h
    obtain ⟨q, b, hq, hb, rfl, rfl⟩ := hJ
    have hsz := sL_size q
    refine vc_weak hE0 hH0 ?_
    refine vc_seq ?_
    refine vc_seq ?_
    refine vc_region ?_
    refine vl_val rfl (.some rfl) (val_move rfl) ?_
    refine vl_val rfl (.some rfl) (val_lenStr Tryd.runUnderlying9 rfl) ?_
    refine vl_val rfl (.some rfl) (val_lt rfl rfl) ?_
    refine vl_val rfl (.some rfl) (val_move rfl) ?_
    refine vl_split (t := 26) rfl (fun hg26 => ?_) (fun hg26 => ?_)
    · (try replace hg26 := of_decide_eq_true hg26)
      have hq0 : q.length = 0 := by omega
      refine vl_off rfl rfl rfl rfl (.some rfl) ?_
      refine vl_off rfl rfl rfl rfl (.some rfl) ?_
      refine vl_off rfl rfl rfl rfl (.some rfl) ?_
      refine vl_val rfl (.some rfl) (val_pick rfl rfl) ?_
      refine vl_nil ?_
      refine vc_cond rfl (fun _ => ?_) (fun h => by cases h)
      refine vc_seq ?_
      refine vc_region ?_
      refine vl_val rfl (.some rfl) (val_buildSt (pl := #[(0, 1), (1, 1)]) (cs := #[.int .i64 (0), .int .u64 (0)]) Tryd.runUnderlying24 Tryd.zeroValue24 (fun w => by kernel_rfl) rfl rfl) ?_
      first | refine vl_store rfl rfl .none rfl rfl Tryd.sizeOf24 rfl (by repeat (first | exact .head | apply In.tail | apply Take.tail | apply Upd.tail)) (by first | decide | exact Nat.le_refl _ | exact Nat.le_of_ble_eq_true rfl | (simp; omega)) ?_ | refine vl_storeSl rfl rfl .none rfl rfl Tryd.sizeOf24 rfl (by simp [Value.cells]) (by repeat (first | exact .head | apply In.tail | apply Take.tail | apply Upd.tail)) (by first | decide | (simp [Value.cells]; omega)) ?_
      refine vl_val rfl (.some rfl) (val_assign rfl) ?_
      refine vl_nil ?_
      refine vc_ret ?_
      refine ⟨_, [], _, resC2 Tryd.results17 rfl (whole_agg Tryd.isAgg24 Tryd.sizeOf24 (cells_whole (by repeat (first | exact .head | apply In.tail | apply Take.tail | apply Upd.tail))) rfl) rfl, .nil, ?_⟩
      show _ = _
      first | rw [par_len hq (.inl hq0)] | rw [par_len hq (.inr hq39)]
      rfl
    · (try replace hg26 := of_decide_eq_false hg26)
      refine vl_on rfl rfl rfl rfl ?_
      refine vl_val rfl (.some rfl) (val_move rfl) ?_
      refine vl_on rfl rfl rfl rfl ?_
      refine vl_val rfl (.some rfl) (val_lenStr Tryd.runUnderlying9 rfl) ?_
      refine vl_on rfl rfl rfl rfl ?_
      refine vl_val rfl (.some rfl) (val_gt rfl rfl) ?_
      refine vl_val rfl (.some rfl) (val_pick rfl rfl) ?_
      refine vl_nil ?_
      refine vc_cond rfl (fun hc1 => ?_) (fun hc1 => ?_)
      · (try replace hc1 := of_decide_eq_true hc1)
        have hq39 : 39 < q.length := by omega
        refine vc_seq ?_
        refine vc_region ?_
        refine vl_val rfl (.some rfl) (val_buildSt (pl := #[(0, 1), (1, 1)]) (cs := #[.int .i64 (0), .int .u64 (0)]) Tryd.runUnderlying24 Tryd.zeroValue24 (fun w => by kernel_rfl) rfl rfl) ?_
        first | refine vl_store rfl rfl .none rfl rfl Tryd.sizeOf24 rfl (by repeat (first | exact .head | apply In.tail | apply Take.tail | apply Upd.tail)) (by first | decide | exact Nat.le_refl _ | exact Nat.le_of_ble_eq_true rfl | (simp; omega)) ?_ | refine vl_storeSl rfl rfl .none rfl rfl Tryd.sizeOf24 rfl (by simp [Value.cells]) (by repeat (first | exact .head | apply In.tail | apply Take.tail | apply Upd.tail)) (by first | decide | (simp [Value.cells]; omega)) ?_
        refine vl_val rfl (.some rfl) (val_assign rfl) ?_
        refine vl_nil ?_
        refine vc_ret ?_
        refine ⟨_, [], _, resC2 Tryd.results17 rfl (whole_agg Tryd.isAgg24 Tryd.sizeOf24 (cells_whole (by repeat (first | exact .head | apply In.tail | apply Take.tail | apply Upd.tail))) rfl) rfl, .nil, ?_⟩
        show _ = _
        first | rw [par_len hq (.inl hq0)] | rw [par_len hq (.inr hq39)]
        rfl
      · (try replace hc1 := of_decide_eq_false hc1)
        refine vc_skip ?_
        refine vc_seq ?_
        refine vc_region ?_
        refine vl_val rfl (.some rfl) (val_buildSt (pl := #[(0, 1), (1, 1)]) (cs := #[.int .i64 (hW 0), .int .u64 (lW 0)]) Tryd.runUnderlying24 Tryd.zeroValue24 (fun w => by kernel_rfl) rfl rfl) ?_
        refine vl_alloc rfl rfl (.some rfl) Tryd.zeroValue24 (fun r6 => ?_)
        first | refine vl_store rfl rfl .none rfl rfl Tryd.sizeOf24 rfl (by repeat (first | exact .head | apply In.tail | apply Take.tail | apply Upd.tail)) (by first | decide | exact Nat.le_refl _ | exact Nat.le_of_ble_eq_true rfl | (simp; omega)) ?_ | refine vl_storeSl rfl rfl .none rfl rfl Tryd.sizeOf24 rfl (by simp [Value.cells]) (by repeat (first | exact .head | apply In.tail | apply Take.tail | apply Upd.tail)) (by first | decide | (simp [Value.cells]; omega)) ?_
        refine vl_nil ?_
        refine vc_seq ?_
        refine vc_seq ?_
        refine vc_region ?_
        refine vl_val rfl (.some rfl) (val_assign rfl) ?_
        refine vl_nil ?_
        refine vc_block ?_
        refine vc_loopw (fun m E H => ∃ (i : Nat) (v : Int), i ≤ q.length ∧ m = q.length - i ∧ v = sgn b (dval (q.take i)) ∧ inW v ∧ E = [(0, .string (sL l)), (2, .pointer (some ⟨r2, 0, none⟩)), (4, .string (sL q)), (5, .bool b), (6, .pointer (some ⟨r6, 0, none⟩)), (7, .int .i64 i)] ∧ H = [cells r2 [.int .i64 0, .int .u64 0] 24, cells r6 [.int .i64 (hW v), .int .u64 (lW v)] 24]) (q.length) ⟨_, _, _, ⟨0, 0, by omega, rfl, by cases b <;> rfl, by decide, rfl, rfl⟩, (by repeat (first | exact trivial | refine ⟨rfl, ?_⟩ | refine ⟨le_item rfl (by first | rfl | (congr 1; omega) | (simp; done) | (simp; omega)), ?_⟩)), (by repeat (first | exact .nil | (apply Sub.cons; · repeat (first | exact .head | apply Take.tail))))⟩ ?_
        intro m E H hI
        obtain ⟨i, v, hi, rfl, hv, hvI, rfl, rfl⟩ := hI
        refine vc_seq ?_
        refine vc_seq ?_
        refine vc_region ?_
        refine vl_val rfl (.some rfl) (val_move rfl) ?_
        refine vl_val rfl (.some rfl) (val_move rfl) ?_
        refine vl_val rfl (.some rfl) (val_lenStr Tryd.runUnderlying9 rfl) ?_
        refine vl_val rfl (.some rfl) (val_lt rfl rfl) ?_
        refine vl_nil ?_
        refine vc_cond rfl (fun hc2 => ?_) (fun hc2 => ?_)
        · (try replace hc2 := of_decide_eq_true hc2)
          have hbt : bt (sL q) (Int.toNat (i : Int)) = (q.getD i 0).toNat := by rw [Int.toNat_natCast, bt_sL]
          obtain ⟨dd, hdd⟩ : ∃ dd, (q.getD i 0).toNat - 48 = dd := ⟨_, rfl⟩
          have hd256 := (q.getD i 0).toNat_lt
          refine vc_skip ?_
          refine vc_seq ?_
          refine vc_block ?_
          refine vc_seq ?_
          refine vc_seq ?_
          refine vc_region ?_
          refine vl_val rfl (.some rfl) (val_move rfl) ?_
          refine vl_val rfl (.some rfl) (val_move rfl) ?_
          refine vl_val rfl (.some rfl) (val_indexStr Tryd.runUnderlying9 rfl rfl (by omega) (by first | omega | (simp; omega))) ?_
          refine vl_val rfl (.some rfl) (val_lt rfl rfl) ?_
          refine vl_val rfl (.some rfl) (val_move rfl) ?_
          refine vl_split (t := 43) rfl (fun hg43 => ?_) (fun hg43 => ?_)
          · (try replace hg43 := of_decide_eq_true hg43)
            have hd1 : (q.getD i 0).toNat < 48 := by omega
            refine vl_off rfl rfl rfl rfl (.some rfl) ?_
            refine vl_off rfl rfl rfl rfl (.some rfl) ?_
            refine vl_off rfl rfl rfl rfl (.some rfl) ?_
            refine vl_off rfl rfl rfl rfl (.some rfl) ?_
            refine vl_val rfl (.some rfl) (val_pick rfl rfl) ?_
            refine vl_nil ?_
            refine vc_cond rfl (fun _ => ?_) (fun h => by cases h)
            refine vc_seq ?_
            refine vc_region ?_
            refine vl_val rfl (.some rfl) (val_buildSt (pl := #[(0, 1), (1, 1)]) (cs := #[.int .i64 (0), .int .u64 (0)]) Tryd.runUnderlying24 Tryd.zeroValue24 (fun w => by kernel_rfl) rfl rfl) ?_
            first | refine vl_store rfl rfl .none rfl rfl Tryd.sizeOf24 rfl (by repeat (first | exact .head | apply In.tail | apply Take.tail | apply Upd.tail)) (by first | decide | exact Nat.le_refl _ | exact Nat.le_of_ble_eq_true rfl | (simp; omega)) ?_ | refine vl_storeSl rfl rfl .none rfl rfl Tryd.sizeOf24 rfl (by simp [Value.cells]) (by repeat (first | exact .head | apply In.tail | apply Take.tail | apply Upd.tail)) (by first | decide | (simp [Value.cells]; omega)) ?_
            refine vl_val rfl (.some rfl) (val_assign rfl) ?_
            refine vl_nil ?_
            refine vc_ret ?_
            refine ⟨_, [], _, resC2 Tryd.results17 rfl (whole_agg Tryd.isAgg24 Tryd.sizeOf24 (cells_whole (by repeat (first | exact .head | apply In.tail | apply Take.tail | apply Upd.tail))) rfl) rfl, .nil, ?_⟩
            show _ = _
            rw [par_dig (i := i) hq (by omega) (by omega)]
            rfl
          · (try replace hg43 := of_decide_eq_false hg43)
            have hd1 : ¬ (q.getD i 0).toNat < 48 := by omega
            refine vl_on rfl rfl rfl rfl ?_
            refine vl_val rfl (.some rfl) (val_move rfl) ?_
            refine vl_on rfl rfl rfl rfl ?_
            refine vl_val rfl (.some rfl) (val_move rfl) ?_
            refine vl_on rfl rfl rfl rfl ?_
            refine vl_val rfl (.some rfl) (val_indexStr Tryd.runUnderlying9 rfl rfl (by omega) (by first | omega | (simp; omega))) ?_
            refine vl_on rfl rfl rfl rfl ?_
            refine vl_val rfl (.some rfl) (val_gt rfl rfl) ?_
            refine vl_val rfl (.some rfl) (val_pick rfl rfl) ?_
            refine vl_nil ?_
            refine vc_cond rfl (fun hc3 => ?_) (fun hc3 => ?_)
            · (try replace hc3 := of_decide_eq_true hc3)
              refine vc_seq ?_
              refine vc_region ?_
              refine vl_val rfl (.some rfl) (val_buildSt (pl := #[(0, 1), (1, 1)]) (cs := #[.int .i64 (0), .int .u64 (0)]) Tryd.runUnderlying24 Tryd.zeroValue24 (fun w => by kernel_rfl) rfl rfl) ?_
              first | refine vl_store rfl rfl .none rfl rfl Tryd.sizeOf24 rfl (by repeat (first | exact .head | apply In.tail | apply Take.tail | apply Upd.tail)) (by first | decide | exact Nat.le_refl _ | exact Nat.le_of_ble_eq_true rfl | (simp; omega)) ?_ | refine vl_storeSl rfl rfl .none rfl rfl Tryd.sizeOf24 rfl (by simp [Value.cells]) (by repeat (first | exact .head | apply In.tail | apply Take.tail | apply Upd.tail)) (by first | decide | (simp [Value.cells]; omega)) ?_
              refine vl_val rfl (.some rfl) (val_assign rfl) ?_
              refine vl_nil ?_
              refine vc_ret ?_
              refine ⟨_, [], _, resC2 Tryd.results17 rfl (whole_agg Tryd.isAgg24 Tryd.sizeOf24 (cells_whole (by repeat (first | exact .head | apply In.tail | apply Take.tail | apply Upd.tail))) rfl) rfl, .nil, ?_⟩
              show _ = _
              rw [par_dig (i := i) hq (by omega) (by omega)]
              rfl
            · (try replace hc3 := of_decide_eq_false hc3)
              refine vc_skip ?_
              refine vc_seq ?_
              refine vc_region ?_
              refine vl_val rfl (.some rfl) (val_buildSt (pl := #[(0, 1), (1, 1)]) (cs := #[.int .i64 (hW 0), .int .u64 (lW 0)]) Tryd.runUnderlying24 Tryd.zeroValue24 (fun w => by kernel_rfl) rfl rfl) ?_
              refine vl_alloc rfl rfl (.some rfl) Tryd.zeroValue24 (fun r8 => ?_)
              first | refine vl_store rfl rfl .none rfl rfl Tryd.sizeOf24 rfl (by repeat (first | exact .head | apply In.tail | apply Take.tail | apply Upd.tail)) (by first | decide | exact Nat.le_refl _ | exact Nat.le_of_ble_eq_true rfl | (simp; omega)) ?_ | refine vl_storeSl rfl rfl .none rfl rfl Tryd.sizeOf24 rfl (by simp [Value.cells]) (by repeat (first | exact .head | apply In.tail | apply Take.tail | apply Upd.tail)) (by first | decide | (simp [Value.cells]; omega)) ?_
              refine vl_nil ?_
              refine vc_seq ?_
              refine vc_region ?_
              refine vl_val rfl (.some rfl) (val_assign rfl) ?_
              refine vl_nil ?_
              refine vc_cut (fun E H => ∃ E0 H0 F, Env.le E0 E ∧ Sub H0 H F ∧ (fun E H => ∃ (u : Int) (ok : Bool), inW u ∧ (ok = true → u = 10 * v) ∧ (ok = false → ¬ inW (10 * v)) ∧ E = [(0, .string (sL l)), (2, .pointer (some ⟨r2, 0, none⟩)), (4, .string (sL q)), (5, .bool b), (6, .pointer (some ⟨r6, 0, none⟩)), (7, .int .i64 i), (8, .pointer (some ⟨r8, 0, none⟩)), (9, .bool ok)] ∧ H = [cells r2 [.int .i64 0, .int .u64 0] 24, cells r6 [.int .i64 (hW v), .int .u64 (lW v)] 24, cells r8 [.int .i64 (hW u), .int .u64 (lW u)] 24]) E0 H0) ?_ (fun E H h => ?_)
              ·
                refine vc_seq ?_
                refine vc_region ?_
                refine vl_val rfl (.some rfl) (val_assign rfl) ?_
                refine vl_nil ?_
                refine vc_block ?_
                refine vc_loopw (fun m E H => ∃ (k : Nat) (u : Int) (ok : Bool), k ≤ 10 ∧ m = 10 - k ∧ inW u ∧ (ok = true → u = (k : Int) * v) ∧ (ok = false → ¬ inW (10 * v)) ∧ E = [(0, .string (sL l)), (2, .pointer (some ⟨r2, 0, none⟩)), (4, .string (sL q)), (5, .bool b), (6, .pointer (some ⟨r6, 0, none⟩)), (7, .int .i64 i), (8, .pointer (some ⟨r8, 0, none⟩)), (9, .bool ok), (10, .int .i64 k)] ∧ H = [cells r2 [.int .i64 0, .int .u64 0] 24, cells r6 [.int .i64 (hW v), .int .u64 (lW v)] 24, cells r8 [.int .i64 (hW u), .int .u64 (lW u)] 24]) (10) ⟨_, _, _, ⟨0, 0, true, by omega, rfl, by decide, fun _ => by simp, fun h => (by cases h), rfl, rfl⟩, (by repeat (first | exact trivial | refine ⟨rfl, ?_⟩ | refine ⟨le_item rfl (by first | rfl | (congr 1; omega) | (simp; done) | (simp; omega)), ?_⟩)), (by repeat (first | exact .nil | (apply Sub.cons; · repeat (first | exact .head | apply Take.tail))))⟩ ?_
                intro m E H hI
                obtain ⟨k, u, ok, hk, rfl, hu, hk1, hk2, rfl, rfl⟩ := hI
                refine vc_seq ?_
                refine vc_seq ?_
                refine vc_region ?_
                refine vl_val rfl (.some rfl) (val_move rfl) ?_
                refine vl_val rfl (.some rfl) (val_lt rfl rfl) ?_
                refine vl_val rfl (.some rfl) (val_move rfl) ?_
                refine vl_split (t := 53) rfl (fun hg53 => ?_) (fun hg53 => ?_)
                · (try replace hg53 := of_decide_eq_true hg53)
                  refine vl_on rfl rfl rfl rfl ?_
                  refine vl_val rfl (.some rfl) (val_move rfl) ?_
                  refine vl_val rfl (.some rfl) (val_pick rfl rfl) ?_
                  refine vl_nil ?_
                  refine vc_cond rfl (fun hc4 => ?_) (fun hc4 => ?_)
                  · (try replace hc4 := of_decide_eq_true hc4)
                    refine vc_skip ?_
                    refine vc_seq ?_
                    refine vc_block ?_
                    refine vc_region ?_
                    refine vl_val rfl (.some rfl) (val_loadAgg Tryd.isAgg24 Tryd.sizeOf24 rfl (by first | exact cells_whole (by repeat (first | exact .head | apply In.tail | apply Take.tail | apply Upd.tail)) | exact cells_part (by repeat (first | exact .head | apply In.tail | apply Take.tail | apply Upd.tail)) rfl) rfl) ?_
                    refine vl_val rfl (.some rfl) (val_loadAgg Tryd.isAgg24 Tryd.sizeOf24 rfl (by first | exact cells_whole (by repeat (first | exact .head | apply In.tail | apply Take.tail | apply Upd.tail)) | exact cells_part (by repeat (first | exact .head | apply In.tail | apply Take.tail | apply Upd.tail)) rfl) rfl) ?_
                    refine vl_callV rfl rfl (.some rfl) Tryd.call23 rfl (fun w hw => rAdd u v hu hvI w) ?_
                    refine vl_val rfl (.some rfl) (val_move rfl) ?_
                    refine vl_val rfl (.some rfl) (val_extract rfl rfl) ?_
                    refine vl_val rfl (.some rfl) (val_extract rfl rfl) ?_
                    first | refine vl_store rfl rfl .none rfl rfl Tryd.sizeOf24 rfl (by repeat (first | exact .head | apply In.tail | apply Take.tail | apply Upd.tail)) (by first | decide | exact Nat.le_refl _ | exact Nat.le_of_ble_eq_true rfl | (simp; omega)) ?_ | refine vl_storeSl rfl rfl .none rfl rfl Tryd.sizeOf24 rfl (by simp [Value.cells]) (by repeat (first | exact .head | apply In.tail | apply Take.tail | apply Upd.tail)) (by first | decide | (simp [Value.cells]; omega)) ?_
                    refine vl_val rfl (.some rfl) (val_assign rfl) ?_
                    refine vl_nil ?_
                    refine vc_region ?_
                    refine vl_val rfl (.some rfl) (val_move rfl) ?_
                    refine vl_val rfl (.some rfl) (val_add rfl rfl (by first | exact w_i64 (by omega) (by omega) | rfl)) ?_
                    refine vl_val rfl (.some rfl) (val_assign rfl) ?_
                    refine vl_nil ?_
                    exact ⟨(10 - (k + 1)), _, _, _, by omega, (by repeat (first | exact trivial | refine ⟨rfl, ?_⟩ | refine ⟨le_item rfl (by first | rfl | (congr 1; omega) | (simp; done) | (simp; omega)), ?_⟩)), (by repeat (first | exact .nil | (apply Sub.cons; · repeat (first | exact .head | apply Take.tail)))), ⟨k + 1, clW (u + v), decide (inW (u + v)), by omega, rfl, clW_in _, fun h => by rw [clW_id (of_decide_eq_true h), hk1 hc4, times_succ], fun h h10 => of_decide_eq_false h (by rw [hk1 hc4, times_succ]; exact mul_mono (by omega) h10), rfl, rfl⟩⟩
                  · (try replace hc4 := of_decide_eq_false hc4)
                    refine vc_exit ?_
                    exact ⟨_, _, _, (by repeat (first | exact trivial | refine ⟨rfl, ?_⟩ | refine ⟨le_item rfl (by first | rfl | (congr 1; omega) | (simp; done) | (simp; omega)), ?_⟩)), (by repeat (first | exact .nil | (apply Sub.cons; · repeat (first | exact .head | apply Take.tail)))), ⟨u, ok, hu, (by intro h; first | exact absurd (h.symm.trans hc4) (by decide) | (have hk10 : k = 10 := (by omega); have h1 := hk1 h; rw [hk10] at h1; simpa using h1)), hk2, rfl, rfl⟩⟩
                · (try replace hg53 := of_decide_eq_false hg53)
                  refine vl_off rfl rfl rfl rfl (.some rfl) ?_
                  refine vl_val rfl (.some rfl) (val_pick rfl rfl) ?_
                  refine vl_nil ?_
                  refine vc_cond rfl (fun h => by cases h) (fun _ => ?_)
                  refine vc_exit ?_
                  exact ⟨_, _, _, (by repeat (first | exact trivial | refine ⟨rfl, ?_⟩ | refine ⟨le_item rfl (by first | rfl | (congr 1; omega) | (simp; done) | (simp; omega)), ?_⟩)), (by repeat (first | exact .nil | (apply Sub.cons; · repeat (first | exact .head | apply Take.tail)))), ⟨u, ok, hu, (by intro h; first | exact absurd (h.symm.trans hc4) (by decide) | (have hk10 : k = 10 := (by omega); have h1 := hk1 h; rw [hk10] at h1; simpa using h1)), hk2, rfl, rfl⟩⟩
              · obtain ⟨E0, H0, F, hE0, hH0, hJ⟩ := h
                obtain ⟨u, ok, hu, hk1, hk2, rfl, rfl⟩ := hJ
                refine vc_weak hE0 hH0 ?_
                refine vc_seq ?_
                refine vc_region ?_
                refine vl_val rfl (.some rfl) (val_move rfl) ?_
                refine vl_val rfl (.some rfl) (val_move rfl) ?_
                refine vl_val rfl (.some rfl) (val_indexStr Tryd.runUnderlying9 rfl rfl (by omega) (by first | omega | (simp; omega))) ?_
                refine vl_val rfl (.some rfl) (val_sub rfl rfl (show _ = ((dd : Nat) : Int) by rw [hbt, w8 (by omega) (by omega)]; omega)) ?_
                refine vl_val rfl (.some rfl) (val_convInt Tryd.runUnderlying5 Tryd.runUnderlying3 rfl (w_i64 (by omega) (by omega))) ?_
                refine vl_callV rfl rfl (.some rfl) Tryd.call12 rfl (fun w hw => rOf dd (by unfold inI; omega) w) ?_
                refine vl_alloc rfl rfl (.some rfl) Tryd.zeroValue24 (fun r11 => ?_)
                first | refine vl_store rfl rfl .none rfl rfl Tryd.sizeOf24 rfl (by repeat (first | exact .head | apply In.tail | apply Take.tail | apply Upd.tail)) (by first | decide | exact Nat.le_refl _ | exact Nat.le_of_ble_eq_true rfl | (simp; omega)) ?_ | refine vl_storeSl rfl rfl .none rfl rfl Tryd.sizeOf24 rfl (by simp [Value.cells]) (by repeat (first | exact .head | apply In.tail | apply Take.tail | apply Upd.tail)) (by first | decide | (simp [Value.cells]; omega)) ?_
                refine vl_nil ?_
                refine vc_cut (fun E H => ∃ E0 H0 F, Env.le E0 E ∧ Sub H0 H F ∧ (fun E H => ∃ e : Int, e = sgn b dd ∧ E = [(0, .string (sL l)), (2, .pointer (some ⟨r2, 0, none⟩)), (4, .string (sL q)), (5, .bool b), (6, .pointer (some ⟨r6, 0, none⟩)), (7, .int .i64 i), (8, .pointer (some ⟨r8, 0, none⟩)), (9, .bool ok), (11, .pointer (some ⟨r11, 0, none⟩))] ∧ H = [cells r2 [.int .i64 0, .int .u64 0] 24, cells r6 [.int .i64 (hW v), .int .u64 (lW v)] 24, cells r8 [.int .i64 (hW u), .int .u64 (lW u)] 24, cells r11 [.int .i64 (hW e), .int .u64 (lW e)] 24]) E0 H0) ?_ (fun E H h => ?_)
                ·
                  refine vc_seq ?_
                  refine vc_region ?_
                  refine vl_val rfl (.some rfl) (val_move rfl) ?_
                  refine vl_nil ?_
                  refine vc_cond rfl (fun hc5 => ?_) (fun hc5 => ?_)
                  · (try replace hc5 := of_decide_eq_true hc5)
                    refine vc_region ?_
                    refine vl_val rfl (.some rfl) (val_loadAgg Tryd.isAgg24 Tryd.sizeOf24 rfl (by first | exact cells_whole (by repeat (first | exact .head | apply In.tail | apply Take.tail | apply Upd.tail)) | exact cells_part (by repeat (first | exact .head | apply In.tail | apply Take.tail | apply Upd.tail)) rfl) rfl) ?_
                    refine vl_callV rfl rfl (.some rfl) Tryd.call33 rfl (fun w hw => rTurned dd w) ?_
                    first | refine vl_store rfl rfl .none rfl rfl Tryd.sizeOf24 rfl (by repeat (first | exact .head | apply In.tail | apply Take.tail | apply Upd.tail)) (by first | decide | exact Nat.le_refl _ | exact Nat.le_of_ble_eq_true rfl | (simp; omega)) ?_ | refine vl_storeSl rfl rfl .none rfl rfl Tryd.sizeOf24 rfl (by simp [Value.cells]) (by repeat (first | exact .head | apply In.tail | apply Take.tail | apply Upd.tail)) (by first | decide | (simp [Value.cells]; omega)) ?_
                    refine vl_nil ?_
                    first
                      | exact ⟨_, _, _, (by repeat (first | exact trivial | refine ⟨rfl, ?_⟩ | refine ⟨le_item rfl (by first | rfl | (congr 1; omega) | (simp; done) | (simp; omega)), ?_⟩)), (by repeat (first | exact .nil | (apply Sub.cons; · repeat (first | exact .head | apply Take.tail)))), ⟨-(dd : Int), sgn_t hc5, rfl, rfl⟩⟩
                      | exact ⟨_, _, _, (by repeat (first | exact trivial | refine ⟨rfl, ?_⟩ | refine ⟨le_item rfl (by first | rfl | (congr 1; omega) | (simp; done) | (simp; omega)), ?_⟩)), (by repeat (first | exact .nil | (apply Sub.cons; · repeat (first | exact .head | apply Take.tail)))), ⟨(dd : Int), sgn_f hc5, rfl, rfl⟩⟩
                  · (try replace hc5 := of_decide_eq_false hc5)
                    refine vc_skip ?_
                    first
                      | exact ⟨_, _, _, (by repeat (first | exact trivial | refine ⟨rfl, ?_⟩ | refine ⟨le_item rfl (by first | rfl | (congr 1; omega) | (simp; done) | (simp; omega)), ?_⟩)), (by repeat (first | exact .nil | (apply Sub.cons; · repeat (first | exact .head | apply Take.tail)))), ⟨-(dd : Int), sgn_t hc5, rfl, rfl⟩⟩
                      | exact ⟨_, _, _, (by repeat (first | exact trivial | refine ⟨rfl, ?_⟩ | refine ⟨le_item rfl (by first | rfl | (congr 1; omega) | (simp; done) | (simp; omega)), ?_⟩)), (by repeat (first | exact .nil | (apply Sub.cons; · repeat (first | exact .head | apply Take.tail)))), ⟨(dd : Int), sgn_f hc5, rfl, rfl⟩⟩
                · obtain ⟨E0, H0, F, hE0, hH0, hJ⟩ := h
                  obtain ⟨e, he, rfl, rfl⟩ := hJ
                  have heI : inW e := by rw [he]; unfold sgn inW; split <;> omega
                  refine vc_weak hE0 hH0 ?_
                  refine vc_cut (fun E H => ∃ E0 H0 F, Env.le E0 E ∧ Sub H0 H F ∧ (fun E H => ∃ (u : Int) (ok : Bool), (ok = true → u = 10 * v + e ∧ inW (10 * v + e)) ∧ (ok = false → ¬ inW (10 * v + e)) ∧ E = [(0, .string (sL l)), (2, .pointer (some ⟨r2, 0, none⟩)), (4, .string (sL q)), (5, .bool b), (6, .pointer (some ⟨r6, 0, none⟩)), (7, .int .i64 i), (8, .pointer (some ⟨r8, 0, none⟩)), (9, .bool ok)] ∧ H = [cells r2 [.int .i64 0, .int .u64 0] 24, cells r6 [.int .i64 (hW v), .int .u64 (lW v)] 24, cells r8 [.int .i64 (hW u), .int .u64 (lW u)] 24]) E0 H0) ?_ (fun E H h => ?_)
                  ·
                    refine vc_seq ?_
                    refine vc_region ?_
                    refine vl_val rfl (.some rfl) (val_move rfl) ?_
                    refine vl_nil ?_
                    refine vc_cond rfl (fun hc6 => ?_) (fun hc6 => ?_)
                    · (try replace hc6 := of_decide_eq_true hc6)
                      refine vc_region ?_
                      refine vl_val rfl (.some rfl) (val_loadAgg Tryd.isAgg24 Tryd.sizeOf24 rfl (by first | exact cells_whole (by repeat (first | exact .head | apply In.tail | apply Take.tail | apply Upd.tail)) | exact cells_part (by repeat (first | exact .head | apply In.tail | apply Take.tail | apply Upd.tail)) rfl) rfl) ?_
                      refine vl_val rfl (.some rfl) (val_loadAgg Tryd.isAgg24 Tryd.sizeOf24 rfl (by first | exact cells_whole (by repeat (first | exact .head | apply In.tail | apply Take.tail | apply Upd.tail)) | exact cells_part (by repeat (first | exact .head | apply In.tail | apply Take.tail | apply Upd.tail)) rfl) rfl) ?_
                      refine vl_callV rfl rfl (.some rfl) Tryd.call23 rfl (fun w hw => rAdd u e hu heI w) ?_
                      refine vl_val rfl (.some rfl) (val_move rfl) ?_
                      refine vl_val rfl (.some rfl) (val_extract rfl rfl) ?_
                      refine vl_val rfl (.some rfl) (val_extract rfl rfl) ?_
                      first | refine vl_store rfl rfl .none rfl rfl Tryd.sizeOf24 rfl (by repeat (first | exact .head | apply In.tail | apply Take.tail | apply Upd.tail)) (by first | decide | exact Nat.le_refl _ | exact Nat.le_of_ble_eq_true rfl | (simp; omega)) ?_ | refine vl_storeSl rfl rfl .none rfl rfl Tryd.sizeOf24 rfl (by simp [Value.cells]) (by repeat (first | exact .head | apply In.tail | apply Take.tail | apply Upd.tail)) (by first | decide | (simp [Value.cells]; omega)) ?_
                      refine vl_val rfl (.some rfl) (val_assign rfl) ?_
                      refine vl_nil ?_
                      first
                        | exact ⟨_, _, _, (by repeat (first | exact trivial | refine ⟨rfl, ?_⟩ | refine ⟨le_item rfl (by first | rfl | (congr 1; omega) | (simp; done) | (simp; omega)), ?_⟩)), (by repeat (first | exact .nil | (apply Sub.cons; · repeat (first | exact .head | apply Take.tail)))), ⟨clW (u + e), decide (inW (u + e)), (step_a hc6 hk1).1, (step_a hc6 hk1).2, rfl, rfl⟩⟩
                        | exact ⟨_, _, _, (by repeat (first | exact trivial | refine ⟨rfl, ?_⟩ | refine ⟨le_item rfl (by first | rfl | (congr 1; omega) | (simp; done) | (simp; omega)), ?_⟩)), (by repeat (first | exact .nil | (apply Sub.cons; · repeat (first | exact .head | apply Take.tail)))), ⟨u, ok, (step_b (u := u) hc6 hv he hk2).1, (step_b (u := u) hc6 hv he hk2).2, rfl, rfl⟩⟩
                    · (try replace hc6 := of_decide_eq_false hc6)
                      refine vc_skip ?_
                      first
                        | exact ⟨_, _, _, (by repeat (first | exact trivial | refine ⟨rfl, ?_⟩ | refine ⟨le_item rfl (by first | rfl | (congr 1; omega) | (simp; done) | (simp; omega)), ?_⟩)), (by repeat (first | exact .nil | (apply Sub.cons; · repeat (first | exact .head | apply Take.tail)))), ⟨clW (u + e), decide (inW (u + e)), (step_a hc6 hk1).1, (step_a hc6 hk1).2, rfl, rfl⟩⟩
                        | exact ⟨_, _, _, (by repeat (first | exact trivial | refine ⟨rfl, ?_⟩ | refine ⟨le_item rfl (by first | rfl | (congr 1; omega) | (simp; done) | (simp; omega)), ?_⟩)), (by repeat (first | exact .nil | (apply Sub.cons; · repeat (first | exact .head | apply Take.tail)))), ⟨u, ok, (step_b (u := u) hc6 hv he hk2).1, (step_b (u := u) hc6 hv he hk2).2, rfl, rfl⟩⟩
                  · obtain ⟨E0, H0, F, hE0, hH0, hJ⟩ := h
                    obtain ⟨u', ok', hs1, hs2, rfl, rfl⟩ := hJ
                    have hnv : 10 * v + e = sgn b (dval (q.take (i + 1))) := by rw [hv, he, sgn_step, dval_take (by omega), hdd]
                    rw [hnv] at hs1 hs2
                    refine vc_weak hE0 hH0 ?_
                    refine vc_seq ?_
                    refine vc_seq ?_
                    refine vc_region ?_
                    refine vl_val rfl (.some rfl) (val_move rfl) ?_
                    refine vl_val rfl (.some rfl) (val_not rfl) ?_
                    refine vl_nil ?_
                    refine vc_cond rfl (fun hc7 => ?_) (fun hc7 => ?_)
                    · (try replace hc7 := of_decide_eq_true hc7)
                      refine vc_seq ?_
                      refine vc_region ?_
                      refine vl_val rfl (.some rfl) (val_buildSt (pl := #[(0, 1), (1, 1)]) (cs := #[.int .i64 (0), .int .u64 (0)]) Tryd.runUnderlying24 Tryd.zeroValue24 (fun w => by kernel_rfl) rfl rfl) ?_
                      first | refine vl_store rfl rfl .none rfl rfl Tryd.sizeOf24 rfl (by repeat (first | exact .head | apply In.tail | apply Take.tail | apply Upd.tail)) (by first | decide | exact Nat.le_refl _ | exact Nat.le_of_ble_eq_true rfl | (simp; omega)) ?_ | refine vl_storeSl rfl rfl .none rfl rfl Tryd.sizeOf24 rfl (by simp [Value.cells]) (by repeat (first | exact .head | apply In.tail | apply Take.tail | apply Upd.tail)) (by first | decide | (simp [Value.cells]; omega)) ?_
                      refine vl_val rfl (.some rfl) (val_assign rfl) ?_
                      refine vl_nil ?_
                      refine vc_ret ?_
                      refine ⟨_, [], _, resC2 Tryd.results17 rfl (whole_agg Tryd.isAgg24 Tryd.sizeOf24 (cells_whole (by repeat (first | exact .head | apply In.tail | apply Take.tail | apply Upd.tail))) rfl) rfl, .nil, ?_⟩
                      show _ = _
                      rw [par_over hq hb (hs2 (by simpa using hc7))]
                      rfl
                    · (try replace hc7 := of_decide_eq_false hc7)
                      refine vc_skip ?_
                      refine vc_region ?_
                      refine vl_val rfl (.some rfl) (val_loadAgg Tryd.isAgg24 Tryd.sizeOf24 rfl (by first | exact cells_whole (by repeat (first | exact .head | apply In.tail | apply Take.tail | apply Upd.tail)) | exact cells_part (by repeat (first | exact .head | apply In.tail | apply Take.tail | apply Upd.tail)) rfl) rfl) ?_
                      first | refine vl_store rfl rfl .none rfl rfl Tryd.sizeOf24 rfl (by repeat (first | exact .head | apply In.tail | apply Take.tail | apply Upd.tail)) (by first | decide | exact Nat.le_refl _ | exact Nat.le_of_ble_eq_true rfl | (simp; omega)) ?_ | refine vl_storeSl rfl rfl .none rfl rfl Tryd.sizeOf24 rfl (by simp [Value.cells]) (by repeat (first | exact .head | apply In.tail | apply Take.tail | apply Upd.tail)) (by first | decide | (simp [Value.cells]; omega)) ?_
                      refine vl_nil ?_
                      refine vc_region ?_
                      refine vl_val rfl (.some rfl) (val_move rfl) ?_
                      refine vl_val rfl (.some rfl) (val_add rfl rfl (by first | exact w_i64 (by omega) (by omega) | rfl)) ?_
                      refine vl_val rfl (.some rfl) (val_assign rfl) ?_
                      refine vl_nil ?_
                      exact ⟨(q.length - (i + 1)), _, _, _, by omega, (by repeat (first | exact trivial | refine ⟨rfl, ?_⟩ | refine ⟨le_item rfl (by first | rfl | (congr 1; omega) | (simp; done) | (simp; omega)), ?_⟩)), (by repeat (first | exact .nil | (apply Sub.cons; · repeat (first | exact .head | apply Take.tail)))), ⟨i + 1, u', by omega, rfl, (hs1 (by simpa using hc7)).1, by rw [(hs1 (by simpa using hc7)).1]; exact (hs1 (by simpa using hc7)).2, rfl, rfl⟩⟩
        · (try replace hc2 := of_decide_eq_false hc2)
          obtain rfl : i = q.length := by omega
          rw [List.take_length] at hv
          refine vc_exit ?_
          refine vc_seq ?_
          refine vc_seq ?_
          refine vc_region ?_
          refine vl_val rfl (.some rfl) (val_loadAgg Tryd.isAgg24 Tryd.sizeOf24 rfl (by first | exact cells_whole (by repeat (first | exact .head | apply In.tail | apply Take.tail | apply Upd.tail)) | exact cells_part (by repeat (first | exact .head | apply In.tail | apply Take.tail | apply Upd.tail)) rfl) rfl) ?_
          refine vl_callV rfl rfl (.some rfl) Tryd.call19 rfl (fun w hw => rPrint v hvI w) ?_
          refine vl_val rfl (.some rfl) (val_move rfl) ?_
          refine vl_val rfl (.some rfl) (val_sne rfl rfl) ?_
          refine vl_nil ?_
          refine vc_cond rfl (fun hc8 => ?_) (fun hc8 => ?_)
          · (try replace hc8 := of_decide_eq_true hc8)
            refine vc_seq ?_
            refine vc_region ?_
            refine vl_val rfl (.some rfl) (val_buildSt (pl := #[(0, 1), (1, 1)]) (cs := #[.int .i64 (0), .int .u64 (0)]) Tryd.runUnderlying24 Tryd.zeroValue24 (fun w => by kernel_rfl) rfl rfl) ?_
            first | refine vl_store rfl rfl .none rfl rfl Tryd.sizeOf24 rfl (by repeat (first | exact .head | apply In.tail | apply Take.tail | apply Upd.tail)) (by first | decide | exact Nat.le_refl _ | exact Nat.le_of_ble_eq_true rfl | (simp; omega)) ?_ | refine vl_storeSl rfl rfl .none rfl rfl Tryd.sizeOf24 rfl (by simp [Value.cells]) (by repeat (first | exact .head | apply In.tail | apply Take.tail | apply Upd.tail)) (by first | decide | (simp [Value.cells]; omega)) ?_
            refine vl_val rfl (.some rfl) (val_assign rfl) ?_
            refine vl_nil ?_
            refine vc_ret ?_
            refine ⟨_, [], _, resC2 Tryd.results17 rfl (whole_agg Tryd.isAgg24 Tryd.sizeOf24 (cells_whole (by repeat (first | exact .head | apply In.tail | apply Take.tail | apply Upd.tail))) rfl) rfl, .nil, ?_⟩
            show _ = _
            rw [par_end hq hb (by rw [← hv]; exact hvI), ← hv, if_neg (fun e => (show ¬ sL (prL v) = sL l by simpa using hc8) (by rw [e]))]
            rfl
          · (try replace hc8 := of_decide_eq_false hc8)
            refine vc_skip ?_
            refine vc_seq ?_
            refine vc_region ?_
            refine vl_val rfl (.some rfl) (val_loadAgg Tryd.isAgg24 Tryd.sizeOf24 rfl (by first | exact cells_whole (by repeat (first | exact .head | apply In.tail | apply Take.tail | apply Upd.tail)) | exact cells_part (by repeat (first | exact .head | apply In.tail | apply Take.tail | apply Upd.tail)) rfl) rfl) ?_
            first | refine vl_store rfl rfl .none rfl rfl Tryd.sizeOf24 rfl (by repeat (first | exact .head | apply In.tail | apply Take.tail | apply Upd.tail)) (by first | decide | exact Nat.le_refl _ | exact Nat.le_of_ble_eq_true rfl | (simp; omega)) ?_ | refine vl_storeSl rfl rfl .none rfl rfl Tryd.sizeOf24 rfl (by simp [Value.cells]) (by repeat (first | exact .head | apply In.tail | apply Take.tail | apply Upd.tail)) (by first | decide | (simp [Value.cells]; omega)) ?_
            refine vl_val rfl (.some rfl) (val_assign rfl) ?_
            refine vl_nil ?_
            refine vc_ret ?_
            refine ⟨_, [], _, resC2 Tryd.results17 rfl (whole_agg Tryd.isAgg24 Tryd.sizeOf24 (cells_whole (by repeat (first | exact .head | apply In.tail | apply Take.tail | apply Upd.tail))) rfl) rfl, .nil, ?_⟩
            show _ = _
            rw [par_end hq hb (by rw [← hv]; exact hvI), ← hv, if_pos (sL_inj.1 (by simpa using hc8))]
            rfl
set_option maxRecDepth 20000 in
set_option maxHeartbeats 1000000 in
theorem wTexts (x : Int) (hx : inW x) (l : List UInt8) (hll : l.length < 9223372036854775808) (w : World) : FnV Tryd.prog 4 [wV x, .string (sL l)] (.bool true) w := by
  refine fn_enter Tryd.func4 rfl Tryd.ntmps4 rfl ?_
  refine vc_seq ?_
  refine vc_region ?_
  refine vl_box rfl rfl (.some rfl) rfl (fun r2 => ?_)
  refine vl_val rfl (.some rfl) (val_assign rfl) ?_
  refine vl_nil ?_
  refine vc_seq ?_
  refine vc_seq ?_
  refine vc_region ?_
  refine vl_val rfl (.some rfl) (val_move rfl) ?_
  refine vl_val rfl (.some rfl) (val_lenStr Tryd.runUnderlying9 rfl) ?_
  refine vl_val rfl (.some rfl) (val_gt rfl rfl) ?_
  refine vl_nil ?_
  refine vc_cond rfl (fun hc0 => ?_) (fun hc0 => ?_)
  · (try replace hc0 := of_decide_eq_true hc0)
    refine vc_seq ?_
    refine vc_region ?_
    refine vl_callV rfl rfl (.some rfl) Tryd.call15 rfl (fun w hw => wLives w) ?_
    refine vl_val rfl (.some rfl) (val_assign rfl) ?_
    refine vl_nil ?_
    refine vc_ret ?_
    refine ⟨_, [], _, res1 Tryd.results4 rfl, .nil, ?_⟩
    rfl
  · (try replace hc0 := of_decide_eq_false hc0)
    refine vc_skip ?_
    refine vc_seq ?_
    refine vc_region ?_
    refine vl_val rfl (.some rfl) (val_move rfl) ?_
    refine vl_callV rfl rfl (.some rfl) Tryd.call16 rfl (fun w hw => wParse l (by omega) w) ?_
    refine vl_val rfl (.some rfl) (val_move rfl) ?_
    refine vl_val rfl (.some rfl) (val_extract rfl rfl) ?_
    refine vl_val rfl (.some rfl) (val_extract rfl rfl) ?_
    refine vl_alloc rfl rfl (.some rfl) Tryd.zeroValue24 (fun r5 => ?_)
    first | refine vl_store rfl rfl .none rfl rfl Tryd.sizeOf24 rfl (by repeat (first | exact .head | apply In.tail | apply Take.tail | apply Upd.tail)) (by first | decide | exact Nat.le_refl _ | exact Nat.le_of_ble_eq_true rfl | (simp; omega)) ?_ | refine vl_storeSl rfl rfl .none rfl rfl Tryd.sizeOf24 rfl (by simp [Value.cells]) (by repeat (first | exact .head | apply In.tail | apply Take.tail | apply Upd.tail)) (by first | decide | (simp [Value.cells]; omega)) ?_
    refine vl_val rfl (.some rfl) (val_assign rfl) ?_
    refine vl_nil ?_
    refine vc_seq ?_
    refine vc_region ?_
    refine vl_val rfl (.some rfl) (val_move rfl) ?_
    refine vl_callV rfl rfl (.some rfl) Tryd.call17 rfl (fun w hw => rParse l hll w) ?_
    refine vl_val rfl (.some rfl) (val_move rfl) ?_
    refine vl_val rfl (.some rfl) (val_extract rfl rfl) ?_
    refine vl_val rfl (.some rfl) (val_extract rfl rfl) ?_
    refine vl_alloc rfl rfl (.some rfl) Tryd.zeroValue24 (fun r7 => ?_)
    first | refine vl_store rfl rfl .none rfl rfl Tryd.sizeOf24 rfl (by repeat (first | exact .head | apply In.tail | apply Take.tail | apply Upd.tail)) (by first | decide | exact Nat.le_refl _ | exact Nat.le_of_ble_eq_true rfl | (simp; omega)) ?_ | refine vl_storeSl rfl rfl .none rfl rfl Tryd.sizeOf24 rfl (by simp [Value.cells]) (by repeat (first | exact .head | apply In.tail | apply Take.tail | apply Upd.tail)) (by first | decide | (simp [Value.cells]; omega)) ?_
    refine vl_val rfl (.some rfl) (val_assign rfl) ?_
    refine vl_nil ?_
    refine vc_seq ?_
    refine vc_drawsS [0, 2, 4, 5, 6, 7, 8, 9, 10, 11, 12, 13, 14, 15, 17, 18] [] [0, 2, 1, 3, 4, 5, 6, 7, 8, 9, 10, 11, 12, 13, 14, 15, 16, 17, 18] [cells r2 [.int .i64 (hW x), .int .u64 (lW x)] 24, cells r5 [.int .i64 (hW ((parO l).getD 0)), .int .u64 (lW ((parO l).getD 0))] 24, cells r7 [.int .i64 (hW ((parO l).getD 0)), .int .u64 (lW ((parO l).getD 0))] 24] (by repeat (first | exact .nil | (apply Sub.cons; · repeat (first | exact .head | apply Take.tail)))) rfl (by kernel_rfl) (fun _ _ _ h => h) ?_
    refine vd_val rfl rfl rfl (.some rfl) (val_loadAgg Tryd.isAgg24 Tryd.sizeOf24 rfl (by first | exact cells_whole (by repeat (first | exact .head | apply In.tail | apply Take.tail | apply Upd.tail)) | exact cells_part (by repeat (first | exact .head | apply In.tail | apply Take.tail | apply Upd.tail)) rfl) rfl) ?_
    refine vd_val rfl rfl rfl (.some rfl) (val_loadAgg Tryd.isAgg24 Tryd.sizeOf24 rfl (by first | exact cells_whole (by repeat (first | exact .head | apply In.tail | apply Take.tail | apply Upd.tail)) | exact cells_part (by repeat (first | exact .head | apply In.tail | apply Take.tail | apply Upd.tail)) rfl) rfl) ?_
    refine vd_op rfl rfl ?_
    refine vl_callV rfl rfl (.some rfl) Tryd.call18 rfl (fun w hw => wPrint x hx w) ?_
    refine vl_nil ?_
    refine ⟨fun _ => ⟨_, (by repeat (first | exact .nil | (apply Sub.cons; · repeat (first | exact .head | apply Take.tail))))⟩, ?_⟩
    refine vd_op rfl rfl ?_
    refine vl_callV rfl rfl (.some rfl) Tryd.call19 rfl (fun w hw => rPrint x hx w) ?_
    refine vl_nil ?_
    refine ⟨fun _ => ⟨_, (by repeat (first | exact .nil | (apply Sub.cons; · repeat (first | exact .head | apply Take.tail))))⟩, ?_⟩
    refine vd_val rfl rfl rfl (.some rfl) (val_seqt rfl rfl (rfl)) ?_
    refine vd_val rfl rfl rfl (.some rfl) (val_move rfl) ?_
    refine vd_on rfl rfl rfl rfl rfl rfl (.some rfl) (val_loadAgg Tryd.isAgg24 Tryd.sizeOf24 rfl (by first | exact cells_whole (by repeat (first | exact .head | apply In.tail | apply Take.tail | apply Upd.tail)) | exact cells_part (by repeat (first | exact .head | apply In.tail | apply Take.tail | apply Upd.tail)) rfl) rfl) ?_
    refine vd_on rfl rfl rfl rfl rfl rfl (.some rfl) (val_loadAgg Tryd.isAgg24 Tryd.sizeOf24 rfl (by first | exact cells_whole (by repeat (first | exact .head | apply In.tail | apply Take.tail | apply Upd.tail)) | exact cells_part (by repeat (first | exact .head | apply In.tail | apply Take.tail | apply Upd.tail)) rfl) rfl) ?_
    refine vd_on rfl rfl rfl rfl rfl rfl (.some rfl) (val_opO rfl rfl (fun w => run_eqGuard_agg w _ _ _ _ _ _ (by kernel_rfl)) (bin_agg_eq (b := true) (fun w => (wide_equal ((parO l).getD 0) ((parO l).getD 0) (parO_inD l) (parO_inD l) w).trans (by simp)))) ?_
    refine vd_val rfl rfl rfl (.some rfl) (val_pick rfl rfl) ?_
    refine vd_val rfl rfl rfl (.some rfl) (val_move rfl) ?_
    refine vd_on rfl rfl rfl rfl rfl rfl (.some rfl) (val_move rfl) ?_
    refine vd_on rfl rfl rfl rfl rfl rfl (.some rfl) (val_move rfl) ?_
    refine vd_on rfl rfl rfl rfl rfl rfl (.some rfl) (val_beqt Tryd.underlying4 rfl rfl (rfl)) ?_
    refine vd_val rfl rfl rfl (.some rfl) (val_pick rfl rfl) ?_
    refine vd_val rfl rfl rfl (.some rfl) (val_move rfl) ?_
    refine vd_op rfl rfl ?_
    refine vl_on rfl rfl rfl rfl ?_
    refine vl_callV rfl rfl (.some rfl) Tryd.call15 rfl (fun w hw => wLives w) ?_
    refine vl_nil ?_
    refine ⟨fun _ => ⟨_, (by repeat (first | exact .nil | (apply Sub.cons; · repeat (first | exact .head | apply Take.tail))))⟩, ?_⟩
    refine vd_val rfl rfl rfl (.some rfl) (val_pick rfl rfl) ?_
    refine vd_val rfl rfl rfl (.some rfl) (val_assign rfl) ?_
    refine vd_nil ?_
    refine vc_ret ?_
    refine ⟨_, [], _, res1 Tryd.results4 rfl, .nil, ?_⟩
    rfl

theorem law_WideTexts (h1 : Int) (l1 : Nat) (s : ByteArray) (w : World) (g1 : -9223372036854775808 ≤ h1 ∧ h1 < 9223372036854775808) (k1 : l1 < 18446744073709551616) (hs : s.size ≤ maxLen) : FnV Tryd.prog 4 [.agg #[.int .i64 h1, .int .u64 (l1 : Nat)], .string s] (.bool true) w := by
  obtain ⟨x, hx, e1⟩ := w_arg (h := h1) (l := ((l1 : Nat) : Int)) g1 (by omega) (by omega)
  rw [e1]
  have e : s = sL s.data.toList := (sL_eta s).symm
  have hl : s.data.toList.length = s.size := Array.length_toList
  rw [e]
  exact wTexts x hx _ (by rw [hl]; unfold maxLen at hs; omega) w

end Go.Proofs.YtpgopfidbmiifaaDoor.K
