/- Walks of the program's functions, printed by a program of this session; Lean checks them. -/
import Derived.Test.YtclknendeeljaaaYkg
namespace Go.Proofs.Ytclknendeeljaaa.K
open Go Go.RowKit Go.Proofs
set_option linter.unusedVariables false
set_option linter.unusedSimpArgs false


structure KeptV (t : Nat) (S : List (Nat × Nat)) (V : List (List Nat)) (P : Nat → Prop) : Prop where
  ok : OkK t S V
  k : ∀ j, j < V.length → Kept6 t (fun y => ∃ x, P x ∧ y = hashN (S.getD j (0, 0)) x) (V.getD j [])
section
variable {t : Nat} {S : List (Nat × Nat)} {V V' : List (List Nat)} {P P' : Nat → Prop}
theorem KeptV.congr (h : KeptV t S V P) (e : ∀ x, P x ↔ P' x) : KeptV t S V P' :=
  ⟨h.ok, fun j hj => (h.k j hj).congr fun y => ⟨fun ⟨x, a, b⟩ => ⟨x, (e x).1 a, b⟩, fun ⟨x, a, b⟩ => ⟨x, (e x).2 a, b⟩⟩⟩
theorem keptV_new {Kk Mm : Int} (hg : goodK t S Kk Mm) (hb : ∀ s ∈ S, s.1 < 18446744073709551616 ∧ s.2 < 18446744073709551616) : KeptV t S (List.replicate S.length []) (fun _ => False) := by
  refine ⟨okK_new hg hb, fun j hj => ?_⟩
  rw [List.length_replicate] at hj
  have e : (List.replicate S.length ([] : List Nat)).getD j [] = [] := by simp [List.getD, hj]
  rw [e]
  exact (Kept6.nil t).congr fun y => ⟨fun h => h.elim, fun ⟨x, h, _⟩ => h⟩
theorem KeptV.ins (h : KeptV t S V P) (x : Nat) : KeptV t S (insV t S V x) (fun y => P y ∨ y = x) := by
  refine ⟨okK_ins h.ok x, fun j hj => ?_⟩
  rw [insV_len] at hj
  rw [insV_get hj]
  refine ((h.k j hj).put (hashN (S.getD j (0, 0)) x)).congr fun y => ?_
  constructor
  · rintro (⟨z, a, b⟩ | a)
    · exact ⟨z, .inl a, b⟩
    · exact ⟨x, .inr rfl, a⟩
  · rintro ⟨z, a | a, b⟩
    · exact .inl ⟨z, a, b⟩
    · subst a; exact .inr b
theorem KeptV.mrg (h : KeptV t S V P) (h' : KeptV t S V' P') : KeptV t S (mrgV t V V') (fun y => P y ∨ P' y) := by
  refine ⟨okK_mrg h.ok h'.ok, fun j hj => ?_⟩
  rw [mrgV_len] at hj
  have hj' : j < V'.length := by rw [← h'.ok.n, h.ok.n]; exact hj
  rw [mrgV_get hj]
  refine (Kept6.merge (Kept6.puts (V'.getD j []) (h.k j hj)) (h'.k j hj')).congr fun y => ?_
  constructor
  · rintro (⟨z, a, b⟩ | ⟨z, a, b⟩)
    · exact ⟨z, .inl a, b⟩
    · exact ⟨z, .inr a, b⟩
  · rintro ⟨z, a | a, b⟩
    · exact .inl ⟨z, a, b⟩
    · exact .inr ⟨z, a, b⟩
theorem KeptV.uniq (h : KeptV t S V P) (h' : KeptV t S V' P') (e : ∀ x, P x ↔ P' x) : V = V' := by
  have hl : V.length = V'.length := by rw [← h.ok.n, ← h'.ok.n]
  refine ext_getD [] hl fun j hj => (h.k j hj).uniq (h'.k j (by omega)) fun y => ?_
  exact ⟨fun ⟨x, a, b⟩ => ⟨x, (e x).1 a, b⟩, fun ⟨x, a, b⟩ => ⟨x, (e x).2 a, b⟩⟩
end

section
variable {l : List Nat} {i n : Nat} {f : Nat → Nat}
theorem pk_step (i : Nat) (x : Nat) : ((∃ j, j < i ∧ x = f j) ∨ x = f i) ↔ ∃ j, j < i + 1 ∧ x = f j := by
  constructor
  · rintro (⟨j, a, b⟩ | a)
    · exact ⟨j, by omega, b⟩
    · exact ⟨i, by omega, a⟩
  · rintro ⟨j, a, b⟩
    rcases Nat.lt_or_ge j i with c | c
    · exact .inl ⟨j, c, b⟩
    · obtain rfl : j = i := by omega
      exact .inr b
theorem pa_two (h : i < n) (x : Nat) : (((∃ j, j < i ∧ j < n ∧ x = f j) ∨ x = f i) ∨ x = f i) ↔ ∃ j, j < i + 1 ∧ j < n ∧ x = f j := by
  constructor
  · rintro ((⟨j, a, a', b⟩ | a) | a)
    · exact ⟨j, by omega, a', b⟩
    · exact ⟨i, by omega, h, a⟩
    · exact ⟨i, by omega, h, a⟩
  · rintro ⟨j, a, a', b⟩
    rcases Nat.lt_or_ge j i with c | c
    · exact .inl (.inl ⟨j, c, a', b⟩)
    · obtain rfl : j = i := by omega
      exact .inr b
theorem pa_skip (h : ¬ i < n) (x : Nat) : (∃ j, j < i ∧ j < n ∧ x = f j) ↔ ∃ j, j < i + 1 ∧ j < n ∧ x = f j := by
  constructor
  · rintro ⟨j, a, a', b⟩; exact ⟨j, by omega, a', b⟩
  · rintro ⟨j, a, a', b⟩; exact ⟨j, by omega, a', b⟩
theorem pb_step (h : ¬ i < n) (x : Nat) : ((∃ j, j < i ∧ n ≤ j ∧ x = f j) ∨ x = f i) ↔ ∃ j, j < i + 1 ∧ n ≤ j ∧ x = f j := by
  constructor
  · rintro (⟨j, a, a', b⟩ | a)
    · exact ⟨j, by omega, a', b⟩
    · exact ⟨i, by omega, by omega, a⟩
  · rintro ⟨j, a, a', b⟩
    rcases Nat.lt_or_ge j i with c | c
    · exact .inl ⟨j, c, a', b⟩
    · obtain rfl : j = i := by omega
      exact .inr b
theorem pb_skip (h : i < n) (x : Nat) : (∃ j, j < i ∧ n ≤ j ∧ x = f j) ↔ ∃ j, j < i + 1 ∧ n ≤ j ∧ x = f j := by
  constructor
  · rintro ⟨j, a, a', b⟩; exact ⟨j, by omega, a', b⟩
  · rintro ⟨j, a, a', b⟩; exact ⟨j, by omega, a', b⟩
end

set_option maxRecDepth 20000 in
theorem oBad (T Kk Mm : Int) (A : Option Addr) (c : Nat) (S : List (Nat × Nat)) (hS : S.length < 9223372036854775808) (hb : ∀ s ∈ S, s.1 < 18446744073709551616 ∧ s.2 < 18446744073709551616) (w : World) (hr : Reads w A (seedC S)) (hg : ¬ goodK T S Kk Mm) (B : Option Addr) (d : Nat) (l : List Nat) (hll : l.length ≤ 9223372036854775807) (hul : ∀ x ∈ l, x < 18446744073709551616) (cut : Nat) (hcut : cut < 18446744073709551616) : FnV Try.prog 4 [.agg #[.int .i64 T, .slice A S.length c, .int .i64 Kk, .int .i64 Mm], .slice B l.length d, .int .u64 cut] (.bool true) w := by
  refine fn_enter Try.func4 rfl Try.ntmps4 rfl ?_
  refine vc_seq ?_
  refine vc_region ?_
  refine vl_box rfl rfl (.some rfl) rfl (fun r3 => ?_)
  refine vl_val rfl (.some rfl) (val_assign rfl) ?_
  refine vl_nil ?_
  refine vc_seq ?_
  refine vc_drawsS [0, 2, 4, 6, 7, 8] [] [0, 2, 4, 1, 3, 5, 6, 7, 8] [cells r3 [.int .i64 T, .slice A S.length c, .int .i64 Kk, .int .i64 Mm] 24] (by repeat (first | exact .nil | (apply Sub.cons; · repeat (first | exact .head | apply Take.tail)))) rfl (by kernel_rfl) (fun _ _ _ h => h) ?_
  refine vd_val rfl rfl rfl (.some rfl) (val_loadAgg Try.isAgg24 Try.sizeOf24 rfl (by first | exact cells_whole (by repeat (first | exact .head | apply In.tail | apply Take.tail | apply Upd.tail)) | exact cells_part (by repeat (first | exact .head | apply In.tail | apply Take.tail | apply Upd.tail)) rfl) rfl) ?_
  refine vd_val rfl rfl rfl (.some rfl) (val_loadAgg Try.isAgg24 Try.sizeOf24 rfl (by first | exact cells_whole (by repeat (first | exact .head | apply In.tail | apply Take.tail | apply Upd.tail)) | exact cells_part (by repeat (first | exact .head | apply In.tail | apply Take.tail | apply Upd.tail)) rfl) rfl) ?_
  refine vd_val rfl rfl rfl (.some rfl) (val_loadAgg Try.isAgg24 Try.sizeOf24 rfl (by first | exact cells_whole (by repeat (first | exact .head | apply In.tail | apply Take.tail | apply Upd.tail)) | exact cells_part (by repeat (first | exact .head | apply In.tail | apply Take.tail | apply Upd.tail)) rfl) rfl) ?_
  refine vd_op rfl rfl ?_
  refine vl_callV rfl rfl (.some rfl) Try.call12 rfl (fun w hw => kNewBad T Kk Mm A c S hS hb w (rdw (rd_old hr rfl) hw) hg) ?_
  refine vl_nil ?_
  refine ⟨fun _ => ⟨_, (by repeat (first | exact .nil | (apply Sub.cons; · repeat (first | exact .head | apply Take.tail))))⟩, ?_⟩
  refine vd_op rfl rfl ?_
  refine vl_callV rfl rfl (.some rfl) Try.call12 rfl (fun w hw => kNewBad T Kk Mm A c S hS hb w (rdw (rd_old hr rfl) hw) hg) ?_
  refine vl_nil ?_
  refine ⟨fun _ => ⟨_, (by repeat (first | exact .nil | (apply Sub.cons; · repeat (first | exact .head | apply Take.tail))))⟩, ?_⟩
  refine vd_op rfl rfl ?_
  refine vl_callV rfl rfl (.some rfl) Try.call12 rfl (fun w hw => kNewBad T Kk Mm A c S hS hb w (rdw (rd_old hr rfl) hw) hg) ?_
  refine vl_nil ?_
  refine ⟨fun _ => ⟨_, (by repeat (first | exact .nil | (apply Sub.cons; · repeat (first | exact .head | apply Take.tail))))⟩, ?_⟩
  refine vd_val rfl rfl rfl (.some rfl) (val_assign rfl) ?_
  refine vd_val rfl rfl rfl (.some rfl) (val_assign rfl) ?_
  refine vd_val rfl rfl rfl (.some rfl) (val_assign rfl) ?_
  refine vd_nil ?_
  refine vc_seq ?_
  refine vc_seq ?_
  refine vc_region ?_
  refine vl_val rfl (.some rfl) (val_move rfl) ?_
  refine vl_val rfl (.some rfl) (val_opO rfl rfl guard_ptr (bin_nil_eq Try.runUnderlying26)) ?_
  refine vl_val rfl (.some rfl) (val_move rfl) ?_
  refine vl_off rfl rfl rfl rfl (.some rfl) ?_
  refine vl_off rfl rfl rfl rfl (.some rfl) ?_
  refine vl_off rfl rfl rfl rfl (.some rfl) ?_
  refine vl_val rfl (.some rfl) (val_pick rfl rfl) ?_
  refine vl_nil ?_
  refine vc_cond rfl (fun _ => ?_) (fun h => by cases h)
  refine vc_seq ?_
  refine vc_region ?_
  refine vl_val rfl (.some rfl) (val_move rfl) ?_
  refine vl_val rfl (.some rfl) (val_opO rfl rfl guard_ptr (bin_nil_eq Try.runUnderlying26)) ?_
  refine vl_val rfl (.some rfl) (val_loadAgg Try.isAgg24 Try.sizeOf24 rfl (by first | exact cells_whole (by repeat (first | exact .head | apply In.tail | apply Take.tail | apply Upd.tail)) | exact cells_part (by repeat (first | exact .head | apply In.tail | apply Take.tail | apply Upd.tail)) rfl) rfl) ?_
  refine vl_callV rfl rfl (.some rfl) Try.call13 rfl (fun w hw => kGood T Kk Mm A c S hS hb w (rdw (rd_old hr rfl) hw)) ?_
  rw [decide_eq_false hg]
  refine vl_val rfl (.some rfl) (val_bne Try.underlying4 rfl rfl) ?_
  refine vl_val rfl (.some rfl) (val_move rfl) ?_
  refine vl_split (t := 32) rfl (fun hg32 => ?_) (fun hg32 => ?_)
  · (try replace hg32 := of_decide_eq_true hg32)
    refine vl_on rfl rfl rfl rfl ?_
    refine vl_callV rfl rfl (.some rfl) Try.call14 rfl (fun w hw => kLives w) ?_
    refine vl_val rfl (.some rfl) (val_pick rfl rfl) ?_
    refine vl_val rfl (.some rfl) (val_assign rfl) ?_
    refine vl_nil ?_
    refine vc_ret ?_
    refine ⟨_, [], _, res1 Try.results4 rfl, .nil, ?_⟩
    rfl
  · (try replace hg32 := of_decide_eq_false hg32)
    exfalso
    exact absurd hg32 (by decide)
set_option maxRecDepth 20000 in
set_option maxHeartbeats 1000000 in
theorem oGood (t : Nat) (Kk Mm : Int) (A : Option Addr) (c : Nat) (S : List (Nat × Nat)) (hS : S.length < 9223372036854775808) (hb : ∀ s ∈ S, s.1 < 18446744073709551616 ∧ s.2 < 18446744073709551616) (w : World) (hr : Reads w A (seedC S)) (hg : goodK t S Kk Mm) (B : Option Addr) (d : Nat) (l : List Nat) (hll : l.length ≤ 9223372036854775807) (hul : ∀ x ∈ l, x < 18446744073709551616) (cut : Nat) (hcut : cut < 18446744073709551616) (hrl : Reads w B (ucells l)) : FnV Try.prog 4 [.agg #[.int .i64 (t : Nat), .slice A S.length c, .int .i64 Kk, .int .i64 Mm], .slice B l.length d, .int .u64 cut] (.bool true) w := by
  have hk0 := keptV_new hg hb
  have hne : l.length + 1 ≠ 0 := by omega
  refine fn_enter Try.func4 rfl Try.ntmps4 rfl ?_
  refine vc_seq ?_
  refine vc_region ?_
  refine vl_box rfl rfl (.some rfl) rfl (fun r3 => ?_)
  refine vl_val rfl (.some rfl) (val_assign rfl) ?_
  refine vl_nil ?_
  refine vc_seq ?_
  refine vc_drawsS [0, 2, 4, 6, 7, 8] [] [0, 2, 4, 1, 3, 5, 6, 7, 8] [cells r3 [.int .i64 (t : Nat), .slice A S.length c, .int .i64 Kk, .int .i64 Mm] 24] (by repeat (first | exact .nil | (apply Sub.cons; · repeat (first | exact .head | apply Take.tail)))) rfl (by kernel_rfl) (fun _ _ _ h => h) ?_
  refine vd_val rfl rfl rfl (.some rfl) (val_loadAgg Try.isAgg24 Try.sizeOf24 rfl (by first | exact cells_whole (by repeat (first | exact .head | apply In.tail | apply Take.tail | apply Upd.tail)) | exact cells_part (by repeat (first | exact .head | apply In.tail | apply Take.tail | apply Upd.tail)) rfl) rfl) ?_
  refine vd_val rfl rfl rfl (.some rfl) (val_loadAgg Try.isAgg24 Try.sizeOf24 rfl (by first | exact cells_whole (by repeat (first | exact .head | apply In.tail | apply Take.tail | apply Upd.tail)) | exact cells_part (by repeat (first | exact .head | apply In.tail | apply Take.tail | apply Upd.tail)) rfl) rfl) ?_
  refine vd_val rfl rfl rfl (.some rfl) (val_loadAgg Try.isAgg24 Try.sizeOf24 rfl (by first | exact cells_whole (by repeat (first | exact .head | apply In.tail | apply Take.tail | apply Upd.tail)) | exact cells_part (by repeat (first | exact .head | apply In.tail | apply Take.tail | apply Upd.tail)) rfl) rfl) ?_
  refine vd_op rfl rfl ?_
  refine vl_call (C := []) rfl rfl (.some rfl) Try.call12 rfl .nil (fun w hw => qNew t Kk Mm A c S hb w (rdw (rd_old hr rfl) hw) hg) (fun v H' h => ?_)
  obtain ⟨b1, As1, cs1, Ac1, cc1, L1, rfl, hL1, rfl⟩ := h
  show VL _ _ _ _ _ (_ :: _ :: _ :: _ :: _)
  refine vl_nil ?_
  refine ⟨fun _ => ⟨_, (by repeat (first | exact .nil | (apply Sub.cons; · repeat (first | exact .head | apply Take.tail))))⟩, ?_⟩
  refine vd_op rfl rfl ?_
  refine vl_call (C := []) rfl rfl (.some rfl) Try.call12 rfl .nil (fun w hw => qNew t Kk Mm A c S hb w (rdw (rd_old hr rfl) hw) hg) (fun v H' h => ?_)
  obtain ⟨b2, As2, cs2, Ac2, cc2, L2, rfl, hL2, rfl⟩ := h
  show VL _ _ _ _ _ (_ :: _ :: _ :: _ :: _)
  refine vl_nil ?_
  refine ⟨fun _ => ⟨_, (by repeat (first | exact .nil | (apply Sub.cons; · repeat (first | exact .head | apply Take.tail))))⟩, ?_⟩
  refine vd_op rfl rfl ?_
  refine vl_call (C := []) rfl rfl (.some rfl) Try.call12 rfl .nil (fun w hw => qNew t Kk Mm A c S hb w (rdw (rd_old hr rfl) hw) hg) (fun v H' h => ?_)
  obtain ⟨b3, As3, cs3, Ac3, cc3, L3, rfl, hL3, rfl⟩ := h
  show VL _ _ _ _ _ (_ :: _ :: _ :: _ :: _)
  refine vl_nil ?_
  refine ⟨fun _ => ⟨_, (by repeat (first | exact .nil | (apply Sub.cons; · repeat (first | exact .head | apply Take.tail))))⟩, ?_⟩
  refine vd_val rfl rfl rfl (.some rfl) (val_assign rfl) ?_
  refine vd_val rfl rfl rfl (.some rfl) (val_assign rfl) ?_
  refine vd_val rfl rfl rfl (.some rfl) (val_assign rfl) ?_
  refine vd_nil ?_
  refine vc_seq ?_
  refine vc_seq ?_
  refine vc_region ?_
  refine vl_val rfl (.some rfl) (val_move rfl) ?_
  refine vl_val rfl (.some rfl) (val_opO rfl rfl guard_ptr (bin_ptr_eq Try.runUnderlying26)) ?_
  refine vl_val rfl (.some rfl) (val_move rfl) ?_
  refine vl_on rfl rfl rfl rfl ?_
  refine vl_val rfl (.some rfl) (val_move rfl) ?_
  refine vl_on rfl rfl rfl rfl ?_
  refine vl_val rfl (.some rfl) (val_lenSl Try.runUnderlying25 rfl) ?_
  refine vl_on rfl rfl rfl rfl ?_
  refine vl_val rfl (.some rfl) (val_gt rfl rfl) ?_
  refine vl_val rfl (.some rfl) (val_pick rfl rfl) ?_
  refine vl_nil ?_
  refine vc_cond rfl (fun hc0 => ?_) (fun hc0 => ?_)
  · (try replace hc0 := of_decide_eq_true hc0)
    refine vc_seq ?_
    refine vc_region ?_
    refine vl_val rfl (.some rfl) (val_move rfl) ?_
    refine vl_val rfl (.some rfl) (val_opO rfl rfl guard_ptr (bin_ptr_eq Try.runUnderlying26)) ?_
    refine vl_val rfl (.some rfl) (val_loadAgg Try.isAgg24 Try.sizeOf24 rfl (by first | exact cells_whole (by repeat (first | exact .head | apply In.tail | apply Take.tail | apply Upd.tail)) | exact cells_part (by repeat (first | exact .head | apply In.tail | apply Take.tail | apply Upd.tail)) rfl) rfl) ?_
    refine vl_callV rfl rfl (.some rfl) Try.call13 rfl (fun w hw => kGood t Kk Mm A c S hS hb w (rdw (rd_old hr rfl) hw)) ?_
    rw [decide_eq_true hg]
    refine vl_val rfl (.some rfl) (val_bne Try.underlying4 rfl rfl) ?_
    refine vl_val rfl (.some rfl) (val_move rfl) ?_
    refine vl_split (t := 32) rfl (fun hg32 => ?_) (fun hg32 => ?_)
    · (try replace hg32 := of_decide_eq_true hg32)
      refine vl_on rfl rfl rfl rfl ?_
      refine vl_callV rfl rfl (.some rfl) Try.call14 rfl (fun w hw => kLives w) ?_
      refine vl_val rfl (.some rfl) (val_pick rfl rfl) ?_
      refine vl_val rfl (.some rfl) (val_assign rfl) ?_
      refine vl_nil ?_
      refine vc_ret ?_
      refine ⟨_, [], _, res1 Try.results4 rfl, .nil, ?_⟩
      rfl
    · (try replace hg32 := of_decide_eq_false hg32)
      exfalso
      exact absurd hg32 (by decide)
  · (try replace hc0 := of_decide_eq_false hc0)
    refine vc_skip ?_
    refine vc_seq ?_
    refine vc_region ?_
    obtain ⟨n, hn⟩ : ∃ n, cut % (l.length + 1) = n := ⟨_, rfl⟩
    have hnl : n < l.length + 1 := by rw [← hn]; exact Nat.mod_lt _ (by omega)
    refine vl_val rfl (.some rfl) (val_move rfl) ?_
    refine vl_val rfl (.some rfl) (val_move rfl) ?_
    refine vl_val rfl (.some rfl) (val_lenSl Try.runUnderlying25 rfl) ?_
    refine vl_val rfl (.some rfl) (val_add rfl rfl (show _ = ((l.length + 1 : Nat) : Int) by rw [w_i64 (by omega) (by omega)]; omega)) ?_
    refine vl_val rfl (.some rfl) (val_convInt Try.runUnderlying3 Try.runUnderlying39 rfl (wN (by omega))) ?_
    refine vl_val rfl (.some rfl) (val_rem rfl rfl (by omega) ((remN cut (l.length + 1)).trans (show _ = ((n : Nat) : Int) by rw [hn]))) ?_
    refine vl_val rfl (.some rfl) (val_convInt Try.runUnderlying39 Try.runUnderlying3 rfl (w_i64 (by omega) (by omega))) ?_
    refine vl_val rfl (.some rfl) (val_assign rfl) ?_
    refine vl_nil ?_
    refine vc_seq ?_
    refine vc_seq ?_
    refine vc_region ?_
    refine vl_val rfl (.some rfl) (val_move rfl) ?_
    refine vl_val rfl (.some rfl) (val_lenSl Try.runUnderlying25 rfl) ?_
    refine vl_val rfl (.some rfl) (val_move rfl) ?_
    refine vl_nil ?_
    refine vc_block ?_
    refine vc_loopw (fun m E H => ∃ (i : Nat) (V1 V2 V3 : List (List Nat)) (K1 K2 K3 : List (Sl Nat)), i ≤ l.length ∧ m = l.length - i ∧ vals K1 = V1 ∧ vals K2 = V2 ∧ vals K3 = V3 ∧ KeptV t S V1 (fun x => ∃ j, j < i ∧ x = l.getD j 0) ∧ KeptV t S V2 (fun x => ∃ j, j < i ∧ j < n ∧ x = l.getD (l.length - 1 - j) 0) ∧ KeptV t S V3 (fun x => ∃ j, j < i ∧ n ≤ j ∧ x = l.getD (l.length - 1 - j) 0) ∧ E = [(1, .slice B l.length d), (7, .pointer (some ⟨b1, 0, none⟩)), (8, .pointer (some ⟨b2, 0, none⟩)), (9, .pointer (some ⟨b3, 0, none⟩)), (10, .int .i64 n), (42, .slice B l.length d), (43, .int .i64 l.length), (44, .int .i64 i)] ∧ H = [SDc As1 S.length cs1 S, SDc As2 S.length cs2 S, SDc As3 S.length cs3 S] ++ KQ b1 t As1 cs1 S Ac1 cc1 K1 ++ KQ b2 t As2 cs2 S Ac2 cc2 K2 ++ KQ b3 t As3 cs3 S Ac3 cc3 K3) (l.length) ⟨_, _, _, ⟨0, _, _, _, L1, L2, L3, by omega, rfl, hL1, hL2, hL3, hk0.congr (fun x => ⟨fun h => h.elim, fun ⟨j, h, _⟩ => by omega⟩), hk0.congr (fun x => ⟨fun h => h.elim, fun ⟨j, h, _⟩ => by omega⟩), hk0.congr (fun x => ⟨fun h => h.elim, fun ⟨j, h, _⟩ => by omega⟩), rfl, rfl⟩, (by repeat (first | exact trivial | refine ⟨rfl, ?_⟩ | refine ⟨le_item rfl (by first | rfl | (congr 1; omega) | (simp; done) | (simp; omega)), ?_⟩)), (by repeat (first | exact .nil | (apply Sub.cons; · repeat (first | exact .head | apply Take.tail))))⟩ ?_
    intro m E H hI
    obtain ⟨i, V1, V2, V3, K1, K2, K3, hi, rfl, hK1, hK2, hK3, hk1, hk2, hk3, rfl, rfl⟩ := hI
    refine vc_seq ?_
    refine vc_region ?_
    refine vl_val rfl (.some rfl) (val_lt rfl rfl) ?_
    refine vl_nil ?_
    refine vc_seq ?_
    refine vc_cond rfl (fun hc1 => ?_) (fun hc1 => ?_)
    · (try replace hc1 := of_decide_eq_true hc1)
      refine vc_skip ?_
      refine vc_seq ?_
      refine vc_block ?_
      refine vc_seq ?_
      refine vc_region ?_
      refine vl_val rfl (.some rfl) (val_move rfl) ?_
      refine vl_val rfl (.some rfl) (val_indexAddr Try.runUnderlying25 Try.sizeOf30 rfl rfl (rd_old hrl rfl) (by omega) (by omega) (by rw [ucells_length]; omega)) ?_
      refine vl_val rfl (.some rfl) (val_load Try.isAgg30 rfl (by first | exact cell_cells (by repeat (first | exact .head | apply In.tail | apply Take.tail | apply Upd.tail)) rfl | exact cell_rd (rd_sl (by repeat (first | exact .head | apply In.tail | apply Take.tail | apply Upd.tail))) (by first | exact bcells_at (by omega) | exact ucells_at (by omega) | exact icells_at (by omega) | exact tcells_at (by omega) | exact bcells_get (by omega) | exact icells_get (by omega) | exact tcells_get (by omega) | exact ucells_get (by omega)) | exact cell_rd (rd_old (by assumption) rfl) (by first | exact bcells_at (by omega) | exact ucells_at (by omega) | exact icells_at (by omega) | exact tcells_at (by omega) | exact bcells_get (by omega) | exact icells_get (by omega) | exact tcells_get (by omega) | exact ucells_get (by omega)) | exact cell_old (by assumption) (by simp [fps]))) ?_
      refine vl_val rfl (.some rfl) (val_assign rfl) ?_
      refine vl_val rfl (.some rfl) (val_assign rfl) ?_
      refine vl_nil ?_
      refine vc_seq ?_
      refine vc_region ?_
      refine vl_val rfl (.some rfl) (val_move rfl) ?_
      refine vl_val rfl (.some rfl) (val_move rfl) ?_
      refine vl_call (C := KQ b1 t As1 cs1 S Ac1 cc1 K1) rfl rfl (.some rfl) Try.call15 rfl (by repeat (first | exact .nil | (apply Sub.cons; · repeat (first | exact .head | apply Take.tail)))) (fun w hw => qInsert hK1 hk1.ok (l.getD i 0) (hul _ (getD_mem 0 (by omega))) w (readsM_sl (A := As1) (n := S.length) (c := cs1) (sz := 2) (e := 81) (vs := seedC S) (C := KQ b1 t As1 cs1 S Ac1 cc1 K1) (by repeat (first | exact .nil | (apply Sub.cons; · repeat (first | exact .head | apply Take.tail)))) (by repeat (first | exact .head | apply In.tail | apply Take.tail | apply Upd.tail)) hw)) (fun v H' h => ?_)
      obtain ⟨K1', hK1', rfl⟩ := h
      show VL _ _ _ _ _ (_ :: _ :: _ :: _)
      refine vl_nil ?_
      refine vc_seq ?_
      refine vc_region ?_
      refine vl_val rfl (.some rfl) (val_move rfl) ?_
      refine vl_val rfl (.some rfl) (val_move rfl) ?_
      refine vl_val rfl (.some rfl) (val_lenSl Try.runUnderlying25 rfl) ?_
      refine vl_val rfl (.some rfl) (val_sub rfl rfl (w_i64 (by omega) (by omega))) ?_
      refine vl_val rfl (.some rfl) (val_move rfl) ?_
      refine vl_val rfl (.some rfl) (val_sub rfl rfl (show _ = ((l.length - 1 - i : Nat) : Int) by rw [w_i64 (by omega) (by omega)]; omega)) ?_
      refine vl_val rfl (.some rfl) (val_indexAddr Try.runUnderlying25 Try.sizeOf30 rfl rfl (rd_old hrl rfl) (by omega) (by omega) (by rw [ucells_length]; omega)) ?_
      refine vl_val rfl (.some rfl) (val_load Try.isAgg30 rfl (by first | exact cell_cells (by repeat (first | exact .head | apply In.tail | apply Take.tail | apply Upd.tail)) rfl | exact cell_rd (rd_sl (by repeat (first | exact .head | apply In.tail | apply Take.tail | apply Upd.tail))) (by first | exact bcells_at (by omega) | exact ucells_at (by omega) | exact icells_at (by omega) | exact tcells_at (by omega) | exact bcells_get (by omega) | exact icells_get (by omega) | exact tcells_get (by omega) | exact ucells_get (by omega)) | exact cell_rd (rd_old (by assumption) rfl) (by first | exact bcells_at (by omega) | exact ucells_at (by omega) | exact icells_at (by omega) | exact tcells_at (by omega) | exact bcells_get (by omega) | exact icells_get (by omega) | exact tcells_get (by omega) | exact ucells_get (by omega)) | exact cell_old (by assumption) (by simp [fps]))) ?_
      refine vl_val rfl (.some rfl) (val_assign rfl) ?_
      refine vl_nil ?_
      refine vc_seq ?_
      refine vc_region ?_
      refine vl_val rfl (.some rfl) (val_move rfl) ?_
      refine vl_val rfl (.some rfl) (val_move rfl) ?_
      refine vl_val rfl (.some rfl) (val_lt rfl rfl) ?_
      refine vl_nil ?_
      refine vc_cond rfl (fun hc2 => ?_) (fun hc2 => ?_)
      · (try replace hc2 := of_decide_eq_true hc2)
        refine vc_seq ?_
        refine vc_region ?_
        refine vl_val rfl (.some rfl) (val_move rfl) ?_
        refine vl_val rfl (.some rfl) (val_move rfl) ?_
        refine vl_call (C := KQ b2 t As2 cs2 S Ac2 cc2 K2) rfl rfl (.some rfl) Try.call15 rfl (by repeat (first | exact .nil | (apply Sub.cons; · repeat (first | exact .head | apply Take.tail)))) (fun w hw => qInsert hK2 hk2.ok (l.getD (l.length - 1 - i) 0) (hul _ (getD_mem 0 (by omega))) w (readsM_sl (A := As2) (n := S.length) (c := cs2) (sz := 2) (e := 81) (vs := seedC S) (C := KQ b2 t As2 cs2 S Ac2 cc2 K2) (by repeat (first | exact .nil | (apply Sub.cons; · repeat (first | exact .head | apply Take.tail)))) (by repeat (first | exact .head | apply In.tail | apply Take.tail | apply Upd.tail)) hw)) (fun v H' h => ?_)
        obtain ⟨K2', hK2', rfl⟩ := h
        show VL _ _ _ _ _ (_ :: _ :: _ :: _)
        refine vl_nil ?_
        refine vc_region ?_
        refine vl_val rfl (.some rfl) (val_move rfl) ?_
        refine vl_val rfl (.some rfl) (val_move rfl) ?_
        refine vl_call (C := KQ b2 t As2 cs2 S Ac2 cc2 K2') rfl rfl (.some rfl) Try.call15 rfl (by repeat (first | exact .nil | (apply Sub.cons; · repeat (first | exact .head | apply Take.tail)))) (fun w hw => qInsert hK2' (okK_ins hk2.ok _) (l.getD (l.length - 1 - i) 0) (hul _ (getD_mem 0 (by omega))) w (readsM_sl (A := As2) (n := S.length) (c := cs2) (sz := 2) (e := 81) (vs := seedC S) (C := KQ b2 t As2 cs2 S Ac2 cc2 K2') (by repeat (first | exact .nil | (apply Sub.cons; · repeat (first | exact .head | apply Take.tail)))) (by repeat (first | exact .head | apply In.tail | apply Take.tail | apply Upd.tail)) hw)) (fun v H' h => ?_)
        obtain ⟨K2'', hK2'', rfl⟩ := h
        show VL _ _ _ _ _ (_ :: _ :: _ :: _)
        refine vl_nil ?_
        refine vc_region ?_
        refine vl_val rfl (.some rfl) (val_add rfl rfl (by first | exact w_i64 (by omega) (by omega) | rfl)) ?_
        refine vl_val rfl (.some rfl) (val_move rfl) ?_
        refine vl_nil ?_
        first
          | exact ⟨(l.length - (i + 1)), _, _, _, by omega, (by repeat (first | exact trivial | refine ⟨rfl, ?_⟩ | refine ⟨le_item rfl (by first | rfl | (congr 1; omega) | (simp; done) | (simp; omega)), ?_⟩)), (by repeat (first | exact .nil | (apply Sub.cons; · repeat (first | exact .head | apply Take.tail)))), ⟨i + 1, _, _, _, K1', K2'', K3, by omega, rfl, hK1', hK2'', hK3, (hk1.ins _).congr (pk_step i), ((hk2.ins _).ins _).congr (pa_two (by omega)), hk3.congr (pb_skip (by omega)), rfl, rfl⟩⟩
          | exact ⟨(l.length - (i + 1)), _, _, _, by omega, (by repeat (first | exact trivial | refine ⟨rfl, ?_⟩ | refine ⟨le_item rfl (by first | rfl | (congr 1; omega) | (simp; done) | (simp; omega)), ?_⟩)), (by repeat (first | exact .nil | (apply Sub.cons; · repeat (first | exact .head | apply Take.tail)))), ⟨i + 1, _, _, _, K1', K2, K3', by omega, rfl, hK1', hK2, hK3', (hk1.ins _).congr (pk_step i), hk2.congr (pa_skip (by omega)), (hk3.ins _).congr (pb_step (by omega)), rfl, rfl⟩⟩
      · (try replace hc2 := of_decide_eq_false hc2)
        refine vc_region ?_
        refine vl_val rfl (.some rfl) (val_move rfl) ?_
        refine vl_val rfl (.some rfl) (val_move rfl) ?_
        refine vl_call (C := KQ b3 t As3 cs3 S Ac3 cc3 K3) rfl rfl (.some rfl) Try.call15 rfl (by repeat (first | exact .nil | (apply Sub.cons; · repeat (first | exact .head | apply Take.tail)))) (fun w hw => qInsert hK3 hk3.ok (l.getD (l.length - 1 - i) 0) (hul _ (getD_mem 0 (by omega))) w (readsM_sl (A := As3) (n := S.length) (c := cs3) (sz := 2) (e := 81) (vs := seedC S) (C := KQ b3 t As3 cs3 S Ac3 cc3 K3) (by repeat (first | exact .nil | (apply Sub.cons; · repeat (first | exact .head | apply Take.tail)))) (by repeat (first | exact .head | apply In.tail | apply Take.tail | apply Upd.tail)) hw)) (fun v H' h => ?_)
        obtain ⟨K3', hK3', rfl⟩ := h
        show VL _ _ _ _ _ (_ :: _ :: _ :: _)
        refine vl_nil ?_
        refine vc_region ?_
        refine vl_val rfl (.some rfl) (val_add rfl rfl (by first | exact w_i64 (by omega) (by omega) | rfl)) ?_
        refine vl_val rfl (.some rfl) (val_move rfl) ?_
        refine vl_nil ?_
        first
          | exact ⟨(l.length - (i + 1)), _, _, _, by omega, (by repeat (first | exact trivial | refine ⟨rfl, ?_⟩ | refine ⟨le_item rfl (by first | rfl | (congr 1; omega) | (simp; done) | (simp; omega)), ?_⟩)), (by repeat (first | exact .nil | (apply Sub.cons; · repeat (first | exact .head | apply Take.tail)))), ⟨i + 1, _, _, _, K1', K2'', K3, by omega, rfl, hK1', hK2'', hK3, (hk1.ins _).congr (pk_step i), ((hk2.ins _).ins _).congr (pa_two (by omega)), hk3.congr (pb_skip (by omega)), rfl, rfl⟩⟩
          | exact ⟨(l.length - (i + 1)), _, _, _, by omega, (by repeat (first | exact trivial | refine ⟨rfl, ?_⟩ | refine ⟨le_item rfl (by first | rfl | (congr 1; omega) | (simp; done) | (simp; omega)), ?_⟩)), (by repeat (first | exact .nil | (apply Sub.cons; · repeat (first | exact .head | apply Take.tail)))), ⟨i + 1, _, _, _, K1', K2, K3', by omega, rfl, hK1', hK2, hK3', (hk1.ins _).congr (pk_step i), hk2.congr (pa_skip (by omega)), (hk3.ins _).congr (pb_step (by omega)), rfl, rfl⟩⟩
    · (try replace hc1 := of_decide_eq_false hc1)
      refine vc_exit ?_
      refine vc_seq ?_
      refine vc_region ?_
      refine vl_val rfl (.some rfl) (val_move rfl) ?_
      refine vl_val rfl (.some rfl) (val_move rfl) ?_
      have hil : i = l.length := by omega
      refine vl_call (C := KQ b3 t As3 cs3 S Ac3 cc3 K3 ++ KQ b2 t As2 cs2 S Ac2 cc2 K2) rfl rfl (.some rfl) Try.call20 rfl (by repeat (first | exact .nil | (apply Sub.cons; · repeat (first | exact .head | apply Take.tail)))) (fun w hw => qMerge hK3 hk3.ok hK2 hk2.ok w (readsM_sl (A := As3) (n := S.length) (c := cs3) (sz := 2) (e := 81) (vs := seedC S) (C := KQ b3 t As3 cs3 S Ac3 cc3 K3 ++ KQ b2 t As2 cs2 S Ac2 cc2 K2) (by repeat (first | exact .nil | (apply Sub.cons; · repeat (first | exact .head | apply Take.tail)))) (by repeat (first | exact .head | apply In.tail | apply Take.tail | apply Upd.tail)) hw) (readsM_sl (A := As2) (n := S.length) (c := cs2) (sz := 2) (e := 81) (vs := seedC S) (C := KQ b3 t As3 cs3 S Ac3 cc3 K3 ++ KQ b2 t As2 cs2 S Ac2 cc2 K2) (by repeat (first | exact .nil | (apply Sub.cons; · repeat (first | exact .head | apply Take.tail)))) (by repeat (first | exact .head | apply In.tail | apply Take.tail | apply Upd.tail)) hw)) (fun v H' h => ?_)
      obtain ⟨rfl, K4, hK4, rfl⟩ := h
      show VL _ _ _ _ _ (_ :: _ :: _ :: _ :: _ :: _ :: _)
      have hk4 := hk3.mrg hk2
      have huq := hk1.uniq hk4 (fun x => ⟨fun ⟨j, h1, h2⟩ => by
        rcases Nat.lt_or_ge (l.length - 1 - j) n with h | h
        · exact .inr ⟨l.length - 1 - j, by omega, h, by rw [h2]; congr 1; omega⟩
        · exact .inl ⟨l.length - 1 - j, by omega, h, by rw [h2]; congr 1; omega⟩, fun h => by
        rcases h with ⟨j, h1, h2, h3⟩ | ⟨j, h1, h2, h3⟩ <;> exact ⟨l.length - 1 - j, by omega, h3⟩⟩)
      refine vl_val rfl (.some rfl) (val_eqt rfl rfl (rfl)) ?_
      refine vl_val rfl (.some rfl) (val_move rfl) ?_
      refine vl_on rfl rfl rfl rfl ?_
      refine vl_val rfl (.some rfl) (val_move rfl) ?_
      refine vl_on rfl rfl rfl rfl ?_
      refine vl_call (C := KQ b1 t As1 cs1 S Ac1 cc1 K1) rfl rfl (.some rfl) Try.call22 rfl (by repeat (first | exact .nil | (apply Sub.cons; · repeat (first | exact .head | apply Take.tail)))) (fun w hw => qBytes hK1 hk1.ok w) (fun v H' h => ?_)
      obtain ⟨A79, c79, rfl, rfl⟩ := h
      show VL _ _ _ _ _ (_ :: _ :: _ :: _ :: _)
      refine vl_on rfl rfl rfl rfl ?_
      refine vl_val rfl (.some rfl) (val_move rfl) ?_
      refine vl_on rfl rfl rfl rfl ?_
      refine vl_call (C := KQ b3 t As3 cs3 S Ac3 cc3 K4) rfl rfl (.some rfl) Try.call22 rfl (by repeat (first | exact .nil | (apply Sub.cons; · repeat (first | exact .head | apply Take.tail)))) (fun w hw => qBytes hK4 hk4.ok w) (fun v H' h => ?_)
      obtain ⟨A81, c81, rfl, rfl⟩ := h
      show VL _ _ _ _ _ (_ :: _ :: _ :: _ :: _)
      refine vl_on rfl rfl rfl rfl ?_
      refine vl_callV rfl rfl (.some rfl) Try.call21 rfl (fun w hw => rSame A79 A81 c79 c81 (bytesK V1) (bytesK (mrgV t V3 V2)) w (rdw (rd_sl (A := A79) (vs := bcells ((bytesK V1))) (by repeat (first | exact .head | apply In.tail | apply Take.tail | apply Upd.tail))) hw) (rdw (rd_sl (A := A81) (vs := bcells ((bytesK (mrgV t V3 V2)))) (by repeat (first | exact .head | apply In.tail | apply Take.tail | apply Upd.tail))) hw)) ?_
      rw [decide_eq_true (show (bytesK V1) = (bytesK (mrgV t V3 V2)) from by rw [← huq])]
      refine vl_val rfl (.some rfl) (val_pick rfl rfl) ?_
      refine vl_val rfl (.some rfl) (val_move rfl) ?_
      refine vl_on rfl rfl rfl rfl ?_
      refine vl_callV rfl rfl (.some rfl) Try.call14 rfl (fun w hw => kLives w) ?_
      refine vl_val rfl (.some rfl) (val_pick rfl rfl) ?_
      refine vl_val rfl (.some rfl) (val_assign rfl) ?_
      refine vl_nil ?_
      refine vc_ret ?_
      refine ⟨_, [], _, res1 Try.results4 rfl, .nil, ?_⟩
      rfl

abbrev Sq := Nat × Nat × Unit
def sqC (v : Sq) : List Value := [.int .u64 (v.1 : Nat)] ++ ([.int .u64 (v.2.1 : Nat)] ++ [])
def toSd (v : Sq) : Nat × Nat := (v.1, v.2.1)
theorem seed_sq (l : List Sq) : seedC (l.map toSd) = l.flatMap sqC := by
  unfold seedC
  rw [List.flatMap_map]
  rfl
theorem law_KmvOrder (T : Int) (A : Option Addr) (c : Nat) (q : List Sq) (Kk Mm : Int) (B : Option Addr) (d : Nat) (l : List Nat) (cut : Nat) (w : World)
    (g0 : -9223372036854775808 ≤ T ∧ T < 9223372036854775808) (hr : Reads w A (q.flatMap sqC)) (g1 : q.length ≤ c) (g2 : c ≤ maxLen) (g3 : ∀ v ∈ q, v.1 < 18446744073709551616 ∧ v.2.1 < 18446744073709551616 ∧ True) (g4 : -9223372036854775808 ≤ Kk ∧ Kk < 9223372036854775808) (g5 : -9223372036854775808 ≤ Mm ∧ Mm < 9223372036854775808)
    (hrl : Reads w B (ucells l)) (g6 : l.length ≤ d) (g7 : d ≤ maxLen) (g8 : ∀ x ∈ l, x < 18446744073709551616) (g9 : cut < 18446744073709551616) : FnV Try.prog 4 [.agg #[.int .i64 T, .slice A q.length c, .int .i64 Kk, .int .i64 Mm], .slice B l.length d, .int .u64 cut] (.bool true) w := by
  have hb : ∀ s ∈ q.map toSd, s.1 < 18446744073709551616 ∧ s.2 < 18446744073709551616 := fun s hs => by
    obtain ⟨v, hv, rfl⟩ := List.mem_map.1 hs
    exact ⟨(g3 v hv).1, (g3 v hv).2.1⟩
  have hl : q.length = (q.map toSd).length := (List.length_map _).symm
  rw [← seed_sq] at hr
  rw [hl]
  have hS : (q.map toSd).length < 9223372036854775808 := by unfold maxLen at g2; omega
  have hll : l.length ≤ 9223372036854775807 := by unfold maxLen at g7; omega
  by_cases hg : goodK T (q.map toSd) Kk Mm
  · obtain ⟨t, rfl⟩ : ∃ t : Nat, T = t := ⟨T.toNat, by have := hg.1; omega⟩
    exact oGood t Kk Mm A c _ hS hb w hr hg B d l hll g8 cut g9 hrl
  · exact oBad T Kk Mm A c _ hS hb w hr hg B d l hll g8 cut g9

end Go.Proofs.Ytclknendeeljaaa.K
