/- Walks of the program's functions, printed by a program of this session; Lean checks them. -/
import Derived.Test.YtclknendeeljaaaDoorCd
import Derived.Test.YtclknendeeljaaaDoorCl
import Derived.Test.YtclknendeeljaaaDoorCe
import Derived.Test.YtclknendeeljaaaDoorYtv
namespace Go.Proofs.YtclknendeeljaaaDoor.K
open Go Go.RowKit Go.Proofs
set_option linter.unusedVariables false
set_option linter.unusedSimpArgs false

abbrev BY (A : Option Addr) (n c : Nat) (b : List UInt8) : Chunk := sl A n c 5 1 (bcells b)
theorem pre_eq {α : Type} [DecidableEq α] {a b : List α} {i : Nat} (d : α) (h : a.take i = b.take i) (hi : i < a.length) (hl : a.length = b.length) (he : a.getD i d = b.getD i d) : a.take (i + 1) = b.take (i + 1) := by
  rw [List.take_add_one, List.take_add_one, h]
  congr 1
  rw [List.getD_eq_getElem?_getD, List.getD_eq_getElem?_getD, List.getElem?_eq_getElem hi, List.getElem?_eq_getElem (by omega)] at he
  rw [List.getElem?_eq_getElem hi, List.getElem?_eq_getElem (by omega)]
  simpa using he
theorem ne_at {α : Type} {a b : List α} {i : Nat} (d : α) (he : a.getD i d ≠ b.getD i d) : a ≠ b := fun h => he (by rw [h])

set_option maxRecDepth 20000 in
theorem cput (A : Option Addr) (c : Nat) (b : List UInt8) (u : Nat) (hu : u < 18446744073709551616) (hb : b.length ≤ 1000000000000) (w : World) : Fn Tryd.prog 42 [.slice A b.length c, .int .u64 u] [BY A b.length c b] (ret fun v H' => ∃ A' c', v = .slice A' (b ++ putN u).length c' ∧ H' = [BY A' (b ++ putN u).length c' (b ++ putN u)]) w := by
  refine fn_enter Tryd.func42 rfl Tryd.ntmps42 rfl ?_
  refine vc_seq ?_
  refine vc_region ?_
  refine vl_val rfl (.some rfl) (val_assign rfl) ?_
  refine vl_nil ?_
  refine vc_seq ?_
  refine vc_block ?_
  refine vc_loopw (fun k E H => ∃ (j v n : Nat) (pre l : List UInt8) (A : Option Addr) (c : Nat), v = k ∧ j ≤ 9 ∧ v * 128 ^ j ≤ u ∧ pre.length = j ∧ pre ++ putF (10 - j) v = putN u ∧ n = b.length + j ∧ l = b ++ pre ∧ E = [(0, .slice A n c), (1, .int .u64 v)] ∧ H = [BY A n c l]) (u) ⟨_, _, _, ⟨0, u, b.length, [], b, A, c, rfl, by omega, by simp, rfl, rfl, rfl, by simp, rfl, rfl⟩, (by repeat (first | exact trivial | refine ⟨rfl, ?_⟩ | refine ⟨le_item rfl (by first | rfl | (congr 1; omega) | (simp; done) | (simp; omega)), ?_⟩)), (by repeat constructor)⟩ ?_
  intro k E H hI
  obtain ⟨j, v, n, pre, l, A, c, rfl, hj, hv, hp, hq, hn, hl, rfl, rfl⟩ := hI
  refine vc_seq ?_
  refine vc_seq ?_
  refine vc_region ?_
  refine vl_val rfl (.some rfl) (val_move rfl) ?_
  refine vl_val rfl (.some rfl) (val_gt rfl rfl) ?_
  refine vl_nil ?_
  refine vc_cond rfl (fun hc0 => ?_) (fun hc0 => ?_)
  · (try replace hc0 := of_decide_eq_true hc0)
    refine vc_skip ?_
    refine vc_seq ?_
    refine vc_block ?_
    refine vc_region ?_
    refine vl_val rfl (.some rfl) (val_move rfl) ?_
    refine vl_val rfl (.some rfl) (val_move rfl) ?_
    refine vl_val rfl (.some rfl) (val_convInt Tryd.runUnderlying49 Tryd.runUnderlying5 rfl rfl) ?_
    refine vl_val rfl (.some rfl) (val_or rfl rfl (or128 v)) ?_
    refine vl_lit sT33 rfl rfl (.some rfl) rfl rfl rfl (by decide) (by decide) rfl (flat_one rfl) (fun r13 => ?_)
    refine vl_append sT33 rfl rfl (.some rfl) rfl rfl (by first | exact rd_sl (by repeat constructor) | exact rd_slr (by repeat constructor) | exact rd_old (by assumption) rfl) (by first | rfl | (simp; done) | (simp; omega) | (simp only [bcells_length, icells_length, ucells_length, tcells_length]; omega)) (by first | rfl | exact one_b _ | exact one_u _ | exact one_i _ | exact one_t _) (by omega) (by omega) (by repeat constructor) (fun A14 k14 => ?_)
    refine vl_val rfl (.some rfl) (val_assign rfl) ?_
    refine vl_nil ?_
    refine vc_region ?_
    refine vl_val rfl (.some rfl) (val_move rfl) ?_
    refine vl_val rfl (.some rfl) (val_shr rfl rfl (by decide) (shr_lit 128 rfl (by decide))) ?_
    refine vl_val rfl (.some rfl) (val_assign rfl) ?_
    refine vl_nil ?_
    have hs := put_step hu hj hv (by omega)
    rw [bpush (by omega)]
    exact ⟨v / 128, _, _, _, (by omega : v / 128 < v), (by repeat (first | exact trivial | refine ⟨rfl, ?_⟩ | refine ⟨le_item rfl (by first | rfl | (congr 1; omega) | (simp; done) | (simp; omega)), ?_⟩)), (by repeat constructor), ⟨j + 1, v / 128, n + 1, pre ++ [UInt8.ofNat (v % 128 + 128)], _, _, _, rfl, hs.1, hs.2, by simp [hp], put_next hs.1 (by omega) hq, by omega, by rw [hl, List.append_assoc], rfl, rfl⟩⟩
  · (try replace hc0 := of_decide_eq_false hc0)
    refine vc_exit ?_
    refine vc_seq ?_
    refine vc_region ?_
    refine vl_val rfl (.some rfl) (val_move rfl) ?_
    refine vl_val rfl (.some rfl) (val_move rfl) ?_
    refine vl_val rfl (.some rfl) (val_convInt Tryd.runUnderlying49 Tryd.runUnderlying5 rfl (by first | exact w_u8 (by omega) (by omega) | rfl)) ?_
    refine vl_lit sT33 rfl rfl (.some rfl) rfl rfl rfl (by decide) (by decide) rfl (flat_one rfl) (fun r18 => ?_)
    refine vl_append sT33 rfl rfl (.some rfl) rfl rfl (by first | exact rd_sl (by repeat constructor) | exact rd_slr (by repeat constructor) | exact rd_old (by assumption) rfl) (by first | rfl | (simp; done) | (simp; omega) | (simp only [bcells_length, icells_length, ucells_length, tcells_length]; omega)) (by first | rfl | exact one_b _ | exact one_u _ | exact one_i _ | exact one_t _) (by omega) (by omega) (by repeat constructor) (fun A19 k19 => ?_)
    refine vl_val rfl (.some rfl) (val_assign rfl) ?_
    refine vl_nil ?_
    refine vc_ret ?_
    rw [bpush (by omega)]
    refine ⟨_, [BY A19 (n + 1) k19 (l ++ [UInt8.ofNat v])], _, res1 Tryd.results42 rfl, (by repeat constructor), ?_⟩
    have hend : l ++ [UInt8.ofNat v] = b ++ putN u := by rw [hl, List.append_assoc, put_end hj (by omega) hq]
    have hlen : n + 1 = (b ++ putN u).length := by rw [← hend, hl]; simp; omega
    exact ⟨A19, k19, by rw [hlen], by rw [hend, hlen]⟩
set_option maxRecDepth 20000 in
theorem cPut (A : Option Addr) (c : Nat) (b : List UInt8) (u : Nat) (hu : u < 18446744073709551616) (hb : b.length ≤ 1000000000000) (w : World) (hr : Reads w A (bcells b)) : Fn Tryd.prog 23 [.slice A b.length c, .int .u64 u] [] (ret fun v H' => ∃ A' c', v = .slice A' (b ++ putN u).length c' ∧ H' = [BY A' (b ++ putN u).length c' (b ++ putN u)]) w := by
  refine fn_enter Tryd.func23 rfl Tryd.ntmps23 rfl ?_
  refine vc_seq ?_
  refine vc_region ?_
  refine vl_val rfl (.some rfl) (val_assign rfl) ?_
  refine vl_nil ?_
  refine vc_seq ?_
  refine vc_region ?_
  refine vl_val rfl (.some rfl) (val_move rfl) ?_
  refine vl_nilSl 5 1 ?_
  refine vl_append sT33 rfl rfl (.some rfl) rfl rfl (rd_old hr rfl) (by simp [bcells_length]) (one_b _) (by omega) (by omega) (by repeat constructor) (fun A6 k6 => ?_)
  rw [Nat.zero_add, List.nil_append]
  refine vl_val rfl (.some rfl) (val_move rfl) ?_
  refine vl_call (C := [BY A6 (b).length k6 (b)]) rfl rfl (.some rfl) Tryd.call42 rfl (by repeat constructor) (fun w hw => cput A6 k6 (b) (u) hu hb w) (fun v H' h => ?_)
  obtain ⟨A2, c2, rfl, rfl⟩ := h
  refine vl_val rfl (.some rfl) (val_assign rfl) ?_
  refine vl_nil ?_
  refine vc_ret ?_
  refine ⟨_, [BY A2 (b ++ putN u).length c2 (b ++ putN u)], _, res1 Tryd.results23 rfl, (by repeat constructor), ?_⟩
  exact ⟨A2, c2, rfl, rfl⟩
set_option maxRecDepth 20000 in
theorem cGet (A : Option Addr) (c : Nat) (b : List UInt8) (hb : b.length ≤ 1000000000000) (w : World) (hr : Reads w A (bcells b)) : FnV Tryd.prog 21 [.slice A b.length c] (.tuple #[.int .u64 (getN b).1, .int .i64 (getN b).2]) w := by
  refine fn_enter Tryd.func21 rfl Tryd.ntmps21 rfl ?_
  refine vc_seq ?_
  refine vc_region ?_
  refine vl_val rfl (.some rfl) (val_assign rfl) ?_
  refine vl_val rfl (.some rfl) (val_assign rfl) ?_
  refine vl_nil ?_
  refine vc_seq ?_
  refine vc_region ?_
  refine vl_val rfl (.some rfl) (val_assign rfl) ?_
  refine vl_nil ?_
  refine vc_seq ?_
  refine vc_seq ?_
  refine vc_region ?_
  refine vl_val rfl (.some rfl) (val_move rfl) ?_
  refine vl_val rfl (.some rfl) (val_lenSl Tryd.runUnderlying33 rfl) ?_
  refine vl_val rfl (.some rfl) (val_move rfl) ?_
  refine vl_nil ?_
  refine vc_block ?_
  refine vc_loopw (fun k E H => ∃ i acc : Nat, i ≤ b.length ∧ i ≤ 9 ∧ k = 10 - i ∧ acc < 2 ^ (7 * i) ∧ getF i acc (b.drop i) = getN b ∧ E = [(7, .slice A b.length c), (8, .int .i64 b.length), (9, .int .i64 i), (4, .int .u64 acc)] ∧ H = []) (10) ⟨_, _, _, ⟨0, 0, by omega, by omega, rfl, by simp, rfl, rfl, rfl⟩, (by repeat (first | exact trivial | refine ⟨rfl, ?_⟩ | refine ⟨le_item rfl (by first | rfl | (congr 1; omega) | (simp; done) | (simp; omega)), ?_⟩)), (by repeat constructor)⟩ ?_
  intro k E H hI
  obtain ⟨i, acc, hib, hi9, rfl, ha, hg, rfl, rfl⟩ := hI
  refine vc_seq ?_
  refine vc_region ?_
  refine vl_val rfl (.some rfl) (val_lt rfl rfl) ?_
  refine vl_nil ?_
  refine vc_seq ?_
  refine vc_cond rfl (fun hc0 => ?_) (fun hc0 => ?_)
  · (try replace hc0 := of_decide_eq_true hc0)
    have hd := drop_cons (l := b) (i := i) 0 (by omega)
    rw [hd, getF_cons] at hg
    have hx := (b.getD i 0).toNat_lt
    refine vc_skip ?_
    refine vc_seq ?_
    refine vc_block ?_
    refine vc_seq ?_
    refine vc_region ?_
    refine vl_val rfl (.some rfl) (val_move rfl) ?_
    refine vl_val rfl (.some rfl) (val_indexAddr Tryd.runUnderlying33 Tryd.sizeOf5 rfl rfl (by first | exact rd_sl (by repeat constructor) | exact rd_slr (by repeat constructor) | exact rd_old (by assumption) rfl) (by omega) (by omega) (by first | omega | (simp only [bcells_length, icells_length, ucells_length, tcells_length]; omega) | (simp only [bcells_length, icells_length, ucells_length, tcells_length, fillG_length]; omega) | (simp; omega))) ?_
    refine vl_val rfl (.some rfl) (val_load Tryd.isAgg5 rfl (by first | exact cell_cells (by repeat constructor) rfl | exact cell_rd (by first | exact rd_sl (by repeat constructor) | exact rd_old (by assumption) rfl) (by first | exact bcells_at (by omega) | exact ucells_at (by omega) | exact icells_at (by omega) | exact tcells_at (by omega) | exact bcells_get (by omega) | exact icells_get (by omega) | exact tcells_get (by omega) | exact ucells_get (by omega)) | exact cell_old (by assumption) (by simp [fps]))) ?_
    refine vl_val rfl (.some rfl) (val_assign rfl) ?_
    refine vl_val rfl (.some rfl) (val_assign rfl) ?_
    refine vl_nil ?_
    refine vc_seq ?_
    refine vc_seq ?_
    refine vc_region ?_
    refine vl_val rfl (.some rfl) (val_move rfl) ?_
    refine vl_val rfl (.some rfl) (val_eq rfl rfl) ?_
    refine vl_val rfl (.some rfl) (val_move rfl) ?_
    refine vl_split (t := 16) rfl (fun hg16 => ?_) (fun hg16 => ?_)
    · (try replace hg16 := of_decide_eq_true hg16)
      refine vl_on rfl rfl rfl rfl ?_
      refine vl_val rfl (.some rfl) (val_move rfl) ?_
      refine vl_on rfl rfl rfl rfl ?_
      refine vl_val rfl (.some rfl) (val_gt rfl rfl) ?_
      refine vl_val rfl (.some rfl) (val_pick rfl rfl) ?_
      refine vl_val rfl (.some rfl) (val_move rfl) ?_
      refine vl_split (t := 20) rfl (fun hg20 => ?_) (fun hg20 => ?_)
      · (try replace hg20 := of_decide_eq_true hg20)
        refine vl_off rfl rfl rfl rfl (.some rfl) ?_
        refine vl_off rfl rfl rfl rfl (.some rfl) ?_
        refine vl_off rfl rfl rfl rfl (.some rfl) ?_
        refine vl_offU rfl rfl rfl rfl (.some rfl) ?_
        refine vl_offU rfl rfl rfl rfl (.some rfl) ?_
        refine vl_off rfl rfl rfl rfl (.some rfl) ?_
        refine vl_val rfl (.some rfl) (val_pick rfl rfl) ?_
        refine vl_nil ?_
        refine vc_cond rfl (fun _ => ?_) (fun h => by cases h)
        refine vc_exit ?_
        refine vc_seq ?_
        refine vc_region ?_
        refine vl_val rfl (.some rfl) (val_assign rfl) ?_
        refine vl_val rfl (.some rfl) (val_assign rfl) ?_
        refine vl_nil ?_
        refine vc_ret ?_
        refine ⟨_, [], _, res2 Tryd.results21 rfl rfl, .nil, ?_⟩
        show _ = _; rw [← hg]; first | (rw [List.drop_of_length_le (by omega)]; rfl) | (rw [if_pos (by omega)]; rfl)
      · (try replace hg20 := of_decide_eq_false hg20)
        refine vl_on rfl rfl rfl rfl ?_
        refine vl_val rfl (.some rfl) (val_move rfl) ?_
        refine vl_on rfl rfl rfl rfl ?_
        refine vl_val rfl (.some rfl) (val_gt rfl rfl) ?_
        refine vl_on rfl rfl rfl rfl ?_
        refine vl_val rfl (.some rfl) (val_move rfl) ?_
        refine vl_split (t := 23) rfl (fun hg23 => ?_) (fun hg23 => ?_)
        · (try replace hg23 := of_decide_eq_true hg23)
          refine vl_on rfl rfl rfl rfl ?_
          refine vl_val rfl (.some rfl) (val_move rfl) ?_
          refine vl_on rfl rfl rfl rfl ?_
          refine vl_val rfl (.some rfl) (val_eq rfl rfl) ?_
          refine vl_on rfl rfl rfl rfl ?_
          refine vl_val rfl (.some rfl) (val_pick rfl rfl) ?_
          refine vl_val rfl (.some rfl) (val_pick rfl rfl) ?_
          refine vl_nil ?_
          refine vc_cond rfl (fun hc1 => ?_) (fun hc1 => ?_)
          · (try replace hc1 := of_decide_eq_true hc1)
            refine vc_exit ?_
            refine vc_seq ?_
            refine vc_region ?_
            refine vl_val rfl (.some rfl) (val_assign rfl) ?_
            refine vl_val rfl (.some rfl) (val_assign rfl) ?_
            refine vl_nil ?_
            refine vc_ret ?_
            refine ⟨_, [], _, res2 Tryd.results21 rfl rfl, .nil, ?_⟩
            show _ = _; rw [← hg]; first | (rw [List.drop_of_length_le (by omega)]; rfl) | (rw [if_pos (by omega)]; rfl)
          · (try replace hc1 := of_decide_eq_false hc1)
            refine vc_skip ?_
            refine vc_seq ?_
            refine vc_region ?_
            have hn := get_next (i := i) (acc := acc) (x := b.getD i 0) (by omega) ha (by omega)
            refine vl_val rfl (.some rfl) (val_move rfl) ?_
            refine vl_val rfl (.some rfl) (val_move rfl) ?_
            refine vl_val rfl (.some rfl) (val_and rfl rfl (and127 _)) ?_
            refine vl_val rfl (.some rfl) (val_convInt Tryd.runUnderlying5 Tryd.runUnderlying49 rfl (by first | exact w_u64 (by omega) (by omega) | rfl)) ?_
            refine vl_val rfl (.some rfl) (val_move rfl) ?_
            refine vl_val rfl (.some rfl) (val_mul rfl rfl (by first | exact w_i64 (by omega) (by omega) | rfl)) ?_
            refine vl_val rfl (.some rfl) (val_shl rfl rfl (by omega) (shl7 (by omega) (by omega))) ?_
            refine vl_val rfl (.some rfl) (val_or rfl rfl (or7 ha (by omega))) ?_
            refine vl_val rfl (.some rfl) (val_assign rfl) ?_
            refine vl_nil ?_
            refine vc_seq ?_
            refine vc_region ?_
            refine vl_val rfl (.some rfl) (val_move rfl) ?_
            refine vl_val rfl (.some rfl) (val_lt rfl rfl) ?_
            refine vl_nil ?_
            refine vc_cond rfl (fun hc2 => ?_) (fun hc2 => ?_)
            · (try replace hc2 := of_decide_eq_true hc2)
              refine vc_seq ?_
              refine vc_region ?_
              refine vl_val rfl (.some rfl) (val_move rfl) ?_
              refine vl_val rfl (.some rfl) (val_move rfl) ?_
              refine vl_val rfl (.some rfl) (val_add rfl rfl (by first | exact w_i64 (by omega) (by omega) | rfl)) ?_
              refine vl_val rfl (.some rfl) (val_assign rfl) ?_
              refine vl_val rfl (.some rfl) (val_assign rfl) ?_
              refine vl_nil ?_
              refine vc_ret ?_
              refine ⟨_, [], _, res2 Tryd.results21 rfl rfl, .nil, ?_⟩
              show _ = _; rw [if_neg (by omega), if_pos (by omega)] at hg; rw [← hg]; rfl
            · (try replace hc2 := of_decide_eq_false hc2)
              refine vc_skip ?_
              refine vc_region ?_
              refine vl_val rfl (.some rfl) (val_add rfl rfl (by first | exact w_i64 (by omega) (by omega) | rfl)) ?_
              refine vl_val rfl (.some rfl) (val_move rfl) ?_
              refine vl_nil ?_
              exact ⟨10 - (i + 1), _, _, _, by omega, (by repeat (first | exact trivial | refine ⟨rfl, ?_⟩ | refine ⟨le_item rfl (by first | rfl | (congr 1; omega) | (simp; done) | (simp; omega)), ?_⟩)), (by repeat constructor), ⟨i + 1, acc + (b.getD i 0).toNat % 128 * 2 ^ (7 * i), by omega, by omega, rfl, hn.2 (by omega), by rw [if_neg (by omega), if_neg (by omega)] at hg; exact hg, rfl, rfl⟩⟩
        · (try replace hg23 := of_decide_eq_false hg23)
          refine vl_off rfl rfl rfl rfl (.some rfl) ?_
          refine vl_off rfl rfl rfl rfl (.some rfl) ?_
          refine vl_on rfl rfl rfl rfl ?_
          refine vl_val rfl (.some rfl) (val_pick rfl rfl) ?_
          refine vl_val rfl (.some rfl) (val_pick rfl rfl) ?_
          refine vl_nil ?_
          refine vc_cond rfl (fun h => by cases h) (fun _ => ?_)
          refine vc_skip ?_
          refine vc_seq ?_
          refine vc_region ?_
          have hn := get_next (i := i) (acc := acc) (x := b.getD i 0) (by omega) ha (by omega)
          refine vl_val rfl (.some rfl) (val_move rfl) ?_
          refine vl_val rfl (.some rfl) (val_move rfl) ?_
          refine vl_val rfl (.some rfl) (val_and rfl rfl (and127 _)) ?_
          refine vl_val rfl (.some rfl) (val_convInt Tryd.runUnderlying5 Tryd.runUnderlying49 rfl (by first | exact w_u64 (by omega) (by omega) | rfl)) ?_
          refine vl_val rfl (.some rfl) (val_move rfl) ?_
          refine vl_val rfl (.some rfl) (val_mul rfl rfl (by first | exact w_i64 (by omega) (by omega) | rfl)) ?_
          refine vl_val rfl (.some rfl) (val_shl rfl rfl (by omega) (shl7 (by omega) (by omega))) ?_
          refine vl_val rfl (.some rfl) (val_or rfl rfl (or7 ha (by omega))) ?_
          refine vl_val rfl (.some rfl) (val_assign rfl) ?_
          refine vl_nil ?_
          refine vc_seq ?_
          refine vc_region ?_
          refine vl_val rfl (.some rfl) (val_move rfl) ?_
          refine vl_val rfl (.some rfl) (val_lt rfl rfl) ?_
          refine vl_nil ?_
          refine vc_cond rfl (fun hc2 => ?_) (fun hc2 => ?_)
          · (try replace hc2 := of_decide_eq_true hc2)
            refine vc_seq ?_
            refine vc_region ?_
            refine vl_val rfl (.some rfl) (val_move rfl) ?_
            refine vl_val rfl (.some rfl) (val_move rfl) ?_
            refine vl_val rfl (.some rfl) (val_add rfl rfl (by first | exact w_i64 (by omega) (by omega) | rfl)) ?_
            refine vl_val rfl (.some rfl) (val_assign rfl) ?_
            refine vl_val rfl (.some rfl) (val_assign rfl) ?_
            refine vl_nil ?_
            refine vc_ret ?_
            refine ⟨_, [], _, res2 Tryd.results21 rfl rfl, .nil, ?_⟩
            show _ = _; rw [if_neg (by omega), if_pos (by omega)] at hg; rw [← hg]; rfl
          · (try replace hc2 := of_decide_eq_false hc2)
            refine vc_skip ?_
            refine vc_region ?_
            refine vl_val rfl (.some rfl) (val_add rfl rfl (by first | exact w_i64 (by omega) (by omega) | rfl)) ?_
            refine vl_val rfl (.some rfl) (val_move rfl) ?_
            refine vl_nil ?_
            exact ⟨10 - (i + 1), _, _, _, by omega, (by repeat (first | exact trivial | refine ⟨rfl, ?_⟩ | refine ⟨le_item rfl (by first | rfl | (congr 1; omega) | (simp; done) | (simp; omega)), ?_⟩)), (by repeat constructor), ⟨i + 1, acc + (b.getD i 0).toNat % 128 * 2 ^ (7 * i), by omega, by omega, rfl, hn.2 (by omega), by rw [if_neg (by omega), if_neg (by omega)] at hg; exact hg, rfl, rfl⟩⟩
    · (try replace hg16 := of_decide_eq_false hg16)
      refine vl_off rfl rfl rfl rfl (.some rfl) ?_
      refine vl_off rfl rfl rfl rfl (.some rfl) ?_
      refine vl_val rfl (.some rfl) (val_pick rfl rfl) ?_
      refine vl_val rfl (.some rfl) (val_move rfl) ?_
      refine vl_on rfl rfl rfl rfl ?_
      refine vl_val rfl (.some rfl) (val_move rfl) ?_
      refine vl_on rfl rfl rfl rfl ?_
      refine vl_val rfl (.some rfl) (val_gt rfl rfl) ?_
      refine vl_on rfl rfl rfl rfl ?_
      refine vl_val rfl (.some rfl) (val_move rfl) ?_
      refine vl_split (t := 23) rfl (fun hg23 => ?_) (fun hg23 => ?_)
      · (try replace hg23 := of_decide_eq_true hg23)
        refine vl_on rfl rfl rfl rfl ?_
        refine vl_val rfl (.some rfl) (val_move rfl) ?_
        refine vl_on rfl rfl rfl rfl ?_
        refine vl_val rfl (.some rfl) (val_eq rfl rfl) ?_
        refine vl_on rfl rfl rfl rfl ?_
        refine vl_val rfl (.some rfl) (val_pick rfl rfl) ?_
        refine vl_val rfl (.some rfl) (val_pick rfl rfl) ?_
        refine vl_nil ?_
        refine vc_cond rfl (fun hc1 => ?_) (fun hc1 => ?_)
        · (try replace hc1 := of_decide_eq_true hc1)
          refine vc_exit ?_
          refine vc_seq ?_
          refine vc_region ?_
          refine vl_val rfl (.some rfl) (val_assign rfl) ?_
          refine vl_val rfl (.some rfl) (val_assign rfl) ?_
          refine vl_nil ?_
          refine vc_ret ?_
          refine ⟨_, [], _, res2 Tryd.results21 rfl rfl, .nil, ?_⟩
          show _ = _; rw [← hg]; first | (rw [List.drop_of_length_le (by omega)]; rfl) | (rw [if_pos (by omega)]; rfl)
        · (try replace hc1 := of_decide_eq_false hc1)
          refine vc_skip ?_
          refine vc_seq ?_
          refine vc_region ?_
          have hn := get_next (i := i) (acc := acc) (x := b.getD i 0) (by omega) ha (by omega)
          refine vl_val rfl (.some rfl) (val_move rfl) ?_
          refine vl_val rfl (.some rfl) (val_move rfl) ?_
          refine vl_val rfl (.some rfl) (val_and rfl rfl (and127 _)) ?_
          refine vl_val rfl (.some rfl) (val_convInt Tryd.runUnderlying5 Tryd.runUnderlying49 rfl (by first | exact w_u64 (by omega) (by omega) | rfl)) ?_
          refine vl_val rfl (.some rfl) (val_move rfl) ?_
          refine vl_val rfl (.some rfl) (val_mul rfl rfl (by first | exact w_i64 (by omega) (by omega) | rfl)) ?_
          refine vl_val rfl (.some rfl) (val_shl rfl rfl (by omega) (shl7 (by omega) (by omega))) ?_
          refine vl_val rfl (.some rfl) (val_or rfl rfl (or7 ha (by omega))) ?_
          refine vl_val rfl (.some rfl) (val_assign rfl) ?_
          refine vl_nil ?_
          refine vc_seq ?_
          refine vc_region ?_
          refine vl_val rfl (.some rfl) (val_move rfl) ?_
          refine vl_val rfl (.some rfl) (val_lt rfl rfl) ?_
          refine vl_nil ?_
          refine vc_cond rfl (fun hc2 => ?_) (fun hc2 => ?_)
          · (try replace hc2 := of_decide_eq_true hc2)
            refine vc_seq ?_
            refine vc_region ?_
            refine vl_val rfl (.some rfl) (val_move rfl) ?_
            refine vl_val rfl (.some rfl) (val_move rfl) ?_
            refine vl_val rfl (.some rfl) (val_add rfl rfl (by first | exact w_i64 (by omega) (by omega) | rfl)) ?_
            refine vl_val rfl (.some rfl) (val_assign rfl) ?_
            refine vl_val rfl (.some rfl) (val_assign rfl) ?_
            refine vl_nil ?_
            refine vc_ret ?_
            refine ⟨_, [], _, res2 Tryd.results21 rfl rfl, .nil, ?_⟩
            show _ = _; rw [if_neg (by omega), if_pos (by omega)] at hg; rw [← hg]; rfl
          · (try replace hc2 := of_decide_eq_false hc2)
            refine vc_skip ?_
            refine vc_region ?_
            refine vl_val rfl (.some rfl) (val_add rfl rfl (by first | exact w_i64 (by omega) (by omega) | rfl)) ?_
            refine vl_val rfl (.some rfl) (val_move rfl) ?_
            refine vl_nil ?_
            exact ⟨10 - (i + 1), _, _, _, by omega, (by repeat (first | exact trivial | refine ⟨rfl, ?_⟩ | refine ⟨le_item rfl (by first | rfl | (congr 1; omega) | (simp; done) | (simp; omega)), ?_⟩)), (by repeat constructor), ⟨i + 1, acc + (b.getD i 0).toNat % 128 * 2 ^ (7 * i), by omega, by omega, rfl, hn.2 (by omega), by rw [if_neg (by omega), if_neg (by omega)] at hg; exact hg, rfl, rfl⟩⟩
      · (try replace hg23 := of_decide_eq_false hg23)
        refine vl_off rfl rfl rfl rfl (.some rfl) ?_
        refine vl_off rfl rfl rfl rfl (.some rfl) ?_
        refine vl_on rfl rfl rfl rfl ?_
        refine vl_val rfl (.some rfl) (val_pick rfl rfl) ?_
        refine vl_val rfl (.some rfl) (val_pick rfl rfl) ?_
        refine vl_nil ?_
        refine vc_cond rfl (fun h => by cases h) (fun _ => ?_)
        refine vc_skip ?_
        refine vc_seq ?_
        refine vc_region ?_
        have hn := get_next (i := i) (acc := acc) (x := b.getD i 0) (by omega) ha (by omega)
        refine vl_val rfl (.some rfl) (val_move rfl) ?_
        refine vl_val rfl (.some rfl) (val_move rfl) ?_
        refine vl_val rfl (.some rfl) (val_and rfl rfl (and127 _)) ?_
        refine vl_val rfl (.some rfl) (val_convInt Tryd.runUnderlying5 Tryd.runUnderlying49 rfl (by first | exact w_u64 (by omega) (by omega) | rfl)) ?_
        refine vl_val rfl (.some rfl) (val_move rfl) ?_
        refine vl_val rfl (.some rfl) (val_mul rfl rfl (by first | exact w_i64 (by omega) (by omega) | rfl)) ?_
        refine vl_val rfl (.some rfl) (val_shl rfl rfl (by omega) (shl7 (by omega) (by omega))) ?_
        refine vl_val rfl (.some rfl) (val_or rfl rfl (or7 ha (by omega))) ?_
        refine vl_val rfl (.some rfl) (val_assign rfl) ?_
        refine vl_nil ?_
        refine vc_seq ?_
        refine vc_region ?_
        refine vl_val rfl (.some rfl) (val_move rfl) ?_
        refine vl_val rfl (.some rfl) (val_lt rfl rfl) ?_
        refine vl_nil ?_
        refine vc_cond rfl (fun hc2 => ?_) (fun hc2 => ?_)
        · (try replace hc2 := of_decide_eq_true hc2)
          refine vc_seq ?_
          refine vc_region ?_
          refine vl_val rfl (.some rfl) (val_move rfl) ?_
          refine vl_val rfl (.some rfl) (val_move rfl) ?_
          refine vl_val rfl (.some rfl) (val_add rfl rfl (by first | exact w_i64 (by omega) (by omega) | rfl)) ?_
          refine vl_val rfl (.some rfl) (val_assign rfl) ?_
          refine vl_val rfl (.some rfl) (val_assign rfl) ?_
          refine vl_nil ?_
          refine vc_ret ?_
          refine ⟨_, [], _, res2 Tryd.results21 rfl rfl, .nil, ?_⟩
          show _ = _; rw [if_neg (by omega), if_pos (by omega)] at hg; rw [← hg]; rfl
        · (try replace hc2 := of_decide_eq_false hc2)
          refine vc_skip ?_
          refine vc_region ?_
          refine vl_val rfl (.some rfl) (val_add rfl rfl (by first | exact w_i64 (by omega) (by omega) | rfl)) ?_
          refine vl_val rfl (.some rfl) (val_move rfl) ?_
          refine vl_nil ?_
          exact ⟨10 - (i + 1), _, _, _, by omega, (by repeat (first | exact trivial | refine ⟨rfl, ?_⟩ | refine ⟨le_item rfl (by first | rfl | (congr 1; omega) | (simp; done) | (simp; omega)), ?_⟩)), (by repeat constructor), ⟨i + 1, acc + (b.getD i 0).toNat % 128 * 2 ^ (7 * i), by omega, by omega, rfl, hn.2 (by omega), by rw [if_neg (by omega), if_neg (by omega)] at hg; exact hg, rfl, rfl⟩⟩
  · (try replace hc0 := of_decide_eq_false hc0)
    refine vc_exit ?_
    refine vc_seq ?_
    refine vc_region ?_
    refine vl_val rfl (.some rfl) (val_assign rfl) ?_
    refine vl_val rfl (.some rfl) (val_assign rfl) ?_
    refine vl_nil ?_
    refine vc_ret ?_
    refine ⟨_, [], _, res2 Tryd.results21 rfl rfl, .nil, ?_⟩
    show _ = _; rw [← hg]; first | (rw [List.drop_of_length_le (by omega)]; rfl) | (rw [if_pos (by omega)]; rfl)
set_option maxRecDepth 20000 in
theorem cZig (n : Int) (h1 : -9223372036854775808 ≤ n) (h2 : n < 9223372036854775808) (w : World) : FnV Tryd.prog 24 [.int .i64 n] (.int .u64 (zigS n)) w := by
  refine fn_enter Tryd.func24 rfl Tryd.ntmps24 rfl ?_
  refine vc_seq ?_
  refine vc_region ?_
  refine vl_val rfl (.some rfl) (val_assign rfl) ?_
  refine vl_nil ?_
  refine vc_seq ?_
  refine vc_region ?_
  refine vl_val rfl (.some rfl) (val_move rfl) ?_
  refine vl_val rfl (.some rfl) (val_convInt Tryd.runUnderlying3 Tryd.runUnderlying49 rfl rfl) ?_
  refine vl_val rfl (.some rfl) (val_shl rfl rfl (by decide) (shl_lit 2 rfl rfl)) ?_
  refine vl_val rfl (.some rfl) (val_move rfl) ?_
  refine vl_val rfl (.some rfl) (val_shr rfl rfl (by decide) (shr_lit 9223372036854775808 rfl (by decide))) ?_
  refine vl_val rfl (.some rfl) (val_convInt Tryd.runUnderlying3 Tryd.runUnderlying49 rfl rfl) ?_
  refine vl_val rfl (.some rfl) (val_xor rfl rfl (zig_all h1 h2)) ?_
  refine vl_val rfl (.some rfl) (val_assign rfl) ?_
  refine vl_nil ?_
  refine vc_ret ?_
  refine ⟨_, [], _, res1 Tryd.results24 rfl, .nil, ?_⟩
  rfl
set_option maxRecDepth 20000 in
theorem cZag (u : Nat) (hu : u < 18446744073709551616) (w : World) : FnV Tryd.prog 22 [.int .u64 u] (.int .i64 (zagS u)) w := by
  refine fn_enter Tryd.func22 rfl Tryd.ntmps22 rfl ?_
  refine vc_seq ?_
  refine vc_region ?_
  refine vl_val rfl (.some rfl) (val_assign rfl) ?_
  refine vl_nil ?_
  refine vc_seq ?_
  refine vc_region ?_
  refine vl_val rfl (.some rfl) (val_move rfl) ?_
  refine vl_val rfl (.some rfl) (val_shr rfl rfl (by decide) (shr_lit 2 rfl (by decide))) ?_
  refine vl_val rfl (.some rfl) (val_convInt Tryd.runUnderlying49 Tryd.runUnderlying3 rfl (by first | exact w_i64 (by omega) (by omega) | rfl)) ?_
  refine vl_val rfl (.some rfl) (val_move rfl) ?_
  refine vl_val rfl (.some rfl) (val_and rfl rfl (and1_u64 hu)) ?_
  refine vl_val rfl (.some rfl) (val_convInt Tryd.runUnderlying49 Tryd.runUnderlying3 rfl (by first | exact w_i64 (by omega) (by omega) | rfl)) ?_
  refine vl_val rfl (.some rfl) (val_neg rfl (by first | exact w_i64 (by omega) (by omega) | rfl)) ?_
  refine vl_val rfl (.some rfl) (val_xor rfl rfl (zag_all hu)) ?_
  refine vl_val rfl (.some rfl) (val_assign rfl) ?_
  refine vl_nil ?_
  refine vc_ret ?_
  refine ⟨_, [], _, res1 Tryd.results22 rfl, .nil, ?_⟩
  rfl



def flat (vs : List Vk) : List Value := vs.flatMap fun p => [.int .i64 p.k, .int .i64 p.n, .string p.s]
theorem vflat_len (vs : List Vk) : (flat vs).length = vs.length * 3 := by
  induction vs with
  | nil => rfl
  | cons p vs ih => simp only [flat, List.flatMap_cons, List.length_append, List.length_cons, List.length_nil] at ih ⊢; omega
theorem flat_at : ∀ (vs : List Vk) (i : Nat), i < vs.length → ((flat vs).drop (i * 3)).take 3 = [.int .i64 (vs.getD i z3).k, .int .i64 (vs.getD i z3).n, .string (vs.getD i z3).s]
  | [], _, h => absurd h (Nat.not_lt_zero _)
  | p :: vs, 0, _ => rfl
  | p :: vs, i + 1, h => by
    have e : flat (p :: vs) = [.int .i64 p.k, .int .i64 p.n, .string p.s] ++ flat vs := rfl
    rw [e, Nat.add_mul, Nat.add_comm, Nat.one_mul, ← List.drop_drop]
    exact flat_at vs i (by simpa using h)
abbrev DS (A : Option Addr) (c : Nat) (vs : List Vk) : Chunk := sl A vs.length c 25 3 (flat vs)
/-- Values in bytes. -/
def putV (p : Vk) : List UInt8 := putN p.k.toNat ++ (if p.k = 0 then [] else if p.k = 3 then putN p.s.size ++ p.s.data.toList else putN (zigS p.n))
def clean (p : Vk) : Vk := if goodV p = true then p else z3
def encV (l : List Vk) : List UInt8 := putN l.length ++ l.flatMap fun p => putV (clean p)
def outV (l : List Vk) (i : Nat) : List UInt8 := putN l.length ++ (l.take i).flatMap fun p => putV (clean p)
theorem good_kinds {p : Vk} (h : goodV p = true) : (p.k = 0 ∧ p = z3) ∨ ((p.k = 1 ∨ p.k = 2 ∨ p.k = 4) ∧ p.s = ⟨#[]⟩) ∨ (p.k = 3 ∧ p.n = 0 ∧ p.s.size ≤ 64) := by
  unfold goodV at h
  split at h
  · rename_i h0; exact .inl ⟨h0, of_decide_eq_true h⟩
  · split at h
    · rename_i h0; exact .inr (.inl ⟨.inl h0, of_decide_eq_true h⟩)
    · split at h
      · rename_i h0
        simp only [Bool.and_eq_true, decide_eq_true_eq] at h
        exact .inr (.inl ⟨.inr (.inl h0), h.1⟩)
      · split at h
        · rename_i h0
          simp only [Bool.and_eq_true, decide_eq_true_eq] at h
          exact .inr (.inr ⟨h0, h.1, h.2⟩)
        · split at h
          · rename_i h0
            simp only [Bool.and_eq_true, decide_eq_true_eq] at h
            exact .inr (.inl ⟨.inr (.inr h0), h.1⟩)
          · cases h
theorem good_rng {p : Vk} (h : goodV p = true) : 0 ≤ p.k ∧ p.k ≤ 4 ∧ (p.k = 3 → p.s.size ≤ 64) := by
  rcases good_kinds h with ⟨h0, _⟩ | ⟨h0, _⟩ | ⟨h0, _, h2⟩ <;> refine ⟨by omega, by omega, fun h => ?_⟩
  · omega
  · omega
  · exact h2
theorem size_data (s : ByteArray) : s.data.toList.length = s.size := by rw [Array.length_toList]; rfl
theorem putV_len {p : Vk} (h : goodV p = true) : (putV p).length ≤ 100 := by
  have hg := good_rng h
  have h1 := putN_len p.k.toNat
  have h2 := putN_len p.s.size
  have h3 := putN_len (zigS p.n)
  unfold putV
  rw [List.length_append]
  split
  · simp; omega
  · split
    · rename_i h4
      have := hg.2.2 h4
      rw [List.length_append, size_data]; omega
    · omega
theorem clean_good (p : Vk) : goodV (clean p) = true := by
  unfold clean
  split
  · assumption
  · decide
theorem outV_step {l : List Vk} {i : Nat} {p : Vk} (h : i < l.length) (hp : clean (l.getD i z3) = p) : outV l (i + 1) = outV l i ++ putV p := by
  unfold outV
  rw [take_push z3 h, List.flatMap_append, ← List.append_assoc, ← hp]; simp
theorem outV_len (l : List Vk) : ∀ i, i ≤ l.length → (outV l i).length ≤ 10 + 100 * i := by
  intro i
  induction i with
  | zero => intro _; have := putN_len l.length; unfold outV; simpa using this
  | succ i ih =>
    intro hi
    have h1 := ih (by omega)
    have h2 := putV_len (clean_good (l.getD i z3))
    rw [outV_step (by omega) rfl, List.length_append]; omega
theorem outV_all (l : List Vk) : outV l l.length = encV l := by unfold outV encV; rw [List.take_length]
theorem strc (l : List UInt8) (s : ByteArray) : bcells l ++ Lib.strCells s = bcells (l ++ s.data.toList) := by simp [bcells, Lib.strCells]

set_option maxRecDepth 20000 in
set_option maxHeartbeats 1000000 in
theorem vBytes (A : Option Addr) (c : Nat) (l : List Vk) (hl : l.length ≤ 1000000) (hwv : ∀ p ∈ l, WV p) (w : World) (hr : Reads w A (flat l)) : Fn Tryd.prog 9 [.slice A l.length c] [] (ret fun v H' => ∃ A' c', v = .slice A' (encV l).length c' ∧ H' = [BY A' (encV l).length c' (encV l)]) w := by
  refine fn_enter Tryd.func9 rfl Tryd.ntmps9 rfl ?_
  refine vc_seq ?_
  refine vc_region ?_
  refine vl_val rfl (.some rfl) (val_assign rfl) ?_
  refine vl_nil ?_
  refine vc_seq ?_
  refine vc_region ?_
  refine vl_val rfl (.some rfl) (val_move rfl) ?_
  refine vl_val rfl (.some rfl) (val_lenSl Tryd.runUnderlying22 rfl) ?_
  refine vl_val rfl (.some rfl) (val_convInt Tryd.runUnderlying3 Tryd.runUnderlying49 rfl (by first | exact w_u64 (by omega) (by omega) | rfl)) ?_
  refine vl_call (C := []) rfl rfl (.some rfl) Tryd.call23 rfl .nil (fun w hw => cPut none 0 [] l.length (by omega) (by decide) w (rdw (by first | exact rd_sl (by repeat constructor) | exact rd_slr (by repeat constructor) | exact rd_old (by assumption) rfl | exact rd_slq (by repeat constructor) | exact rd_nil) hw)) (fun v H' h => ?_)
  obtain ⟨A12, c12, rfl, rfl⟩ := h
  rw [List.nil_append]
  show VL _ _ _ _ _ (_ :: _)
  refine vl_val rfl (.some rfl) (val_assign rfl) ?_
  refine vl_nil ?_
  refine vc_seq ?_
  refine vc_seq ?_
  refine vc_region ?_
  refine vl_val rfl (.some rfl) (val_move rfl) ?_
  refine vl_val rfl (.some rfl) (val_lenSl Tryd.runUnderlying22 rfl) ?_
  refine vl_val rfl (.some rfl) (val_move rfl) ?_
  refine vl_nil ?_
  refine vc_block ?_
  rw [show putN l.length = outV l 0 by unfold outV; simp]
  refine vc_loopw (fun k E H => ∃ (i : Nat) (A3 : Option Addr) (c3 : Nat), i ≤ l.length ∧ k = l.length - i ∧ E = [(3, .slice A3 (outV l i).length c3), (13, .slice A l.length c), (14, .int .i64 l.length), (15, .int .i64 i)] ∧ H = [BY A3 (outV l i).length c3 (outV l i)]) (l.length) ⟨_, _, _, ⟨0, A12, c12, by omega, rfl, rfl, rfl⟩, (by repeat (first | exact trivial | refine ⟨rfl, ?_⟩ | refine ⟨le_item rfl (by first | rfl | (congr 1; omega) | (simp; done) | (simp; omega)), ?_⟩)), (by repeat constructor)⟩ ?_
  intro k E H hI
  obtain ⟨i, A3, c3, hil, rfl, rfl, rfl⟩ := hI
  refine vc_seq ?_
  refine vc_region ?_
  refine vl_val rfl (.some rfl) (val_lt rfl rfl) ?_
  refine vl_nil ?_
  refine vc_seq ?_
  refine vc_cond rfl (fun hc0 => ?_) (fun hc0 => ?_)
  · (try replace hc0 := of_decide_eq_true hc0)
    have hi8 : i < l.length := by omega
    have hat := flat_at l i hi8
    have hwi := hwv _ (getD_mem z3 hi8)
    have hol := outV_len l i (by omega)
    refine vc_skip ?_
    refine vc_seq ?_
    refine vc_block ?_
    refine vc_seq ?_
    refine vc_region ?_
    refine vl_val rfl (.some rfl) (val_indexAddr Tryd.runUnderlying22 Tryd.sizeOf25 rfl rfl (rd_old hr rfl) (by omega) (by omega) (by rw [vflat_len]; omega)) ?_
    refine vl_val rfl (.some rfl) (val_loadAgg Tryd.isAgg25 Tryd.sizeOf25 rfl (cells_rd (us := [.int .i64 (l.getD i z3).k, .int .i64 (l.getD i z3).n, .string (l.getD i z3).s]) (rd_old hr rfl) (by rw [Int.toNat_natCast]; exact hat)) rfl) ?_
    refine vl_alloc rfl rfl (.some rfl) Tryd.zeroValue25 (fun r5 => ?_)
    first | refine vl_store rfl rfl .none rfl rfl Tryd.sizeOf25 rfl (by repeat constructor) (by first | decide | exact Nat.le_refl _ | exact Nat.le_of_ble_eq_true rfl | (simp; omega)) ?_ | refine vl_storeSl rfl rfl .none rfl rfl Tryd.sizeOf25 rfl (by simp [Value.cells]) (by repeat constructor) (by first | decide | (simp [Value.cells]; omega)) ?_
    refine vl_nil ?_
    refine vc_seq ?_
    refine vc_seq ?_
    refine vc_region ?_
    refine vl_val rfl (.some rfl) (val_loadAgg Tryd.isAgg25 Tryd.sizeOf25 rfl (by first | exact cells_whole (by repeat constructor) | exact cells_part (by repeat constructor) rfl) rfl) ?_
    refine vl_callV rfl rfl (.some rfl) Tryd.call5 rfl (fun w hw => vGood (l.getD i z3) w) ?_
    refine vl_val rfl (.some rfl) (val_not rfl) ?_
    refine vl_nil ?_
    refine vc_cond rfl (fun hc1 => ?_) (fun hc1 => ?_)
    · (try replace hc1 := of_decide_eq_true hc1)
      let p : Vk := z3
      have hpc : clean (l.getD i z3) = p := by unfold clean; rw [if_neg (by simpa using hc1)]
      have hpn : -9223372036854775808 ≤ p.n ∧ p.n < 9223372036854775808 := by decide
      have hpk0 : p.k = 0 := rfl
      have hgp : goodV p = true := by rw [← hpc]; exact clean_good _
      have hrg := good_rng hgp
      have hst := outV_step hi8 hpc
      refine vc_region ?_
      refine vl_val rfl (.some rfl) (val_buildSt (pl := #[(0, 1), (1, 1), (2, 1)]) (cs := #[.int .i64 0, .int .i64 0, .string ⟨#[]⟩]) Tryd.runUnderlying25 Tryd.zeroValue25 (fun w => by kernel_rfl) rfl rfl) ?_
      first | refine vl_store rfl rfl .none rfl rfl Tryd.sizeOf25 rfl (by repeat constructor) (by first | decide | exact Nat.le_refl _ | exact Nat.le_of_ble_eq_true rfl | (simp; omega)) ?_ | refine vl_storeSl rfl rfl .none rfl rfl Tryd.sizeOf25 rfl (by simp [Value.cells]) (by repeat constructor) (by first | decide | (simp [Value.cells]; omega)) ?_
      refine vl_nil ?_
      refine vc_seq ?_
      refine vc_region ?_
      refine vl_val rfl (.some rfl) (val_move rfl) ?_
      refine vl_val rfl (.some rfl) (by first | exact val_fieldAddr Tryd.runUnderlying25 rfl Tryd.sizeOf3 rfl | exact val_fieldAddrR Tryd.runUnderlying25 rfl Tryd.sizeOf3 rfl) ?_
      refine vl_val rfl (.some rfl) (val_load Tryd.isAgg3 rfl (by first | exact cell_cells (by repeat constructor) rfl | exact cell_rd (by first | exact rd_sl (by repeat constructor) | exact rd_old (by assumption) rfl) (by first | exact bcells_at (by omega) | exact ucells_at (by omega) | exact icells_at (by omega) | exact tcells_at (by omega) | exact bcells_get (by omega) | exact icells_get (by omega) | exact tcells_get (by omega) | exact ucells_get (by omega)) | exact cell_old (by assumption) (by simp [fps]))) ?_
      refine vl_val rfl (.some rfl) (val_convInt Tryd.runUnderlying3 Tryd.runUnderlying49 rfl (show _ = ((p.k.toNat : Nat) : Int) by rw [w_u64 (by omega) (by omega)]; omega)) ?_
      have hkl := putN_len p.k.toNat
      have hsl := putN_len p.s.size
      have hzl := putN_len (zigS p.n)
      have hol2 : (outV l i ++ putN p.k.toNat).length ≤ 20 + 100 * i := by rw [List.length_append]; omega
      refine vl_call (C := []) rfl rfl (.some rfl) Tryd.call23 rfl .nil (fun w hw => cPut A3 c3 (outV l i) (p.k.toNat) (by omega) (by omega) w (rdw (rd_sl (by repeat constructor)) hw)) (fun v H' h => ?_)
      obtain ⟨A27, c27, rfl, rfl⟩ := h
      show VL _ _ _ _ _ (_ :: _)
      refine vl_val rfl (.some rfl) (val_assign rfl) ?_
      refine vl_nil ?_
      refine vc_seq ?_
      refine vc_region ?_
      refine vl_val rfl (.some rfl) (val_loadAgg Tryd.isAgg25 Tryd.sizeOf25 rfl (by first | exact cells_whole (by repeat constructor) | exact cells_part (by repeat constructor) rfl) rfl) ?_
      refine vl_callV rfl rfl (.some rfl) Tryd.call14 rfl (fun w hw => vOf p w) ?_
      refine vl_nil ?_
      refine vc_block ?_
      refine vc_seq ?_
      refine vc_region ?_
      refine vl_val rfl (.some rfl) (asks 43 0 (.agg #[]) (.agg #[]) Tryd.runUnderlying43 rfl Tryd.zeroValue43 rfl (fun h => by unfold ofV; rw [h]; simp) (other _ _ (fun k hk => ⟨fun h => by first | decide | omega, fun h => by first | decide | omega, fun h => by first | decide | omega, fun h => by first | decide | omega, fun h => by first | decide | omega⟩))) ?_
      refine vl_val rfl (.some rfl) (val_extract rfl rfl) ?_
      refine vl_val rfl (.some rfl) (val_extract rfl rfl) ?_
      refine vl_nil ?_
      refine vc_cond rfl (fun hc2 => ?_) (fun hc2 => ?_)
      · (try replace hc2 := of_decide_eq_true hc2)
        rw [if_pos hc2, show outV l i ++ putN p.k.toNat = outV l (i + 1) by rw [hst]; unfold putV; rw [if_pos hc2, List.append_nil]]
        refine vc_region ?_
        refine vl_alloc rfl rfl (.some rfl) Tryd.zeroValue43 (fun r6 => ?_)
        first | refine vl_store rfl rfl .none rfl rfl Tryd.sizeOf43 rfl (by repeat constructor) (by first | decide | exact Nat.le_refl _ | exact Nat.le_of_ble_eq_true rfl | (simp; omega)) ?_ | refine vl_storeSl rfl rfl .none rfl rfl Tryd.sizeOf43 rfl (by simp [Value.cells]) (by repeat constructor) (by first | decide | (simp [Value.cells]; omega)) ?_
        refine vl_nil ?_
        refine vc_region ?_
        refine vl_val rfl (.some rfl) (val_add rfl rfl (by first | exact w_i64 (by omega) (by omega) | rfl)) ?_
        refine vl_val rfl (.some rfl) (val_move rfl) ?_
        refine vl_nil ?_
        first
          | exact ⟨l.length - (i + 1), _, _, _, by omega, (by repeat (first | exact trivial | refine ⟨rfl, ?_⟩ | refine ⟨le_item rfl (by first | rfl | (congr 1; omega) | (simp; done) | (simp; omega)), ?_⟩)), (by repeat constructor), ⟨i + 1, A27, c27, by omega, rfl, rfl, rfl⟩⟩
          | exact ⟨l.length - (i + 1), _, _, _, by omega, (by repeat (first | exact trivial | refine ⟨rfl, ?_⟩ | refine ⟨le_item rfl (by first | rfl | (congr 1; omega) | (simp; done) | (simp; omega)), ?_⟩)), (by repeat constructor), ⟨i + 1, A47, k47, by omega, rfl, rfl, rfl⟩⟩
          | exact ⟨l.length - (i + 1), _, _, _, by omega, (by repeat (first | exact trivial | refine ⟨rfl, ?_⟩ | refine ⟨le_item rfl (by first | rfl | (congr 1; omega) | (simp; done) | (simp; omega)), ?_⟩)), (by repeat constructor), ⟨i + 1, A34, c34, by omega, rfl, rfl, rfl⟩⟩
      · (try replace hc2 := of_decide_eq_false hc2)
        refine vc_seq ?_
        refine vc_region ?_
        refine vl_val rfl (.some rfl) (asks 47 3 (.string ⟨#[]⟩) (.string p.s) Tryd.runUnderlying47 rfl Tryd.zeroValue47 rfl (fun h => by unfold ofV; rw [h]; simp) (other _ _ (fun k hk => ⟨fun h => by first | decide | omega, fun h => by first | decide | omega, fun h => by first | decide | omega, fun h => by first | decide | omega, fun h => by first | decide | omega⟩))) ?_
        refine vl_val rfl (.some rfl) (val_extract rfl rfl) ?_
        refine vl_val rfl (.some rfl) (val_extract rfl rfl) ?_
        refine vl_nil ?_
        refine vc_cond rfl (fun hc3 => ?_) (fun hc3 => ?_)
        · (try replace hc3 := of_decide_eq_true hc3)
          rw [if_pos hc3]
          refine vc_seq ?_
          refine vc_region ?_
          refine vl_val rfl (.some rfl) (val_assign rfl) ?_
          refine vl_nil ?_
          refine vc_region ?_
          refine vl_val rfl (.some rfl) (val_move rfl) ?_
          refine vl_val rfl (.some rfl) (val_move rfl) ?_
          refine vl_val rfl (.some rfl) (val_lenStr Tryd.runUnderlying47 rfl) ?_
          refine vl_val rfl (.some rfl) (val_convInt Tryd.runUnderlying3 Tryd.runUnderlying49 rfl (by first | exact w_u64 (by omega) (by omega) | rfl)) ?_
          refine vl_call (C := []) rfl rfl (.some rfl) Tryd.call23 rfl .nil (fun w hw => cPut A27 c27 (outV l i ++ putN p.k.toNat) (p.s.size) (by have := hrg.2.2 hc3; omega) (by omega) w (rdw (rd_sl (by repeat constructor)) hw)) (fun v H' h => ?_)
          obtain ⟨A45, c45, rfl, rfl⟩ := h
          show VL _ _ _ _ _ (_ :: _)
          refine vl_val rfl (.some rfl) (val_move rfl) ?_
          refine vl_appendStr sT33 Tryd.underlying47 rfl rfl (.some rfl) rfl rfl (by rw [List.length_append]; have := hrg.2.2 hc3; omega) (by repeat constructor) (fun A47 k47 => ?_)
          rw [strc, show (outV l i ++ putN p.k.toNat ++ putN p.s.size).length + p.s.size = (outV l i ++ putN p.k.toNat ++ putN p.s.size ++ p.s.data.toList).length by rw [List.length_append (bs := p.s.data.toList), size_data], show outV l i ++ putN p.k.toNat ++ putN p.s.size ++ p.s.data.toList = outV l (i + 1) by rw [hst]; unfold putV; rw [if_neg hc2, if_pos hc3]; simp]
          refine vl_val rfl (.some rfl) (val_assign rfl) ?_
          refine vl_nil ?_
          refine vc_region ?_
          refine vl_val rfl (.some rfl) (val_add rfl rfl (by first | exact w_i64 (by omega) (by omega) | rfl)) ?_
          refine vl_val rfl (.some rfl) (val_move rfl) ?_
          refine vl_nil ?_
          first
            | exact ⟨l.length - (i + 1), _, _, _, by omega, (by repeat (first | exact trivial | refine ⟨rfl, ?_⟩ | refine ⟨le_item rfl (by first | rfl | (congr 1; omega) | (simp; done) | (simp; omega)), ?_⟩)), (by repeat constructor), ⟨i + 1, A27, c27, by omega, rfl, rfl, rfl⟩⟩
            | exact ⟨l.length - (i + 1), _, _, _, by omega, (by repeat (first | exact trivial | refine ⟨rfl, ?_⟩ | refine ⟨le_item rfl (by first | rfl | (congr 1; omega) | (simp; done) | (simp; omega)), ?_⟩)), (by repeat constructor), ⟨i + 1, A47, k47, by omega, rfl, rfl, rfl⟩⟩
            | exact ⟨l.length - (i + 1), _, _, _, by omega, (by repeat (first | exact trivial | refine ⟨rfl, ?_⟩ | refine ⟨le_item rfl (by first | rfl | (congr 1; omega) | (simp; done) | (simp; omega)), ?_⟩)), (by repeat constructor), ⟨i + 1, A34, c34, by omega, rfl, rfl, rfl⟩⟩
        · (try replace hc3 := of_decide_eq_false hc3)
          refine vc_seq ?_
          refine vc_region ?_
          refine vl_val rfl (.some rfl) (val_assign rfl) ?_
          refine vl_nil ?_
          refine vc_region ?_
          refine vl_val rfl (.some rfl) (val_move rfl) ?_
          refine vl_val rfl (.some rfl) (by first | exact val_fieldAddr Tryd.runUnderlying25 rfl Tryd.sizeOf3 rfl | exact val_fieldAddrR Tryd.runUnderlying25 rfl Tryd.sizeOf3 rfl) ?_
          refine vl_val rfl (.some rfl) (val_load Tryd.isAgg3 rfl (by first | exact cell_cells (by repeat constructor) rfl | exact cell_rd (by first | exact rd_sl (by repeat constructor) | exact rd_old (by assumption) rfl) (by first | exact bcells_at (by omega) | exact ucells_at (by omega) | exact icells_at (by omega) | exact tcells_at (by omega) | exact bcells_get (by omega) | exact icells_get (by omega) | exact tcells_get (by omega) | exact ucells_get (by omega)) | exact cell_old (by assumption) (by simp [fps]))) ?_
          refine vl_callV rfl rfl (.some rfl) Tryd.call24 rfl (fun w hw => cZig _ (by omega) (by omega) w) ?_
          refine vl_call (C := []) rfl rfl (.some rfl) Tryd.call23 rfl .nil (fun w hw => cPut A27 c27 (outV l i ++ putN p.k.toNat) (zigS p.n) (zigS_lt hpn.1 hpn.2) (by omega) w (rdw (rd_sl (by repeat constructor)) hw)) (fun v H' h => ?_)
          obtain ⟨A34, c34, rfl, rfl⟩ := h
          show VL _ _ _ _ _ (_ :: _)
          rw [show outV l i ++ putN p.k.toNat ++ putN (zigS p.n) = outV l (i + 1) by rw [hst]; unfold putV; rw [if_neg hc2, if_neg hc3, List.append_assoc]]
          refine vl_val rfl (.some rfl) (val_assign rfl) ?_
          refine vl_nil ?_
          refine vc_region ?_
          refine vl_val rfl (.some rfl) (val_add rfl rfl (by first | exact w_i64 (by omega) (by omega) | rfl)) ?_
          refine vl_val rfl (.some rfl) (val_move rfl) ?_
          refine vl_nil ?_
          first
            | exact ⟨l.length - (i + 1), _, _, _, by omega, (by repeat (first | exact trivial | refine ⟨rfl, ?_⟩ | refine ⟨le_item rfl (by first | rfl | (congr 1; omega) | (simp; done) | (simp; omega)), ?_⟩)), (by repeat constructor), ⟨i + 1, A27, c27, by omega, rfl, rfl, rfl⟩⟩
            | exact ⟨l.length - (i + 1), _, _, _, by omega, (by repeat (first | exact trivial | refine ⟨rfl, ?_⟩ | refine ⟨le_item rfl (by first | rfl | (congr 1; omega) | (simp; done) | (simp; omega)), ?_⟩)), (by repeat constructor), ⟨i + 1, A47, k47, by omega, rfl, rfl, rfl⟩⟩
            | exact ⟨l.length - (i + 1), _, _, _, by omega, (by repeat (first | exact trivial | refine ⟨rfl, ?_⟩ | refine ⟨le_item rfl (by first | rfl | (congr 1; omega) | (simp; done) | (simp; omega)), ?_⟩)), (by repeat constructor), ⟨i + 1, A34, c34, by omega, rfl, rfl, rfl⟩⟩
    · (try replace hc1 := of_decide_eq_false hc1)
      obtain ⟨p, hpe⟩ : ∃ p, l.getD i z3 = p := ⟨_, rfl⟩
      have hpc : clean (l.getD i z3) = p := by unfold clean; rw [if_pos (by simpa using hc1), hpe]
      have hpn : -9223372036854775808 ≤ p.n ∧ p.n < 9223372036854775808 := by rw [← hpe]; exact hwi
      rw [hpe]
      have hgp : goodV p = true := by rw [← hpc]; exact clean_good _
      have hrg := good_rng hgp
      have hst := outV_step hi8 hpc
      refine vc_skip ?_
      refine vc_seq ?_
      refine vc_region ?_
      refine vl_val rfl (.some rfl) (val_move rfl) ?_
      refine vl_val rfl (.some rfl) (by first | exact val_fieldAddr Tryd.runUnderlying25 rfl Tryd.sizeOf3 rfl | exact val_fieldAddrR Tryd.runUnderlying25 rfl Tryd.sizeOf3 rfl) ?_
      refine vl_val rfl (.some rfl) (val_load Tryd.isAgg3 rfl (by first | exact cell_cells (by repeat constructor) rfl | exact cell_rd (by first | exact rd_sl (by repeat constructor) | exact rd_old (by assumption) rfl) (by first | exact bcells_at (by omega) | exact ucells_at (by omega) | exact icells_at (by omega) | exact tcells_at (by omega) | exact bcells_get (by omega) | exact icells_get (by omega) | exact tcells_get (by omega) | exact ucells_get (by omega)) | exact cell_old (by assumption) (by simp [fps]))) ?_
      refine vl_val rfl (.some rfl) (val_convInt Tryd.runUnderlying3 Tryd.runUnderlying49 rfl (show _ = ((p.k.toNat : Nat) : Int) by rw [w_u64 (by omega) (by omega)]; omega)) ?_
      have hkl := putN_len p.k.toNat
      have hsl := putN_len p.s.size
      have hzl := putN_len (zigS p.n)
      have hol2 : (outV l i ++ putN p.k.toNat).length ≤ 20 + 100 * i := by rw [List.length_append]; omega
      refine vl_call (C := []) rfl rfl (.some rfl) Tryd.call23 rfl .nil (fun w hw => cPut A3 c3 (outV l i) (p.k.toNat) (by omega) (by omega) w (rdw (rd_sl (by repeat constructor)) hw)) (fun v H' h => ?_)
      obtain ⟨A27, c27, rfl, rfl⟩ := h
      show VL _ _ _ _ _ (_ :: _)
      refine vl_val rfl (.some rfl) (val_assign rfl) ?_
      refine vl_nil ?_
      refine vc_seq ?_
      refine vc_region ?_
      refine vl_val rfl (.some rfl) (val_loadAgg Tryd.isAgg25 Tryd.sizeOf25 rfl (by first | exact cells_whole (by repeat constructor) | exact cells_part (by repeat constructor) rfl) rfl) ?_
      refine vl_callV rfl rfl (.some rfl) Tryd.call14 rfl (fun w hw => vOf p w) ?_
      refine vl_nil ?_
      refine vc_block ?_
      refine vc_seq ?_
      refine vc_region ?_
      refine vl_val rfl (.some rfl) (asks 43 0 (.agg #[]) (.agg #[]) Tryd.runUnderlying43 rfl Tryd.zeroValue43 rfl (fun h => by unfold ofV; rw [h]; simp) (other _ _ (fun k hk => ⟨fun h => by first | decide | omega, fun h => by first | decide | omega, fun h => by first | decide | omega, fun h => by first | decide | omega, fun h => by first | decide | omega⟩))) ?_
      refine vl_val rfl (.some rfl) (val_extract rfl rfl) ?_
      refine vl_val rfl (.some rfl) (val_extract rfl rfl) ?_
      refine vl_nil ?_
      refine vc_cond rfl (fun hc2 => ?_) (fun hc2 => ?_)
      · (try replace hc2 := of_decide_eq_true hc2)
        rw [if_pos hc2, show outV l i ++ putN p.k.toNat = outV l (i + 1) by rw [hst]; unfold putV; rw [if_pos hc2, List.append_nil]]
        refine vc_region ?_
        refine vl_alloc rfl rfl (.some rfl) Tryd.zeroValue43 (fun r6 => ?_)
        first | refine vl_store rfl rfl .none rfl rfl Tryd.sizeOf43 rfl (by repeat constructor) (by first | decide | exact Nat.le_refl _ | exact Nat.le_of_ble_eq_true rfl | (simp; omega)) ?_ | refine vl_storeSl rfl rfl .none rfl rfl Tryd.sizeOf43 rfl (by simp [Value.cells]) (by repeat constructor) (by first | decide | (simp [Value.cells]; omega)) ?_
        refine vl_nil ?_
        refine vc_region ?_
        refine vl_val rfl (.some rfl) (val_add rfl rfl (by first | exact w_i64 (by omega) (by omega) | rfl)) ?_
        refine vl_val rfl (.some rfl) (val_move rfl) ?_
        refine vl_nil ?_
        first
          | exact ⟨l.length - (i + 1), _, _, _, by omega, (by repeat (first | exact trivial | refine ⟨rfl, ?_⟩ | refine ⟨le_item rfl (by first | rfl | (congr 1; omega) | (simp; done) | (simp; omega)), ?_⟩)), (by repeat constructor), ⟨i + 1, A27, c27, by omega, rfl, rfl, rfl⟩⟩
          | exact ⟨l.length - (i + 1), _, _, _, by omega, (by repeat (first | exact trivial | refine ⟨rfl, ?_⟩ | refine ⟨le_item rfl (by first | rfl | (congr 1; omega) | (simp; done) | (simp; omega)), ?_⟩)), (by repeat constructor), ⟨i + 1, A47, k47, by omega, rfl, rfl, rfl⟩⟩
          | exact ⟨l.length - (i + 1), _, _, _, by omega, (by repeat (first | exact trivial | refine ⟨rfl, ?_⟩ | refine ⟨le_item rfl (by first | rfl | (congr 1; omega) | (simp; done) | (simp; omega)), ?_⟩)), (by repeat constructor), ⟨i + 1, A34, c34, by omega, rfl, rfl, rfl⟩⟩
      · (try replace hc2 := of_decide_eq_false hc2)
        refine vc_seq ?_
        refine vc_region ?_
        refine vl_val rfl (.some rfl) (asks 47 3 (.string ⟨#[]⟩) (.string p.s) Tryd.runUnderlying47 rfl Tryd.zeroValue47 rfl (fun h => by unfold ofV; rw [h]; simp) (other _ _ (fun k hk => ⟨fun h => by first | decide | omega, fun h => by first | decide | omega, fun h => by first | decide | omega, fun h => by first | decide | omega, fun h => by first | decide | omega⟩))) ?_
        refine vl_val rfl (.some rfl) (val_extract rfl rfl) ?_
        refine vl_val rfl (.some rfl) (val_extract rfl rfl) ?_
        refine vl_nil ?_
        refine vc_cond rfl (fun hc3 => ?_) (fun hc3 => ?_)
        · (try replace hc3 := of_decide_eq_true hc3)
          rw [if_pos hc3]
          refine vc_seq ?_
          refine vc_region ?_
          refine vl_val rfl (.some rfl) (val_assign rfl) ?_
          refine vl_nil ?_
          refine vc_region ?_
          refine vl_val rfl (.some rfl) (val_move rfl) ?_
          refine vl_val rfl (.some rfl) (val_move rfl) ?_
          refine vl_val rfl (.some rfl) (val_lenStr Tryd.runUnderlying47 rfl) ?_
          refine vl_val rfl (.some rfl) (val_convInt Tryd.runUnderlying3 Tryd.runUnderlying49 rfl (by first | exact w_u64 (by omega) (by omega) | rfl)) ?_
          refine vl_call (C := []) rfl rfl (.some rfl) Tryd.call23 rfl .nil (fun w hw => cPut A27 c27 (outV l i ++ putN p.k.toNat) (p.s.size) (by have := hrg.2.2 hc3; omega) (by omega) w (rdw (rd_sl (by repeat constructor)) hw)) (fun v H' h => ?_)
          obtain ⟨A45, c45, rfl, rfl⟩ := h
          show VL _ _ _ _ _ (_ :: _)
          refine vl_val rfl (.some rfl) (val_move rfl) ?_
          refine vl_appendStr sT33 Tryd.underlying47 rfl rfl (.some rfl) rfl rfl (by rw [List.length_append]; have := hrg.2.2 hc3; omega) (by repeat constructor) (fun A47 k47 => ?_)
          rw [strc, show (outV l i ++ putN p.k.toNat ++ putN p.s.size).length + p.s.size = (outV l i ++ putN p.k.toNat ++ putN p.s.size ++ p.s.data.toList).length by rw [List.length_append (bs := p.s.data.toList), size_data], show outV l i ++ putN p.k.toNat ++ putN p.s.size ++ p.s.data.toList = outV l (i + 1) by rw [hst]; unfold putV; rw [if_neg hc2, if_pos hc3]; simp]
          refine vl_val rfl (.some rfl) (val_assign rfl) ?_
          refine vl_nil ?_
          refine vc_region ?_
          refine vl_val rfl (.some rfl) (val_add rfl rfl (by first | exact w_i64 (by omega) (by omega) | rfl)) ?_
          refine vl_val rfl (.some rfl) (val_move rfl) ?_
          refine vl_nil ?_
          first
            | exact ⟨l.length - (i + 1), _, _, _, by omega, (by repeat (first | exact trivial | refine ⟨rfl, ?_⟩ | refine ⟨le_item rfl (by first | rfl | (congr 1; omega) | (simp; done) | (simp; omega)), ?_⟩)), (by repeat constructor), ⟨i + 1, A27, c27, by omega, rfl, rfl, rfl⟩⟩
            | exact ⟨l.length - (i + 1), _, _, _, by omega, (by repeat (first | exact trivial | refine ⟨rfl, ?_⟩ | refine ⟨le_item rfl (by first | rfl | (congr 1; omega) | (simp; done) | (simp; omega)), ?_⟩)), (by repeat constructor), ⟨i + 1, A47, k47, by omega, rfl, rfl, rfl⟩⟩
            | exact ⟨l.length - (i + 1), _, _, _, by omega, (by repeat (first | exact trivial | refine ⟨rfl, ?_⟩ | refine ⟨le_item rfl (by first | rfl | (congr 1; omega) | (simp; done) | (simp; omega)), ?_⟩)), (by repeat constructor), ⟨i + 1, A34, c34, by omega, rfl, rfl, rfl⟩⟩
        · (try replace hc3 := of_decide_eq_false hc3)
          refine vc_seq ?_
          refine vc_region ?_
          refine vl_val rfl (.some rfl) (val_assign rfl) ?_
          refine vl_nil ?_
          refine vc_region ?_
          refine vl_val rfl (.some rfl) (val_move rfl) ?_
          refine vl_val rfl (.some rfl) (by first | exact val_fieldAddr Tryd.runUnderlying25 rfl Tryd.sizeOf3 rfl | exact val_fieldAddrR Tryd.runUnderlying25 rfl Tryd.sizeOf3 rfl) ?_
          refine vl_val rfl (.some rfl) (val_load Tryd.isAgg3 rfl (by first | exact cell_cells (by repeat constructor) rfl | exact cell_rd (by first | exact rd_sl (by repeat constructor) | exact rd_old (by assumption) rfl) (by first | exact bcells_at (by omega) | exact ucells_at (by omega) | exact icells_at (by omega) | exact tcells_at (by omega) | exact bcells_get (by omega) | exact icells_get (by omega) | exact tcells_get (by omega) | exact ucells_get (by omega)) | exact cell_old (by assumption) (by simp [fps]))) ?_
          refine vl_callV rfl rfl (.some rfl) Tryd.call24 rfl (fun w hw => cZig _ (by omega) (by omega) w) ?_
          refine vl_call (C := []) rfl rfl (.some rfl) Tryd.call23 rfl .nil (fun w hw => cPut A27 c27 (outV l i ++ putN p.k.toNat) (zigS p.n) (zigS_lt hpn.1 hpn.2) (by omega) w (rdw (rd_sl (by repeat constructor)) hw)) (fun v H' h => ?_)
          obtain ⟨A34, c34, rfl, rfl⟩ := h
          show VL _ _ _ _ _ (_ :: _)
          rw [show outV l i ++ putN p.k.toNat ++ putN (zigS p.n) = outV l (i + 1) by rw [hst]; unfold putV; rw [if_neg hc2, if_neg hc3, List.append_assoc]]
          refine vl_val rfl (.some rfl) (val_assign rfl) ?_
          refine vl_nil ?_
          refine vc_region ?_
          refine vl_val rfl (.some rfl) (val_add rfl rfl (by first | exact w_i64 (by omega) (by omega) | rfl)) ?_
          refine vl_val rfl (.some rfl) (val_move rfl) ?_
          refine vl_nil ?_
          first
            | exact ⟨l.length - (i + 1), _, _, _, by omega, (by repeat (first | exact trivial | refine ⟨rfl, ?_⟩ | refine ⟨le_item rfl (by first | rfl | (congr 1; omega) | (simp; done) | (simp; omega)), ?_⟩)), (by repeat constructor), ⟨i + 1, A27, c27, by omega, rfl, rfl, rfl⟩⟩
            | exact ⟨l.length - (i + 1), _, _, _, by omega, (by repeat (first | exact trivial | refine ⟨rfl, ?_⟩ | refine ⟨le_item rfl (by first | rfl | (congr 1; omega) | (simp; done) | (simp; omega)), ?_⟩)), (by repeat constructor), ⟨i + 1, A47, k47, by omega, rfl, rfl, rfl⟩⟩
            | exact ⟨l.length - (i + 1), _, _, _, by omega, (by repeat (first | exact trivial | refine ⟨rfl, ?_⟩ | refine ⟨le_item rfl (by first | rfl | (congr 1; omega) | (simp; done) | (simp; omega)), ?_⟩)), (by repeat constructor), ⟨i + 1, A34, c34, by omega, rfl, rfl, rfl⟩⟩
  · (try replace hc0 := of_decide_eq_false hc0)
    obtain rfl : i = l.length := by omega
    rw [outV_all]
    refine vc_exit ?_
    refine vc_seq ?_
    refine vc_region ?_
    refine vl_val rfl (.some rfl) (val_move rfl) ?_
    refine vl_val rfl (.some rfl) (val_assign rfl) ?_
    refine vl_nil ?_
    refine vc_ret ?_
    refine ⟨_, [BY A3 (encV l).length c3 (encV l)], _, res1 Tryd.results9 rfl, (by repeat constructor), ?_⟩
    exact ⟨A3, c3, rfl, rfl⟩




theorem zig_zag (u : Nat) : zigS (zagS u) = u := by unfold zagS zigS; split <;> split <;> omega
def txtV (l : List UInt8) : ByteArray := ⟨l.toArray⟩
theorem txt_size (l : List UInt8) : (txtV l).size = l.length := by simp [txtV, ByteArray.size]
/-- One value out of bytes, and what is left. -/
def oneV (b : List UInt8) : Option (Vk × List UInt8) :=
  if (getN b).2 = 0 then none else
  if (getN b).1 = 0 then some (z3, b.drop (getN b).2) else
  if 4 < (getN b).1 then none else
  if (getN (b.drop (getN b).2)).2 = 0 then none else
  if (getN b).1 = 3 then
    (if 64 < (getN (b.drop (getN b).2)).1 ∨ ((b.drop (getN b).2).drop (getN (b.drop (getN b).2)).2).length < (getN (b.drop (getN b).2)).1 then none
     else some (⟨3, 0, txtV (((b.drop (getN b).2).drop (getN (b.drop (getN b).2)).2).take (getN (b.drop (getN b).2)).1)⟩, ((b.drop (getN b).2).drop (getN (b.drop (getN b).2)).2).drop (getN (b.drop (getN b).2)).1))
  else if goodV ⟨((getN b).1 : Nat), zagS (getN (b.drop (getN b).2)).1, ⟨#[]⟩⟩ = true then some (⟨((getN b).1 : Nat), zagS (getN (b.drop (getN b).2)).1, ⟨#[]⟩⟩, (b.drop (getN b).2).drop (getN (b.drop (getN b).2)).2) else none
def manyV : Nat → Nat → List UInt8 → Option (List Vk)
  | _, 0, b => if b.length = 0 then some [] else none
  | 0, _ + 1, _ => none
  | q + 1, c + 1, b => match oneV b with
    | none => none
    | some (v, r) => (manyV q c r).map (v :: ·)
def loadV (b : List UInt8) : Option (List Vk) := if (getN b).2 = 0 then none else manyV b.length (getN b).1 (b.drop (getN b).2)
theorem good_txt {l : List UInt8} (h : l.length ≤ 64) : goodV ⟨3, 0, txtV l⟩ = true := by
  unfold goodV
  rw [if_neg (show ¬ (3 : Int) = 0 by decide), if_neg (show ¬ (3 : Int) = 1 by decide), if_neg (show ¬ (3 : Int) = 2 by decide), if_pos rfl, txt_size]; simp [h]
theorem one_is {b r : List UInt8} {v : Vk} (h : oneV b = some (v, r)) : r.length < b.length ∧ goodV v = true ∧ b = putV v ++ r := by
  unfold oneV at h
  split at h
  · cases h
  · rename_i h1
    have hb := getN_bd b
    have hp := put_get h1
    split at h
    · rename_i h2
      cases h
      rw [h2] at hp
      refine ⟨by rw [List.length_drop]; omega, by decide, ?_⟩
      show b = (putN 0 ++ []) ++ _
      rw [List.append_nil]; exact hp
    · rename_i h2
      split at h
      · cases h
      · rename_i h3
        split at h
        · cases h
        · rename_i h4
          have hb2 := getN_bd (b.drop (getN b).2)
          have hp2 := put_get h4
          rw [List.length_drop] at hb2
          split at h
          · rename_i h5
            split at h
            · cases h
            · rename_i h6
              rw [List.length_drop, List.length_drop] at h6
              cases h
              have hlen : (((b.drop (getN b).2).drop (getN (b.drop (getN b).2)).2).take (getN (b.drop (getN b).2)).1).length = (getN (b.drop (getN b).2)).1 := by rw [List.length_take, List.length_drop, List.length_drop]; omega
              refine ⟨by rw [List.length_drop, List.length_drop, List.length_drop]; omega, good_txt (by rw [hlen]; omega), ?_⟩
              have hp' : b = putN 3 ++ b.drop (getN b).2 := by rw [h5] at hp; exact hp
              have key : b.drop (getN b).2 = putN (getN (b.drop (getN b).2)).1 ++ (((b.drop (getN b).2).drop (getN (b.drop (getN b).2)).2).take (getN (b.drop (getN b).2)).1 ++ ((b.drop (getN b).2).drop (getN (b.drop (getN b).2)).2).drop (getN (b.drop (getN b).2)).1) := by rw [List.take_append_drop]; exact hp2
              show b = (putN 3 ++ (putN (txtV (((b.drop (getN b).2).drop (getN (b.drop (getN b).2)).2).take (getN (b.drop (getN b).2)).1)).size ++ ((b.drop (getN b).2).drop (getN (b.drop (getN b).2)).2).take (getN (b.drop (getN b).2)).1)) ++ _
              rw [txt_size, hlen, List.append_assoc, List.append_assoc, ← key]
              exact hp'
          · rename_i h5
            split at h
            · rename_i h6
              cases h
              refine ⟨by rw [List.length_drop, List.length_drop]; omega, h6, ?_⟩
              unfold putV
              rw [if_neg (show ¬ (((getN b).1 : Nat) : Int) = 0 by omega), if_neg (show ¬ (((getN b).1 : Nat) : Int) = 3 by omega)]
              show b = (putN (((getN b).1 : Nat) : Int).toNat ++ putN (zigS (zagS _))) ++ _
              rw [zig_zag, Int.toNat_natCast, List.append_assoc, ← hp2]
              exact hp
            · cases h
def InvV (b : List UInt8) (acc : List Vk) (c : Nat) (b2 : List UInt8) : Prop := ∃ q, b2.length ≤ q ∧ (manyV q c b2).map (acc ++ ·) = loadV b
theorem inv_none {b b2 : List UInt8} {acc : List Vk} {c : Nat} (h : InvV b acc (c + 1) b2) (h1 : oneV b2 = none) : loadV b = none := by
  obtain ⟨q, _, e⟩ := h
  rw [← e]
  cases q with
  | zero => rfl
  | succ q => show (match oneV b2 with | none => none | some (v, r) => (manyV q c r).map (v :: ·)).map _ = none; rw [h1]; rfl
theorem inv_step {b b2 r : List UInt8} {acc : List Vk} {c : Nat} {v : Vk} (h : InvV b acc (c + 1) b2) (h1 : oneV b2 = some (v, r)) : InvV b (acc ++ [v]) c r := by
  obtain ⟨q, hq, e⟩ := h
  have hl := (one_is h1).1
  cases q with
  | zero => omega
  | succ q =>
    refine ⟨q, by omega, ?_⟩
    rw [← e]
    show _ = (match oneV b2 with | none => none | some (v, r) => (manyV q c r).map (v :: ·)).map _
    rw [h1]
    show _ = ((manyV q c r).map (v :: ·)).map _
    rw [Option.map_map]
    congr 1
    funext l
    simp
theorem inv_end {b b2 : List UInt8} {acc : List Vk} (h : InvV b acc 0 b2) : loadV b = if b2.length = 0 then some acc else none := by
  obtain ⟨q, _, e⟩ := h
  rw [← e]
  cases q <;> (unfold manyV; split <;> simp)
theorem inv_start {b : List UInt8} (h : (getN b).2 ≠ 0) : InvV b [] (getN b).1 (b.drop (getN b).2) := by
  refine ⟨b.length, by rw [List.length_drop]; omega, ?_⟩
  unfold loadV
  rw [if_neg h]
  simp
def loadL9 (b : List UInt8) : List Vk := (loadV b).getD []
def loadE9 (b : List UInt8) : Int := if (loadV b).isSome then 0 else 8
theorem load9_none {b : List UInt8} (h : loadV b = none) : loadL9 b = [] ∧ loadE9 b = 8 := by unfold loadL9 loadE9; rw [h]; exact ⟨rfl, rfl⟩
theorem load9_some {b : List UInt8} {l : List Vk} (h : loadV b = some l) : loadL9 b = l ∧ loadE9 b = 0 := by unfold loadL9 loadE9; rw [h]; exact ⟨rfl, rfl⟩

set_option maxRecDepth 20000 in
theorem vNext (x0 x1 : Nat) (A : Option Addr) (c : Nat) (b : List UInt8) (bad : Bool) (hb : b.length ≤ 1000000000) (hbc : b.length ≤ c) (w : World) (hr : ReadsM w (fps [cells x0 [.slice A b.length c] 33, cells x1 [.bool bad] 4]) A (bcells b)) : Fn Tryd.prog 20 [.pointer (some ⟨x0, 0, none⟩), .pointer (some ⟨x1, 0, none⟩)] [cells x0 [.slice A b.length c] 33, cells x1 [.bool bad] 4] (ret fun v H' => v = .int .u64 (getN b).1 ∧ H' = [cells x0 [.slice (cutA A c (getN b).2 1) (b.drop (getN b).2).length (c - (getN b).2)] 33, cells x1 [.bool (bad || decide ((getN b).2 = 0))] 4]) w := by
  have hbd := getN_bd b
  refine fn_enter Tryd.func20 rfl Tryd.ntmps20 rfl ?_
  refine vc_seq ?_
  refine vc_region ?_
  refine vl_val rfl (.some rfl) (val_assign rfl) ?_
  refine vl_nil ?_
  refine vc_seq ?_
  refine vc_region ?_
  refine vl_val rfl (.some rfl) (val_load Tryd.isAgg33 rfl (by first | exact cell_cells (by repeat constructor) rfl | exact cell_rd (by first | exact rd_sl (by repeat constructor) | exact rd_old (by assumption) rfl) (by first | exact bcells_at (by omega) | exact ucells_at (by omega) | exact icells_at (by omega) | exact tcells_at (by omega) | exact bcells_get (by omega) | exact icells_get (by omega) | exact tcells_get (by omega) | exact ucells_get (by omega)) | exact cell_old (by assumption) (by simp [fps]))) ?_
  refine vl_callV rfl rfl (.some rfl) Tryd.call21 rfl (fun w' hw => cGet _ _ b (by omega) w' (rdw (rd_oldM hr) hw)) ?_
  refine vl_val rfl (.some rfl) (val_move rfl) ?_
  refine vl_val rfl (.some rfl) (val_extract rfl rfl) ?_
  refine vl_val rfl (.some rfl) (val_extract rfl rfl) ?_
  refine vl_val rfl (.some rfl) (val_assign rfl) ?_
  refine vl_val rfl (.some rfl) (val_assign rfl) ?_
  refine vl_nil ?_
  refine vc_seq ?_
  refine vc_region ?_
  refine vl_val rfl (.some rfl) (val_load Tryd.isAgg4 rfl (by first | exact cell_cells (by repeat constructor) rfl | exact cell_rd (by first | exact rd_sl (by repeat constructor) | exact rd_old (by assumption) rfl) (by first | exact bcells_at (by omega) | exact ucells_at (by omega) | exact icells_at (by omega) | exact tcells_at (by omega) | exact bcells_get (by omega) | exact icells_get (by omega) | exact tcells_get (by omega) | exact ucells_get (by omega)) | exact cell_old (by assumption) (by simp [fps]))) ?_
  refine vl_val rfl (.some rfl) (val_move rfl) ?_
  refine vl_split (t := 11) rfl (fun hg11 => ?_) (fun hg11 => ?_)
  · (try replace hg11 := of_decide_eq_true hg11)
    refine vl_off rfl rfl rfl rfl (.some rfl) ?_
    refine vl_off rfl rfl rfl rfl (.some rfl) ?_
    refine vl_val rfl (.some rfl) (val_pick rfl rfl) ?_
    first | refine vl_store rfl rfl .none rfl rfl Tryd.sizeOf4 rfl (by repeat constructor) (by first | decide | exact Nat.le_refl _ | exact Nat.le_of_ble_eq_true rfl | (simp; omega)) ?_ | refine vl_storeSl rfl rfl .none rfl rfl Tryd.sizeOf4 rfl (by simp [Value.cells]) (by repeat constructor) (by first | decide | (simp [Value.cells]; omega)) ?_
    refine vl_nil ?_
    refine vc_seq ?_
    refine vc_region ?_
    refine vl_val rfl (.some rfl) (val_load Tryd.isAgg33 rfl (by first | exact cell_cells (by repeat constructor) rfl | exact cell_rd (by first | exact rd_sl (by repeat constructor) | exact rd_old (by assumption) rfl) (by first | exact bcells_at (by omega) | exact ucells_at (by omega) | exact icells_at (by omega) | exact tcells_at (by omega) | exact bcells_get (by omega) | exact icells_get (by omega) | exact tcells_get (by omega) | exact ucells_get (by omega)) | exact cell_old (by assumption) (by simp [fps]))) ?_
    refine vl_val rfl (.some rfl) (val_move rfl) ?_
    refine vl_val rfl (.some rfl) (val_cutFrom Tryd.runUnderlying33 Tryd.sizeOf5 rfl rfl (by omega) (by omega)) ?_
    rw [Int.toNat_natCast, show b.length - (getN b).2 = (b.drop (getN b).2).length by rw [List.length_drop]]
    refine vl_store rfl rfl .none rfl rfl Tryd.sizeOf33 rfl (by repeat constructor) (Nat.le_refl _) ?_
    refine vl_nil ?_
    refine vc_seq ?_
    refine vc_region ?_
    refine vl_val rfl (.some rfl) (val_move rfl) ?_
    refine vl_val rfl (.some rfl) (val_assign rfl) ?_
    refine vl_nil ?_
    refine vc_ret ?_
    refine ⟨_, [cells x0 [.slice (cutA A c (getN b).2 1) (b.drop (getN b).2).length (c - (getN b).2)] 33, cells x1 [.bool _] 4], _, res1 Tryd.results20 rfl, (by repeat constructor), ⟨rfl, ?_⟩⟩
    first | (rw [hg11]; rfl) | (rw [hg11, Bool.false_or, show decide ((getN b).2 = 0) = decide ((((getN b).2 : Nat) : Int) = 0) by rw [decide_eq_decide]; omega])
  · (try replace hg11 := of_decide_eq_false hg11)
    refine vl_on rfl rfl rfl rfl ?_
    refine vl_val rfl (.some rfl) (val_move rfl) ?_
    refine vl_on rfl rfl rfl rfl ?_
    refine vl_val rfl (.some rfl) (val_eq rfl rfl) ?_
    refine vl_val rfl (.some rfl) (val_pick rfl rfl) ?_
    first | refine vl_store rfl rfl .none rfl rfl Tryd.sizeOf4 rfl (by repeat constructor) (by first | decide | exact Nat.le_refl _ | exact Nat.le_of_ble_eq_true rfl | (simp; omega)) ?_ | refine vl_storeSl rfl rfl .none rfl rfl Tryd.sizeOf4 rfl (by simp [Value.cells]) (by repeat constructor) (by first | decide | (simp [Value.cells]; omega)) ?_
    refine vl_nil ?_
    refine vc_seq ?_
    refine vc_region ?_
    refine vl_val rfl (.some rfl) (val_load Tryd.isAgg33 rfl (by first | exact cell_cells (by repeat constructor) rfl | exact cell_rd (by first | exact rd_sl (by repeat constructor) | exact rd_old (by assumption) rfl) (by first | exact bcells_at (by omega) | exact ucells_at (by omega) | exact icells_at (by omega) | exact tcells_at (by omega) | exact bcells_get (by omega) | exact icells_get (by omega) | exact tcells_get (by omega) | exact ucells_get (by omega)) | exact cell_old (by assumption) (by simp [fps]))) ?_
    refine vl_val rfl (.some rfl) (val_move rfl) ?_
    refine vl_val rfl (.some rfl) (val_cutFrom Tryd.runUnderlying33 Tryd.sizeOf5 rfl rfl (by omega) (by omega)) ?_
    rw [Int.toNat_natCast, show b.length - (getN b).2 = (b.drop (getN b).2).length by rw [List.length_drop]]
    refine vl_store rfl rfl .none rfl rfl Tryd.sizeOf33 rfl (by repeat constructor) (Nat.le_refl _) ?_
    refine vl_nil ?_
    refine vc_seq ?_
    refine vc_region ?_
    refine vl_val rfl (.some rfl) (val_move rfl) ?_
    refine vl_val rfl (.some rfl) (val_assign rfl) ?_
    refine vl_nil ?_
    refine vc_ret ?_
    refine ⟨_, [cells x0 [.slice (cutA A c (getN b).2 1) (b.drop (getN b).2).length (c - (getN b).2)] 33, cells x1 [.bool _] 4], _, res1 Tryd.results20 rfl, (by repeat constructor), ⟨rfl, ?_⟩⟩
    first | (rw [hg11]; rfl) | (rw [hg11, Bool.false_or, show decide ((getN b).2 = 0) = decide ((((getN b).2 : Nat) : Int) = 0) by rw [decide_eq_decide]; omega])


set_option maxRecDepth 20000 in
theorem sT22 : SlT Tryd.prog 22 25 3 32 (.agg #[.int .i64 0, .int .i64 0, .string .empty]) := ⟨Tryd.underlying22, ⟨Tryd.t25, Tryd.type25, rfl, rfl, rfl⟩, rfl, Nat.lt_of_sub_eq_succ rfl⟩

theorem one_null {b : List UInt8} (h : (getN b).1 = 0) : oneV b = if (getN b).2 = 0 then none else some (z3, b.drop (getN b).2) := by
  unfold oneV; split
  · rfl
  · first | rfl | rw [if_pos h]
def numK (u : Nat) (n : Int) : Vk := ⟨((min u 9 : Nat) : Int), n, ⟨#[]⟩⟩
theorem good_big {u : Nat} {n : Int} (h : 4 < u) : goodV (numK u n) = false := by
  unfold goodV numK
  have h2 : 4 < min u 9 := by omega
  rw [if_neg (show ¬ ((min u 9 : Nat) : Int) = 0 by omega), if_neg (show ¬ ((min u 9 : Nat) : Int) = 1 by omega), if_neg (show ¬ ((min u 9 : Nat) : Int) = 2 by omega), if_neg (show ¬ ((min u 9 : Nat) : Int) = 3 by omega), if_neg (show ¬ ((min u 9 : Nat) : Int) = 4 by omega)]
theorem one_num {b : List UInt8} (h0 : (getN b).1 ≠ 0) (h3 : (getN b).1 ≠ 3) : oneV b = if (getN b).2 = 0 ∨ (getN (b.drop (getN b).2)).2 = 0 ∨ goodV (numK (getN b).1 (zagS (getN (b.drop (getN b).2)).1)) = false then none
    else some (numK (getN b).1 (zagS (getN (b.drop (getN b).2)).1), (b.drop (getN b).2).drop (getN (b.drop (getN b).2)).2) := by
  unfold oneV
  by_cases h1 : (getN b).2 = 0
  · rw [if_pos h1, if_pos (.inl h1)]
  · rw [if_neg h1, if_neg h0]
    by_cases h4 : 4 < (getN b).1
    · rw [if_pos h4, if_pos (.inr (.inr (good_big h4)))]
    · rw [if_neg h4]
      have e : numK (getN b).1 (zagS (getN (b.drop (getN b).2)).1) = ⟨((getN b).1 : Nat), zagS (getN (b.drop (getN b).2)).1, ⟨#[]⟩⟩ := by unfold numK; rw [show min (getN b).1 9 = (getN b).1 by omega]
      rw [e]
      by_cases h2 : (getN (b.drop (getN b).2)).2 = 0
      · rw [if_pos h2, if_pos (.inr (.inl h2))]
      · rw [if_neg h2, if_neg h3]
        cases hg : goodV ⟨((getN b).1 : Nat), zagS (getN (b.drop (getN b).2)).1, ⟨#[]⟩⟩ with
        | true => rw [if_pos rfl, if_neg (by rintro (h | h | h); exact h1 h; exact h2 h; cases h)]
        | false => rw [if_neg (by simp), if_pos (.inr (.inr rfl))]
theorem one_str {b : List UInt8} (h3 : (getN b).1 = 3) : oneV b = if (getN b).2 = 0 ∨ (getN (b.drop (getN b).2)).2 = 0 ∨ 64 < (getN (b.drop (getN b).2)).1 ∨ ((b.drop (getN b).2).drop (getN (b.drop (getN b).2)).2).length < (getN (b.drop (getN b).2)).1 then none
    else some (⟨3, 0, txtV (((b.drop (getN b).2).drop (getN (b.drop (getN b).2)).2).take (getN (b.drop (getN b).2)).1)⟩, ((b.drop (getN b).2).drop (getN (b.drop (getN b).2)).2).drop (getN (b.drop (getN b).2)).1) := by
  unfold oneV
  by_cases h1 : (getN b).2 = 0
  · rw [if_pos h1, if_pos (.inl h1)]
  · rw [if_neg h1, if_neg (by omega), if_neg (by omega)]
    by_cases h2 : (getN (b.drop (getN b).2)).2 = 0
    · rw [if_pos h2, if_pos (.inr (.inl h2))]
    · rw [if_neg h2, if_pos h3]
      by_cases h4 : 64 < (getN (b.drop (getN b).2)).1 ∨ ((b.drop (getN b).2).drop (getN (b.drop (getN b).2)).2).length < (getN (b.drop (getN b).2)).1
      · rw [if_pos h4, if_pos (.inr (.inr h4))]
      · rw [if_neg h4, if_neg (by rintro (h | h | h); exact h1 h; exact h2 h; exact h4 h)]
theorem vk_flat1 (acc : List Vk) (p : Vk) : flat acc ++ flat [p] = flat (acc ++ [p]) := by simp [flat]
/-- How the loop stands. -/
def StV (b : List UInt8) (acc : List Vk) (i cnt : Nat) (bad : Bool) (b2 : List UInt8) : Prop := (bad = true → loadV b = none) ∧ (bad = false → ∃ m, i + m = cnt ∧ InvV b acc m b2)
theorem st_step {b b2 b3 : List UInt8} {acc : List Vk} {i cnt : Nat} {bad : Bool} {v : Vk} (h : StV b acc i cnt false b2) (hi : i < cnt) (h1 : bad = true → oneV b2 = none) (h2 : bad = false → oneV b2 = some (v, b3)) : StV b (acc ++ [v]) (i + 1) cnt bad b3 := by
  obtain ⟨m, hm, hinv⟩ := h.2 rfl
  obtain ⟨m, rfl⟩ : ∃ j, m = j + 1 := ⟨m - 1, by omega⟩
  exact ⟨fun hb => inv_none hinv (h1 hb), fun hb => ⟨m, by omega, inv_step hinv (h2 hb)⟩⟩
theorem st_none {b b2 : List UInt8} {acc : List Vk} {i cnt : Nat} (h : StV b acc i cnt false b2) (hi : i < cnt) (h1 : oneV b2 = none) : loadV b = none := by
  obtain ⟨m, hm, hinv⟩ := h.2 rfl
  obtain ⟨m, rfl⟩ : ∃ j, m = j + 1 := ⟨m - 1, by omega⟩
  exact inv_none hinv h1
theorem st_end {b b2 : List UInt8} {acc : List Vk} {i cnt : Nat} {bad : Bool} (h : StV b acc i cnt bad b2) (hb : bad = false) (hi : ¬ i < cnt) : loadV b = if b2.length = 0 then some acc else none := by
  obtain ⟨m, hm, hinv⟩ := h.2 hb
  obtain rfl : m = 0 := by omega
  exact inv_end hinv
theorem st_start (b : List UInt8) (bad : Bool) (hb : bad = (false || decide ((getN b).2 = 0))) : StV b [] 0 (getN b).1 bad (b.drop (getN b).2) := by
  subst hb
  rw [Bool.false_or]
  exact ⟨fun h => by unfold loadV; rw [if_pos (of_decide_eq_true h)], fun h => ⟨_, Nat.zero_add _, inv_start (of_decide_eq_false h)⟩⟩

set_option maxRecDepth 20000 in
set_option maxHeartbeats 1000000 in
theorem vLoad (A : Option Addr) (c : Nat) (b : List UInt8) (hb : b.length ≤ 1000000000) (hbc : b.length ≤ c) (w : World) (hr : Reads w A (bcells b)) : Fn Tryd.prog 8 [.slice A b.length c] [] (ret fun v H' => ∃ A' c', v = .tuple #[.slice A' (loadL9 b).length c', .int .i64 (loadE9 b)] ∧ H' = [DS A' c' (loadL9 b)]) w := by
  have hbd0 := getN_bd b
  refine fn_enter Tryd.func8 rfl Tryd.ntmps8 rfl ?_
  refine vc_seq ?_
  refine vc_region ?_
  refine vl_box rfl rfl (.some rfl) rfl (fun r1 => ?_)
  refine vl_val rfl (.some rfl) (val_assign rfl) ?_
  refine vl_nilSl 25 3 ?_
  refine vl_val rfl (.some rfl) (val_assign rfl) ?_
  refine vl_nil ?_
  refine vc_seq ?_
  refine vc_region ?_
  refine vl_alloc rfl rfl (.some rfl) Tryd.zeroValue4 (fun r4 => ?_)
  first | refine vl_store rfl rfl .none rfl rfl Tryd.sizeOf4 rfl (by repeat constructor) (by first | decide | exact Nat.le_refl _ | exact Nat.le_of_ble_eq_true rfl | (simp; omega)) ?_ | refine vl_storeSl rfl rfl .none rfl rfl Tryd.sizeOf4 rfl (by simp [Value.cells]) (by repeat constructor) (by first | decide | (simp [Value.cells]; omega)) ?_
  refine vl_nil ?_
  refine vc_seq ?_
  refine vc_region ?_
  refine vl_val rfl (.some rfl) (val_mkFunc rfl rfl) ?_
  refine vl_val rfl (.some rfl) (val_assign rfl) ?_
  refine vl_nil ?_
  refine vc_seq ?_
  refine vc_region ?_
  refine vl_val rfl (.some rfl) (val_move rfl) ?_
  refine vl_callv (C := [cells r1 [.slice A (b).length c] 33, cells r4 [.bool (false)] 4]) (fs := []) (cs := [.pointer (some ⟨r1, 0, none⟩), .pointer (some ⟨r4, 0, none⟩)]) (args := []) rfl rfl (.some rfl) rfl Tryd.call20 rfl (by repeat constructor) (fun w' hw => vNext r1 r4 (A) (c) (b) (false) (hb) (hbc) w' (reads_callee hr rfl (by repeat constructor) hw)) (fun v H' h => ?_)
  obtain ⟨rfl, rfl⟩ := h
  show VL _ _ _ _ _ (_ :: _ :: _)
  refine vl_val rfl (.some rfl) (val_assign rfl) ?_
  refine vl_nil ?_
  refine vc_seq ?_
  refine vc_region ?_
  refine vl_val rfl (.some rfl) (val_assign rfl) ?_
  refine vl_nilSl 25 3 ?_
  refine vl_nil ?_
  refine vc_seq ?_
  refine vc_seq ?_
  refine vc_region ?_
  refine vl_val rfl (.some rfl) (val_assign rfl) ?_
  refine vl_nil ?_
  refine vc_block ?_
  refine vc_loopw (fun k E H => ∃ (i : Nat) (A2 : Option Addr) (c2 : Nat) (b2 : List UInt8) (bad : Bool) (acc : List Vk) (A7 : Option Addr) (c7 : Nat), Reads w A2 (bcells b2) ∧ b2.length ≤ c2 ∧ b2.length ≤ 1000000000 ∧ StV b acc i (getN b).1 bad b2 ∧ acc.length + (if bad = true then 0 else b2.length + 1) ≤ 1000000002 ∧ k = (if bad = true then 0 else b2.length + 1) ∧ E = [(1, .pointer (some ⟨r1, 0, none⟩)), (4, .pointer (some ⟨r4, 0, none⟩)), (5, (.func (.func 20) #[] #[.pointer (some ⟨r1, 0, none⟩), .pointer (some ⟨r4, 0, none⟩)])), (6, .int .u64 (getN b).1), (7, .slice A7 acc.length c7), (8, .int .u64 i)] ∧ H = [cells r1 [.slice A2 b2.length c2] 33, cells r4 [.bool bad] 4, DS A7 c7 acc]) (if (false || decide ((getN b).2 = 0)) = true then 0 else (b.drop (getN b).2).length + 1) ⟨_, _, _, ⟨0, cutA A c (getN b).2 1, c - (getN b).2, b.drop (getN b).2, false || decide ((getN b).2 = 0), [], none, 0, reads_cutB hr hbc, by rw [List.length_drop]; omega, by rw [List.length_drop]; omega, st_start b _ rfl, by show 0 + _ ≤ _; split <;> (try rw [List.length_drop]) <;> omega, rfl, rfl, rfl⟩, (by repeat (first | exact trivial | refine ⟨rfl, ?_⟩ | refine ⟨le_item rfl (by first | rfl | (congr 1; omega) | (simp; done) | (simp; omega)), ?_⟩)), (by repeat constructor)⟩ ?_
  intro k E H hI
  obtain ⟨i, A2, c2, b2, bad, acc, A7, c7, hr2, hbc2, hb2, hst, hacc, rfl, rfl, rfl⟩ := hI
  refine vc_seq ?_
  refine vc_seq ?_
  refine vc_region ?_
  refine vl_val rfl (.some rfl) (val_load Tryd.isAgg4 rfl (by first | exact cell_cells (by repeat constructor) rfl | exact cell_rd (by first | exact rd_sl (by repeat constructor) | exact rd_old (by assumption) rfl) (by first | exact bcells_at (by omega) | exact ucells_at (by omega) | exact icells_at (by omega) | exact tcells_at (by omega) | exact bcells_get (by omega) | exact icells_get (by omega) | exact tcells_get (by omega) | exact ucells_get (by omega)) | exact cell_old (by assumption) (by simp [fps]))) ?_
  refine vl_val rfl (.some rfl) (val_not rfl) ?_
  refine vl_val rfl (.some rfl) (val_move rfl) ?_
  refine vl_split (t := 16) rfl (fun hg16 => ?_) (fun hg16 => ?_)
  · (try replace hg16 := of_decide_eq_true hg16)
    refine vl_on rfl rfl rfl rfl ?_
    refine vl_val rfl (.some rfl) (val_move rfl) ?_
    refine vl_on rfl rfl rfl rfl ?_
    refine vl_val rfl (.some rfl) (val_move rfl) ?_
    refine vl_on rfl rfl rfl rfl ?_
    refine vl_val rfl (.some rfl) (val_lt rfl rfl) ?_
    refine vl_val rfl (.some rfl) (val_pick rfl rfl) ?_
    refine vl_nil ?_
    refine vc_cond rfl (fun hc0 => ?_) (fun hc0 => ?_)
    · (try replace hc0 := of_decide_eq_true hc0)
      obtain rfl : bad = false := by simpa using hg16
      have hbd := getN_bd b2
      have hbd2 := getN_bd (b2.drop (getN b2).2)
      have hl3 : (b2.drop (getN b2).2).length = b2.length - (getN b2).2 := List.length_drop
      have hl4 : ((b2.drop (getN b2).2).drop (getN (b2.drop (getN b2).2)).2).length = b2.length - (getN b2).2 - (getN (b2.drop (getN b2).2)).2 := by rw [List.length_drop, hl3]
      have hr3 := reads_cutB (n := (getN b2).2) hr2 hbc2
      have hr4 := reads_cutB (n := (getN (b2.drop (getN b2).2)).2) hr3 (show (b2.drop (getN b2).2).length ≤ (c2 - (getN b2).2) by omega)
      have hr4t : Reads w (cutA (cutA A2 c2 (getN b2).2 1) (c2 - (getN b2).2) (getN (b2.drop (getN b2).2)).2 1) (bcells (((b2.drop (getN b2).2).drop (getN (b2.drop (getN b2).2)).2).take (getN (b2.drop (getN b2).2)).1)) := by have := hr4.take (getN (b2.drop (getN b2).2)).1; simpa [bcells, List.map_take] using this
      have hacc2 : acc.length + b2.length + 1 ≤ 1000000002 := by have h := hacc; simp at h; omega
      refine vc_skip ?_
      refine vc_seq ?_
      refine vc_block ?_
      refine vc_seq ?_
      refine vc_region ?_
      refine vl_val rfl (.some rfl) (val_move rfl) ?_
      refine vl_callv (C := [cells r1 [.slice A2 (b2).length c2] 33, cells r4 [.bool (false)] 4]) (fs := []) (cs := [.pointer (some ⟨r1, 0, none⟩), .pointer (some ⟨r4, 0, none⟩)]) (args := []) rfl rfl (.some rfl) rfl Tryd.call20 rfl (by repeat constructor) (fun w' hw => vNext r1 r4 (A2) (c2) (b2) (false) (by omega) (hbc2) w' (reads_callee hr2 rfl (by repeat constructor) hw)) (fun v H' h => ?_)
      obtain ⟨rfl, rfl⟩ := h
      show VL _ _ _ _ _ (_ :: _ :: _)
      refine vl_val rfl (.some rfl) (val_min rfl rfl) ?_
      refine vl_val rfl (.some rfl) (val_convInt Tryd.runUnderlying49 Tryd.runUnderlying3 rfl (show _ = ((min (getN b2).1 9 : Nat) : Int) by rw [w_i64 (by omega) (by omega)]; omega)) ?_
      refine vl_val rfl (.some rfl) (val_buildSt (pl := #[(0, 1), (1, 1), (2, 1)]) (cs := #[.int .i64 ((min (getN b2).1 9 : Nat) : Int), .int .i64 0, .string ⟨#[]⟩]) Tryd.runUnderlying25 Tryd.zeroValue25 (fun w => by kernel_rfl) rfl rfl) ?_
      refine vl_alloc rfl rfl (.some rfl) Tryd.zeroValue25 (fun r9 => ?_)
      first | refine vl_store rfl rfl .none rfl rfl Tryd.sizeOf25 rfl (by repeat constructor) (by first | decide | exact Nat.le_refl _ | exact Nat.le_of_ble_eq_true rfl | (simp; omega)) ?_ | refine vl_storeSl rfl rfl .none rfl rfl Tryd.sizeOf25 rfl (by simp [Value.cells]) (by repeat constructor) (by first | decide | (simp [Value.cells]; omega)) ?_
      refine vl_nil ?_
      refine vc_seq ?_
      refine vc_block ?_
      refine vc_seq ?_
      refine vc_region ?_
      refine vl_val rfl (.some rfl) (by first | exact val_fieldAddr Tryd.runUnderlying25 rfl Tryd.sizeOf3 rfl | exact val_fieldAddrR Tryd.runUnderlying25 rfl Tryd.sizeOf3 rfl) ?_
      refine vl_val rfl (.some rfl) (val_load Tryd.isAgg3 rfl (by first | exact cell_cells (by repeat constructor) rfl | exact cell_rd (by first | exact rd_sl (by repeat constructor) | exact rd_old (by assumption) rfl) (by first | exact bcells_at (by omega) | exact ucells_at (by omega) | exact icells_at (by omega) | exact tcells_at (by omega) | exact bcells_get (by omega) | exact icells_get (by omega) | exact tcells_get (by omega) | exact ucells_get (by omega)) | exact cell_old (by assumption) (by simp [fps]))) ?_
      refine vl_val rfl (.some rfl) (val_eq rfl rfl) ?_
      refine vl_val rfl (.some rfl) (val_assign rfl) ?_
      refine vl_nil ?_
      refine vc_cond rfl (fun hc1 => ?_) (fun hc1 => ?_)
      · (try replace hc1 := of_decide_eq_true hc1)
        have hu3 : (getN b2).1 = 3 := by omega
        have hs3 := hu3
        refine vc_seq ?_
        refine vc_region ?_
        refine vl_val rfl (.some rfl) (val_move rfl) ?_
        refine vl_callv (C := [cells r1 [.slice (cutA A2 c2 (getN b2).2 1) ((b2.drop (getN b2).2)).length (c2 - (getN b2).2)] 33, cells r4 [.bool (false || decide ((getN b2).2 = 0))] 4]) (fs := []) (cs := [.pointer (some ⟨r1, 0, none⟩), .pointer (some ⟨r4, 0, none⟩)]) (args := []) rfl rfl (.some rfl) rfl Tryd.call20 rfl (by repeat constructor) (fun w' hw => vNext r1 r4 ((cutA A2 c2 (getN b2).2 1)) ((c2 - (getN b2).2)) ((b2.drop (getN b2).2)) (false || decide ((getN b2).2 = 0)) (by omega) (by omega) w' (reads_callee hr3 rfl (by repeat constructor) hw)) (fun v H' h => ?_)
        obtain ⟨rfl, rfl⟩ := h
        show VL _ _ _ _ _ (_ :: _ :: _)
        refine vl_val rfl (.some rfl) (val_assign rfl) ?_
        refine vl_nil ?_
        refine vc_seq ?_
        refine vc_seq ?_
        refine vc_region ?_
        refine vl_val rfl (.some rfl) (val_move rfl) ?_
        refine vl_val rfl (.some rfl) (val_gt rfl rfl) ?_
        refine vl_val rfl (.some rfl) (val_move rfl) ?_
        refine vl_split (t := 36) rfl (fun hg36 => ?_) (fun hg36 => ?_)
        · (try replace hg36 := of_decide_eq_true hg36)
          refine vl_off rfl rfl rfl rfl (.some rfl) ?_
          refine vl_off rfl rfl rfl rfl (.some rfl) ?_
          refine vl_off rfl rfl rfl rfl (.some rfl) ?_
          refine vl_off rfl rfl rfl rfl (.some rfl) ?_
          refine vl_off rfl rfl rfl rfl (.some rfl) ?_
          refine vl_val rfl (.some rfl) (val_pick rfl rfl) ?_
          refine vl_nil ?_
          refine vc_cond rfl (fun _ => ?_) (fun h => by cases h)
          refine vc_seq ?_
          refine vc_region ?_
          refine vl_val rfl (.some rfl) (val_assign rfl) ?_
          refine vl_nilSl 25 3 ?_
          refine vl_val rfl (.some rfl) (val_assign rfl) ?_
          refine vl_nil ?_
          refine vc_ret ?_
          refine ⟨_, [DS none 0 []], _, res2 Tryd.results8 rfl rfl, (by repeat constructor), ?_⟩
          obtain ⟨e1, e2⟩ := load9_none (b := b) (st_none hst (by omega) (by rw [one_str hu3]; exact if_pos (by first | exact .inr (.inr (.inl (by omega))) | exact .inr (.inr (.inr (by omega))))))
          show ∃ A' c', _ ∧ _
          rw [e1, e2]
          exact ⟨none, 0, rfl, rfl⟩
        · (try replace hg36 := of_decide_eq_false hg36)
          refine vl_on rfl rfl rfl rfl ?_
          refine vl_val rfl (.some rfl) (val_move rfl) ?_
          refine vl_on rfl rfl rfl rfl ?_
          refine vl_val rfl (.some rfl) (val_load Tryd.isAgg33 rfl (by first | exact cell_cells (by repeat constructor) rfl | exact cell_rd (by first | exact rd_sl (by repeat constructor) | exact rd_old (by assumption) rfl) (by first | exact bcells_at (by omega) | exact ucells_at (by omega) | exact icells_at (by omega) | exact tcells_at (by omega) | exact bcells_get (by omega) | exact icells_get (by omega) | exact tcells_get (by omega) | exact ucells_get (by omega)) | exact cell_old (by assumption) (by simp [fps]))) ?_
          refine vl_on rfl rfl rfl rfl ?_
          refine vl_val rfl (.some rfl) (val_lenSl Tryd.runUnderlying33 rfl) ?_
          refine vl_on rfl rfl rfl rfl ?_
          refine vl_val rfl (.some rfl) (val_convInt Tryd.runUnderlying3 Tryd.runUnderlying49 rfl (by first | exact w_u64 (by omega) (by omega) | rfl)) ?_
          refine vl_on rfl rfl rfl rfl ?_
          refine vl_val rfl (.some rfl) (val_gt rfl rfl) ?_
          refine vl_val rfl (.some rfl) (val_pick rfl rfl) ?_
          refine vl_nil ?_
          refine vc_cond rfl (fun hc2 => ?_) (fun hc2 => ?_)
          · (try replace hc2 := of_decide_eq_true hc2)
            refine vc_seq ?_
            refine vc_region ?_
            refine vl_val rfl (.some rfl) (val_assign rfl) ?_
            refine vl_nilSl 25 3 ?_
            refine vl_val rfl (.some rfl) (val_assign rfl) ?_
            refine vl_nil ?_
            refine vc_ret ?_
            refine ⟨_, [DS none 0 []], _, res2 Tryd.results8 rfl rfl, (by repeat constructor), ?_⟩
            obtain ⟨e1, e2⟩ := load9_none (b := b) (st_none hst (by omega) (by rw [one_str hu3]; exact if_pos (by first | exact .inr (.inr (.inl (by omega))) | exact .inr (.inr (.inr (by omega))))))
            show ∃ A' c', _ ∧ _
            rw [e1, e2]
            exact ⟨none, 0, rfl, rfl⟩
          · (try replace hc2 := of_decide_eq_false hc2)
            have hl5 : (((b2.drop (getN b2).2).drop (getN (b2.drop (getN b2).2)).2).drop (getN (b2.drop (getN b2).2)).1).length = ((b2.drop (getN b2).2).drop (getN (b2.drop (getN b2).2)).2).length - (getN (b2.drop (getN b2).2)).1 := List.length_drop
            refine vc_skip ?_
            refine vc_drawsS [0, 1, 2, 3, 4, 5, 6, 7] [9] [0, 1, 2, 3, 4, 5, 6, 7, 8, 9] [cells r1 [.slice (cutA (cutA A2 c2 (getN b2).2 1) (c2 - (getN b2).2) (getN (b2.drop (getN b2).2)).2 1) ((b2.drop (getN b2).2).drop (getN (b2.drop (getN b2).2)).2).length ((c2 - (getN b2).2) - (getN (b2.drop (getN b2).2)).2)] 33] (by repeat constructor) rfl (by kernel_rfl) (fun _ _ _ h => h) ?_
            refine vd_val rfl rfl rfl (.some rfl) (val_load Tryd.isAgg33 rfl (by first | exact cell_cells (by repeat constructor) rfl | exact cell_rd (by first | exact rd_sl (by repeat constructor) | exact rd_old (by assumption) rfl) (by first | exact bcells_at (by omega) | exact ucells_at (by omega) | exact icells_at (by omega) | exact tcells_at (by omega) | exact bcells_get (by omega) | exact icells_get (by omega) | exact tcells_get (by omega) | exact ucells_get (by omega)) | exact cell_old (by assumption) (by simp [fps]))) ?_
            refine vd_val rfl rfl rfl (.some rfl) (val_move rfl) ?_
            refine vd_val rfl rfl rfl (.some rfl) (val_cutTo Tryd.runUnderlying33 Tryd.sizeOf5 rfl rfl (by omega) (by omega)) ?_
            refine vd_val rfl rfl rfl (.some rfl) (val_bytesToStr Tryd.runUnderlying33 Tryd.runUnderlying5 Tryd.runUnderlying9 rfl (rd_old hr4t rfl) (by rw [List.length_take]; omega)) ?_
            refine vd_val rfl rfl rfl (.some rfl) (val_load Tryd.isAgg33 rfl (by first | exact cell_cells (by repeat constructor) rfl | exact cell_rd (by first | exact rd_sl (by repeat constructor) | exact rd_old (by assumption) rfl) (by first | exact bcells_at (by omega) | exact ucells_at (by omega) | exact icells_at (by omega) | exact tcells_at (by omega) | exact bcells_get (by omega) | exact icells_get (by omega) | exact tcells_get (by omega) | exact ucells_get (by omega)) | exact cell_old (by assumption) (by simp [fps]))) ?_
            refine vd_val rfl rfl rfl (.some rfl) (val_move rfl) ?_
            refine vd_val rfl rfl rfl (.some rfl) (val_cutFrom Tryd.runUnderlying33 Tryd.sizeOf5 rfl rfl (by omega) (by omega)) ?_
            refine vd_val rfl rfl rfl (.some rfl) (by first | exact val_fieldAddr Tryd.runUnderlying25 rfl Tryd.sizeOf9 rfl | exact val_fieldAddrR Tryd.runUnderlying25 rfl Tryd.sizeOf9 rfl) ?_
            refine vd_op rfl rfl ?_
            first | refine vl_store rfl rfl .none rfl rfl Tryd.sizeOf9 rfl (by repeat constructor) (by first | decide | exact Nat.le_refl _ | exact Nat.le_of_ble_eq_true rfl | (simp; omega)) ?_ | refine vl_storeSl rfl rfl .none rfl rfl Tryd.sizeOf9 rfl (by simp [Value.cells]) (by repeat constructor) (by first | decide | (simp [Value.cells]; omega)) ?_
            refine vl_nil ?_
            refine ⟨fun _ => ⟨_, (by repeat (first | exact .nil | exact sub_self _ | exact sub_skip (sub_self _) | exact sub_skip (sub_skip (sub_self _)) | exact sub_skip (sub_skip (sub_skip (sub_self _))) | (apply Sub.cons; · repeat (first | exact .head | apply Take.tail))))⟩, ?_⟩
            refine vd_op rfl rfl ?_
            rw [Int.toNat_natCast, show ((b2.drop (getN b2).2).drop (getN (b2.drop (getN b2).2)).2).length - (getN (b2.drop (getN b2).2)).1 = (((b2.drop (getN b2).2).drop (getN (b2.drop (getN b2).2)).2).drop (getN (b2.drop (getN b2).2)).1).length from List.length_drop.symm]
            refine vl_store rfl rfl .none rfl rfl Tryd.sizeOf33 rfl (by repeat constructor) (Nat.le_refl _) ?_
            refine vl_nil ?_
            refine ⟨fun h => (by cases h), ?_⟩
            refine vd_nil ?_
            refine vc_seq ?_
            refine vc_region ?_
            refine vl_val rfl (.some rfl) (val_load Tryd.isAgg4 rfl (by first | exact cell_cells (by repeat constructor) rfl | exact cell_rd (by first | exact rd_sl (by repeat constructor) | exact rd_old (by assumption) rfl) (by first | exact bcells_at (by omega) | exact ucells_at (by omega) | exact icells_at (by omega) | exact tcells_at (by omega) | exact bcells_get (by omega) | exact icells_get (by omega) | exact tcells_get (by omega) | exact ucells_get (by omega)) | exact cell_old (by assumption) (by simp [fps]))) ?_
            refine vl_val rfl (.some rfl) (val_move rfl) ?_
            refine vl_split (t := 60) rfl (fun hg60 => ?_) (fun hg60 => ?_)
            · (try replace hg60 := of_decide_eq_true hg60)
              refine vl_off rfl rfl rfl rfl (.some rfl) ?_
              refine vl_off rfl rfl rfl rfl (.some rfl) ?_
              refine vl_off rfl rfl rfl rfl (.some rfl) ?_
              refine vl_val rfl (.some rfl) (val_pick rfl rfl) ?_
              first | refine vl_store rfl rfl .none rfl rfl Tryd.sizeOf4 rfl (by repeat constructor) (by first | decide | exact Nat.le_refl _ | exact Nat.le_of_ble_eq_true rfl | (simp; omega)) ?_ | refine vl_storeSl rfl rfl .none rfl rfl Tryd.sizeOf4 rfl (by simp [Value.cells]) (by repeat constructor) (by first | decide | (simp [Value.cells]; omega)) ?_
              refine vl_nil ?_
              refine vc_region ?_
              refine vl_val rfl (.some rfl) (val_move rfl) ?_
              refine vl_val rfl (.some rfl) (val_loadAgg Tryd.isAgg25 Tryd.sizeOf25 rfl (by first | exact cells_whole (by repeat constructor) | exact cells_part (by repeat constructor) rfl) rfl) ?_
              refine vl_lit sT22 rfl rfl (.some rfl) rfl rfl rfl (by decide) (by decide) rfl rfl (fun r67 => ?_)
              first
                | (have _g := hz0; refine vl_append (us := flat [numK (getN b2).1 0]) sT22 rfl rfl (.some rfl) rfl rfl (rd_sl (by repeat constructor)) rfl rfl (by omega) (by omega) (by repeat constructor) (fun A68 k68 => ?_); rw [vk_flat1, show acc.length + 1 = (acc ++ [numK (getN b2).1 0]).length by simp])
                | (have _g := hn0; refine vl_append (us := flat [numK (getN b2).1 (zagS (getN (b2.drop (getN b2).2)).1)]) sT22 rfl rfl (.some rfl) rfl rfl (rd_sl (by repeat constructor)) rfl rfl (by omega) (by omega) (by repeat constructor) (fun A68 k68 => ?_); rw [vk_flat1, show acc.length + 1 = (acc ++ [numK (getN b2).1 (zagS (getN (b2.drop (getN b2).2)).1)]).length by simp])
                | (have _g := hs3; refine vl_append (us := flat [(⟨((min (getN b2).1 9 : Nat) : Int), 0, txtV (((b2.drop (getN b2).2).drop (getN (b2.drop (getN b2).2)).2).take (getN (b2.drop (getN b2).2)).1)⟩ : Vk)]) sT22 rfl rfl (.some rfl) rfl rfl (rd_sl (by repeat constructor)) rfl rfl (by omega) (by omega) (by repeat constructor) (fun A68 k68 => ?_); rw [vk_flat1, show acc.length + 1 = (acc ++ [(⟨((min (getN b2).1 9 : Nat) : Int), 0, txtV (((b2.drop (getN b2).2).drop (getN (b2.drop (getN b2).2)).2).take (getN (b2.drop (getN b2).2)).1)⟩ : Vk)]).length by simp])
              refine vl_val rfl (.some rfl) (val_assign rfl) ?_
              refine vl_nil ?_
              refine vc_region ?_
              refine vl_val rfl (.some rfl) (val_move rfl) ?_
              refine vl_val rfl (.some rfl) (val_add rfl rfl (by first | exact w_u64 (by omega) (by omega) | rfl)) ?_
              refine vl_val rfl (.some rfl) (val_assign rfl) ?_
              refine vl_nil ?_
              first
                | exact ⟨if (true) = true then 0 else ((b2.drop (getN b2).2)).length + 1, _, _, _, (by show _ < b2.length + 1; rw [if_pos rfl]; omega), (by repeat (first | exact trivial | refine ⟨rfl, ?_⟩ | refine ⟨le_item rfl (by first | rfl | (congr 1; omega) | (simp; done) | (simp; omega)), ?_⟩)), (by repeat constructor), ⟨i + 1, (cutA A2 c2 (getN b2).2 1), (c2 - (getN b2).2), (b2.drop (getN b2).2), true, acc ++ [numK (getN b2).1 0], A68, k68, hr3, by omega, by omega, st_step hst (by omega) (fun _ => by rw [one_null hu0]; exact if_pos (by simpa using hg60)) (fun h => (by cases h)), by rw [List.length_append, if_pos rfl]; show acc.length + 1 + 0 ≤ _; omega, rfl, rfl, rfl⟩⟩
                | exact ⟨if (!goodV (numK (getN b2).1 0)) = true then 0 else ((b2.drop (getN b2).2)).length + 1, _, _, _, (by show _ < b2.length + 1; have h9 := hg60; (try simp at h9); split <;> omega), (by repeat (first | exact trivial | refine ⟨rfl, ?_⟩ | refine ⟨le_item rfl (by first | rfl | (congr 1; omega) | (simp; done) | (simp; omega)), ?_⟩)), (by repeat constructor), ⟨i + 1, (cutA A2 c2 (getN b2).2 1), (c2 - (getN b2).2), (b2.drop (getN b2).2), !goodV (numK (getN b2).1 0), acc ++ [numK (getN b2).1 0], A68, k68, hr3, by omega, by omega, st_step hst (by omega) (fun h => by have e0 : numK (getN b2).1 0 = z3 := (by unfold numK; rw [hu0]; first | rfl | skip); rw [e0, show goodV z3 = true by decide] at h; cases h) (fun _ => by have e0 : numK (getN b2).1 0 = z3 := (by unfold numK; rw [hu0]; first | rfl | skip); rw [one_null hu0, e0]; exact if_neg (by simpa using hg60)), by have h9 := hg60; (try simp at h9); rw [List.length_append, show [numK (getN b2).1 0].length = 1 from rfl]; split <;> omega, rfl, rfl, rfl⟩⟩
                | exact ⟨if (true) = true then 0 else (((b2.drop (getN b2).2).drop (getN (b2.drop (getN b2).2)).2)).length + 1, _, _, _, (by show _ < b2.length + 1; rw [if_pos rfl]; omega), (by repeat (first | exact trivial | refine ⟨rfl, ?_⟩ | refine ⟨le_item rfl (by first | rfl | (congr 1; omega) | (simp; done) | (simp; omega)), ?_⟩)), (by repeat constructor), ⟨i + 1, (cutA (cutA A2 c2 (getN b2).2 1) (c2 - (getN b2).2) (getN (b2.drop (getN b2).2)).2 1), ((c2 - (getN b2).2) - (getN (b2.drop (getN b2).2)).2), ((b2.drop (getN b2).2).drop (getN (b2.drop (getN b2).2)).2), true, acc ++ [numK (getN b2).1 (zagS (getN (b2.drop (getN b2).2)).1)], A68, k68, hr4, by omega, by omega, st_step hst (by omega) (fun _ => by rw [one_num hu0 hu3]; exact if_pos (by have h9 := hg60; (try simp at h9); rcases h9 with h9 | h9; exact .inl h9; exact .inr (.inl h9))) (fun h => (by cases h)), by rw [List.length_append, if_pos rfl]; show acc.length + 1 + 0 ≤ _; omega, rfl, rfl, rfl⟩⟩
                | exact ⟨if (!goodV (numK (getN b2).1 (zagS (getN (b2.drop (getN b2).2)).1))) = true then 0 else (((b2.drop (getN b2).2).drop (getN (b2.drop (getN b2).2)).2)).length + 1, _, _, _, (by show _ < b2.length + 1; have h9 := hg60; (try simp at h9); split <;> omega), (by repeat (first | exact trivial | refine ⟨rfl, ?_⟩ | refine ⟨le_item rfl (by first | rfl | (congr 1; omega) | (simp; done) | (simp; omega)), ?_⟩)), (by repeat constructor), ⟨i + 1, (cutA (cutA A2 c2 (getN b2).2 1) (c2 - (getN b2).2) (getN (b2.drop (getN b2).2)).2 1), ((c2 - (getN b2).2) - (getN (b2.drop (getN b2).2)).2), ((b2.drop (getN b2).2).drop (getN (b2.drop (getN b2).2)).2), !goodV (numK (getN b2).1 (zagS (getN (b2.drop (getN b2).2)).1)), acc ++ [numK (getN b2).1 (zagS (getN (b2.drop (getN b2).2)).1)], A68, k68, hr4, by omega, by omega, st_step hst (by omega) (fun h => by rw [one_num hu0 hu3]; exact if_pos (.inr (.inr (by simpa using h)))) (fun h => by rw [one_num hu0 hu3]; exact if_neg (by have h9 := hg60; (try simp at h9); rintro (h1 | h1 | h1); exact h9.1 h1; exact h9.2 h1; rw [h1] at h; cases h)), by have h9 := hg60; (try simp at h9); rw [List.length_append, show [numK (getN b2).1 (zagS (getN (b2.drop (getN b2).2)).1)].length = 1 from rfl]; split <;> omega, rfl, rfl, rfl⟩⟩
                | exact ⟨if (true) = true then 0 else ((((b2.drop (getN b2).2).drop (getN (b2.drop (getN b2).2)).2).drop (getN (b2.drop (getN b2).2)).1)).length + 1, _, _, _, (by show _ < b2.length + 1; rw [if_pos rfl]; omega), (by repeat (first | exact trivial | refine ⟨rfl, ?_⟩ | refine ⟨le_item rfl (by first | rfl | (congr 1; omega) | (simp; done) | (simp; omega)), ?_⟩)), (by repeat constructor), ⟨i + 1, (cutA (cutA (cutA A2 c2 (getN b2).2 1) (c2 - (getN b2).2) (getN (b2.drop (getN b2).2)).2 1) ((c2 - (getN b2).2) - (getN (b2.drop (getN b2).2)).2) (getN (b2.drop (getN b2).2)).1 1), (((c2 - (getN b2).2) - (getN (b2.drop (getN b2).2)).2) - (getN (b2.drop (getN b2).2)).1), (((b2.drop (getN b2).2).drop (getN (b2.drop (getN b2).2)).2).drop (getN (b2.drop (getN b2).2)).1), true, acc ++ [(⟨((min (getN b2).1 9 : Nat) : Int), 0, txtV (((b2.drop (getN b2).2).drop (getN (b2.drop (getN b2).2)).2).take (getN (b2.drop (getN b2).2)).1)⟩ : Vk)], A68, k68, (reads_cutB hr4 (show ((b2.drop (getN b2).2).drop (getN (b2.drop (getN b2).2)).2).length ≤ ((c2 - (getN b2).2) - (getN (b2.drop (getN b2).2)).2) by omega)), by omega, by omega, st_step hst (by omega) (fun _ => by rw [one_str hu3]; exact if_pos (by have h9 := hg60; (try simp at h9); rcases h9 with h9 | h9; exact .inl h9; exact .inr (.inl h9))) (fun h => (by cases h)), by rw [List.length_append, if_pos rfl]; show acc.length + 1 + 0 ≤ _; omega, rfl, rfl, rfl⟩⟩
                | exact ⟨if (!goodV ((⟨((min (getN b2).1 9 : Nat) : Int), 0, txtV (((b2.drop (getN b2).2).drop (getN (b2.drop (getN b2).2)).2).take (getN (b2.drop (getN b2).2)).1)⟩ : Vk))) = true then 0 else ((((b2.drop (getN b2).2).drop (getN (b2.drop (getN b2).2)).2).drop (getN (b2.drop (getN b2).2)).1)).length + 1, _, _, _, (by show _ < b2.length + 1; have h9 := hg60; (try simp at h9); split <;> omega), (by repeat (first | exact trivial | refine ⟨rfl, ?_⟩ | refine ⟨le_item rfl (by first | rfl | (congr 1; omega) | (simp; done) | (simp; omega)), ?_⟩)), (by repeat constructor), ⟨i + 1, (cutA (cutA (cutA A2 c2 (getN b2).2 1) (c2 - (getN b2).2) (getN (b2.drop (getN b2).2)).2 1) ((c2 - (getN b2).2) - (getN (b2.drop (getN b2).2)).2) (getN (b2.drop (getN b2).2)).1 1), (((c2 - (getN b2).2) - (getN (b2.drop (getN b2).2)).2) - (getN (b2.drop (getN b2).2)).1), (((b2.drop (getN b2).2).drop (getN (b2.drop (getN b2).2)).2).drop (getN (b2.drop (getN b2).2)).1), !goodV ((⟨((min (getN b2).1 9 : Nat) : Int), 0, txtV (((b2.drop (getN b2).2).drop (getN (b2.drop (getN b2).2)).2).take (getN (b2.drop (getN b2).2)).1)⟩ : Vk)), acc ++ [(⟨((min (getN b2).1 9 : Nat) : Int), 0, txtV (((b2.drop (getN b2).2).drop (getN (b2.drop (getN b2).2)).2).take (getN (b2.drop (getN b2).2)).1)⟩ : Vk)], A68, k68, (reads_cutB hr4 (show ((b2.drop (getN b2).2).drop (getN (b2.drop (getN b2).2)).2).length ≤ ((c2 - (getN b2).2) - (getN (b2.drop (getN b2).2)).2) by omega)), by omega, by omega, st_step hst (by omega) (fun h => by have e2 : (⟨((min (getN b2).1 9 : Nat) : Int), 0, txtV (((b2.drop (getN b2).2).drop (getN (b2.drop (getN b2).2)).2).take (getN (b2.drop (getN b2).2)).1)⟩ : Vk) = ⟨3, 0, txtV (((b2.drop (getN b2).2).drop (getN (b2.drop (getN b2).2)).2).take (getN (b2.drop (getN b2).2)).1)⟩ := (by rw [hu3]; first | rfl | skip); rw [e2, good_txt (by rw [List.length_take]; omega)] at h; cases h) (fun _ => by have e2 : (⟨((min (getN b2).1 9 : Nat) : Int), 0, txtV (((b2.drop (getN b2).2).drop (getN (b2.drop (getN b2).2)).2).take (getN (b2.drop (getN b2).2)).1)⟩ : Vk) = ⟨3, 0, txtV (((b2.drop (getN b2).2).drop (getN (b2.drop (getN b2).2)).2).take (getN (b2.drop (getN b2).2)).1)⟩ := (by rw [hu3]; first | rfl | skip); rw [one_str hu3, e2]; exact if_neg (by have h9 := hg60; (try simp at h9); rintro (h1 | h1 | h1 | h1); exact h9.1 h1; exact h9.2 h1; omega; omega)), by have h9 := hg60; (try simp at h9); rw [List.length_append, show [(⟨((min (getN b2).1 9 : Nat) : Int), 0, txtV (((b2.drop (getN b2).2).drop (getN (b2.drop (getN b2).2)).2).take (getN (b2.drop (getN b2).2)).1)⟩ : Vk)].length = 1 from rfl]; split <;> omega, rfl, rfl, rfl⟩⟩
            · (try replace hg60 := of_decide_eq_false hg60)
              refine vl_on rfl rfl rfl rfl ?_
              refine vl_val rfl (.some rfl) (val_loadAgg Tryd.isAgg25 Tryd.sizeOf25 rfl (by first | exact cells_whole (by repeat constructor) | exact cells_part (by repeat constructor) rfl) rfl) ?_
              refine vl_on rfl rfl rfl rfl ?_
              first
                | (have _g := hz0; refine vl_callV rfl rfl (.some rfl) Tryd.call5 rfl (fun w hw => vGood (numK (getN b2).1 0) w) ?_)
                | (have _g := hn0; refine vl_callV rfl rfl (.some rfl) Tryd.call5 rfl (fun w hw => vGood (numK (getN b2).1 (zagS (getN (b2.drop (getN b2).2)).1)) w) ?_)
                | (have _g := hs3; refine vl_callV rfl rfl (.some rfl) Tryd.call5 rfl (fun w hw => vGood ((⟨((min (getN b2).1 9 : Nat) : Int), 0, txtV (((b2.drop (getN b2).2).drop (getN (b2.drop (getN b2).2)).2).take (getN (b2.drop (getN b2).2)).1)⟩ : Vk)) w) ?_)
              refine vl_on rfl rfl rfl rfl ?_
              refine vl_val rfl (.some rfl) (val_not rfl) ?_
              refine vl_val rfl (.some rfl) (val_pick rfl rfl) ?_
              first | refine vl_store rfl rfl .none rfl rfl Tryd.sizeOf4 rfl (by repeat constructor) (by first | decide | exact Nat.le_refl _ | exact Nat.le_of_ble_eq_true rfl | (simp; omega)) ?_ | refine vl_storeSl rfl rfl .none rfl rfl Tryd.sizeOf4 rfl (by simp [Value.cells]) (by repeat constructor) (by first | decide | (simp [Value.cells]; omega)) ?_
              refine vl_nil ?_
              refine vc_region ?_
              refine vl_val rfl (.some rfl) (val_move rfl) ?_
              refine vl_val rfl (.some rfl) (val_loadAgg Tryd.isAgg25 Tryd.sizeOf25 rfl (by first | exact cells_whole (by repeat constructor) | exact cells_part (by repeat constructor) rfl) rfl) ?_
              refine vl_lit sT22 rfl rfl (.some rfl) rfl rfl rfl (by decide) (by decide) rfl rfl (fun r67 => ?_)
              first
                | (have _g := hz0; refine vl_append (us := flat [numK (getN b2).1 0]) sT22 rfl rfl (.some rfl) rfl rfl (rd_sl (by repeat constructor)) rfl rfl (by omega) (by omega) (by repeat constructor) (fun A68 k68 => ?_); rw [vk_flat1, show acc.length + 1 = (acc ++ [numK (getN b2).1 0]).length by simp])
                | (have _g := hn0; refine vl_append (us := flat [numK (getN b2).1 (zagS (getN (b2.drop (getN b2).2)).1)]) sT22 rfl rfl (.some rfl) rfl rfl (rd_sl (by repeat constructor)) rfl rfl (by omega) (by omega) (by repeat constructor) (fun A68 k68 => ?_); rw [vk_flat1, show acc.length + 1 = (acc ++ [numK (getN b2).1 (zagS (getN (b2.drop (getN b2).2)).1)]).length by simp])
                | (have _g := hs3; refine vl_append (us := flat [(⟨((min (getN b2).1 9 : Nat) : Int), 0, txtV (((b2.drop (getN b2).2).drop (getN (b2.drop (getN b2).2)).2).take (getN (b2.drop (getN b2).2)).1)⟩ : Vk)]) sT22 rfl rfl (.some rfl) rfl rfl (rd_sl (by repeat constructor)) rfl rfl (by omega) (by omega) (by repeat constructor) (fun A68 k68 => ?_); rw [vk_flat1, show acc.length + 1 = (acc ++ [(⟨((min (getN b2).1 9 : Nat) : Int), 0, txtV (((b2.drop (getN b2).2).drop (getN (b2.drop (getN b2).2)).2).take (getN (b2.drop (getN b2).2)).1)⟩ : Vk)]).length by simp])
              refine vl_val rfl (.some rfl) (val_assign rfl) ?_
              refine vl_nil ?_
              refine vc_region ?_
              refine vl_val rfl (.some rfl) (val_move rfl) ?_
              refine vl_val rfl (.some rfl) (val_add rfl rfl (by first | exact w_u64 (by omega) (by omega) | rfl)) ?_
              refine vl_val rfl (.some rfl) (val_assign rfl) ?_
              refine vl_nil ?_
              first
                | exact ⟨if (true) = true then 0 else ((b2.drop (getN b2).2)).length + 1, _, _, _, (by show _ < b2.length + 1; rw [if_pos rfl]; omega), (by repeat (first | exact trivial | refine ⟨rfl, ?_⟩ | refine ⟨le_item rfl (by first | rfl | (congr 1; omega) | (simp; done) | (simp; omega)), ?_⟩)), (by repeat constructor), ⟨i + 1, (cutA A2 c2 (getN b2).2 1), (c2 - (getN b2).2), (b2.drop (getN b2).2), true, acc ++ [numK (getN b2).1 0], A68, k68, hr3, by omega, by omega, st_step hst (by omega) (fun _ => by rw [one_null hu0]; exact if_pos (by simpa using hg60)) (fun h => (by cases h)), by rw [List.length_append, if_pos rfl]; show acc.length + 1 + 0 ≤ _; omega, rfl, rfl, rfl⟩⟩
                | exact ⟨if (!goodV (numK (getN b2).1 0)) = true then 0 else ((b2.drop (getN b2).2)).length + 1, _, _, _, (by show _ < b2.length + 1; have h9 := hg60; (try simp at h9); split <;> omega), (by repeat (first | exact trivial | refine ⟨rfl, ?_⟩ | refine ⟨le_item rfl (by first | rfl | (congr 1; omega) | (simp; done) | (simp; omega)), ?_⟩)), (by repeat constructor), ⟨i + 1, (cutA A2 c2 (getN b2).2 1), (c2 - (getN b2).2), (b2.drop (getN b2).2), !goodV (numK (getN b2).1 0), acc ++ [numK (getN b2).1 0], A68, k68, hr3, by omega, by omega, st_step hst (by omega) (fun h => by have e0 : numK (getN b2).1 0 = z3 := (by unfold numK; rw [hu0]; first | rfl | skip); rw [e0, show goodV z3 = true by decide] at h; cases h) (fun _ => by have e0 : numK (getN b2).1 0 = z3 := (by unfold numK; rw [hu0]; first | rfl | skip); rw [one_null hu0, e0]; exact if_neg (by simpa using hg60)), by have h9 := hg60; (try simp at h9); rw [List.length_append, show [numK (getN b2).1 0].length = 1 from rfl]; split <;> omega, rfl, rfl, rfl⟩⟩
                | exact ⟨if (true) = true then 0 else (((b2.drop (getN b2).2).drop (getN (b2.drop (getN b2).2)).2)).length + 1, _, _, _, (by show _ < b2.length + 1; rw [if_pos rfl]; omega), (by repeat (first | exact trivial | refine ⟨rfl, ?_⟩ | refine ⟨le_item rfl (by first | rfl | (congr 1; omega) | (simp; done) | (simp; omega)), ?_⟩)), (by repeat constructor), ⟨i + 1, (cutA (cutA A2 c2 (getN b2).2 1) (c2 - (getN b2).2) (getN (b2.drop (getN b2).2)).2 1), ((c2 - (getN b2).2) - (getN (b2.drop (getN b2).2)).2), ((b2.drop (getN b2).2).drop (getN (b2.drop (getN b2).2)).2), true, acc ++ [numK (getN b2).1 (zagS (getN (b2.drop (getN b2).2)).1)], A68, k68, hr4, by omega, by omega, st_step hst (by omega) (fun _ => by rw [one_num hu0 hu3]; exact if_pos (by have h9 := hg60; (try simp at h9); rcases h9 with h9 | h9; exact .inl h9; exact .inr (.inl h9))) (fun h => (by cases h)), by rw [List.length_append, if_pos rfl]; show acc.length + 1 + 0 ≤ _; omega, rfl, rfl, rfl⟩⟩
                | exact ⟨if (!goodV (numK (getN b2).1 (zagS (getN (b2.drop (getN b2).2)).1))) = true then 0 else (((b2.drop (getN b2).2).drop (getN (b2.drop (getN b2).2)).2)).length + 1, _, _, _, (by show _ < b2.length + 1; have h9 := hg60; (try simp at h9); split <;> omega), (by repeat (first | exact trivial | refine ⟨rfl, ?_⟩ | refine ⟨le_item rfl (by first | rfl | (congr 1; omega) | (simp; done) | (simp; omega)), ?_⟩)), (by repeat constructor), ⟨i + 1, (cutA (cutA A2 c2 (getN b2).2 1) (c2 - (getN b2).2) (getN (b2.drop (getN b2).2)).2 1), ((c2 - (getN b2).2) - (getN (b2.drop (getN b2).2)).2), ((b2.drop (getN b2).2).drop (getN (b2.drop (getN b2).2)).2), !goodV (numK (getN b2).1 (zagS (getN (b2.drop (getN b2).2)).1)), acc ++ [numK (getN b2).1 (zagS (getN (b2.drop (getN b2).2)).1)], A68, k68, hr4, by omega, by omega, st_step hst (by omega) (fun h => by rw [one_num hu0 hu3]; exact if_pos (.inr (.inr (by simpa using h)))) (fun h => by rw [one_num hu0 hu3]; exact if_neg (by have h9 := hg60; (try simp at h9); rintro (h1 | h1 | h1); exact h9.1 h1; exact h9.2 h1; rw [h1] at h; cases h)), by have h9 := hg60; (try simp at h9); rw [List.length_append, show [numK (getN b2).1 (zagS (getN (b2.drop (getN b2).2)).1)].length = 1 from rfl]; split <;> omega, rfl, rfl, rfl⟩⟩
                | exact ⟨if (true) = true then 0 else ((((b2.drop (getN b2).2).drop (getN (b2.drop (getN b2).2)).2).drop (getN (b2.drop (getN b2).2)).1)).length + 1, _, _, _, (by show _ < b2.length + 1; rw [if_pos rfl]; omega), (by repeat (first | exact trivial | refine ⟨rfl, ?_⟩ | refine ⟨le_item rfl (by first | rfl | (congr 1; omega) | (simp; done) | (simp; omega)), ?_⟩)), (by repeat constructor), ⟨i + 1, (cutA (cutA (cutA A2 c2 (getN b2).2 1) (c2 - (getN b2).2) (getN (b2.drop (getN b2).2)).2 1) ((c2 - (getN b2).2) - (getN (b2.drop (getN b2).2)).2) (getN (b2.drop (getN b2).2)).1 1), (((c2 - (getN b2).2) - (getN (b2.drop (getN b2).2)).2) - (getN (b2.drop (getN b2).2)).1), (((b2.drop (getN b2).2).drop (getN (b2.drop (getN b2).2)).2).drop (getN (b2.drop (getN b2).2)).1), true, acc ++ [(⟨((min (getN b2).1 9 : Nat) : Int), 0, txtV (((b2.drop (getN b2).2).drop (getN (b2.drop (getN b2).2)).2).take (getN (b2.drop (getN b2).2)).1)⟩ : Vk)], A68, k68, (reads_cutB hr4 (show ((b2.drop (getN b2).2).drop (getN (b2.drop (getN b2).2)).2).length ≤ ((c2 - (getN b2).2) - (getN (b2.drop (getN b2).2)).2) by omega)), by omega, by omega, st_step hst (by omega) (fun _ => by rw [one_str hu3]; exact if_pos (by have h9 := hg60; (try simp at h9); rcases h9 with h9 | h9; exact .inl h9; exact .inr (.inl h9))) (fun h => (by cases h)), by rw [List.length_append, if_pos rfl]; show acc.length + 1 + 0 ≤ _; omega, rfl, rfl, rfl⟩⟩
                | exact ⟨if (!goodV ((⟨((min (getN b2).1 9 : Nat) : Int), 0, txtV (((b2.drop (getN b2).2).drop (getN (b2.drop (getN b2).2)).2).take (getN (b2.drop (getN b2).2)).1)⟩ : Vk))) = true then 0 else ((((b2.drop (getN b2).2).drop (getN (b2.drop (getN b2).2)).2).drop (getN (b2.drop (getN b2).2)).1)).length + 1, _, _, _, (by show _ < b2.length + 1; have h9 := hg60; (try simp at h9); split <;> omega), (by repeat (first | exact trivial | refine ⟨rfl, ?_⟩ | refine ⟨le_item rfl (by first | rfl | (congr 1; omega) | (simp; done) | (simp; omega)), ?_⟩)), (by repeat constructor), ⟨i + 1, (cutA (cutA (cutA A2 c2 (getN b2).2 1) (c2 - (getN b2).2) (getN (b2.drop (getN b2).2)).2 1) ((c2 - (getN b2).2) - (getN (b2.drop (getN b2).2)).2) (getN (b2.drop (getN b2).2)).1 1), (((c2 - (getN b2).2) - (getN (b2.drop (getN b2).2)).2) - (getN (b2.drop (getN b2).2)).1), (((b2.drop (getN b2).2).drop (getN (b2.drop (getN b2).2)).2).drop (getN (b2.drop (getN b2).2)).1), !goodV ((⟨((min (getN b2).1 9 : Nat) : Int), 0, txtV (((b2.drop (getN b2).2).drop (getN (b2.drop (getN b2).2)).2).take (getN (b2.drop (getN b2).2)).1)⟩ : Vk)), acc ++ [(⟨((min (getN b2).1 9 : Nat) : Int), 0, txtV (((b2.drop (getN b2).2).drop (getN (b2.drop (getN b2).2)).2).take (getN (b2.drop (getN b2).2)).1)⟩ : Vk)], A68, k68, (reads_cutB hr4 (show ((b2.drop (getN b2).2).drop (getN (b2.drop (getN b2).2)).2).length ≤ ((c2 - (getN b2).2) - (getN (b2.drop (getN b2).2)).2) by omega)), by omega, by omega, st_step hst (by omega) (fun h => by have e2 : (⟨((min (getN b2).1 9 : Nat) : Int), 0, txtV (((b2.drop (getN b2).2).drop (getN (b2.drop (getN b2).2)).2).take (getN (b2.drop (getN b2).2)).1)⟩ : Vk) = ⟨3, 0, txtV (((b2.drop (getN b2).2).drop (getN (b2.drop (getN b2).2)).2).take (getN (b2.drop (getN b2).2)).1)⟩ := (by rw [hu3]; first | rfl | skip); rw [e2, good_txt (by rw [List.length_take]; omega)] at h; cases h) (fun _ => by have e2 : (⟨((min (getN b2).1 9 : Nat) : Int), 0, txtV (((b2.drop (getN b2).2).drop (getN (b2.drop (getN b2).2)).2).take (getN (b2.drop (getN b2).2)).1)⟩ : Vk) = ⟨3, 0, txtV (((b2.drop (getN b2).2).drop (getN (b2.drop (getN b2).2)).2).take (getN (b2.drop (getN b2).2)).1)⟩ := (by rw [hu3]; first | rfl | skip); rw [one_str hu3, e2]; exact if_neg (by have h9 := hg60; (try simp at h9); rintro (h1 | h1 | h1 | h1); exact h9.1 h1; exact h9.2 h1; omega; omega)), by have h9 := hg60; (try simp at h9); rw [List.length_append, show [(⟨((min (getN b2).1 9 : Nat) : Int), 0, txtV (((b2.drop (getN b2).2).drop (getN (b2.drop (getN b2).2)).2).take (getN (b2.drop (getN b2).2)).1)⟩ : Vk)].length = 1 from rfl]; split <;> omega, rfl, rfl, rfl⟩⟩
      · (try replace hc1 := of_decide_eq_false hc1)
        have hu3 : (getN b2).1 ≠ 3 := by omega
        refine vc_seq ?_
        refine vc_region ?_
        refine vl_val rfl (.some rfl) (by first | exact val_fieldAddr Tryd.runUnderlying25 rfl Tryd.sizeOf3 rfl | exact val_fieldAddrR Tryd.runUnderlying25 rfl Tryd.sizeOf3 rfl) ?_
        refine vl_val rfl (.some rfl) (val_load Tryd.isAgg3 rfl (by first | exact cell_cells (by repeat constructor) rfl | exact cell_rd (by first | exact rd_sl (by repeat constructor) | exact rd_old (by assumption) rfl) (by first | exact bcells_at (by omega) | exact ucells_at (by omega) | exact icells_at (by omega) | exact tcells_at (by omega) | exact bcells_get (by omega) | exact icells_get (by omega) | exact tcells_get (by omega) | exact ucells_get (by omega)) | exact cell_old (by assumption) (by simp [fps]))) ?_
        refine vl_val rfl (.some rfl) (val_ne rfl rfl) ?_
        refine vl_val rfl (.some rfl) (val_assign rfl) ?_
        refine vl_nil ?_
        refine vc_cond rfl (fun hc3 => ?_) (fun hc3 => ?_)
        · (try replace hc3 := of_decide_eq_true hc3)
          have hu0 : (getN b2).1 ≠ 0 := by omega
          have hn0 := hu0
          refine vc_region ?_
          refine vl_val rfl (.some rfl) (val_move rfl) ?_
          refine vl_callv (C := [cells r1 [.slice (cutA A2 c2 (getN b2).2 1) ((b2.drop (getN b2).2)).length (c2 - (getN b2).2)] 33, cells r4 [.bool (false || decide ((getN b2).2 = 0))] 4]) (fs := []) (cs := [.pointer (some ⟨r1, 0, none⟩), .pointer (some ⟨r4, 0, none⟩)]) (args := []) rfl rfl (.some rfl) rfl Tryd.call20 rfl (by repeat constructor) (fun w' hw => vNext r1 r4 ((cutA A2 c2 (getN b2).2 1)) ((c2 - (getN b2).2)) ((b2.drop (getN b2).2)) (false || decide ((getN b2).2 = 0)) (by omega) (by omega) w' (reads_callee hr3 rfl (by repeat constructor) hw)) (fun v H' h => ?_)
          obtain ⟨rfl, rfl⟩ := h
          show VL _ _ _ _ _ (_ :: _ :: _)
          refine vl_callV rfl rfl (.some rfl) Tryd.call22 rfl (fun w hw => cZag _ (by omega) w) ?_
          refine vl_val rfl (.some rfl) (by first | exact val_fieldAddr Tryd.runUnderlying25 rfl Tryd.sizeOf3 rfl | exact val_fieldAddrR Tryd.runUnderlying25 rfl Tryd.sizeOf3 rfl) ?_
          first | refine vl_store rfl rfl .none rfl rfl Tryd.sizeOf3 rfl (by repeat constructor) (by first | decide | exact Nat.le_refl _ | exact Nat.le_of_ble_eq_true rfl | (simp; omega)) ?_ | refine vl_storeSl rfl rfl .none rfl rfl Tryd.sizeOf3 rfl (by simp [Value.cells]) (by repeat constructor) (by first | decide | (simp [Value.cells]; omega)) ?_
          refine vl_nil ?_
          refine vc_seq ?_
          refine vc_region ?_
          refine vl_val rfl (.some rfl) (val_load Tryd.isAgg4 rfl (by first | exact cell_cells (by repeat constructor) rfl | exact cell_rd (by first | exact rd_sl (by repeat constructor) | exact rd_old (by assumption) rfl) (by first | exact bcells_at (by omega) | exact ucells_at (by omega) | exact icells_at (by omega) | exact tcells_at (by omega) | exact bcells_get (by omega) | exact icells_get (by omega) | exact tcells_get (by omega) | exact ucells_get (by omega)) | exact cell_old (by assumption) (by simp [fps]))) ?_
          refine vl_val rfl (.some rfl) (val_move rfl) ?_
          refine vl_split (t := 60) rfl (fun hg60 => ?_) (fun hg60 => ?_)
          · (try replace hg60 := of_decide_eq_true hg60)
            refine vl_off rfl rfl rfl rfl (.some rfl) ?_
            refine vl_off rfl rfl rfl rfl (.some rfl) ?_
            refine vl_off rfl rfl rfl rfl (.some rfl) ?_
            refine vl_val rfl (.some rfl) (val_pick rfl rfl) ?_
            first | refine vl_store rfl rfl .none rfl rfl Tryd.sizeOf4 rfl (by repeat constructor) (by first | decide | exact Nat.le_refl _ | exact Nat.le_of_ble_eq_true rfl | (simp; omega)) ?_ | refine vl_storeSl rfl rfl .none rfl rfl Tryd.sizeOf4 rfl (by simp [Value.cells]) (by repeat constructor) (by first | decide | (simp [Value.cells]; omega)) ?_
            refine vl_nil ?_
            refine vc_region ?_
            refine vl_val rfl (.some rfl) (val_move rfl) ?_
            refine vl_val rfl (.some rfl) (val_loadAgg Tryd.isAgg25 Tryd.sizeOf25 rfl (by first | exact cells_whole (by repeat constructor) | exact cells_part (by repeat constructor) rfl) rfl) ?_
            refine vl_lit sT22 rfl rfl (.some rfl) rfl rfl rfl (by decide) (by decide) rfl rfl (fun r67 => ?_)
            first
              | (have _g := hz0; refine vl_append (us := flat [numK (getN b2).1 0]) sT22 rfl rfl (.some rfl) rfl rfl (rd_sl (by repeat constructor)) rfl rfl (by omega) (by omega) (by repeat constructor) (fun A68 k68 => ?_); rw [vk_flat1, show acc.length + 1 = (acc ++ [numK (getN b2).1 0]).length by simp])
              | (have _g := hn0; refine vl_append (us := flat [numK (getN b2).1 (zagS (getN (b2.drop (getN b2).2)).1)]) sT22 rfl rfl (.some rfl) rfl rfl (rd_sl (by repeat constructor)) rfl rfl (by omega) (by omega) (by repeat constructor) (fun A68 k68 => ?_); rw [vk_flat1, show acc.length + 1 = (acc ++ [numK (getN b2).1 (zagS (getN (b2.drop (getN b2).2)).1)]).length by simp])
              | (have _g := hs3; refine vl_append (us := flat [(⟨((min (getN b2).1 9 : Nat) : Int), 0, txtV (((b2.drop (getN b2).2).drop (getN (b2.drop (getN b2).2)).2).take (getN (b2.drop (getN b2).2)).1)⟩ : Vk)]) sT22 rfl rfl (.some rfl) rfl rfl (rd_sl (by repeat constructor)) rfl rfl (by omega) (by omega) (by repeat constructor) (fun A68 k68 => ?_); rw [vk_flat1, show acc.length + 1 = (acc ++ [(⟨((min (getN b2).1 9 : Nat) : Int), 0, txtV (((b2.drop (getN b2).2).drop (getN (b2.drop (getN b2).2)).2).take (getN (b2.drop (getN b2).2)).1)⟩ : Vk)]).length by simp])
            refine vl_val rfl (.some rfl) (val_assign rfl) ?_
            refine vl_nil ?_
            refine vc_region ?_
            refine vl_val rfl (.some rfl) (val_move rfl) ?_
            refine vl_val rfl (.some rfl) (val_add rfl rfl (by first | exact w_u64 (by omega) (by omega) | rfl)) ?_
            refine vl_val rfl (.some rfl) (val_assign rfl) ?_
            refine vl_nil ?_
            first
              | exact ⟨if (true) = true then 0 else ((b2.drop (getN b2).2)).length + 1, _, _, _, (by show _ < b2.length + 1; rw [if_pos rfl]; omega), (by repeat (first | exact trivial | refine ⟨rfl, ?_⟩ | refine ⟨le_item rfl (by first | rfl | (congr 1; omega) | (simp; done) | (simp; omega)), ?_⟩)), (by repeat constructor), ⟨i + 1, (cutA A2 c2 (getN b2).2 1), (c2 - (getN b2).2), (b2.drop (getN b2).2), true, acc ++ [numK (getN b2).1 0], A68, k68, hr3, by omega, by omega, st_step hst (by omega) (fun _ => by rw [one_null hu0]; exact if_pos (by simpa using hg60)) (fun h => (by cases h)), by rw [List.length_append, if_pos rfl]; show acc.length + 1 + 0 ≤ _; omega, rfl, rfl, rfl⟩⟩
              | exact ⟨if (!goodV (numK (getN b2).1 0)) = true then 0 else ((b2.drop (getN b2).2)).length + 1, _, _, _, (by show _ < b2.length + 1; have h9 := hg60; (try simp at h9); split <;> omega), (by repeat (first | exact trivial | refine ⟨rfl, ?_⟩ | refine ⟨le_item rfl (by first | rfl | (congr 1; omega) | (simp; done) | (simp; omega)), ?_⟩)), (by repeat constructor), ⟨i + 1, (cutA A2 c2 (getN b2).2 1), (c2 - (getN b2).2), (b2.drop (getN b2).2), !goodV (numK (getN b2).1 0), acc ++ [numK (getN b2).1 0], A68, k68, hr3, by omega, by omega, st_step hst (by omega) (fun h => by have e0 : numK (getN b2).1 0 = z3 := (by unfold numK; rw [hu0]; first | rfl | skip); rw [e0, show goodV z3 = true by decide] at h; cases h) (fun _ => by have e0 : numK (getN b2).1 0 = z3 := (by unfold numK; rw [hu0]; first | rfl | skip); rw [one_null hu0, e0]; exact if_neg (by simpa using hg60)), by have h9 := hg60; (try simp at h9); rw [List.length_append, show [numK (getN b2).1 0].length = 1 from rfl]; split <;> omega, rfl, rfl, rfl⟩⟩
              | exact ⟨if (true) = true then 0 else (((b2.drop (getN b2).2).drop (getN (b2.drop (getN b2).2)).2)).length + 1, _, _, _, (by show _ < b2.length + 1; rw [if_pos rfl]; omega), (by repeat (first | exact trivial | refine ⟨rfl, ?_⟩ | refine ⟨le_item rfl (by first | rfl | (congr 1; omega) | (simp; done) | (simp; omega)), ?_⟩)), (by repeat constructor), ⟨i + 1, (cutA (cutA A2 c2 (getN b2).2 1) (c2 - (getN b2).2) (getN (b2.drop (getN b2).2)).2 1), ((c2 - (getN b2).2) - (getN (b2.drop (getN b2).2)).2), ((b2.drop (getN b2).2).drop (getN (b2.drop (getN b2).2)).2), true, acc ++ [numK (getN b2).1 (zagS (getN (b2.drop (getN b2).2)).1)], A68, k68, hr4, by omega, by omega, st_step hst (by omega) (fun _ => by rw [one_num hu0 hu3]; exact if_pos (by have h9 := hg60; (try simp at h9); rcases h9 with h9 | h9; exact .inl h9; exact .inr (.inl h9))) (fun h => (by cases h)), by rw [List.length_append, if_pos rfl]; show acc.length + 1 + 0 ≤ _; omega, rfl, rfl, rfl⟩⟩
              | exact ⟨if (!goodV (numK (getN b2).1 (zagS (getN (b2.drop (getN b2).2)).1))) = true then 0 else (((b2.drop (getN b2).2).drop (getN (b2.drop (getN b2).2)).2)).length + 1, _, _, _, (by show _ < b2.length + 1; have h9 := hg60; (try simp at h9); split <;> omega), (by repeat (first | exact trivial | refine ⟨rfl, ?_⟩ | refine ⟨le_item rfl (by first | rfl | (congr 1; omega) | (simp; done) | (simp; omega)), ?_⟩)), (by repeat constructor), ⟨i + 1, (cutA (cutA A2 c2 (getN b2).2 1) (c2 - (getN b2).2) (getN (b2.drop (getN b2).2)).2 1), ((c2 - (getN b2).2) - (getN (b2.drop (getN b2).2)).2), ((b2.drop (getN b2).2).drop (getN (b2.drop (getN b2).2)).2), !goodV (numK (getN b2).1 (zagS (getN (b2.drop (getN b2).2)).1)), acc ++ [numK (getN b2).1 (zagS (getN (b2.drop (getN b2).2)).1)], A68, k68, hr4, by omega, by omega, st_step hst (by omega) (fun h => by rw [one_num hu0 hu3]; exact if_pos (.inr (.inr (by simpa using h)))) (fun h => by rw [one_num hu0 hu3]; exact if_neg (by have h9 := hg60; (try simp at h9); rintro (h1 | h1 | h1); exact h9.1 h1; exact h9.2 h1; rw [h1] at h; cases h)), by have h9 := hg60; (try simp at h9); rw [List.length_append, show [numK (getN b2).1 (zagS (getN (b2.drop (getN b2).2)).1)].length = 1 from rfl]; split <;> omega, rfl, rfl, rfl⟩⟩
              | exact ⟨if (true) = true then 0 else ((((b2.drop (getN b2).2).drop (getN (b2.drop (getN b2).2)).2).drop (getN (b2.drop (getN b2).2)).1)).length + 1, _, _, _, (by show _ < b2.length + 1; rw [if_pos rfl]; omega), (by repeat (first | exact trivial | refine ⟨rfl, ?_⟩ | refine ⟨le_item rfl (by first | rfl | (congr 1; omega) | (simp; done) | (simp; omega)), ?_⟩)), (by repeat constructor), ⟨i + 1, (cutA (cutA (cutA A2 c2 (getN b2).2 1) (c2 - (getN b2).2) (getN (b2.drop (getN b2).2)).2 1) ((c2 - (getN b2).2) - (getN (b2.drop (getN b2).2)).2) (getN (b2.drop (getN b2).2)).1 1), (((c2 - (getN b2).2) - (getN (b2.drop (getN b2).2)).2) - (getN (b2.drop (getN b2).2)).1), (((b2.drop (getN b2).2).drop (getN (b2.drop (getN b2).2)).2).drop (getN (b2.drop (getN b2).2)).1), true, acc ++ [(⟨((min (getN b2).1 9 : Nat) : Int), 0, txtV (((b2.drop (getN b2).2).drop (getN (b2.drop (getN b2).2)).2).take (getN (b2.drop (getN b2).2)).1)⟩ : Vk)], A68, k68, (reads_cutB hr4 (show ((b2.drop (getN b2).2).drop (getN (b2.drop (getN b2).2)).2).length ≤ ((c2 - (getN b2).2) - (getN (b2.drop (getN b2).2)).2) by omega)), by omega, by omega, st_step hst (by omega) (fun _ => by rw [one_str hu3]; exact if_pos (by have h9 := hg60; (try simp at h9); rcases h9 with h9 | h9; exact .inl h9; exact .inr (.inl h9))) (fun h => (by cases h)), by rw [List.length_append, if_pos rfl]; show acc.length + 1 + 0 ≤ _; omega, rfl, rfl, rfl⟩⟩
              | exact ⟨if (!goodV ((⟨((min (getN b2).1 9 : Nat) : Int), 0, txtV (((b2.drop (getN b2).2).drop (getN (b2.drop (getN b2).2)).2).take (getN (b2.drop (getN b2).2)).1)⟩ : Vk))) = true then 0 else ((((b2.drop (getN b2).2).drop (getN (b2.drop (getN b2).2)).2).drop (getN (b2.drop (getN b2).2)).1)).length + 1, _, _, _, (by show _ < b2.length + 1; have h9 := hg60; (try simp at h9); split <;> omega), (by repeat (first | exact trivial | refine ⟨rfl, ?_⟩ | refine ⟨le_item rfl (by first | rfl | (congr 1; omega) | (simp; done) | (simp; omega)), ?_⟩)), (by repeat constructor), ⟨i + 1, (cutA (cutA (cutA A2 c2 (getN b2).2 1) (c2 - (getN b2).2) (getN (b2.drop (getN b2).2)).2 1) ((c2 - (getN b2).2) - (getN (b2.drop (getN b2).2)).2) (getN (b2.drop (getN b2).2)).1 1), (((c2 - (getN b2).2) - (getN (b2.drop (getN b2).2)).2) - (getN (b2.drop (getN b2).2)).1), (((b2.drop (getN b2).2).drop (getN (b2.drop (getN b2).2)).2).drop (getN (b2.drop (getN b2).2)).1), !goodV ((⟨((min (getN b2).1 9 : Nat) : Int), 0, txtV (((b2.drop (getN b2).2).drop (getN (b2.drop (getN b2).2)).2).take (getN (b2.drop (getN b2).2)).1)⟩ : Vk)), acc ++ [(⟨((min (getN b2).1 9 : Nat) : Int), 0, txtV (((b2.drop (getN b2).2).drop (getN (b2.drop (getN b2).2)).2).take (getN (b2.drop (getN b2).2)).1)⟩ : Vk)], A68, k68, (reads_cutB hr4 (show ((b2.drop (getN b2).2).drop (getN (b2.drop (getN b2).2)).2).length ≤ ((c2 - (getN b2).2) - (getN (b2.drop (getN b2).2)).2) by omega)), by omega, by omega, st_step hst (by omega) (fun h => by have e2 : (⟨((min (getN b2).1 9 : Nat) : Int), 0, txtV (((b2.drop (getN b2).2).drop (getN (b2.drop (getN b2).2)).2).take (getN (b2.drop (getN b2).2)).1)⟩ : Vk) = ⟨3, 0, txtV (((b2.drop (getN b2).2).drop (getN (b2.drop (getN b2).2)).2).take (getN (b2.drop (getN b2).2)).1)⟩ := (by rw [hu3]; first | rfl | skip); rw [e2, good_txt (by rw [List.length_take]; omega)] at h; cases h) (fun _ => by have e2 : (⟨((min (getN b2).1 9 : Nat) : Int), 0, txtV (((b2.drop (getN b2).2).drop (getN (b2.drop (getN b2).2)).2).take (getN (b2.drop (getN b2).2)).1)⟩ : Vk) = ⟨3, 0, txtV (((b2.drop (getN b2).2).drop (getN (b2.drop (getN b2).2)).2).take (getN (b2.drop (getN b2).2)).1)⟩ := (by rw [hu3]; first | rfl | skip); rw [one_str hu3, e2]; exact if_neg (by have h9 := hg60; (try simp at h9); rintro (h1 | h1 | h1 | h1); exact h9.1 h1; exact h9.2 h1; omega; omega)), by have h9 := hg60; (try simp at h9); rw [List.length_append, show [(⟨((min (getN b2).1 9 : Nat) : Int), 0, txtV (((b2.drop (getN b2).2).drop (getN (b2.drop (getN b2).2)).2).take (getN (b2.drop (getN b2).2)).1)⟩ : Vk)].length = 1 from rfl]; split <;> omega, rfl, rfl, rfl⟩⟩
          · (try replace hg60 := of_decide_eq_false hg60)
            refine vl_on rfl rfl rfl rfl ?_
            refine vl_val rfl (.some rfl) (val_loadAgg Tryd.isAgg25 Tryd.sizeOf25 rfl (by first | exact cells_whole (by repeat constructor) | exact cells_part (by repeat constructor) rfl) rfl) ?_
            refine vl_on rfl rfl rfl rfl ?_
            first
              | (have _g := hz0; refine vl_callV rfl rfl (.some rfl) Tryd.call5 rfl (fun w hw => vGood (numK (getN b2).1 0) w) ?_)
              | (have _g := hn0; refine vl_callV rfl rfl (.some rfl) Tryd.call5 rfl (fun w hw => vGood (numK (getN b2).1 (zagS (getN (b2.drop (getN b2).2)).1)) w) ?_)
              | (have _g := hs3; refine vl_callV rfl rfl (.some rfl) Tryd.call5 rfl (fun w hw => vGood ((⟨((min (getN b2).1 9 : Nat) : Int), 0, txtV (((b2.drop (getN b2).2).drop (getN (b2.drop (getN b2).2)).2).take (getN (b2.drop (getN b2).2)).1)⟩ : Vk)) w) ?_)
            refine vl_on rfl rfl rfl rfl ?_
            refine vl_val rfl (.some rfl) (val_not rfl) ?_
            refine vl_val rfl (.some rfl) (val_pick rfl rfl) ?_
            first | refine vl_store rfl rfl .none rfl rfl Tryd.sizeOf4 rfl (by repeat constructor) (by first | decide | exact Nat.le_refl _ | exact Nat.le_of_ble_eq_true rfl | (simp; omega)) ?_ | refine vl_storeSl rfl rfl .none rfl rfl Tryd.sizeOf4 rfl (by simp [Value.cells]) (by repeat constructor) (by first | decide | (simp [Value.cells]; omega)) ?_
            refine vl_nil ?_
            refine vc_region ?_
            refine vl_val rfl (.some rfl) (val_move rfl) ?_
            refine vl_val rfl (.some rfl) (val_loadAgg Tryd.isAgg25 Tryd.sizeOf25 rfl (by first | exact cells_whole (by repeat constructor) | exact cells_part (by repeat constructor) rfl) rfl) ?_
            refine vl_lit sT22 rfl rfl (.some rfl) rfl rfl rfl (by decide) (by decide) rfl rfl (fun r67 => ?_)
            first
              | (have _g := hz0; refine vl_append (us := flat [numK (getN b2).1 0]) sT22 rfl rfl (.some rfl) rfl rfl (rd_sl (by repeat constructor)) rfl rfl (by omega) (by omega) (by repeat constructor) (fun A68 k68 => ?_); rw [vk_flat1, show acc.length + 1 = (acc ++ [numK (getN b2).1 0]).length by simp])
              | (have _g := hn0; refine vl_append (us := flat [numK (getN b2).1 (zagS (getN (b2.drop (getN b2).2)).1)]) sT22 rfl rfl (.some rfl) rfl rfl (rd_sl (by repeat constructor)) rfl rfl (by omega) (by omega) (by repeat constructor) (fun A68 k68 => ?_); rw [vk_flat1, show acc.length + 1 = (acc ++ [numK (getN b2).1 (zagS (getN (b2.drop (getN b2).2)).1)]).length by simp])
              | (have _g := hs3; refine vl_append (us := flat [(⟨((min (getN b2).1 9 : Nat) : Int), 0, txtV (((b2.drop (getN b2).2).drop (getN (b2.drop (getN b2).2)).2).take (getN (b2.drop (getN b2).2)).1)⟩ : Vk)]) sT22 rfl rfl (.some rfl) rfl rfl (rd_sl (by repeat constructor)) rfl rfl (by omega) (by omega) (by repeat constructor) (fun A68 k68 => ?_); rw [vk_flat1, show acc.length + 1 = (acc ++ [(⟨((min (getN b2).1 9 : Nat) : Int), 0, txtV (((b2.drop (getN b2).2).drop (getN (b2.drop (getN b2).2)).2).take (getN (b2.drop (getN b2).2)).1)⟩ : Vk)]).length by simp])
            refine vl_val rfl (.some rfl) (val_assign rfl) ?_
            refine vl_nil ?_
            refine vc_region ?_
            refine vl_val rfl (.some rfl) (val_move rfl) ?_
            refine vl_val rfl (.some rfl) (val_add rfl rfl (by first | exact w_u64 (by omega) (by omega) | rfl)) ?_
            refine vl_val rfl (.some rfl) (val_assign rfl) ?_
            refine vl_nil ?_
            first
              | exact ⟨if (true) = true then 0 else ((b2.drop (getN b2).2)).length + 1, _, _, _, (by show _ < b2.length + 1; rw [if_pos rfl]; omega), (by repeat (first | exact trivial | refine ⟨rfl, ?_⟩ | refine ⟨le_item rfl (by first | rfl | (congr 1; omega) | (simp; done) | (simp; omega)), ?_⟩)), (by repeat constructor), ⟨i + 1, (cutA A2 c2 (getN b2).2 1), (c2 - (getN b2).2), (b2.drop (getN b2).2), true, acc ++ [numK (getN b2).1 0], A68, k68, hr3, by omega, by omega, st_step hst (by omega) (fun _ => by rw [one_null hu0]; exact if_pos (by simpa using hg60)) (fun h => (by cases h)), by rw [List.length_append, if_pos rfl]; show acc.length + 1 + 0 ≤ _; omega, rfl, rfl, rfl⟩⟩
              | exact ⟨if (!goodV (numK (getN b2).1 0)) = true then 0 else ((b2.drop (getN b2).2)).length + 1, _, _, _, (by show _ < b2.length + 1; have h9 := hg60; (try simp at h9); split <;> omega), (by repeat (first | exact trivial | refine ⟨rfl, ?_⟩ | refine ⟨le_item rfl (by first | rfl | (congr 1; omega) | (simp; done) | (simp; omega)), ?_⟩)), (by repeat constructor), ⟨i + 1, (cutA A2 c2 (getN b2).2 1), (c2 - (getN b2).2), (b2.drop (getN b2).2), !goodV (numK (getN b2).1 0), acc ++ [numK (getN b2).1 0], A68, k68, hr3, by omega, by omega, st_step hst (by omega) (fun h => by have e0 : numK (getN b2).1 0 = z3 := (by unfold numK; rw [hu0]; first | rfl | skip); rw [e0, show goodV z3 = true by decide] at h; cases h) (fun _ => by have e0 : numK (getN b2).1 0 = z3 := (by unfold numK; rw [hu0]; first | rfl | skip); rw [one_null hu0, e0]; exact if_neg (by simpa using hg60)), by have h9 := hg60; (try simp at h9); rw [List.length_append, show [numK (getN b2).1 0].length = 1 from rfl]; split <;> omega, rfl, rfl, rfl⟩⟩
              | exact ⟨if (true) = true then 0 else (((b2.drop (getN b2).2).drop (getN (b2.drop (getN b2).2)).2)).length + 1, _, _, _, (by show _ < b2.length + 1; rw [if_pos rfl]; omega), (by repeat (first | exact trivial | refine ⟨rfl, ?_⟩ | refine ⟨le_item rfl (by first | rfl | (congr 1; omega) | (simp; done) | (simp; omega)), ?_⟩)), (by repeat constructor), ⟨i + 1, (cutA (cutA A2 c2 (getN b2).2 1) (c2 - (getN b2).2) (getN (b2.drop (getN b2).2)).2 1), ((c2 - (getN b2).2) - (getN (b2.drop (getN b2).2)).2), ((b2.drop (getN b2).2).drop (getN (b2.drop (getN b2).2)).2), true, acc ++ [numK (getN b2).1 (zagS (getN (b2.drop (getN b2).2)).1)], A68, k68, hr4, by omega, by omega, st_step hst (by omega) (fun _ => by rw [one_num hu0 hu3]; exact if_pos (by have h9 := hg60; (try simp at h9); rcases h9 with h9 | h9; exact .inl h9; exact .inr (.inl h9))) (fun h => (by cases h)), by rw [List.length_append, if_pos rfl]; show acc.length + 1 + 0 ≤ _; omega, rfl, rfl, rfl⟩⟩
              | exact ⟨if (!goodV (numK (getN b2).1 (zagS (getN (b2.drop (getN b2).2)).1))) = true then 0 else (((b2.drop (getN b2).2).drop (getN (b2.drop (getN b2).2)).2)).length + 1, _, _, _, (by show _ < b2.length + 1; have h9 := hg60; (try simp at h9); split <;> omega), (by repeat (first | exact trivial | refine ⟨rfl, ?_⟩ | refine ⟨le_item rfl (by first | rfl | (congr 1; omega) | (simp; done) | (simp; omega)), ?_⟩)), (by repeat constructor), ⟨i + 1, (cutA (cutA A2 c2 (getN b2).2 1) (c2 - (getN b2).2) (getN (b2.drop (getN b2).2)).2 1), ((c2 - (getN b2).2) - (getN (b2.drop (getN b2).2)).2), ((b2.drop (getN b2).2).drop (getN (b2.drop (getN b2).2)).2), !goodV (numK (getN b2).1 (zagS (getN (b2.drop (getN b2).2)).1)), acc ++ [numK (getN b2).1 (zagS (getN (b2.drop (getN b2).2)).1)], A68, k68, hr4, by omega, by omega, st_step hst (by omega) (fun h => by rw [one_num hu0 hu3]; exact if_pos (.inr (.inr (by simpa using h)))) (fun h => by rw [one_num hu0 hu3]; exact if_neg (by have h9 := hg60; (try simp at h9); rintro (h1 | h1 | h1); exact h9.1 h1; exact h9.2 h1; rw [h1] at h; cases h)), by have h9 := hg60; (try simp at h9); rw [List.length_append, show [numK (getN b2).1 (zagS (getN (b2.drop (getN b2).2)).1)].length = 1 from rfl]; split <;> omega, rfl, rfl, rfl⟩⟩
              | exact ⟨if (true) = true then 0 else ((((b2.drop (getN b2).2).drop (getN (b2.drop (getN b2).2)).2).drop (getN (b2.drop (getN b2).2)).1)).length + 1, _, _, _, (by show _ < b2.length + 1; rw [if_pos rfl]; omega), (by repeat (first | exact trivial | refine ⟨rfl, ?_⟩ | refine ⟨le_item rfl (by first | rfl | (congr 1; omega) | (simp; done) | (simp; omega)), ?_⟩)), (by repeat constructor), ⟨i + 1, (cutA (cutA (cutA A2 c2 (getN b2).2 1) (c2 - (getN b2).2) (getN (b2.drop (getN b2).2)).2 1) ((c2 - (getN b2).2) - (getN (b2.drop (getN b2).2)).2) (getN (b2.drop (getN b2).2)).1 1), (((c2 - (getN b2).2) - (getN (b2.drop (getN b2).2)).2) - (getN (b2.drop (getN b2).2)).1), (((b2.drop (getN b2).2).drop (getN (b2.drop (getN b2).2)).2).drop (getN (b2.drop (getN b2).2)).1), true, acc ++ [(⟨((min (getN b2).1 9 : Nat) : Int), 0, txtV (((b2.drop (getN b2).2).drop (getN (b2.drop (getN b2).2)).2).take (getN (b2.drop (getN b2).2)).1)⟩ : Vk)], A68, k68, (reads_cutB hr4 (show ((b2.drop (getN b2).2).drop (getN (b2.drop (getN b2).2)).2).length ≤ ((c2 - (getN b2).2) - (getN (b2.drop (getN b2).2)).2) by omega)), by omega, by omega, st_step hst (by omega) (fun _ => by rw [one_str hu3]; exact if_pos (by have h9 := hg60; (try simp at h9); rcases h9 with h9 | h9; exact .inl h9; exact .inr (.inl h9))) (fun h => (by cases h)), by rw [List.length_append, if_pos rfl]; show acc.length + 1 + 0 ≤ _; omega, rfl, rfl, rfl⟩⟩
              | exact ⟨if (!goodV ((⟨((min (getN b2).1 9 : Nat) : Int), 0, txtV (((b2.drop (getN b2).2).drop (getN (b2.drop (getN b2).2)).2).take (getN (b2.drop (getN b2).2)).1)⟩ : Vk))) = true then 0 else ((((b2.drop (getN b2).2).drop (getN (b2.drop (getN b2).2)).2).drop (getN (b2.drop (getN b2).2)).1)).length + 1, _, _, _, (by show _ < b2.length + 1; have h9 := hg60; (try simp at h9); split <;> omega), (by repeat (first | exact trivial | refine ⟨rfl, ?_⟩ | refine ⟨le_item rfl (by first | rfl | (congr 1; omega) | (simp; done) | (simp; omega)), ?_⟩)), (by repeat constructor), ⟨i + 1, (cutA (cutA (cutA A2 c2 (getN b2).2 1) (c2 - (getN b2).2) (getN (b2.drop (getN b2).2)).2 1) ((c2 - (getN b2).2) - (getN (b2.drop (getN b2).2)).2) (getN (b2.drop (getN b2).2)).1 1), (((c2 - (getN b2).2) - (getN (b2.drop (getN b2).2)).2) - (getN (b2.drop (getN b2).2)).1), (((b2.drop (getN b2).2).drop (getN (b2.drop (getN b2).2)).2).drop (getN (b2.drop (getN b2).2)).1), !goodV ((⟨((min (getN b2).1 9 : Nat) : Int), 0, txtV (((b2.drop (getN b2).2).drop (getN (b2.drop (getN b2).2)).2).take (getN (b2.drop (getN b2).2)).1)⟩ : Vk)), acc ++ [(⟨((min (getN b2).1 9 : Nat) : Int), 0, txtV (((b2.drop (getN b2).2).drop (getN (b2.drop (getN b2).2)).2).take (getN (b2.drop (getN b2).2)).1)⟩ : Vk)], A68, k68, (reads_cutB hr4 (show ((b2.drop (getN b2).2).drop (getN (b2.drop (getN b2).2)).2).length ≤ ((c2 - (getN b2).2) - (getN (b2.drop (getN b2).2)).2) by omega)), by omega, by omega, st_step hst (by omega) (fun h => by have e2 : (⟨((min (getN b2).1 9 : Nat) : Int), 0, txtV (((b2.drop (getN b2).2).drop (getN (b2.drop (getN b2).2)).2).take (getN (b2.drop (getN b2).2)).1)⟩ : Vk) = ⟨3, 0, txtV (((b2.drop (getN b2).2).drop (getN (b2.drop (getN b2).2)).2).take (getN (b2.drop (getN b2).2)).1)⟩ := (by rw [hu3]; first | rfl | skip); rw [e2, good_txt (by rw [List.length_take]; omega)] at h; cases h) (fun _ => by have e2 : (⟨((min (getN b2).1 9 : Nat) : Int), 0, txtV (((b2.drop (getN b2).2).drop (getN (b2.drop (getN b2).2)).2).take (getN (b2.drop (getN b2).2)).1)⟩ : Vk) = ⟨3, 0, txtV (((b2.drop (getN b2).2).drop (getN (b2.drop (getN b2).2)).2).take (getN (b2.drop (getN b2).2)).1)⟩ := (by rw [hu3]; first | rfl | skip); rw [one_str hu3, e2]; exact if_neg (by have h9 := hg60; (try simp at h9); rintro (h1 | h1 | h1 | h1); exact h9.1 h1; exact h9.2 h1; omega; omega)), by have h9 := hg60; (try simp at h9); rw [List.length_append, show [(⟨((min (getN b2).1 9 : Nat) : Int), 0, txtV (((b2.drop (getN b2).2).drop (getN (b2.drop (getN b2).2)).2).take (getN (b2.drop (getN b2).2)).1)⟩ : Vk)].length = 1 from rfl]; split <;> omega, rfl, rfl, rfl⟩⟩
        · (try replace hc3 := of_decide_eq_false hc3)
          have hu0 : (getN b2).1 = 0 := by omega
          have hz0 := hu0
          refine vc_skip ?_
          refine vc_seq ?_
          refine vc_region ?_
          refine vl_val rfl (.some rfl) (val_load Tryd.isAgg4 rfl (by first | exact cell_cells (by repeat constructor) rfl | exact cell_rd (by first | exact rd_sl (by repeat constructor) | exact rd_old (by assumption) rfl) (by first | exact bcells_at (by omega) | exact ucells_at (by omega) | exact icells_at (by omega) | exact tcells_at (by omega) | exact bcells_get (by omega) | exact icells_get (by omega) | exact tcells_get (by omega) | exact ucells_get (by omega)) | exact cell_old (by assumption) (by simp [fps]))) ?_
          refine vl_val rfl (.some rfl) (val_move rfl) ?_
          refine vl_split (t := 60) rfl (fun hg60 => ?_) (fun hg60 => ?_)
          · (try replace hg60 := of_decide_eq_true hg60)
            refine vl_off rfl rfl rfl rfl (.some rfl) ?_
            refine vl_off rfl rfl rfl rfl (.some rfl) ?_
            refine vl_off rfl rfl rfl rfl (.some rfl) ?_
            refine vl_val rfl (.some rfl) (val_pick rfl rfl) ?_
            first | refine vl_store rfl rfl .none rfl rfl Tryd.sizeOf4 rfl (by repeat constructor) (by first | decide | exact Nat.le_refl _ | exact Nat.le_of_ble_eq_true rfl | (simp; omega)) ?_ | refine vl_storeSl rfl rfl .none rfl rfl Tryd.sizeOf4 rfl (by simp [Value.cells]) (by repeat constructor) (by first | decide | (simp [Value.cells]; omega)) ?_
            refine vl_nil ?_
            refine vc_region ?_
            refine vl_val rfl (.some rfl) (val_move rfl) ?_
            refine vl_val rfl (.some rfl) (val_loadAgg Tryd.isAgg25 Tryd.sizeOf25 rfl (by first | exact cells_whole (by repeat constructor) | exact cells_part (by repeat constructor) rfl) rfl) ?_
            refine vl_lit sT22 rfl rfl (.some rfl) rfl rfl rfl (by decide) (by decide) rfl rfl (fun r67 => ?_)
            first
              | (have _g := hz0; refine vl_append (us := flat [numK (getN b2).1 0]) sT22 rfl rfl (.some rfl) rfl rfl (rd_sl (by repeat constructor)) rfl rfl (by omega) (by omega) (by repeat constructor) (fun A68 k68 => ?_); rw [vk_flat1, show acc.length + 1 = (acc ++ [numK (getN b2).1 0]).length by simp])
              | (have _g := hn0; refine vl_append (us := flat [numK (getN b2).1 (zagS (getN (b2.drop (getN b2).2)).1)]) sT22 rfl rfl (.some rfl) rfl rfl (rd_sl (by repeat constructor)) rfl rfl (by omega) (by omega) (by repeat constructor) (fun A68 k68 => ?_); rw [vk_flat1, show acc.length + 1 = (acc ++ [numK (getN b2).1 (zagS (getN (b2.drop (getN b2).2)).1)]).length by simp])
              | (have _g := hs3; refine vl_append (us := flat [(⟨((min (getN b2).1 9 : Nat) : Int), 0, txtV (((b2.drop (getN b2).2).drop (getN (b2.drop (getN b2).2)).2).take (getN (b2.drop (getN b2).2)).1)⟩ : Vk)]) sT22 rfl rfl (.some rfl) rfl rfl (rd_sl (by repeat constructor)) rfl rfl (by omega) (by omega) (by repeat constructor) (fun A68 k68 => ?_); rw [vk_flat1, show acc.length + 1 = (acc ++ [(⟨((min (getN b2).1 9 : Nat) : Int), 0, txtV (((b2.drop (getN b2).2).drop (getN (b2.drop (getN b2).2)).2).take (getN (b2.drop (getN b2).2)).1)⟩ : Vk)]).length by simp])
            refine vl_val rfl (.some rfl) (val_assign rfl) ?_
            refine vl_nil ?_
            refine vc_region ?_
            refine vl_val rfl (.some rfl) (val_move rfl) ?_
            refine vl_val rfl (.some rfl) (val_add rfl rfl (by first | exact w_u64 (by omega) (by omega) | rfl)) ?_
            refine vl_val rfl (.some rfl) (val_assign rfl) ?_
            refine vl_nil ?_
            first
              | exact ⟨if (true) = true then 0 else ((b2.drop (getN b2).2)).length + 1, _, _, _, (by show _ < b2.length + 1; rw [if_pos rfl]; omega), (by repeat (first | exact trivial | refine ⟨rfl, ?_⟩ | refine ⟨le_item rfl (by first | rfl | (congr 1; omega) | (simp; done) | (simp; omega)), ?_⟩)), (by repeat constructor), ⟨i + 1, (cutA A2 c2 (getN b2).2 1), (c2 - (getN b2).2), (b2.drop (getN b2).2), true, acc ++ [numK (getN b2).1 0], A68, k68, hr3, by omega, by omega, st_step hst (by omega) (fun _ => by rw [one_null hu0]; exact if_pos (by simpa using hg60)) (fun h => (by cases h)), by rw [List.length_append, if_pos rfl]; show acc.length + 1 + 0 ≤ _; omega, rfl, rfl, rfl⟩⟩
              | exact ⟨if (!goodV (numK (getN b2).1 0)) = true then 0 else ((b2.drop (getN b2).2)).length + 1, _, _, _, (by show _ < b2.length + 1; have h9 := hg60; (try simp at h9); split <;> omega), (by repeat (first | exact trivial | refine ⟨rfl, ?_⟩ | refine ⟨le_item rfl (by first | rfl | (congr 1; omega) | (simp; done) | (simp; omega)), ?_⟩)), (by repeat constructor), ⟨i + 1, (cutA A2 c2 (getN b2).2 1), (c2 - (getN b2).2), (b2.drop (getN b2).2), !goodV (numK (getN b2).1 0), acc ++ [numK (getN b2).1 0], A68, k68, hr3, by omega, by omega, st_step hst (by omega) (fun h => by have e0 : numK (getN b2).1 0 = z3 := (by unfold numK; rw [hu0]; first | rfl | skip); rw [e0, show goodV z3 = true by decide] at h; cases h) (fun _ => by have e0 : numK (getN b2).1 0 = z3 := (by unfold numK; rw [hu0]; first | rfl | skip); rw [one_null hu0, e0]; exact if_neg (by simpa using hg60)), by have h9 := hg60; (try simp at h9); rw [List.length_append, show [numK (getN b2).1 0].length = 1 from rfl]; split <;> omega, rfl, rfl, rfl⟩⟩
              | exact ⟨if (true) = true then 0 else (((b2.drop (getN b2).2).drop (getN (b2.drop (getN b2).2)).2)).length + 1, _, _, _, (by show _ < b2.length + 1; rw [if_pos rfl]; omega), (by repeat (first | exact trivial | refine ⟨rfl, ?_⟩ | refine ⟨le_item rfl (by first | rfl | (congr 1; omega) | (simp; done) | (simp; omega)), ?_⟩)), (by repeat constructor), ⟨i + 1, (cutA (cutA A2 c2 (getN b2).2 1) (c2 - (getN b2).2) (getN (b2.drop (getN b2).2)).2 1), ((c2 - (getN b2).2) - (getN (b2.drop (getN b2).2)).2), ((b2.drop (getN b2).2).drop (getN (b2.drop (getN b2).2)).2), true, acc ++ [numK (getN b2).1 (zagS (getN (b2.drop (getN b2).2)).1)], A68, k68, hr4, by omega, by omega, st_step hst (by omega) (fun _ => by rw [one_num hu0 hu3]; exact if_pos (by have h9 := hg60; (try simp at h9); rcases h9 with h9 | h9; exact .inl h9; exact .inr (.inl h9))) (fun h => (by cases h)), by rw [List.length_append, if_pos rfl]; show acc.length + 1 + 0 ≤ _; omega, rfl, rfl, rfl⟩⟩
              | exact ⟨if (!goodV (numK (getN b2).1 (zagS (getN (b2.drop (getN b2).2)).1))) = true then 0 else (((b2.drop (getN b2).2).drop (getN (b2.drop (getN b2).2)).2)).length + 1, _, _, _, (by show _ < b2.length + 1; have h9 := hg60; (try simp at h9); split <;> omega), (by repeat (first | exact trivial | refine ⟨rfl, ?_⟩ | refine ⟨le_item rfl (by first | rfl | (congr 1; omega) | (simp; done) | (simp; omega)), ?_⟩)), (by repeat constructor), ⟨i + 1, (cutA (cutA A2 c2 (getN b2).2 1) (c2 - (getN b2).2) (getN (b2.drop (getN b2).2)).2 1), ((c2 - (getN b2).2) - (getN (b2.drop (getN b2).2)).2), ((b2.drop (getN b2).2).drop (getN (b2.drop (getN b2).2)).2), !goodV (numK (getN b2).1 (zagS (getN (b2.drop (getN b2).2)).1)), acc ++ [numK (getN b2).1 (zagS (getN (b2.drop (getN b2).2)).1)], A68, k68, hr4, by omega, by omega, st_step hst (by omega) (fun h => by rw [one_num hu0 hu3]; exact if_pos (.inr (.inr (by simpa using h)))) (fun h => by rw [one_num hu0 hu3]; exact if_neg (by have h9 := hg60; (try simp at h9); rintro (h1 | h1 | h1); exact h9.1 h1; exact h9.2 h1; rw [h1] at h; cases h)), by have h9 := hg60; (try simp at h9); rw [List.length_append, show [numK (getN b2).1 (zagS (getN (b2.drop (getN b2).2)).1)].length = 1 from rfl]; split <;> omega, rfl, rfl, rfl⟩⟩
              | exact ⟨if (true) = true then 0 else ((((b2.drop (getN b2).2).drop (getN (b2.drop (getN b2).2)).2).drop (getN (b2.drop (getN b2).2)).1)).length + 1, _, _, _, (by show _ < b2.length + 1; rw [if_pos rfl]; omega), (by repeat (first | exact trivial | refine ⟨rfl, ?_⟩ | refine ⟨le_item rfl (by first | rfl | (congr 1; omega) | (simp; done) | (simp; omega)), ?_⟩)), (by repeat constructor), ⟨i + 1, (cutA (cutA (cutA A2 c2 (getN b2).2 1) (c2 - (getN b2).2) (getN (b2.drop (getN b2).2)).2 1) ((c2 - (getN b2).2) - (getN (b2.drop (getN b2).2)).2) (getN (b2.drop (getN b2).2)).1 1), (((c2 - (getN b2).2) - (getN (b2.drop (getN b2).2)).2) - (getN (b2.drop (getN b2).2)).1), (((b2.drop (getN b2).2).drop (getN (b2.drop (getN b2).2)).2).drop (getN (b2.drop (getN b2).2)).1), true, acc ++ [(⟨((min (getN b2).1 9 : Nat) : Int), 0, txtV (((b2.drop (getN b2).2).drop (getN (b2.drop (getN b2).2)).2).take (getN (b2.drop (getN b2).2)).1)⟩ : Vk)], A68, k68, (reads_cutB hr4 (show ((b2.drop (getN b2).2).drop (getN (b2.drop (getN b2).2)).2).length ≤ ((c2 - (getN b2).2) - (getN (b2.drop (getN b2).2)).2) by omega)), by omega, by omega, st_step hst (by omega) (fun _ => by rw [one_str hu3]; exact if_pos (by have h9 := hg60; (try simp at h9); rcases h9 with h9 | h9; exact .inl h9; exact .inr (.inl h9))) (fun h => (by cases h)), by rw [List.length_append, if_pos rfl]; show acc.length + 1 + 0 ≤ _; omega, rfl, rfl, rfl⟩⟩
              | exact ⟨if (!goodV ((⟨((min (getN b2).1 9 : Nat) : Int), 0, txtV (((b2.drop (getN b2).2).drop (getN (b2.drop (getN b2).2)).2).take (getN (b2.drop (getN b2).2)).1)⟩ : Vk))) = true then 0 else ((((b2.drop (getN b2).2).drop (getN (b2.drop (getN b2).2)).2).drop (getN (b2.drop (getN b2).2)).1)).length + 1, _, _, _, (by show _ < b2.length + 1; have h9 := hg60; (try simp at h9); split <;> omega), (by repeat (first | exact trivial | refine ⟨rfl, ?_⟩ | refine ⟨le_item rfl (by first | rfl | (congr 1; omega) | (simp; done) | (simp; omega)), ?_⟩)), (by repeat constructor), ⟨i + 1, (cutA (cutA (cutA A2 c2 (getN b2).2 1) (c2 - (getN b2).2) (getN (b2.drop (getN b2).2)).2 1) ((c2 - (getN b2).2) - (getN (b2.drop (getN b2).2)).2) (getN (b2.drop (getN b2).2)).1 1), (((c2 - (getN b2).2) - (getN (b2.drop (getN b2).2)).2) - (getN (b2.drop (getN b2).2)).1), (((b2.drop (getN b2).2).drop (getN (b2.drop (getN b2).2)).2).drop (getN (b2.drop (getN b2).2)).1), !goodV ((⟨((min (getN b2).1 9 : Nat) : Int), 0, txtV (((b2.drop (getN b2).2).drop (getN (b2.drop (getN b2).2)).2).take (getN (b2.drop (getN b2).2)).1)⟩ : Vk)), acc ++ [(⟨((min (getN b2).1 9 : Nat) : Int), 0, txtV (((b2.drop (getN b2).2).drop (getN (b2.drop (getN b2).2)).2).take (getN (b2.drop (getN b2).2)).1)⟩ : Vk)], A68, k68, (reads_cutB hr4 (show ((b2.drop (getN b2).2).drop (getN (b2.drop (getN b2).2)).2).length ≤ ((c2 - (getN b2).2) - (getN (b2.drop (getN b2).2)).2) by omega)), by omega, by omega, st_step hst (by omega) (fun h => by have e2 : (⟨((min (getN b2).1 9 : Nat) : Int), 0, txtV (((b2.drop (getN b2).2).drop (getN (b2.drop (getN b2).2)).2).take (getN (b2.drop (getN b2).2)).1)⟩ : Vk) = ⟨3, 0, txtV (((b2.drop (getN b2).2).drop (getN (b2.drop (getN b2).2)).2).take (getN (b2.drop (getN b2).2)).1)⟩ := (by rw [hu3]; first | rfl | skip); rw [e2, good_txt (by rw [List.length_take]; omega)] at h; cases h) (fun _ => by have e2 : (⟨((min (getN b2).1 9 : Nat) : Int), 0, txtV (((b2.drop (getN b2).2).drop (getN (b2.drop (getN b2).2)).2).take (getN (b2.drop (getN b2).2)).1)⟩ : Vk) = ⟨3, 0, txtV (((b2.drop (getN b2).2).drop (getN (b2.drop (getN b2).2)).2).take (getN (b2.drop (getN b2).2)).1)⟩ := (by rw [hu3]; first | rfl | skip); rw [one_str hu3, e2]; exact if_neg (by have h9 := hg60; (try simp at h9); rintro (h1 | h1 | h1 | h1); exact h9.1 h1; exact h9.2 h1; omega; omega)), by have h9 := hg60; (try simp at h9); rw [List.length_append, show [(⟨((min (getN b2).1 9 : Nat) : Int), 0, txtV (((b2.drop (getN b2).2).drop (getN (b2.drop (getN b2).2)).2).take (getN (b2.drop (getN b2).2)).1)⟩ : Vk)].length = 1 from rfl]; split <;> omega, rfl, rfl, rfl⟩⟩
          · (try replace hg60 := of_decide_eq_false hg60)
            refine vl_on rfl rfl rfl rfl ?_
            refine vl_val rfl (.some rfl) (val_loadAgg Tryd.isAgg25 Tryd.sizeOf25 rfl (by first | exact cells_whole (by repeat constructor) | exact cells_part (by repeat constructor) rfl) rfl) ?_
            refine vl_on rfl rfl rfl rfl ?_
            first
              | (have _g := hz0; refine vl_callV rfl rfl (.some rfl) Tryd.call5 rfl (fun w hw => vGood (numK (getN b2).1 0) w) ?_)
              | (have _g := hn0; refine vl_callV rfl rfl (.some rfl) Tryd.call5 rfl (fun w hw => vGood (numK (getN b2).1 (zagS (getN (b2.drop (getN b2).2)).1)) w) ?_)
              | (have _g := hs3; refine vl_callV rfl rfl (.some rfl) Tryd.call5 rfl (fun w hw => vGood ((⟨((min (getN b2).1 9 : Nat) : Int), 0, txtV (((b2.drop (getN b2).2).drop (getN (b2.drop (getN b2).2)).2).take (getN (b2.drop (getN b2).2)).1)⟩ : Vk)) w) ?_)
            refine vl_on rfl rfl rfl rfl ?_
            refine vl_val rfl (.some rfl) (val_not rfl) ?_
            refine vl_val rfl (.some rfl) (val_pick rfl rfl) ?_
            first | refine vl_store rfl rfl .none rfl rfl Tryd.sizeOf4 rfl (by repeat constructor) (by first | decide | exact Nat.le_refl _ | exact Nat.le_of_ble_eq_true rfl | (simp; omega)) ?_ | refine vl_storeSl rfl rfl .none rfl rfl Tryd.sizeOf4 rfl (by simp [Value.cells]) (by repeat constructor) (by first | decide | (simp [Value.cells]; omega)) ?_
            refine vl_nil ?_
            refine vc_region ?_
            refine vl_val rfl (.some rfl) (val_move rfl) ?_
            refine vl_val rfl (.some rfl) (val_loadAgg Tryd.isAgg25 Tryd.sizeOf25 rfl (by first | exact cells_whole (by repeat constructor) | exact cells_part (by repeat constructor) rfl) rfl) ?_
            refine vl_lit sT22 rfl rfl (.some rfl) rfl rfl rfl (by decide) (by decide) rfl rfl (fun r67 => ?_)
            first
              | (have _g := hz0; refine vl_append (us := flat [numK (getN b2).1 0]) sT22 rfl rfl (.some rfl) rfl rfl (rd_sl (by repeat constructor)) rfl rfl (by omega) (by omega) (by repeat constructor) (fun A68 k68 => ?_); rw [vk_flat1, show acc.length + 1 = (acc ++ [numK (getN b2).1 0]).length by simp])
              | (have _g := hn0; refine vl_append (us := flat [numK (getN b2).1 (zagS (getN (b2.drop (getN b2).2)).1)]) sT22 rfl rfl (.some rfl) rfl rfl (rd_sl (by repeat constructor)) rfl rfl (by omega) (by omega) (by repeat constructor) (fun A68 k68 => ?_); rw [vk_flat1, show acc.length + 1 = (acc ++ [numK (getN b2).1 (zagS (getN (b2.drop (getN b2).2)).1)]).length by simp])
              | (have _g := hs3; refine vl_append (us := flat [(⟨((min (getN b2).1 9 : Nat) : Int), 0, txtV (((b2.drop (getN b2).2).drop (getN (b2.drop (getN b2).2)).2).take (getN (b2.drop (getN b2).2)).1)⟩ : Vk)]) sT22 rfl rfl (.some rfl) rfl rfl (rd_sl (by repeat constructor)) rfl rfl (by omega) (by omega) (by repeat constructor) (fun A68 k68 => ?_); rw [vk_flat1, show acc.length + 1 = (acc ++ [(⟨((min (getN b2).1 9 : Nat) : Int), 0, txtV (((b2.drop (getN b2).2).drop (getN (b2.drop (getN b2).2)).2).take (getN (b2.drop (getN b2).2)).1)⟩ : Vk)]).length by simp])
            refine vl_val rfl (.some rfl) (val_assign rfl) ?_
            refine vl_nil ?_
            refine vc_region ?_
            refine vl_val rfl (.some rfl) (val_move rfl) ?_
            refine vl_val rfl (.some rfl) (val_add rfl rfl (by first | exact w_u64 (by omega) (by omega) | rfl)) ?_
            refine vl_val rfl (.some rfl) (val_assign rfl) ?_
            refine vl_nil ?_
            first
              | exact ⟨if (true) = true then 0 else ((b2.drop (getN b2).2)).length + 1, _, _, _, (by show _ < b2.length + 1; rw [if_pos rfl]; omega), (by repeat (first | exact trivial | refine ⟨rfl, ?_⟩ | refine ⟨le_item rfl (by first | rfl | (congr 1; omega) | (simp; done) | (simp; omega)), ?_⟩)), (by repeat constructor), ⟨i + 1, (cutA A2 c2 (getN b2).2 1), (c2 - (getN b2).2), (b2.drop (getN b2).2), true, acc ++ [numK (getN b2).1 0], A68, k68, hr3, by omega, by omega, st_step hst (by omega) (fun _ => by rw [one_null hu0]; exact if_pos (by simpa using hg60)) (fun h => (by cases h)), by rw [List.length_append, if_pos rfl]; show acc.length + 1 + 0 ≤ _; omega, rfl, rfl, rfl⟩⟩
              | exact ⟨if (!goodV (numK (getN b2).1 0)) = true then 0 else ((b2.drop (getN b2).2)).length + 1, _, _, _, (by show _ < b2.length + 1; have h9 := hg60; (try simp at h9); split <;> omega), (by repeat (first | exact trivial | refine ⟨rfl, ?_⟩ | refine ⟨le_item rfl (by first | rfl | (congr 1; omega) | (simp; done) | (simp; omega)), ?_⟩)), (by repeat constructor), ⟨i + 1, (cutA A2 c2 (getN b2).2 1), (c2 - (getN b2).2), (b2.drop (getN b2).2), !goodV (numK (getN b2).1 0), acc ++ [numK (getN b2).1 0], A68, k68, hr3, by omega, by omega, st_step hst (by omega) (fun h => by have e0 : numK (getN b2).1 0 = z3 := (by unfold numK; rw [hu0]; first | rfl | skip); rw [e0, show goodV z3 = true by decide] at h; cases h) (fun _ => by have e0 : numK (getN b2).1 0 = z3 := (by unfold numK; rw [hu0]; first | rfl | skip); rw [one_null hu0, e0]; exact if_neg (by simpa using hg60)), by have h9 := hg60; (try simp at h9); rw [List.length_append, show [numK (getN b2).1 0].length = 1 from rfl]; split <;> omega, rfl, rfl, rfl⟩⟩
              | exact ⟨if (true) = true then 0 else (((b2.drop (getN b2).2).drop (getN (b2.drop (getN b2).2)).2)).length + 1, _, _, _, (by show _ < b2.length + 1; rw [if_pos rfl]; omega), (by repeat (first | exact trivial | refine ⟨rfl, ?_⟩ | refine ⟨le_item rfl (by first | rfl | (congr 1; omega) | (simp; done) | (simp; omega)), ?_⟩)), (by repeat constructor), ⟨i + 1, (cutA (cutA A2 c2 (getN b2).2 1) (c2 - (getN b2).2) (getN (b2.drop (getN b2).2)).2 1), ((c2 - (getN b2).2) - (getN (b2.drop (getN b2).2)).2), ((b2.drop (getN b2).2).drop (getN (b2.drop (getN b2).2)).2), true, acc ++ [numK (getN b2).1 (zagS (getN (b2.drop (getN b2).2)).1)], A68, k68, hr4, by omega, by omega, st_step hst (by omega) (fun _ => by rw [one_num hu0 hu3]; exact if_pos (by have h9 := hg60; (try simp at h9); rcases h9 with h9 | h9; exact .inl h9; exact .inr (.inl h9))) (fun h => (by cases h)), by rw [List.length_append, if_pos rfl]; show acc.length + 1 + 0 ≤ _; omega, rfl, rfl, rfl⟩⟩
              | exact ⟨if (!goodV (numK (getN b2).1 (zagS (getN (b2.drop (getN b2).2)).1))) = true then 0 else (((b2.drop (getN b2).2).drop (getN (b2.drop (getN b2).2)).2)).length + 1, _, _, _, (by show _ < b2.length + 1; have h9 := hg60; (try simp at h9); split <;> omega), (by repeat (first | exact trivial | refine ⟨rfl, ?_⟩ | refine ⟨le_item rfl (by first | rfl | (congr 1; omega) | (simp; done) | (simp; omega)), ?_⟩)), (by repeat constructor), ⟨i + 1, (cutA (cutA A2 c2 (getN b2).2 1) (c2 - (getN b2).2) (getN (b2.drop (getN b2).2)).2 1), ((c2 - (getN b2).2) - (getN (b2.drop (getN b2).2)).2), ((b2.drop (getN b2).2).drop (getN (b2.drop (getN b2).2)).2), !goodV (numK (getN b2).1 (zagS (getN (b2.drop (getN b2).2)).1)), acc ++ [numK (getN b2).1 (zagS (getN (b2.drop (getN b2).2)).1)], A68, k68, hr4, by omega, by omega, st_step hst (by omega) (fun h => by rw [one_num hu0 hu3]; exact if_pos (.inr (.inr (by simpa using h)))) (fun h => by rw [one_num hu0 hu3]; exact if_neg (by have h9 := hg60; (try simp at h9); rintro (h1 | h1 | h1); exact h9.1 h1; exact h9.2 h1; rw [h1] at h; cases h)), by have h9 := hg60; (try simp at h9); rw [List.length_append, show [numK (getN b2).1 (zagS (getN (b2.drop (getN b2).2)).1)].length = 1 from rfl]; split <;> omega, rfl, rfl, rfl⟩⟩
              | exact ⟨if (true) = true then 0 else ((((b2.drop (getN b2).2).drop (getN (b2.drop (getN b2).2)).2).drop (getN (b2.drop (getN b2).2)).1)).length + 1, _, _, _, (by show _ < b2.length + 1; rw [if_pos rfl]; omega), (by repeat (first | exact trivial | refine ⟨rfl, ?_⟩ | refine ⟨le_item rfl (by first | rfl | (congr 1; omega) | (simp; done) | (simp; omega)), ?_⟩)), (by repeat constructor), ⟨i + 1, (cutA (cutA (cutA A2 c2 (getN b2).2 1) (c2 - (getN b2).2) (getN (b2.drop (getN b2).2)).2 1) ((c2 - (getN b2).2) - (getN (b2.drop (getN b2).2)).2) (getN (b2.drop (getN b2).2)).1 1), (((c2 - (getN b2).2) - (getN (b2.drop (getN b2).2)).2) - (getN (b2.drop (getN b2).2)).1), (((b2.drop (getN b2).2).drop (getN (b2.drop (getN b2).2)).2).drop (getN (b2.drop (getN b2).2)).1), true, acc ++ [(⟨((min (getN b2).1 9 : Nat) : Int), 0, txtV (((b2.drop (getN b2).2).drop (getN (b2.drop (getN b2).2)).2).take (getN (b2.drop (getN b2).2)).1)⟩ : Vk)], A68, k68, (reads_cutB hr4 (show ((b2.drop (getN b2).2).drop (getN (b2.drop (getN b2).2)).2).length ≤ ((c2 - (getN b2).2) - (getN (b2.drop (getN b2).2)).2) by omega)), by omega, by omega, st_step hst (by omega) (fun _ => by rw [one_str hu3]; exact if_pos (by have h9 := hg60; (try simp at h9); rcases h9 with h9 | h9; exact .inl h9; exact .inr (.inl h9))) (fun h => (by cases h)), by rw [List.length_append, if_pos rfl]; show acc.length + 1 + 0 ≤ _; omega, rfl, rfl, rfl⟩⟩
              | exact ⟨if (!goodV ((⟨((min (getN b2).1 9 : Nat) : Int), 0, txtV (((b2.drop (getN b2).2).drop (getN (b2.drop (getN b2).2)).2).take (getN (b2.drop (getN b2).2)).1)⟩ : Vk))) = true then 0 else ((((b2.drop (getN b2).2).drop (getN (b2.drop (getN b2).2)).2).drop (getN (b2.drop (getN b2).2)).1)).length + 1, _, _, _, (by show _ < b2.length + 1; have h9 := hg60; (try simp at h9); split <;> omega), (by repeat (first | exact trivial | refine ⟨rfl, ?_⟩ | refine ⟨le_item rfl (by first | rfl | (congr 1; omega) | (simp; done) | (simp; omega)), ?_⟩)), (by repeat constructor), ⟨i + 1, (cutA (cutA (cutA A2 c2 (getN b2).2 1) (c2 - (getN b2).2) (getN (b2.drop (getN b2).2)).2 1) ((c2 - (getN b2).2) - (getN (b2.drop (getN b2).2)).2) (getN (b2.drop (getN b2).2)).1 1), (((c2 - (getN b2).2) - (getN (b2.drop (getN b2).2)).2) - (getN (b2.drop (getN b2).2)).1), (((b2.drop (getN b2).2).drop (getN (b2.drop (getN b2).2)).2).drop (getN (b2.drop (getN b2).2)).1), !goodV ((⟨((min (getN b2).1 9 : Nat) : Int), 0, txtV (((b2.drop (getN b2).2).drop (getN (b2.drop (getN b2).2)).2).take (getN (b2.drop (getN b2).2)).1)⟩ : Vk)), acc ++ [(⟨((min (getN b2).1 9 : Nat) : Int), 0, txtV (((b2.drop (getN b2).2).drop (getN (b2.drop (getN b2).2)).2).take (getN (b2.drop (getN b2).2)).1)⟩ : Vk)], A68, k68, (reads_cutB hr4 (show ((b2.drop (getN b2).2).drop (getN (b2.drop (getN b2).2)).2).length ≤ ((c2 - (getN b2).2) - (getN (b2.drop (getN b2).2)).2) by omega)), by omega, by omega, st_step hst (by omega) (fun h => by have e2 : (⟨((min (getN b2).1 9 : Nat) : Int), 0, txtV (((b2.drop (getN b2).2).drop (getN (b2.drop (getN b2).2)).2).take (getN (b2.drop (getN b2).2)).1)⟩ : Vk) = ⟨3, 0, txtV (((b2.drop (getN b2).2).drop (getN (b2.drop (getN b2).2)).2).take (getN (b2.drop (getN b2).2)).1)⟩ := (by rw [hu3]; first | rfl | skip); rw [e2, good_txt (by rw [List.length_take]; omega)] at h; cases h) (fun _ => by have e2 : (⟨((min (getN b2).1 9 : Nat) : Int), 0, txtV (((b2.drop (getN b2).2).drop (getN (b2.drop (getN b2).2)).2).take (getN (b2.drop (getN b2).2)).1)⟩ : Vk) = ⟨3, 0, txtV (((b2.drop (getN b2).2).drop (getN (b2.drop (getN b2).2)).2).take (getN (b2.drop (getN b2).2)).1)⟩ := (by rw [hu3]; first | rfl | skip); rw [one_str hu3, e2]; exact if_neg (by have h9 := hg60; (try simp at h9); rintro (h1 | h1 | h1 | h1); exact h9.1 h1; exact h9.2 h1; omega; omega)), by have h9 := hg60; (try simp at h9); rw [List.length_append, show [(⟨((min (getN b2).1 9 : Nat) : Int), 0, txtV (((b2.drop (getN b2).2).drop (getN (b2.drop (getN b2).2)).2).take (getN (b2.drop (getN b2).2)).1)⟩ : Vk)].length = 1 from rfl]; split <;> omega, rfl, rfl, rfl⟩⟩
    · (try replace hc0 := of_decide_eq_false hc0)
      refine vc_exit ?_
      refine vc_seq ?_
      refine vc_seq ?_
      refine vc_region ?_
      refine vl_val rfl (.some rfl) (val_load Tryd.isAgg4 rfl (by first | exact cell_cells (by repeat constructor) rfl | exact cell_rd (by first | exact rd_sl (by repeat constructor) | exact rd_old (by assumption) rfl) (by first | exact bcells_at (by omega) | exact ucells_at (by omega) | exact icells_at (by omega) | exact tcells_at (by omega) | exact bcells_get (by omega) | exact icells_get (by omega) | exact tcells_get (by omega) | exact ucells_get (by omega)) | exact cell_old (by assumption) (by simp [fps]))) ?_
      refine vl_val rfl (.some rfl) (val_move rfl) ?_
      refine vl_split (t := 70) rfl (fun hg70 => ?_) (fun hg70 => ?_)
      · (try replace hg70 := of_decide_eq_true hg70)
        refine vl_off rfl rfl rfl rfl (.some rfl) ?_
        refine vl_off rfl rfl rfl rfl (.some rfl) ?_
        refine vl_off rfl rfl rfl rfl (.some rfl) ?_
        refine vl_val rfl (.some rfl) (val_pick rfl rfl) ?_
        refine vl_nil ?_
        refine vc_cond rfl (fun _ => ?_) (fun h => by cases h)
        refine vc_seq ?_
        refine vc_region ?_
        refine vl_val rfl (.some rfl) (val_assign rfl) ?_
        refine vl_nilSl 25 3 ?_
        refine vl_val rfl (.some rfl) (val_assign rfl) ?_
        refine vl_nil ?_
        refine vc_ret ?_
        refine ⟨_, [DS none 0 []], _, res2 Tryd.results8 rfl rfl, (by repeat constructor), ?_⟩
        obtain ⟨e1, e2⟩ := load9_none (b := b) (by first | exact hst.1 hg70 | exact hst.1 (by simpa using hg16) | (rw [st_end hst hg70 (by omega)]; exact if_neg (by omega)))
        show ∃ A' c', _ ∧ _
        rw [e1, e2]
        exact ⟨none, 0, rfl, rfl⟩
      · (try replace hg70 := of_decide_eq_false hg70)
        refine vl_on rfl rfl rfl rfl ?_
        refine vl_val rfl (.some rfl) (val_load Tryd.isAgg33 rfl (by first | exact cell_cells (by repeat constructor) rfl | exact cell_rd (by first | exact rd_sl (by repeat constructor) | exact rd_old (by assumption) rfl) (by first | exact bcells_at (by omega) | exact ucells_at (by omega) | exact icells_at (by omega) | exact tcells_at (by omega) | exact bcells_get (by omega) | exact icells_get (by omega) | exact tcells_get (by omega) | exact ucells_get (by omega)) | exact cell_old (by assumption) (by simp [fps]))) ?_
        refine vl_on rfl rfl rfl rfl ?_
        refine vl_val rfl (.some rfl) (val_lenSl Tryd.runUnderlying33 rfl) ?_
        refine vl_on rfl rfl rfl rfl ?_
        refine vl_val rfl (.some rfl) (val_gt rfl rfl) ?_
        refine vl_val rfl (.some rfl) (val_pick rfl rfl) ?_
        refine vl_nil ?_
        refine vc_cond rfl (fun hc4 => ?_) (fun hc4 => ?_)
        · (try replace hc4 := of_decide_eq_true hc4)
          refine vc_seq ?_
          refine vc_region ?_
          refine vl_val rfl (.some rfl) (val_assign rfl) ?_
          refine vl_nilSl 25 3 ?_
          refine vl_val rfl (.some rfl) (val_assign rfl) ?_
          refine vl_nil ?_
          refine vc_ret ?_
          refine ⟨_, [DS none 0 []], _, res2 Tryd.results8 rfl rfl, (by repeat constructor), ?_⟩
          obtain ⟨e1, e2⟩ := load9_none (b := b) (by first | exact hst.1 hg70 | exact hst.1 (by simpa using hg16) | (rw [st_end hst hg70 (by omega)]; exact if_neg (by omega)))
          show ∃ A' c', _ ∧ _
          rw [e1, e2]
          exact ⟨none, 0, rfl, rfl⟩
        · (try replace hc4 := of_decide_eq_false hc4)
          refine vc_skip ?_
          refine vc_seq ?_
          refine vc_region ?_
          refine vl_val rfl (.some rfl) (val_move rfl) ?_
          refine vl_val rfl (.some rfl) (val_assign rfl) ?_
          refine vl_val rfl (.some rfl) (val_assign rfl) ?_
          refine vl_nil ?_
          refine vc_ret ?_
          refine ⟨_, [DS A7 c7 acc], _, res2 Tryd.results8 rfl rfl, (by repeat constructor), ?_⟩
          obtain ⟨e1, e2⟩ := load9_some (b := b) (l := acc) (by first | (rw [st_end hst hg70 (by omega)]; exact if_pos (by omega)) | (exfalso; rw [hg70] at hg16; cases hg16))
          show ∃ A' c', _ ∧ _
          rw [e1, e2]
          exact ⟨A7, c7, rfl, rfl⟩
  · (try replace hg16 := of_decide_eq_false hg16)
    refine vl_off rfl rfl rfl rfl (.some rfl) ?_
    refine vl_off rfl rfl rfl rfl (.some rfl) ?_
    refine vl_off rfl rfl rfl rfl (.some rfl) ?_
    refine vl_val rfl (.some rfl) (val_pick rfl rfl) ?_
    refine vl_nil ?_
    refine vc_cond rfl (fun h => by cases h) (fun _ => ?_)
    refine vc_exit ?_
    refine vc_seq ?_
    refine vc_seq ?_
    refine vc_region ?_
    refine vl_val rfl (.some rfl) (val_load Tryd.isAgg4 rfl (by first | exact cell_cells (by repeat constructor) rfl | exact cell_rd (by first | exact rd_sl (by repeat constructor) | exact rd_old (by assumption) rfl) (by first | exact bcells_at (by omega) | exact ucells_at (by omega) | exact icells_at (by omega) | exact tcells_at (by omega) | exact bcells_get (by omega) | exact icells_get (by omega) | exact tcells_get (by omega) | exact ucells_get (by omega)) | exact cell_old (by assumption) (by simp [fps]))) ?_
    refine vl_val rfl (.some rfl) (val_move rfl) ?_
    refine vl_split (t := 70) rfl (fun hg70 => ?_) (fun hg70 => ?_)
    · (try replace hg70 := of_decide_eq_true hg70)
      refine vl_off rfl rfl rfl rfl (.some rfl) ?_
      refine vl_off rfl rfl rfl rfl (.some rfl) ?_
      refine vl_off rfl rfl rfl rfl (.some rfl) ?_
      refine vl_val rfl (.some rfl) (val_pick rfl rfl) ?_
      refine vl_nil ?_
      refine vc_cond rfl (fun _ => ?_) (fun h => by cases h)
      refine vc_seq ?_
      refine vc_region ?_
      refine vl_val rfl (.some rfl) (val_assign rfl) ?_
      refine vl_nilSl 25 3 ?_
      refine vl_val rfl (.some rfl) (val_assign rfl) ?_
      refine vl_nil ?_
      refine vc_ret ?_
      refine ⟨_, [DS none 0 []], _, res2 Tryd.results8 rfl rfl, (by repeat constructor), ?_⟩
      obtain ⟨e1, e2⟩ := load9_none (b := b) (by first | exact hst.1 hg70 | exact hst.1 (by simpa using hg16) | (rw [st_end hst hg70 (by omega)]; exact if_neg (by omega)))
      show ∃ A' c', _ ∧ _
      rw [e1, e2]
      exact ⟨none, 0, rfl, rfl⟩
    · (try replace hg70 := of_decide_eq_false hg70)
      refine vl_on rfl rfl rfl rfl ?_
      refine vl_val rfl (.some rfl) (val_load Tryd.isAgg33 rfl (by first | exact cell_cells (by repeat constructor) rfl | exact cell_rd (by first | exact rd_sl (by repeat constructor) | exact rd_old (by assumption) rfl) (by first | exact bcells_at (by omega) | exact ucells_at (by omega) | exact icells_at (by omega) | exact tcells_at (by omega) | exact bcells_get (by omega) | exact icells_get (by omega) | exact tcells_get (by omega) | exact ucells_get (by omega)) | exact cell_old (by assumption) (by simp [fps]))) ?_
      refine vl_on rfl rfl rfl rfl ?_
      refine vl_val rfl (.some rfl) (val_lenSl Tryd.runUnderlying33 rfl) ?_
      refine vl_on rfl rfl rfl rfl ?_
      refine vl_val rfl (.some rfl) (val_gt rfl rfl) ?_
      refine vl_val rfl (.some rfl) (val_pick rfl rfl) ?_
      refine vl_nil ?_
      refine vc_cond rfl (fun hc4 => ?_) (fun hc4 => ?_)
      · (try replace hc4 := of_decide_eq_true hc4)
        refine vc_seq ?_
        refine vc_region ?_
        refine vl_val rfl (.some rfl) (val_assign rfl) ?_
        refine vl_nilSl 25 3 ?_
        refine vl_val rfl (.some rfl) (val_assign rfl) ?_
        refine vl_nil ?_
        refine vc_ret ?_
        refine ⟨_, [DS none 0 []], _, res2 Tryd.results8 rfl rfl, (by repeat constructor), ?_⟩
        obtain ⟨e1, e2⟩ := load9_none (b := b) (by first | exact hst.1 hg70 | exact hst.1 (by simpa using hg16) | (rw [st_end hst hg70 (by omega)]; exact if_neg (by omega)))
        show ∃ A' c', _ ∧ _
        rw [e1, e2]
        exact ⟨none, 0, rfl, rfl⟩
      · (try replace hc4 := of_decide_eq_false hc4)
        refine vc_skip ?_
        refine vc_seq ?_
        refine vc_region ?_
        refine vl_val rfl (.some rfl) (val_move rfl) ?_
        refine vl_val rfl (.some rfl) (val_assign rfl) ?_
        refine vl_val rfl (.some rfl) (val_assign rfl) ?_
        refine vl_nil ?_
        refine vc_ret ?_
        refine ⟨_, [DS A7 c7 acc], _, res2 Tryd.results8 rfl rfl, (by repeat constructor), ?_⟩
        obtain ⟨e1, e2⟩ := load9_some (b := b) (l := acc) (by first | (rw [st_end hst hg70 (by omega)]; exact if_pos (by omega)) | (exfalso; rw [hg70] at hg16; cases hg16))
        show ∃ A' c', _ ∧ _
        rw [e1, e2]
        exact ⟨A7, c7, rfl, rfl⟩


end Go.Proofs.YtclknendeeljaaaDoor.K
