/- Walks of the program's functions, printed by a program of this session; Lean checks them. -/
import Derived.Test.YtibfngjfjddaiaaDroom
namespace Go.Proofs.Ytibfngjfjddaiaa.K
open Go Go.RowKit Go.Proofs
set_option linter.unusedVariables false
set_option linter.unusedSimpArgs false

abbrev W1 (i : Nat) : Vk := ⟨1, i, ⟨#[]⟩⟩
theorem takes1 (n : Int) : takesB 1 ⟨1, n, ⟨#[]⟩⟩ = true := by
  unfold takesB goodV
  simp
def L1 (i : Nat) : List Vk := (List.range (min i 512)).map W1
theorem L1_len (i : Nat) : (L1 i).length = min i 512 := by simp [L1]
theorem L1_mem {i j : Nat} (h : j < min i 512) : W1 j ∈ L1 i := List.mem_map.2 ⟨j, List.mem_range.2 h, rfl⟩
theorem L1_not {i : Nat} : W1 i ∉ L1 i := by
  intro h
  obtain ⟨j, hj, e⟩ := List.mem_map.1 h
  have hj := List.mem_range.1 hj
  have : (j : Int) = i := congrArg Vk.n e
  omega
theorem L1_add (i : Nat) : dadd 1 (L1 i) (W1 i) = (((if i < 512 then (i : Int) else 0), (if i < 512 then 0 else 7)), L1 (i + 1)) := by
  unfold dadd
  rw [if_neg (by rw [takes1]; simp), if_neg L1_not, L1_len]
  by_cases h : i < 512
  · rw [if_neg (by omega), if_pos h, if_pos h, show min i 512 = i by omega]
    congr 1
    unfold L1
    rw [show min i 512 = i by omega, show min (i + 1) 512 = i + 1 by omega, List.range_succ, List.map_append]
    rfl
  · rw [if_pos (by omega), if_neg h, if_neg h]
    congr 1
    unfold L1
    rw [show min i 512 = 512 by omega, show min (i + 1) 512 = 512 by omega]
def L2 (j : Nat) : List Vk := (List.range j).map fun (j : Nat) => ⟨1, 300 + (j : Int), ⟨#[]⟩⟩
theorem L2_len (j : Nat) : (L2 j).length = j := by simp [L2]
theorem L2_takes {j : Nat} : ∀ p ∈ L2 j, takesB 1 p = true := by
  intro p hp
  obtain ⟨i, _, rfl⟩ := List.mem_map.1 hp
  exact takes1 _
theorem L2_flat (j : Nat) : flat (L2 j) ++ [.int .i64 1, .int .i64 (300 + (j : Int)), .string ⟨#[]⟩] = flat (L2 (j + 1)) := by
  rw [show L2 (j + 1) = L2 j ++ [⟨1, 300 + (j : Int), ⟨#[]⟩⟩] by unfold L2; rw [List.range_succ, List.map_append]; rfl, ← flat_push]
theorem L2_succ (j : Nat) : (L2 j).length + 1 = (L2 (j + 1)).length := by rw [L2_len, L2_len]
def adds (vs : List Vk) : List Vk → List Vk × Bool
  | [] => (vs, true)
  | p :: us => ((adds (dadd 1 vs p).2 us).1, decide ((dadd 1 vs p).1.2 = 0) && (adds (dadd 1 vs p).2 us).2)
theorem adds_snoc : ∀ (us : List Vk) (vs : List Vk) (p : Vk), adds vs (us ++ [p]) = ((dadd 1 (adds vs us).1 p).2, (adds vs us).2 && decide ((dadd 1 (adds vs us).1 p).1.2 = 0))
  | [], vs, p => by
    simp only [List.nil_append, adds, Bool.and_true, Bool.true_and]
    rfl
  | q :: us, vs, p => by
    simp only [List.cons_append, adds]
    rw [adds_snoc us _ p]
    simp only [Bool.and_assoc]
    rfl
theorem adds_room : ∀ (us vs : List Vk), (∀ p ∈ us, takesB 1 p = true) → vs.length ≤ 512 → (adds vs us).2 = roomB vs us ∧ (adds vs us).1.length ≤ 512
  | [], vs, _, h => by
    refine ⟨?_, h⟩
    unfold adds roomB fresh
    rw [decide_eq_true (by omega)]
  | p :: us, vs, ht, h => by
    have hp := ht p (by simp)
    have ht' : ∀ q ∈ us, takesB 1 q = true := fun q hq => ht q (by simp [hq])
    unfold adds roomB fresh
    by_cases hm : p ∈ vs
    · have e : dadd 1 vs p = ((((vs.idxOf p : Nat) : Int), 0), vs) := by unfold dadd; rw [if_neg (by rw [hp]; simp), if_pos hm]
      rw [e, if_pos hm]
      obtain ⟨a, b⟩ := adds_room us vs ht' h
      exact ⟨by rw [a]; simp [roomB], b⟩
    · rw [if_neg hm]
      by_cases hl : 512 ≤ vs.length
      · have e : dadd 1 vs p = ((0, 7), vs) := by unfold dadd; rw [if_neg (by rw [hp]; simp), if_neg hm, if_pos hl]
        rw [e]
        obtain ⟨a, b⟩ := adds_room us vs ht' h
        exact ⟨by rw [decide_eq_false (by omega : ¬ vs.length + (1 + fresh (vs ++ [p]) us) ≤ 512)]; rfl, b⟩
      · have e : dadd 1 vs p = ((((vs.length : Nat) : Int), 0), vs ++ [p]) := by unfold dadd; rw [if_neg (by rw [hp]; simp), if_neg hm, if_neg hl]
        rw [e]
        obtain ⟨a, b⟩ := adds_room us (vs ++ [p]) ht' (by simp; omega)
        refine ⟨?_, b⟩
        show (decide ((0 : Int) = 0) && (adds (vs ++ [p]) us).2) = _
        rw [a]
        simp only [roomB, List.length_append, List.length_cons, List.length_nil, decide_true, Bool.true_and]
        rw [decide_eq_decide]
        omega

set_option maxRecDepth 20000 in
set_option maxHeartbeats 400000 in
theorem law_DictRoom (u v : Int) (h0 : 0 ≤ u) (h1 : u < 18446744073709551616) (h2 : 0 ≤ v) (h3 : v < 18446744073709551616) (w : World) : FnV Try.prog 4 [.int .u64 u, .int .u64 v] (.bool true) w := by
  obtain ⟨a, ha, ha2⟩ : ∃ a : Nat, u % 600 = (a : Int) ∧ a < 600 := ⟨(u % 600).toNat, by omega, by omega⟩
  obtain ⟨b, hb, hb2⟩ : ∃ b : Nat, v % 600 = (b : Int) ∧ b < 600 := ⟨(v % 600).toNat, by omega, by omega⟩
  refine fn_enter Try.func4 rfl Try.ntmps4 rfl ?_
  refine vc_seq ?_
  refine vc_region ?_
  refine vl_val rfl (.some rfl) (val_assign rfl) ?_
  refine vl_nil ?_
  refine vc_seq ?_
  refine vc_region ?_
  refine vl_call rfl rfl (.some rfl) Try.call13 rfl .nil (fun w hw => dNew 1 (by decide) (by decide) w) (fun v H' h => ?_)
  obtain ⟨r, m, rfl, rfl⟩ := h
  show VL _ _ _ _ _ (_ :: _ :: _ :: _)
  refine vl_val rfl (.some rfl) (val_assign rfl) ?_
  refine vl_nil ?_
  refine vc_seq ?_
  refine vc_seq ?_
  refine vc_region ?_
  refine vl_val rfl (.some rfl) (val_move rfl) ?_
  refine vl_val rfl (.some rfl) (val_opO rfl rfl guard_ptr (bin_ptr_eq Try.runUnderlying23)) ?_
  refine vl_nil ?_
  refine vc_cond rfl (fun h => by cases h) (fun _ => ?_)
  refine vc_skip ?_
  refine vc_seq ?_
  refine vc_region ?_
  refine vl_val rfl (.some rfl) (val_move rfl) ?_
  refine vl_val rfl (.some rfl) (val_rem rfl rfl (by omega) (by first | exact rem_nn (by omega) | rfl)) ?_
  refine vl_val rfl (.some rfl) (val_convInt Try.runUnderlying37 Try.runUnderlying3 rfl (by first | exact w_i64 (by omega) (by omega) | rfl)) ?_
  refine vl_val rfl (.some rfl) (val_move rfl) ?_
  refine vl_val rfl (.some rfl) (val_rem rfl rfl (by omega) (by first | exact rem_nn (by omega) | rfl)) ?_
  refine vl_val rfl (.some rfl) (val_convInt Try.runUnderlying37 Try.runUnderlying3 rfl (by first | exact w_i64 (by omega) (by omega) | rfl)) ?_
  refine vl_val rfl (.some rfl) (val_assign rfl) ?_
  refine vl_val rfl (.some rfl) (val_assign rfl) ?_
  refine vl_nil ?_
  refine vc_seq ?_
  refine vc_seq ?_
  refine vc_region ?_
  refine vl_val rfl (.some rfl) (val_assign rfl) ?_
  refine vl_nil ?_
  refine vc_block ?_
  refine vc_loopw (fun k E H => ∃ (i : Nat) (A1 : Option Addr) (c1 : Nat), i ≤ a ∧ k = a - i ∧ E = [(5, .pointer (some ⟨r, 0, none⟩)), (6, .int .i64 (u % 600)), (7, .int .i64 (v % 600)), (8, .int .i64 i)] ∧ H = DH r m 1 A1 c1 (L1 i)) (a) ⟨_, _, _, ⟨0, none, 0, by omega, rfl, rfl, rfl⟩, (by repeat (first | exact trivial | refine ⟨rfl, ?_⟩ | refine ⟨le_item rfl (by first | rfl | (congr 1; omega) | (simp; done) | (simp; omega)), ?_⟩)), (by repeat (first | exact .nil | (apply Sub.cons; · repeat (first | exact .head | apply Take.tail))))⟩ ?_
  intro k E H hI
  obtain ⟨i, A1, c1, hi, rfl, rfl, rfl⟩ := hI
  refine vc_seq ?_
  refine vc_seq ?_
  refine vc_region ?_
  refine vl_val rfl (.some rfl) (val_move rfl) ?_
  refine vl_val rfl (.some rfl) (val_move rfl) ?_
  refine vl_val rfl (.some rfl) (val_lt rfl rfl) ?_
  refine vl_nil ?_
  refine vc_cond rfl (fun hc1 => ?_) (fun hc1 => ?_)
  · (try replace hc1 := of_decide_eq_true hc1)
    refine vc_skip ?_
    refine vc_seq ?_
    refine vc_block ?_
    refine vc_seq ?_
    refine vc_region ?_
    refine vl_val rfl (.some rfl) (val_move rfl) ?_
    refine vl_val rfl (.some rfl) (val_move rfl) ?_
    refine vl_val rfl (.some rfl) (val_buildSt (pl := #[(0, 1), (1, 1), (2, 1)]) (cs := #[.int .i64 1, .int .i64 i, .string ⟨#[]⟩]) Try.runUnderlying27 Try.zeroValue27 (fun w => by kernel_rfl) rfl rfl) ?_
    refine vl_call (C := DH r m 1 A1 c1 (L1 i)) rfl rfl (.some rfl) Try.call16 rfl (by repeat (first | exact .nil | (apply Sub.cons; · repeat (first | exact .head | apply Take.tail)))) (fun w hw => dAdd r m 1 A1 c1 (L1 i) (W1 i) w) (fun v H' h => ?_)
    obtain ⟨A2, c2, rfl, rfl⟩ := h
    rw [L1_add]
    show VL _ _ _ _ ((37, .tuple #[.int .i64 (if i < 512 then (i : Int) else 0), .int .i64 (if i < 512 then 0 else 7)]) :: _) (DC r m 1 A2 (L1 (i + 1)).length c2 :: DM m (L1 (i + 1)) :: DS A2 c2 (L1 (i + 1)) :: _)
    refine vl_val rfl (.some rfl) (val_move rfl) ?_
    refine vl_val rfl (.some rfl) (val_extract rfl rfl) ?_
    refine vl_val rfl (.some rfl) (val_extract rfl rfl) ?_
    refine vl_val rfl (.some rfl) (val_assign rfl) ?_
    refine vl_val rfl (.some rfl) (val_assign rfl) ?_
    refine vl_nil ?_
    refine vc_seq ?_
    refine vc_region ?_
    refine vl_val rfl (.some rfl) (val_move rfl) ?_
    refine vl_val rfl (.some rfl) (val_eq rfl rfl) ?_
    refine vl_val rfl (.some rfl) (val_move rfl) ?_
    refine vl_val rfl (.some rfl) (val_lt rfl rfl) ?_
    refine vl_val rfl (.some rfl) (val_bnet Try.underlying4 rfl rfl (by by_cases h : i < 512 <;> simp [h] <;> omega)) ?_
    refine vl_nil ?_
    refine vc_cond rfl (fun h => by cases h) (fun _ => ?_)
    refine vc_skip ?_
    refine vc_region ?_
    refine vl_val rfl (.some rfl) (val_move rfl) ?_
    refine vl_val rfl (.some rfl) (val_add rfl rfl (by first | exact w_i64 (by omega) (by omega) | rfl)) ?_
    refine vl_val rfl (.some rfl) (val_assign rfl) ?_
    refine vl_nil ?_
    exact ⟨a - (i + 1), _, _, _, by omega, (by repeat (first | exact trivial | refine ⟨rfl, ?_⟩ | refine ⟨le_item rfl (by first | rfl | (congr 1; omega) | (simp; done) | (simp; omega)), ?_⟩)), (by repeat (first | exact .nil | (apply Sub.cons; · repeat (first | exact .head | apply Take.tail)))), ⟨i + 1, A2, c2, by omega, rfl, rfl, rfl⟩⟩
  · (try replace hc1 := of_decide_eq_false hc1)
    obtain rfl : a = i := by omega
    refine vc_exit ?_
    refine vc_seq ?_
    refine vc_region ?_
    refine vl_val rfl (.some rfl) (val_assign rfl) ?_
    refine vl_nilSl 27 3 ?_
    refine vl_nil ?_
    refine vc_seq ?_
    refine vc_seq ?_
    refine vc_region ?_
    refine vl_val rfl (.some rfl) (val_assign rfl) ?_
    refine vl_nil ?_
    refine vc_block ?_
    refine vc_loopw (fun k E H => ∃ (j : Nat) (A2 : Option Addr) (c2 : Nat), j ≤ b ∧ k = b - j ∧ E = [(5, .pointer (some ⟨r, 0, none⟩)), (7, .int .i64 (v % 600)), (11, .slice A2 (L2 j).length c2), (12, .int .i64 j)] ∧ H = [DC r m 1 A1 (L1 a).length c1, DM m (L1 a), DS A1 c1 (L1 a), DS A2 c2 (L2 j)]) (b) ⟨_, _, _, ⟨0, none, 0, by omega, rfl, rfl, rfl⟩, (by repeat (first | exact trivial | refine ⟨rfl, ?_⟩ | refine ⟨le_item rfl (by first | rfl | (congr 1; omega) | (simp; done) | (simp; omega)), ?_⟩)), (by repeat (first | exact .nil | (apply Sub.cons; · repeat (first | exact .head | apply Take.tail))))⟩ ?_
    intro k E H hI
    obtain ⟨j, A2, c2, hj, rfl, rfl, rfl⟩ := hI
    refine vc_seq ?_
    refine vc_seq ?_
    refine vc_region ?_
    refine vl_val rfl (.some rfl) (val_move rfl) ?_
    refine vl_val rfl (.some rfl) (val_move rfl) ?_
    refine vl_val rfl (.some rfl) (val_lt rfl rfl) ?_
    refine vl_nil ?_
    refine vc_cond rfl (fun hc3 => ?_) (fun hc3 => ?_)
    · (try replace hc3 := of_decide_eq_true hc3)
      refine vc_skip ?_
      refine vc_seq ?_
      refine vc_block ?_
      refine vc_region ?_
      refine vl_val rfl (.some rfl) (val_move rfl) ?_
      refine vl_val rfl (.some rfl) (val_move rfl) ?_
      refine vl_val rfl (.some rfl) (val_add rfl rfl (by first | exact w_i64 (by omega) (by omega) | rfl)) ?_
      refine vl_val rfl (.some rfl) (val_buildSt (pl := #[(0, 1), (1, 1), (2, 1)]) (cs := #[.int .i64 1, .int .i64 (300 + (j : Int)), .string ⟨#[]⟩]) Try.runUnderlying27 Try.zeroValue27 (fun w => by kernel_rfl) rfl rfl) ?_
      refine vl_lit sT22 rfl rfl (.some rfl) rfl rfl rfl (by decide) (by decide) rfl rfl (fun r54 => ?_)
      refine vl_append sT22 rfl rfl (.some rfl) rfl rfl (rd_sl (by repeat (first | exact .head | apply In.tail | apply Take.tail | apply Upd.tail))) rfl rfl (by rw [L2_len]; omega) (by rw [L2_len]; omega) (by repeat (first | exact .head | apply In.tail | apply Take.tail | apply Upd.tail)) (fun A55 k55 => ?_)
      show VL _ _ _ _ ((55, .slice A55 ((L2 j).length + 1) k55) :: _) (sl A55 ((L2 j).length + 1) k55 27 3 (flat (L2 j) ++ [.int .i64 1, .int .i64 (300 + (j : Int)), .string ⟨#[]⟩]) :: _)
      rw [L2_flat, L2_succ]
      refine vl_val rfl (.some rfl) (val_assign rfl) ?_
      refine vl_nil ?_
      refine vc_region ?_
      refine vl_val rfl (.some rfl) (val_move rfl) ?_
      refine vl_val rfl (.some rfl) (val_add rfl rfl (by first | exact w_i64 (by omega) (by omega) | rfl)) ?_
      refine vl_val rfl (.some rfl) (val_assign rfl) ?_
      refine vl_nil ?_
      exact ⟨b - (j + 1), _, _, _, by omega, (by repeat (first | exact trivial | refine ⟨rfl, ?_⟩ | refine ⟨le_item rfl (by first | rfl | (congr 1; omega) | (simp; done) | (simp; omega)), ?_⟩)), (by repeat (first | exact .nil | (apply Sub.cons; · repeat (first | exact .head | apply Take.tail)))), ⟨j + 1, A55, k55, by omega, rfl, rfl, rfl⟩⟩
    · (try replace hc3 := of_decide_eq_false hc3)
      obtain rfl : b = j := by omega
      refine vc_exit ?_
      refine vc_seq ?_
      refine vc_region ?_
      refine vl_val rfl (.some rfl) (val_move rfl) ?_
      refine vl_val rfl (.some rfl) (val_move rfl) ?_
      refine vl_callR [DC r m 1 A1 (L1 a).length c1, DM m (L1 a), DS A2 c2 (L2 b)] rfl rfl (.some rfl) Try.call19 rfl (by repeat (first | exact .nil | (apply Sub.cons; · repeat (first | exact .head | apply Take.tail)))) (fun w hw => dRoom r m 1 A1 c1 (L1 a) (by rw [L1_len]; omega) A2 c2 (L2 b) (by rw [L2_len]; omega) L2_takes w) ?_
      refine vl_val rfl (.some rfl) (val_assign rfl) ?_
      refine vl_nil ?_
      refine vc_seq ?_
      refine vc_region ?_
      refine vl_val rfl (.some rfl) (val_assign rfl) ?_
      refine vl_nil ?_
      refine vc_seq ?_
      refine vc_seq ?_
      refine vc_region ?_
      refine vl_val rfl (.some rfl) (val_move rfl) ?_
      refine vl_val rfl (.some rfl) (val_lenSl Try.runUnderlying22 rfl) ?_
      refine vl_val rfl (.some rfl) (val_move rfl) ?_
      refine vl_nil ?_
      refine vc_block ?_
      refine vc_loopw (fun k E H => ∃ (i : Nat) (A3 : Option Addr) (c3 : Nat) (vs : List Vk) (ok : Bool), i ≤ (L2 b).length ∧ k = (L2 b).length - i ∧ vs = (adds (L1 a) ((L2 b).take i)).1 ∧ ok = (adds (L1 a) ((L2 b).take i)).2 ∧ E = [(5, .pointer (some ⟨r, 0, none⟩)), (13, .bool (roomB (L1 a) (L2 b))), (14, .bool ok), (59, .slice A2 (L2 b).length c2), (60, .int .i64 (L2 b).length), (61, .int .i64 i)] ∧ H = [DC r m 1 A3 vs.length c3, DM m vs, DS A3 c3 vs, DS A2 c2 (L2 b)]) ((L2 b).length) ⟨_, _, _, ⟨0, A1, c1, L1 a, true, by omega, rfl, rfl, rfl, rfl, rfl⟩, (by repeat (first | exact trivial | refine ⟨rfl, ?_⟩ | refine ⟨le_item rfl (by first | rfl | (congr 1; omega) | (simp; done) | (simp; omega)), ?_⟩)), (by repeat (first | exact .nil | (apply Sub.cons; · repeat (first | exact .head | apply Take.tail))))⟩ ?_
      intro k E H hI
      obtain ⟨i, A3, c3, vs, ok, hi, rfl, hvs, hbs, rfl, rfl⟩ := hI
      refine vc_seq ?_
      refine vc_region ?_
      refine vl_val rfl (.some rfl) (val_lt rfl rfl) ?_
      refine vl_nil ?_
      refine vc_seq ?_
      refine vc_cond rfl (fun hc4 => ?_) (fun hc4 => ?_)
      · (try replace hc4 := of_decide_eq_true hc4)
        have hl := L2_len b
        have hf := flat_at (L2 b) i (by omega)
        obtain ⟨p, hp⟩ : ∃ p, (L2 b).getD i z3 = p := ⟨_, rfl⟩
        rw [hp] at hf
        have htake : (L2 b).take (i + 1) = (L2 b).take i ++ [p] := by
          rw [List.take_add_one, ← hp]; simp [List.getD, List.getElem?_eq_getElem (show i < (L2 b).length by omega)]
        refine vc_skip ?_
        refine vc_seq ?_
        refine vc_block ?_
        refine vc_seq ?_
        refine vc_region ?_
        refine vl_val rfl (.some rfl) (val_indexAddr Try.runUnderlying22 Try.sizeOf27 rfl rfl (rd_sl (by repeat (first | exact .head | apply In.tail | apply Take.tail | apply Upd.tail))) (by omega) (by omega) (by rw [vflat_len]; omega)) ?_
        refine vl_val rfl (.some rfl) (val_loadAgg Try.isAgg27 Try.sizeOf27 rfl (rd_part (us := [.int .i64 p.k, .int .i64 p.n, .string p.s]) (rd_sl (by repeat (first | exact .head | apply In.tail | apply Take.tail | apply Upd.tail))) hf) rfl) ?_
        refine vl_alloc rfl rfl (.some rfl) Try.zeroValue27 (fun r16 => ?_)
        first | refine vl_store rfl rfl .none rfl rfl Try.sizeOf27 rfl (by repeat (first | exact .head | apply In.tail | apply Take.tail | apply Upd.tail)) (by first | decide | exact Nat.le_refl _ | (simp; omega)) ?_ | refine vl_storeSl rfl rfl .none rfl rfl Try.sizeOf27 rfl (by simp [Value.cells]) (by repeat (first | exact .head | apply In.tail | apply Take.tail | apply Upd.tail)) (by first | decide | (simp [Value.cells]; omega)) ?_
        refine vl_nil ?_
        refine vc_seq ?_
        refine vc_region ?_
        refine vl_val rfl (.some rfl) (val_move rfl) ?_
        refine vl_val rfl (.some rfl) (val_loadAgg Try.isAgg27 Try.sizeOf27 rfl (by first | exact cells_whole (by repeat (first | exact .head | apply In.tail | apply Take.tail | apply Upd.tail)) | exact cells_part (by repeat (first | exact .head | apply In.tail | apply Take.tail | apply Upd.tail)) rfl) rfl) ?_
        refine vl_call (C := DH r m 1 A3 c3 vs) rfl rfl (.some rfl) Try.call16 rfl (by repeat (first | exact .nil | (apply Sub.cons; · repeat (first | exact .head | apply Take.tail)))) (fun w hw => dAdd r m 1 A3 c3 vs p w) (fun v H' h => ?_)
        obtain ⟨A4, c4, rfl, rfl⟩ := h
        have hs := adds_snoc ((L2 b).take i) (L1 a) p
        rw [← hvs, ← hbs] at hs
        generalize dadd 1 vs p = q at hs ⊢
        obtain ⟨⟨id, er⟩, vs2⟩ := q
        dsimp only at hs
        show VL _ _ _ _ ((68, .tuple #[.int .i64 id, .int .i64 er]) :: _) (DC r m 1 A4 vs2.length c4 :: DM m vs2 :: DS A4 c4 vs2 :: _)
        refine vl_val rfl (.some rfl) (val_move rfl) ?_
        refine vl_val rfl (.some rfl) (val_extract rfl rfl) ?_
        refine vl_val rfl (.some rfl) (val_extract rfl rfl) ?_
        refine vl_val rfl (.some rfl) (val_assign rfl) ?_
        refine vl_val rfl (.some rfl) (val_assign rfl) ?_
        refine vl_nil ?_
        refine vc_region ?_
        refine vl_val rfl (.some rfl) (val_move rfl) ?_
        refine vl_val rfl (.some rfl) (val_move rfl) ?_
        refine vl_split (t := 72) rfl (fun hg72 => ?_) (fun hg72 => ?_)
        · (try replace hg72 := of_decide_eq_true hg72)
          have hbn : decide (er = 0) = (adds (L1 a) ((L2 b).take (i + 1))).2 := by rw [htake, hs]; show _ = (ok && _); rw [hg72]; rfl
          refine vl_on rfl rfl rfl rfl ?_
          refine vl_val rfl (.some rfl) (val_move rfl) ?_
          refine vl_on rfl rfl rfl rfl ?_
          refine vl_val rfl (.some rfl) (val_eq rfl rfl) ?_
          refine vl_val rfl (.some rfl) (val_pick rfl rfl) ?_
          refine vl_val rfl (.some rfl) (val_assign rfl) ?_
          refine vl_nil ?_
          refine vc_region ?_
          refine vl_val rfl (.some rfl) (val_add rfl rfl (by first | exact w_i64 (by omega) (by omega) | rfl)) ?_
          refine vl_val rfl (.some rfl) (val_move rfl) ?_
          refine vl_nil ?_
          exact ⟨(L2 b).length - (i + 1), _, _, _, by omega, (by repeat (first | exact trivial | refine ⟨rfl, ?_⟩ | refine ⟨le_item rfl (by first | rfl | (congr 1; omega) | (simp; done) | (simp; omega)), ?_⟩)), (by repeat (first | exact .nil | (apply Sub.cons; · repeat (first | exact .head | apply Take.tail)))), ⟨i + 1, A4, c4, vs2, _, by omega, rfl, (by rw [htake, hs]), hbn, rfl, rfl⟩⟩
        · (try replace hg72 := of_decide_eq_false hg72)
          have hbn : false = (adds (L1 a) ((L2 b).take (i + 1))).2 := by rw [htake, hs]; show _ = (ok && _); rw [hg72]; rfl
          refine vl_off rfl rfl rfl rfl (.some rfl) ?_
          refine vl_off rfl rfl rfl rfl (.some rfl) ?_
          refine vl_val rfl (.some rfl) (val_pick rfl rfl) ?_
          refine vl_val rfl (.some rfl) (val_assign rfl) ?_
          refine vl_nil ?_
          refine vc_region ?_
          refine vl_val rfl (.some rfl) (val_add rfl rfl (by first | exact w_i64 (by omega) (by omega) | rfl)) ?_
          refine vl_val rfl (.some rfl) (val_move rfl) ?_
          refine vl_nil ?_
          exact ⟨(L2 b).length - (i + 1), _, _, _, by omega, (by repeat (first | exact trivial | refine ⟨rfl, ?_⟩ | refine ⟨le_item rfl (by first | rfl | (congr 1; omega) | (simp; done) | (simp; omega)), ?_⟩)), (by repeat (first | exact .nil | (apply Sub.cons; · repeat (first | exact .head | apply Take.tail)))), ⟨i + 1, A4, c4, vs2, _, by omega, rfl, (by rw [htake, hs]), hbn, rfl, rfl⟩⟩
      · (try replace hc4 := of_decide_eq_false hc4)
        have hl := L2_len b
        obtain rfl : i = (L2 b).length := by omega
        rw [List.take_length] at hvs hbs
        have hro := adds_room (L2 b) (L1 a) L2_takes (by rw [L1_len]; omega)
        rw [← hvs, ← hbs] at hro
        have hfin : roomB (L1 a) (L2 b) = ok := hro.1.symm
        have hlen := hro.2
        refine vc_exit ?_
        refine vc_seq ?_
        refine vc_region ?_
        refine vl_val rfl (.some rfl) (val_move rfl) ?_
        refine vl_val rfl (.some rfl) (val_move rfl) ?_
        refine vl_val rfl (.some rfl) (val_beqt Try.underlying4 rfl rfl (hfin)) ?_
        refine vl_val rfl (.some rfl) (val_move rfl) ?_
        refine vl_on rfl rfl rfl rfl ?_
        refine vl_val rfl (.some rfl) (val_move rfl) ?_
        refine vl_on rfl rfl rfl rfl ?_
        refine vl_callR [DC r m 1 A3 vs.length c3] rfl rfl (.some rfl) Try.call15 rfl (by repeat (first | exact .nil | (apply Sub.cons; · repeat (first | exact .head | apply Take.tail)))) (fun w hw => dLen r m 1 A3 c3 vs w) ?_
        refine vl_on rfl rfl rfl rfl ?_
        refine vl_val rfl (.some rfl) (val_le rfl rfl) ?_
        refine vl_val rfl (.some rfl) (val_pick rfl rfl) ?_
        refine vl_val rfl (.some rfl) (val_move rfl) ?_
        refine vl_split (t := 85) rfl (fun hg85 => ?_) (fun hg85 => ?_)
        · (try replace hg85 := of_decide_eq_true hg85)
          refine vl_on rfl rfl rfl rfl ?_
          refine vl_callV rfl rfl (.some rfl) Try.call14 rfl (fun w hw => dLives w) ?_
          refine vl_val rfl (.some rfl) (val_pick rfl rfl) ?_
          refine vl_val rfl (.some rfl) (val_assign rfl) ?_
          refine vl_nil ?_
          refine vc_ret ?_
          refine ⟨_, [], _, res1 Try.results4 rfl, .nil, ?_⟩
          rfl
        · (try replace hg85 := of_decide_eq_false hg85)
          exfalso
          omega

end Go.Proofs.Ytibfngjfjddaiaa.K
