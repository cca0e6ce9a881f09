/- Walks of the program's functions, printed by a program of this session; Lean checks them. -/
import Derived.Test.YtibfngjfjddaiaaDrlaw
import Derived.Test.YtibfngjfjddaiaaKr
import Derived.Test.YtibfngjfjddaiaaKs
namespace Go.Proofs.Ytibfngjfjddaiaa.K
open Go Go.RowKit Go.Proofs
set_option linter.unusedVariables false
set_option linter.unusedSimpArgs false

theorem dadd_takes {kd : Int} {vs : List Vk} {p : Vk} (ht : ∀ q ∈ vs, takesB kd q = true) : ∀ q ∈ (dadd kd vs p).2, takesB kd q = true := by
  unfold dadd
  split
  · exact ht
  · rename_i h
    split
    · exact ht
    · split
      · exact ht
      · intro q hq
        rcases List.mem_append.1 hq with hq | hq
        · exact ht q hq
        · simp at hq; subst hq; simpa using h
theorem dadd_front {kd : Int} {vs : List Vk} {p : Vk} : ∃ t, (dadd kd vs p).2 = vs ++ t := by
  unfold dadd
  split
  · exact ⟨[], by simp⟩
  · split
    · exact ⟨[], by simp⟩
    · split
      · exact ⟨[], by simp⟩
      · exact ⟨[p], rfl⟩
theorem dadd_copy {kd : Int} {vs : List Vk} {i : Nat} (ht : ∀ q ∈ vs, takesB kd q = true) (hn : vs.Nodup) (hl : vs.length ≤ 512) (hi : i < vs.length) : dadd kd (vs.take i) (vs.getD i z3) = (((i : Int), 0), vs.take (i + 1)) := by
  have e : vs.getD i z3 = vs[i] := by simp [List.getD, List.getElem?_eq_getElem hi]
  rw [e]
  have hm : vs[i] ∉ vs.take i := by
    intro h
    obtain ⟨j, hj, hje⟩ := List.mem_iff_getElem.1 h
    rw [List.length_take] at hj
    rw [List.getElem_take] at hje
    exact List.pairwise_iff_getElem.1 hn j i (by omega) hi (by omega) hje
  unfold dadd
  rw [if_neg (by rw [ht _ (List.getElem_mem hi)]; simp), if_neg hm, if_neg (by rw [List.length_take]; omega)]
  congr 1
  · rw [List.length_take, Nat.min_eq_left (by omega)]
  · rw [List.take_add_one, List.getElem?_eq_getElem hi]; rfl
theorem front_at {vs t : List Vk} {i : Nat} {p : Vk} (hi : i < vs.length) (h : vs.getD i z3 = p) : (vs ++ t).getD i z3 = p := by
  rw [← h]; simp [List.getD, List.getElem?_append_left hi]

set_option maxRecDepth 20000 in
theorem dClone (A : Option Addr) (c : Nat) (vs : List Vk) (hl : vs.length ≤ 512) (w : World) : Fn Try.prog 52 [.slice A vs.length c] [DS A c vs] (ret fun u H' => ∃ A' c', u = .slice A' vs.length c' ∧ H' = [DS A c vs, DS A' c' vs]) w := by
  refine fn_enter Try.func52 rfl Try.ntmps52 rfl ?_
  refine vc_seq ?_
  refine vc_region ?_
  refine vl_val rfl (.some rfl) (val_assign rfl) ?_
  refine vl_nil ?_
  refine vc_seq ?_
  refine vc_seq ?_
  refine vc_region ?_
  refine vl_val rfl (.some rfl) (val_move rfl) ?_
  refine vl_val rfl (.some rfl) (val_opO rfl rfl guard_slice (bin_slice_eq Try.runUnderlying22)) ?_
  refine vl_nil ?_
  refine vc_cond rfl (fun hc0 => ?_) (fun hc0 => ?_)
  · (try replace hc0 := of_decide_eq_true hc0)
    refine vc_seq ?_
    refine vc_region ?_
    refine vl_slNone (by repeat (first | exact .head | apply In.tail | apply Take.tail | apply Upd.tail)) (fun hno => ?_)
    obtain ⟨hz, rfl⟩ := hno (by simpa using hc0)
    obtain rfl : A = none := by simpa using hc0
    obtain rfl := List.length_eq_zero_iff.1 hz
    refine vl_val rfl (.some rfl) (val_assign rfl) ?_
    refine vl_nilSl 27 3 ?_
    refine vl_nil ?_
    refine vc_ret ?_
    refine ⟨_, [DS none 0 [], DS none 0 []], _, res1 Try.results52 rfl, (by repeat (first | exact .nil | (apply Sub.cons; · repeat (first | exact .head | apply Take.tail)))), ?_⟩
    exact ⟨none, 0, rfl, rfl⟩
  · (try replace hc0 := of_decide_eq_false hc0)
    refine vc_skip ?_
    refine vc_seq ?_
    refine vc_region ?_
    refine vl_lit0 sT22 Try.sizeOf27 rfl rfl (.some rfl) (fun r5 => ?_)
    refine vl_val rfl (.some rfl) (val_move rfl) ?_
    refine vl_append sT22 rfl rfl (.some rfl) rfl rfl (rd_sl (.tail .head)) (by rw [vflat_len]) (by simp [flat]; exact fun _ _ => ⟨rfl, rfl, rfl⟩) (by omega) (by omega) (.head) (fun A7 k7 => ?_)
    show VL _ _ _ _ ((7, .slice A7 (0 + vs.length) k7) :: _) (sl A7 (0 + vs.length) k7 27 3 ([] ++ flat vs) :: _)
    rw [Nat.zero_add, List.nil_append]
    refine vl_val rfl (.some rfl) (val_assign rfl) ?_
    refine vl_nil ?_
    refine vc_ret ?_
    refine ⟨_, [DS A c vs, DS A7 k7 vs], _, res1 Try.results52 rfl, (by repeat (first | exact .nil | (apply Sub.cons; · repeat (first | exact .head | apply Take.tail)))), ?_⟩
    exact ⟨A7, k7, rfl, rfl⟩
set_option maxRecDepth 20000 in
theorem dValues (r m : Nat) (kd : Int) (A : Option Addr) (c : Nat) (vs : List Vk) (hl : vs.length ≤ 512) (w : World) : Fn Try.prog 22 [.pointer (some ⟨r, 0, none⟩)] [DC r m kd A vs.length c, DS A c vs] (ret fun u H' => ∃ A' c', u = .slice A' vs.length c' ∧ H' = [DC r m kd A vs.length c, DS A c vs, DS A' c' vs]) w := by
  refine fn_enter Try.func22 rfl Try.ntmps22 rfl ?_
  refine vc_seq ?_
  refine vc_region ?_
  refine vl_val rfl (.some rfl) (val_assign rfl) ?_
  refine vl_nil ?_
  refine vc_seq ?_
  refine vc_seq ?_
  refine vc_region ?_
  refine vl_val rfl (.some rfl) (val_move rfl) ?_
  refine vl_callR [DC r m kd A vs.length c] rfl rfl (.some rfl) Try.call50 rfl (by repeat (first | exact .nil | (apply Sub.cons; · repeat (first | exact .head | apply Take.tail)))) (fun w hw => dMade r m kd A vs.length c w) ?_
  refine vl_val rfl (.some rfl) (val_not rfl) ?_
  refine vl_nil ?_
  refine vc_cond rfl (fun h => by cases h) (fun _ => ?_)
  refine vc_skip ?_
  refine vc_seq ?_
  refine vc_region ?_
  refine vl_val rfl (.some rfl) (val_move rfl) ?_
  refine vl_val rfl (.some rfl) (val_nil rfl rfl) ?_
  refine vl_val rfl (.some rfl) (by first | exact val_fieldAddr Try.runUnderlying52 rfl Try.sizeOf22 rfl | exact val_fieldAddrR Try.runUnderlying52 rfl Try.sizeOf22 rfl) ?_
  refine vl_val rfl (.some rfl) (val_load Try.isAgg22 rfl (by first | exact cell_cells (by repeat (first | exact .head | apply In.tail | apply Take.tail | apply Upd.tail)) rfl | exact cell_rd (rd_sl (by repeat (first | exact .head | apply In.tail | apply Take.tail | apply Upd.tail))) (by first | exact bcells_get (by omega) | exact icells_get (by omega) | exact tcells_get (by omega)))) ?_
  refine vl_call (C := [DS A c vs]) rfl rfl (.some rfl) Try.call52 rfl (by repeat (first | exact .nil | (apply Sub.cons; · repeat (first | exact .head | apply Take.tail)))) (fun w hw => dClone A c vs hl w) (fun v H' h => ?_)
  obtain ⟨A1, c1, rfl, rfl⟩ := h
  show VL _ _ _ _ _ (_ :: _ :: _)
  refine vl_val rfl (.some rfl) (val_assign rfl) ?_
  refine vl_nil ?_
  refine vc_ret ?_
  refine ⟨_, [DC r m kd A vs.length c, DS A c vs, DS A1 c1 vs], _, res1 Try.results22 rfl, (by repeat (first | exact .nil | (apply Sub.cons; · repeat (first | exact .head | apply Take.tail)))), ?_⟩
  exact ⟨A1, c1, rfl, rfl⟩
set_option maxRecDepth 20000 in
set_option maxHeartbeats 400000 in
theorem dCopy (r m : Nat) (kd : Int) (A : Option Addr) (c : Nat) (vs : List Vk) (hk : 1 ≤ kd ∧ kd ≤ 4) (ht : ∀ q ∈ vs, takesB kd q = true) (hn : vs.Nodup) (hl : vs.length ≤ 512) (w : World) : Fn Try.prog 20 [.pointer (some ⟨r, 0, none⟩)] [DC r m kd A vs.length c, DS A c vs] (ret fun u H' => ∃ r' m' A' c', u = .pointer (some ⟨r', 0, none⟩) ∧ H' = [DC r m kd A vs.length c, DS A c vs, DC r' m' kd A' vs.length c', DM m' vs, DS A' c' vs]) w := by
  refine fn_enter Try.func20 rfl Try.ntmps20 rfl ?_
  refine vc_seq ?_
  refine vc_region ?_
  refine vl_val rfl (.some rfl) (val_assign rfl) ?_
  refine vl_nil ?_
  refine vc_seq ?_
  refine vc_seq ?_
  refine vc_region ?_
  refine vl_val rfl (.some rfl) (val_move rfl) ?_
  refine vl_callR [DC r m kd A vs.length c] rfl rfl (.some rfl) Try.call50 rfl (by repeat (first | exact .nil | (apply Sub.cons; · repeat (first | exact .head | apply Take.tail)))) (fun w hw => dMade r m kd A vs.length c w) ?_
  refine vl_val rfl (.some rfl) (val_not rfl) ?_
  refine vl_nil ?_
  refine vc_cond rfl (fun h => by cases h) (fun _ => ?_)
  refine vc_skip ?_
  refine vc_seq ?_
  refine vc_region ?_
  refine vl_val rfl (.some rfl) (val_move rfl) ?_
  refine vl_val rfl (.some rfl) (val_nil rfl rfl) ?_
  refine vl_val rfl (.some rfl) (by first | exact val_fieldAddr Try.runUnderlying52 rfl Try.sizeOf3 rfl | exact val_fieldAddrR Try.runUnderlying52 rfl Try.sizeOf3 rfl) ?_
  refine vl_val rfl (.some rfl) (val_load Try.isAgg3 rfl (by first | exact cell_cells (by repeat (first | exact .head | apply In.tail | apply Take.tail | apply Upd.tail)) rfl | exact cell_rd (rd_sl (by repeat (first | exact .head | apply In.tail | apply Take.tail | apply Upd.tail))) (by first | exact bcells_get (by omega) | exact icells_get (by omega) | exact tcells_get (by omega)))) ?_
  refine vl_call rfl rfl (.some rfl) Try.call13 rfl .nil (fun w hw => dNew kd hk.1 hk.2 w) (fun v H' h => ?_)
  obtain ⟨r2, m2, rfl, rfl⟩ := h
  show VL _ _ _ _ _ (_ :: _ :: _ :: _)
  refine vl_val rfl (.some rfl) (val_assign rfl) ?_
  refine vl_nil ?_
  refine vc_seq ?_
  refine vc_seq ?_
  refine vc_region ?_
  refine vl_val rfl (.some rfl) (val_move rfl) ?_
  refine vl_val rfl (.some rfl) (val_nil rfl rfl) ?_
  refine vl_val rfl (.some rfl) (by first | exact val_fieldAddr Try.runUnderlying52 rfl Try.sizeOf22 rfl | exact val_fieldAddrR Try.runUnderlying52 rfl Try.sizeOf22 rfl) ?_
  refine vl_val rfl (.some rfl) (val_load Try.isAgg22 rfl (by first | exact cell_cells (by repeat (first | exact .head | apply In.tail | apply Take.tail | apply Upd.tail)) rfl | exact cell_rd (rd_sl (by repeat (first | exact .head | apply In.tail | apply Take.tail | apply Upd.tail))) (by first | exact bcells_get (by omega) | exact icells_get (by omega) | exact tcells_get (by omega)))) ?_
  refine vl_val rfl (.some rfl) (val_lenSl Try.runUnderlying22 rfl) ?_
  refine vl_val rfl (.some rfl) (val_move rfl) ?_
  refine vl_nil ?_
  refine vc_block ?_
  refine vc_loopw (fun k E H => ∃ (i : Nat) (A2 : Option Addr) (c2 : Nat), i ≤ vs.length ∧ k = vs.length - i ∧ E = [(3, .pointer (some ⟨r2, 0, none⟩)), (17, .slice A vs.length c), (18, .int .i64 vs.length), (19, .int .i64 i)] ∧ H = [DC r m kd A vs.length c, DS A c vs, DC r2 m2 kd A2 (vs.take i).length c2, DM m2 (vs.take i), DS A2 c2 (vs.take i)]) (vs.length) ⟨_, _, _, ⟨0, none, 0, by omega, rfl, rfl, rfl⟩, (by repeat (first | exact trivial | refine ⟨rfl, ?_⟩ | refine ⟨le_item rfl (by first | rfl | (congr 1; omega) | (simp; done) | (simp; omega)), ?_⟩)), (by repeat (first | exact .nil | (apply Sub.cons; · repeat (first | exact .head | apply Take.tail))))⟩ ?_
  intro k E H hI
  obtain ⟨i, A2, c2, hi, rfl, rfl, rfl⟩ := hI
  refine vc_seq ?_
  refine vc_region ?_
  refine vl_val rfl (.some rfl) (val_lt rfl rfl) ?_
  refine vl_nil ?_
  refine vc_seq ?_
  refine vc_cond rfl (fun hc1 => ?_) (fun hc1 => ?_)
  · (try replace hc1 := of_decide_eq_true hc1)
    have hf := flat_at vs i (by omega)
    obtain ⟨p, hp⟩ : ∃ p, vs.getD i z3 = p := ⟨_, rfl⟩
    rw [hp] at hf
    refine vc_skip ?_
    refine vc_seq ?_
    refine vc_block ?_
    refine vc_seq ?_
    refine vc_region ?_
    refine vl_val rfl (.some rfl) (val_indexAddr Try.runUnderlying22 Try.sizeOf27 rfl rfl (rd_sl (A := A) (n := vs.length) (c := c) (e := 27) (sz := 3) (vs := flat vs) (by repeat (first | exact .head | apply In.tail | apply Take.tail | apply Upd.tail))) (by omega) (by omega) (by rw [vflat_len]; omega)) ?_
    refine vl_val rfl (.some rfl) (val_loadAgg Try.isAgg27 Try.sizeOf27 rfl (rd_part (us := [.int .i64 p.k, .int .i64 p.n, .string p.s]) (rd_sl (A := A) (n := vs.length) (c := c) (e := 27) (sz := 3) (vs := flat vs) (by repeat (first | exact .head | apply In.tail | apply Take.tail | apply Upd.tail))) hf) rfl) ?_
    refine vl_alloc rfl rfl (.some rfl) Try.zeroValue27 (fun r5 => ?_)
    first | refine vl_store rfl rfl .none rfl rfl Try.sizeOf27 rfl (by repeat (first | exact .head | apply In.tail | apply Take.tail | apply Upd.tail)) (by first | decide | exact Nat.le_refl _ | (simp; omega)) ?_ | refine vl_storeSl rfl rfl .none rfl rfl Try.sizeOf27 rfl (by simp [Value.cells]) (by repeat (first | exact .head | apply In.tail | apply Take.tail | apply Upd.tail)) (by first | decide | (simp [Value.cells]; omega)) ?_
    refine vl_nil ?_
    refine vc_region ?_
    refine vl_val rfl (.some rfl) (val_move rfl) ?_
    refine vl_val rfl (.some rfl) (val_loadAgg Try.isAgg27 Try.sizeOf27 rfl (by first | exact cells_whole (by repeat (first | exact .head | apply In.tail | apply Take.tail | apply Upd.tail)) | exact cells_part (by repeat (first | exact .head | apply In.tail | apply Take.tail | apply Upd.tail)) rfl) rfl) ?_
    refine vl_call (C := DH r2 m2 kd A2 c2 (vs.take i)) rfl rfl (.some rfl) Try.call16 rfl (by repeat (first | exact .nil | (apply Sub.cons; · repeat (first | exact .head | apply Take.tail)))) (fun w hw => dAdd r2 m2 kd A2 c2 (vs.take i) p w) (fun v H' h => ?_)
    obtain ⟨A3, c3, rfl, rfl⟩ := h
    rw [← hp, dadd_copy ht hn hl (by omega)]
    show VL _ _ _ _ _ (DC r2 m2 kd A3 (vs.take (i + 1)).length c3 :: DM m2 (vs.take (i + 1)) :: DS A3 c3 (vs.take (i + 1)) :: _)
    refine vl_nil ?_
    refine vc_region ?_
    refine vl_val rfl (.some rfl) (val_add rfl rfl (by first | exact w_i64 (by omega) (by omega) | rfl)) ?_
    refine vl_val rfl (.some rfl) (val_move rfl) ?_
    refine vl_nil ?_
    exact ⟨vs.length - (i + 1), _, _, _, by omega, (by repeat (first | exact trivial | refine ⟨rfl, ?_⟩ | refine ⟨le_item rfl (by first | rfl | (congr 1; omega) | (simp; done) | (simp; omega)), ?_⟩)), (by repeat (first | exact .nil | (apply Sub.cons; · repeat (first | exact .head | apply Take.tail)))), ⟨i + 1, A3, c3, by omega, rfl, rfl, rfl⟩⟩
  · (try replace hc1 := of_decide_eq_false hc1)
    obtain rfl : i = vs.length := by omega
    rw [List.take_length]
    refine vc_exit ?_
    refine vc_seq ?_
    refine vc_region ?_
    refine vl_val rfl (.some rfl) (val_move rfl) ?_
    refine vl_val rfl (.some rfl) (val_assign rfl) ?_
    refine vl_nil ?_
    refine vc_ret ?_
    refine ⟨_, [DC r m kd A vs.length c, DS A c vs, DC r2 m2 kd A2 vs.length c2, DM m2 vs, DS A2 c2 vs], _, res1 Try.results20 rfl, (by repeat (first | exact .nil | (apply Sub.cons; · repeat (first | exact .head | apply Take.tail)))), ?_⟩
    exact ⟨r2, m2, A2, c2, rfl, rfl⟩

end Go.Proofs.Ytibfngjfjddaiaa.K
