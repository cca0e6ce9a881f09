/- Walks of the program's functions, printed by a program of this session; Lean checks them. -/
import Derived.Test.YtclknendeeljaaaXve
namespace Go.Proofs.Ytclknendeeljaaa.K
open Go Go.RowKit Go.Proofs
set_option linter.unusedVariables false
set_option linter.unusedSimpArgs false


theorem flat_get {vs : List Vk} {i : Nat} {q : Int} (hq : q = (i : Int)) (h : i < vs.length) : ((flat vs).drop (Int.toNat q * 3)).take 3 = [.int .i64 (vs.getD i z3).k, .int .i64 (vs.getD i z3).n, .string (vs.getD i z3).s] := by rw [hq, Int.toNat_natCast]; exact flat_at vs i h
theorem load9_len {b : List UInt8} : (loadL9 b).length ≤ b.length := by
  cases h : loadV b with
  | none => rw [(load9_none h).1]; simp
  | some l =>
    rw [(load9_some h).1]
    unfold loadV at h
    split at h
    · cases h
    · have : ∀ (q c : Nat) (b : List UInt8) (l : List Vk), manyV q c b = some l → l.length ≤ b.length := by
        intro q
        induction q with
        | zero =>
          intro c b l h
          cases c with
          | zero => unfold manyV at h; split at h <;> cases h; simp
          | succ c => cases h
        | succ q ih =>
          intro c b l h
          cases c with
          | zero => unfold manyV at h; split at h <;> cases h; simp
          | succ c =>
            have h : (match oneV b with | none => none | some (v, r) => (manyV q c r).map (v :: ·)) = some l := h
            cases h1 : oneV b with
            | none => rw [h1] at h; cases h
            | some p =>
              obtain ⟨v, r⟩ := p
              have hl := (one_is h1).1
              rw [h1] at h
              have h : (manyV q c r).map (v :: ·) = some l := h
              cases h2 : manyV q c r with
              | none => rw [h2] at h; cases h
              | some l2 =>
                rw [h2] at h
                cases h
                have := ih c r l2 h2
                simp only [List.length_cons]; omega
      have := this _ _ _ _ h
      rw [List.length_drop] at this; omega

set_option maxRecDepth 20000 in
theorem lSame9 (A B : Option Addr) (c d : Nat) (a b : List Vk) (ha : a.length ≤ 1000000000000) (w : World) (hr : Reads w A (flat a)) (hr2 : Reads w B (flat b)) : FnV Try.prog 46 [.slice A a.length c, .slice B b.length d] (.bool (decide (a = b))) w := by
  refine fn_enter Try.func46 rfl Try.ntmps46 rfl ?_
  refine vc_seq ?_
  refine vc_region ?_
  refine vl_val rfl (.some rfl) (val_assign rfl) ?_
  refine vl_nil ?_
  refine vc_seq ?_
  refine vc_seq ?_
  refine vc_region ?_
  refine vl_val rfl (.some rfl) (val_move rfl) ?_
  refine vl_val rfl (.some rfl) (val_lenSl Try.runUnderlying71 rfl) ?_
  refine vl_val rfl (.some rfl) (val_move rfl) ?_
  refine vl_val rfl (.some rfl) (val_lenSl Try.runUnderlying71 rfl) ?_
  refine vl_val rfl (.some rfl) (val_ne rfl rfl) ?_
  refine vl_nil ?_
  refine vc_cond rfl (fun hc0 => ?_) (fun hc0 => ?_)
  · (try replace hc0 := of_decide_eq_true hc0)
    refine vc_seq ?_
    refine vc_region ?_
    refine vl_val rfl (.some rfl) (val_assign rfl) ?_
    refine vl_nil ?_
    refine vc_ret ?_
    refine ⟨_, [], _, res1 Try.results46 rfl, .nil, ?_⟩
    show _ = _; rw [decide_eq_false (fun h => hc0 (by rw [h]))]
  · (try replace hc0 := of_decide_eq_false hc0)
    have hlen : a.length = b.length := by omega
    refine vc_skip ?_
    refine vc_seq ?_
    refine vc_seq ?_
    refine vc_region ?_
    refine vl_val rfl (.some rfl) (val_move rfl) ?_
    refine vl_val rfl (.some rfl) (val_lenSl Try.runUnderlying71 rfl) ?_
    refine vl_val rfl (.some rfl) (val_move rfl) ?_
    refine vl_nil ?_
    refine vc_block ?_
    refine vc_loopw (fun k E H => ∃ i : Nat, i ≤ a.length ∧ k = a.length - i ∧ a.take i = b.take i ∧ E = [(0, .slice A a.length c), (1, .slice B b.length d), (12, .int .i64 a.length), (13, .int .i64 i)] ∧ H = []) (a.length) ⟨_, _, _, ⟨0, by omega, rfl, rfl, rfl, rfl⟩, (by repeat (first | exact trivial | refine ⟨rfl, ?_⟩ | refine ⟨le_item rfl (by first | rfl | (congr 1; omega) | (simp; done) | (simp; omega)), ?_⟩)), (by repeat (first | exact .nil | (apply Sub.cons; · repeat (first | exact .head | apply Take.tail))))⟩ ?_
    intro k E H hI
    obtain ⟨i, hi, rfl, ht, rfl, rfl⟩ := hI
    refine vc_seq ?_
    refine vc_region ?_
    refine vl_val rfl (.some rfl) (val_lt rfl rfl) ?_
    refine vl_nil ?_
    refine vc_seq ?_
    refine vc_cond rfl (fun hc1 => ?_) (fun hc1 => ?_)
    · (try replace hc1 := of_decide_eq_true hc1)
      refine vc_skip ?_
      refine vc_seq ?_
      refine vc_block ?_
      refine vc_seq ?_
      refine vc_region ?_
      refine vl_val rfl (.some rfl) (val_move rfl) ?_
      refine vl_val rfl (.some rfl) (val_assign rfl) ?_
      refine vl_nil ?_
      refine vc_seq ?_
      refine vc_draws [0, 1, 2, 3, 4, 5, 6, 7, 8] [] [0, 1, 2, 3, 4, 5, 6, 7, 8] rfl (by kernel_rfl) (fun _ _ _ h => h) ?_
      refine vd_val rfl rfl rfl (.some rfl) (val_move rfl) ?_
      refine vd_val rfl rfl rfl (.some rfl) (val_move rfl) ?_
      refine vd_val rfl rfl rfl (.some rfl) (val_indexAddr Try.runUnderlying71 Try.sizeOf64 rfl rfl (rd_old hr rfl) (by omega) (by omega) (by rw [vflat_len]; omega)) ?_
      refine vd_val rfl rfl rfl (.some rfl) (val_loadAgg Try.isAgg64 Try.sizeOf64 rfl (cells_rd (us := [.int .i64 (a.getD i z3).k, .int .i64 (a.getD i z3).n, .string (a.getD i z3).s]) (rd_old hr rfl) (flat_get rfl (by omega))) rfl) ?_
      refine vd_val rfl rfl rfl (.some rfl) (val_move rfl) ?_
      refine vd_val rfl rfl rfl (.some rfl) (val_move rfl) ?_
      refine vd_val rfl rfl rfl (.some rfl) (val_indexAddr Try.runUnderlying71 Try.sizeOf64 rfl rfl (rd_old hr2 rfl) (by omega) (by omega) (by rw [vflat_len]; omega)) ?_
      refine vd_val rfl rfl rfl (.some rfl) (val_loadAgg Try.isAgg64 Try.sizeOf64 rfl (cells_rd (us := [.int .i64 (b.getD i z3).k, .int .i64 (b.getD i z3).n, .string (b.getD i z3).s]) (rd_old hr2 rfl) (flat_get rfl (by omega))) rfl) ?_
      refine vd_val rfl rfl rfl (.some rfl) (val_opO rfl rfl (fun w => run_eqGuard_agg w _ _ _ _ _ _ (by kernel_rfl)) (bin_agg_ne (vk_equal (a.getD i z3) (b.getD i z3)))) ?_
      refine vd_nil ?_
      refine vc_cond rfl (fun hc2 => ?_) (fun hc2 => ?_)
      · (try replace hc2 := of_decide_eq_true hc2)
        refine vc_seq ?_
        refine vc_region ?_
        refine vl_val rfl (.some rfl) (val_assign rfl) ?_
        refine vl_nil ?_
        refine vc_ret ?_
        refine ⟨_, [], _, res1 Try.results46 rfl, .nil, ?_⟩
        show _ = _; rw [decide_eq_false (ne_at z3 (i := i) (by simpa using hc2))]
      · (try replace hc2 := of_decide_eq_false hc2)
        refine vc_skip ?_
        refine vc_region ?_
        refine vl_val rfl (.some rfl) (val_add rfl rfl (by first | exact w_i64 (by omega) (by omega) | rfl)) ?_
        refine vl_val rfl (.some rfl) (val_move rfl) ?_
        refine vl_nil ?_
        exact ⟨a.length - (i + 1), _, _, _, by omega, (by repeat (first | exact trivial | refine ⟨rfl, ?_⟩ | refine ⟨le_item rfl (by first | rfl | (congr 1; omega) | (simp; done) | (simp; omega)), ?_⟩)), (by repeat (first | exact .nil | (apply Sub.cons; · repeat (first | exact .head | apply Take.tail)))), ⟨i + 1, by omega, rfl, pre_eq z3 ht (by omega) hlen (by simpa using hc2), rfl, rfl⟩⟩
    · (try replace hc1 := of_decide_eq_false hc1)
      refine vc_exit ?_
      refine vc_seq ?_
      refine vc_region ?_
      refine vl_val rfl (.some rfl) (val_assign rfl) ?_
      refine vl_nil ?_
      refine vc_ret ?_
      refine ⟨_, [], _, res1 Try.results46 rfl, .nil, ?_⟩
      show _ = _; rw [decide_eq_true (by rw [List.take_of_length_le (by omega), List.take_of_length_le (by omega)] at ht; exact ht)]
set_option maxRecDepth 20000 in
theorem law_ValueBytes0 (A : Option Addr) (c : Nat) (l : List Vk) (B : Option Addr) (d : Nat) (b : List UInt8) (w : World) (hr : Reads w A (flat l)) (hwv : ∀ p ∈ l, WV p) (hrb : Reads w B (bcells b)) (g6 : b.length ≤ d) : FnV Try.prog 11 [.slice A l.length c, .slice B b.length d] (.bool true) w := by
  have hll := load9_len (b := b)
  refine fn_enter Try.func11 rfl Try.ntmps11 rfl ?_
  refine vc_seq ?_
  refine vc_region ?_
  refine vl_val rfl (.some rfl) (val_assign rfl) ?_
  refine vl_nil ?_
  refine vc_seq ?_
  refine vc_seq ?_
  refine vc_region ?_
  refine vl_val rfl (.some rfl) (val_move rfl) ?_
  refine vl_val rfl (.some rfl) (val_lenSl Try.runUnderlying71 rfl) ?_
  refine vl_val rfl (.some rfl) (val_gt rfl rfl) ?_
  refine vl_val rfl (.some rfl) (val_move rfl) ?_
  refine vl_split (t := 12) rfl (fun hg12 => ?_) (fun hg12 => ?_)
  · (try replace hg12 := of_decide_eq_true hg12)
    refine vl_off rfl rfl rfl rfl (.some rfl) ?_
    refine vl_off rfl rfl rfl rfl (.some rfl) ?_
    refine vl_off rfl rfl rfl rfl (.some rfl) ?_
    refine vl_val rfl (.some rfl) (val_pick rfl rfl) ?_
    refine vl_nil ?_
    refine vc_cond rfl (fun _ => ?_) (fun h => by cases h)
    refine vc_seq ?_
    refine vc_region ?_
    refine vl_callV rfl rfl (.some rfl) Try.call33 rfl (fun w hw => vLives w) ?_
    refine vl_val rfl (.some rfl) (val_assign rfl) ?_
    refine vl_nil ?_
    refine vc_ret ?_
    refine ⟨_, [], _, res1 Try.results11 rfl, .nil, ?_⟩
    rfl
  · (try replace hg12 := of_decide_eq_false hg12)
    refine vl_on rfl rfl rfl rfl ?_
    refine vl_val rfl (.some rfl) (val_move rfl) ?_
    refine vl_on rfl rfl rfl rfl ?_
    refine vl_val rfl (.some rfl) (val_lenSl Try.runUnderlying43 rfl) ?_
    refine vl_on rfl rfl rfl rfl ?_
    refine vl_val rfl (.some rfl) (val_gt rfl rfl) ?_
    refine vl_val rfl (.some rfl) (val_pick rfl rfl) ?_
    refine vl_nil ?_
    refine vc_cond rfl (fun hc0 => ?_) (fun hc0 => ?_)
    · (try replace hc0 := of_decide_eq_true hc0)
      refine vc_seq ?_
      refine vc_region ?_
      refine vl_callV rfl rfl (.some rfl) Try.call33 rfl (fun w hw => vLives w) ?_
      refine vl_val rfl (.some rfl) (val_assign rfl) ?_
      refine vl_nil ?_
      refine vc_ret ?_
      refine ⟨_, [], _, res1 Try.results11 rfl, .nil, ?_⟩
      rfl
    · (try replace hc0 := of_decide_eq_false hc0)
      refine vc_skip ?_
      refine vc_seq ?_
      refine vc_region ?_
      refine vl_val rfl (.some rfl) (val_move rfl) ?_
      refine vl_call (C := []) rfl rfl (.some rfl) Try.call42 rfl .nil (fun w hw => vLoad B d b (by omega) g6 w (rdw (rd_old hrb rfl) hw)) (fun v H' h => ?_)
      obtain ⟨A5, c5, rfl, rfl⟩ := h
      show VL _ _ _ _ _ (_ :: _)
      refine vl_val rfl (.some rfl) (val_move rfl) ?_
      refine vl_val rfl (.some rfl) (val_extract rfl rfl) ?_
      refine vl_val rfl (.some rfl) (val_extract rfl rfl) ?_
      refine vl_val rfl (.some rfl) (val_assign rfl) ?_
      refine vl_val rfl (.some rfl) (val_assign rfl) ?_
      refine vl_nil ?_
      refine vc_seq ?_
      refine vc_region ?_
      refine vl_val rfl (.some rfl) (val_move rfl) ?_
      refine vl_call (C := []) rfl rfl (.some rfl) Try.call43 rfl .nil (fun w hw => xLoad B d b (by omega) g6 w (rdw (rd_old hrb rfl) hw)) (fun v H' h => ?_)
      obtain ⟨A7, c7, rfl, rfl⟩ := h
      show VL _ _ _ _ _ (_ :: _)
      refine vl_val rfl (.some rfl) (val_move rfl) ?_
      refine vl_val rfl (.some rfl) (val_extract rfl rfl) ?_
      refine vl_val rfl (.some rfl) (val_extract rfl rfl) ?_
      refine vl_val rfl (.some rfl) (val_assign rfl) ?_
      refine vl_val rfl (.some rfl) (val_assign rfl) ?_
      refine vl_nil ?_
      refine vc_seq ?_
      refine vc_region ?_
      refine vl_val rfl (.some rfl) (val_move rfl) ?_
      refine vl_call (C := []) rfl rfl (.some rfl) Try.call44 rfl .nil (fun w hw => vBytes A c l (by omega) hwv w (rdw (rd_old hr rfl) hw)) (fun v H' h => ?_)
      obtain ⟨A29, c29, rfl, rfl⟩ := h
      show VL _ _ _ _ _ (_ :: _)
      refine vl_val rfl (.some rfl) (val_move rfl) ?_
      refine vl_call (C := []) rfl rfl (.some rfl) Try.call45 rfl .nil (fun w hw => xBytes A c l (by omega) hwv w (rdw (rd_old hr rfl) hw)) (fun v H' h => ?_)
      obtain ⟨A31, c31, rfl, rfl⟩ := h
      show VL _ _ _ _ _ (_ :: _)
      refine vl_callV rfl rfl (.some rfl) Try.call21 rfl (fun w hw => rSame _ _ _ _ (encV l) (encV l) w (rdw (rd_sl (by repeat (first | exact .head | apply In.tail | apply Take.tail | apply Upd.tail))) hw) (rdw (rd_sl (by repeat (first | exact .head | apply In.tail | apply Take.tail | apply Upd.tail))) hw)) ?_
      rw [decide_eq_true rfl]
      refine vl_val rfl (.some rfl) (val_move rfl) ?_
      refine vl_on rfl rfl rfl rfl ?_
      refine vl_val rfl (.some rfl) (val_move rfl) ?_
      refine vl_on rfl rfl rfl rfl ?_
      refine vl_val rfl (.some rfl) (val_move rfl) ?_
      refine vl_on rfl rfl rfl rfl ?_
      refine vl_callV rfl rfl (.some rfl) Try.call46 rfl (fun w hw => lSame9 _ _ _ _ (loadL9 b) (loadL9 b) (by omega) w (rdw (rd_sl (by repeat (first | exact .head | apply In.tail | apply Take.tail | apply Upd.tail))) hw) (rdw (rd_sl (by repeat (first | exact .head | apply In.tail | apply Take.tail | apply Upd.tail))) hw)) ?_
      rw [decide_eq_true rfl]
      refine vl_val rfl (.some rfl) (val_pick rfl rfl) ?_
      refine vl_val rfl (.some rfl) (val_move rfl) ?_
      refine vl_on rfl rfl rfl rfl ?_
      refine vl_val rfl (.some rfl) (val_move rfl) ?_
      refine vl_on rfl rfl rfl rfl ?_
      refine vl_val rfl (.some rfl) (val_move rfl) ?_
      refine vl_on rfl rfl rfl rfl ?_
      refine vl_val rfl (.some rfl) (val_eqt rfl rfl (rfl)) ?_
      refine vl_val rfl (.some rfl) (val_pick rfl rfl) ?_
      refine vl_val rfl (.some rfl) (val_move rfl) ?_
      refine vl_on rfl rfl rfl rfl ?_
      refine vl_callV rfl rfl (.some rfl) Try.call33 rfl (fun w hw => vLives w) ?_
      refine vl_val rfl (.some rfl) (val_pick rfl rfl) ?_
      refine vl_val rfl (.some rfl) (val_assign rfl) ?_
      refine vl_nil ?_
      refine vc_ret ?_
      refine ⟨_, [], _, res1 Try.results11 rfl, .nil, ?_⟩
      rfl

abbrev Vq := Int × Int × ByteArray × Unit
def vqC (v : Vq) : List Value := [.int .i64 v.1] ++ ([.int .i64 v.2.1] ++ ([.string v.2.2.1] ++ []))
def toVk (v : Vq) : Vk := ⟨v.1, v.2.1, v.2.2.1⟩
theorem flat_vq (l : List Vq) : flat (l.map toVk) = l.flatMap vqC := by
  unfold flat
  rw [List.flatMap_map]
  rfl
theorem law_ValueBytes (A : Option Addr) (c : Nat) (l : List Vq) (B : Option Addr) (d : Nat) (b : List UInt8) (w : World) (hr : Reads w A (l.flatMap vqC)) (g1 : l.length ≤ c) (g2 : c ≤ maxLen) (g3 : ∀ v ∈ l, (-9223372036854775808 ≤ v.1 ∧ v.1 < 9223372036854775808) ∧ (-9223372036854775808 ≤ v.2.1 ∧ v.2.1 < 9223372036854775808) ∧ v.2.2.1.size ≤ maxLen ∧ True) (hrb : Reads w B (bcells b)) (g6 : b.length ≤ d) (g7 : d ≤ maxLen) : FnV Try.prog 11 [.slice A l.length c, .slice B b.length d] (.bool true) w := by
  have h := law_ValueBytes0 A c (l.map toVk) B d b w (by rw [flat_vq]; exact hr) (fun p hp => by
    obtain ⟨v, hv, rfl⟩ := List.mem_map.1 hp
    exact (g3 v hv).2.1) hrb g6
  rw [List.length_map] at h
  exact h

end Go.Proofs.Ytclknendeeljaaa.K
