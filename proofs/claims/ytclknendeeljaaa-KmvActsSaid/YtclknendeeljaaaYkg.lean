/- Walks of the program's functions, printed by a program of this session; Lean checks them. -/
import Derived.Test.YtclknendeeljaaaYkf
namespace Go.Proofs.Ytclknendeeljaaa.K
open Go Go.RowKit Go.Proofs
set_option linter.unusedVariables false
set_option linter.unusedSimpArgs false


structure OkK (t : Nat) (S : List (Nat × Nat)) (V : List (List Nat)) : Prop where
  t2 : 2 ≤ t
  t64 : t ≤ 64
  n : S.length = V.length
  n1 : 1 ≤ V.length
  n7 : V.length ≤ 7
  good : GoodV t V
  small : ∀ j, j < V.length → ∀ x ∈ V.getD j [], x < 2305843009213693951
  seeds : ∀ s ∈ S, s.1 < 18446744073709551616 ∧ s.2 < 18446744073709551616
theorem OkK.big {t : Nat} {S : List (Nat × Nat)} {V : List (List Nat)} (h : OkK t S V) : ∀ j, j < V.length → ∀ x ∈ V.getD j [], x < 18446744073709551616 := fun j hj x hx => Nat.lt_trans (h.small j hj x hx) (by decide)
theorem okK_new {t : Nat} {S : List (Nat × Nat)} {Kk Mm : Int} (hg : goodK t S Kk Mm) (hb : ∀ s ∈ S, s.1 < 18446744073709551616 ∧ s.2 < 18446744073709551616) : OkK t S (List.replicate S.length []) := by
  obtain ⟨h1, _, _, h4, h5, _⟩ := hg
  refine ⟨by omega, by omega, by simp, by simp; omega, by simp; omega, fun j hj => ?_, fun j hj x hx => ?_, hb⟩
  · rw [List.length_replicate] at hj
    have e : (List.replicate S.length ([] : List Nat)).getD j [] = [] := by simp [List.getD, hj]
    rw [e]; exact ⟨List.Pairwise.nil, Nat.zero_le _⟩
  · rw [List.length_replicate] at hj
    have e : (List.replicate S.length ([] : List Nat)).getD j [] = [] := by simp [List.getD, hj]
    rw [e] at hx; cases hx
theorem insV_len (t : Nat) (S : List (Nat × Nat)) (V : List (List Nat)) (x : Nat) : (insV t S V x).length = V.length := by simp [insV]
theorem insV_get {t : Nat} {S : List (Nat × Nat)} {V : List (List Nat)} {x j : Nat} (h : j < V.length) : (insV t S V x).getD j [] = insF t S V x j := by simp [insV, List.getD, h]
theorem okK_ins {t : Nat} {S : List (Nat × Nat)} {V : List (List Nat)} (h : OkK t S V) (x : Nat) : OkK t S (insV t S V x) := by
  have hl := insV_len t S V x
  refine ⟨h.t2, h.t64, by rw [hl]; exact h.n, by rw [hl]; exact h.n1, by rw [hl]; exact h.n7, insV_good h.good, fun j hj y hy => ?_, h.seeds⟩
  rw [hl] at hj
  rw [insV_get hj] at hy
  rcases putK_mem (h.good j hj).1 (h.good j hj).2 y hy with e | e
  · exact h.small j hj y e
  · rw [e]; exact hashN_lt _ _
theorem mrgV_len (t : Nat) (V V' : List (List Nat)) : (mrgV t V V').length = V.length := by simp [mrgV]
theorem mrgV_get {t : Nat} {V V' : List (List Nat)} {j : Nat} (h : j < V.length) : (mrgV t V V').getD j [] = mrgF t V V' j := by simp [mrgV, List.getD, h]
theorem putsK_mem {t : Nat} : ∀ {m l : List Nat}, Rise l → l.length ≤ t → ∀ x ∈ m.foldl (putK t) l, x ∈ l ∨ x ∈ m
  | [], _, _, _, x, hx => .inl hx
  | y :: m, l, h1, h2, x, hx => by
    rcases putsK_mem (m := m) (putK_rise h1 h2).1 (putK_rise h1 h2).2 x hx with e | e
    · rcases putK_mem h1 h2 x e with e | e
      · exact .inl e
      · exact .inr (by simp [e])
    · exact .inr (by simp [e])
theorem okK_mrg {t : Nat} {S : List (Nat × Nat)} {V V' : List (List Nat)} (h : OkK t S V) (h' : OkK t S V') : OkK t S (mrgV t V V') := by
  have hl := mrgV_len t V V'
  have he : V'.length = V.length := by rw [← h.n, ← h'.n]
  refine ⟨h.t2, h.t64, by rw [hl]; exact h.n, by rw [hl]; exact h.n1, by rw [hl]; exact h.n7, fun j hj => ?_, fun j hj y hy => ?_, h.seeds⟩
  · rw [hl] at hj
    rw [mrgV_get hj]
    exact putsK_good (h.good j hj).1 (h.good j hj).2
  · rw [hl] at hj
    rw [mrgV_get hj] at hy
    rcases putsK_mem (h.good j hj).1 (h.good j hj).2 y hy with e | e
    · exact h.small j hj y e
    · exact h'.small j (by omega) y e
abbrev KQ (b t : Nat) (As : Option Addr) (cs : Nat) (S : List (Nat × Nat)) (Ac : Option Addr) (cc : Nat) (L : List (Sl Nat)) : List Chunk := KH ⟨b, t, As, cs, S, Ac, cc, L⟩
section
variable {b t : Nat} {As : Option Addr} {cs : Nat} {S : List (Nat × Nat)} {Ac : Option Addr} {cc : Nat} {L : List (Sl Nat)} {V : List (List Nat)}
theorem qNew (t : Nat) (Kk Mm : Int) (A : Option Addr) (c : Nat) (S : List (Nat × Nat)) (hb : ∀ s ∈ S, s.1 < 18446744073709551616 ∧ s.2 < 18446744073709551616) (w : World) (hr : Reads w A (seedC S)) (hg : goodK t S Kk Mm) : Fn Try.prog 12 [.agg #[.int .i64 t, .slice A S.length c, .int .i64 Kk, .int .i64 Mm]] [] (ret fun v H' => ∃ b As cs Ac cc L, v = .pointer (some ⟨b, 0, none⟩) ∧ vals L = List.replicate S.length [] ∧ H' = SDc As S.length cs S :: KQ b t As cs S Ac cc L) w := by
  refine (kNew t Kk Mm A c S (by have := hg.2.2.2.2.1; omega) hb w hr hg).mono fun e H h => ?_
  cases e <;> simp only [ret] at h ⊢
  obtain ⟨k, rfl, rfl, rfl, hL, rfl⟩ := h
  exact ⟨k.b, k.As, k.cs, k.Ac, k.cc, k.L, rfl, by rw [hL]; simp [vals], rfl⟩
theorem qInsert (hL : vals L = V) (hK : OkK t S V) (x : Nat) (hx : x < 18446744073709551616) (w : World) (hs : ReadsM w (fps (KQ b t As cs S Ac cc L)) As (seedC S)) : Fn Try.prog 15 [.pointer (some ⟨b, 0, none⟩), .int .u64 x] (KQ b t As cs S Ac cc L) (ret fun u H' => ∃ L', vals L' = insV t S V x ∧ H' = KQ b t As cs S Ac cc L') w := by
  subst hL
  have hl := vals_len L
  exact kInsert ⟨b, t, As, cs, S, Ac, cc, L⟩ (by have := hK.t2; show 0 < t; omega) (by have := hK.t64; show t ≤ 1000; omega) (by show S.length = L.length; rw [hK.n, hl]) (by have := hK.n7; show L.length ≤ 7; omega) hK.good x hx w hs hK.seeds
theorem qCopies (hL : vals L = V) (hK : OkK t S V) (w : World) : Fn Try.prog 17 [.pointer (some ⟨b, 0, none⟩)] (KQ b t As cs S Ac cc L) (ret fun u H' => ∃ A2 c2 D, u = .slice A2 D.length c2 ∧ vals D = V ∧ H' = KQ b t As cs S Ac cc L ++ [HR A2 D.length c2 (D.map hdr), big (D.map rwC)]) w := by
  subst hL
  have hl := vals_len L
  exact kCopies ⟨b, t, As, cs, S, Ac, cc, L⟩ (by have := hK.t2; show 0 < t; omega) (by have := hK.t64; show t ≤ 1000; omega) (by show S.length = L.length; rw [hK.n, hl]) (by have := hK.n7; show L.length ≤ 7; omega) hK.good w
theorem qCopy (hL : vals L = V) (hK : OkK t S V) (w : World) : Fn Try.prog 28 [.pointer (some ⟨b, 0, none⟩)] (KQ b t As cs S Ac cc L) (ret fun u H' => ∃ b2 A2 c2 L2, u = .pointer (some ⟨b2, 0, none⟩) ∧ vals L2 = V ∧ H' = KQ b t As cs S Ac cc L ++ KQ b2 t As cs S A2 c2 L2) w := by
  subst hL
  have hl := vals_len L
  refine (kCopy ⟨b, t, As, cs, S, Ac, cc, L⟩ (by have := hK.t2; show 0 < t; omega) (by have := hK.t64; show t ≤ 1000; omega) (by show S.length = L.length; rw [hK.n, hl]) (by have := hK.n7; show L.length ≤ 7; omega) hK.good w).mono fun e H h => ?_
  cases e <;> simp only [ret] at h ⊢
  obtain ⟨k2, rfl, h1, h2, h3, h4, h5, rfl⟩ := h
  obtain ⟨b2, t2, As2, cs2, S2, A2, c2, L2⟩ := k2
  simp only at h1 h2 h3 h4 h5
  subst h1; subst h2; subst h3; subst h4
  exact ⟨b2, A2, c2, L2, rfl, h5, rfl⟩
theorem qAnswers (hL : vals L = V) (hK : OkK t S V) (w : World) : Fn Try.prog 18 [.pointer (some ⟨b, 0, none⟩)] (KQ b t As cs S Ac cc L) (ret fun u H' => ∃ A c, u = .slice A (ansV t V).length c ∧ H' = KQ b t As cs S Ac cc L ++ [IW A (ansV t V).length c (ansV t V)]) w := by
  subst hL
  have hl := vals_len L
  exact kAnswers ⟨b, t, As, cs, S, Ac, cc, L⟩ (by have := hK.t2; show 0 < t; omega) (by have := hK.t64; show t ≤ 1000; omega) (by show S.length = L.length; rw [hK.n, hl]) (by have := hK.n7; show L.length ≤ 7; omega) hK.good hK.big w
theorem qEstimate (hL : vals L = V) (hK : OkK t S V) (w : World) : Fn Try.prog 19 [.pointer (some ⟨b, 0, none⟩)] (KQ b t As cs S Ac cc L) (ret fun u H' => u = .int .i64 (midI (ansV t V)) ∧ H' = KQ b t As cs S Ac cc L) w := by
  subst hL
  have hl := vals_len L
  exact kEstimate ⟨b, t, As, cs, S, Ac, cc, L⟩ (by have := hK.t2; show 0 < t; omega) (by have := hK.t64; show t ≤ 1000; omega) (by show S.length = L.length; rw [hK.n, hl]) (by have := hK.n7; show L.length ≤ 7; omega) hK.good (by have := hK.n1; show 0 < L.length; omega) hK.big w
theorem qBytes (hL : vals L = V) (hK : OkK t S V) (w : World) : Fn Try.prog 22 [.pointer (some ⟨b, 0, none⟩)] (KQ b t As cs S Ac cc L) (ret fun u H' => ∃ A c, u = .slice A (bytesK V).length c ∧ H' = KQ b t As cs S Ac cc L ++ [BY A (bytesK V).length c (bytesK V)]) w := by
  subst hL
  have hl := vals_len L
  exact kBytes ⟨b, t, As, cs, S, Ac, cc, L⟩ (by have := hK.t2; show 0 < t; omega) (by have := hK.t64; show t ≤ 1000; omega) (by show S.length = L.length; rw [hK.n, hl]) (by have := hK.n7; show L.length ≤ 7; omega) hK.good hK.big w
theorem qMerge {b' : Nat} {As' : Option Addr} {cs' : Nat} {Ac' : Option Addr} {cc' : Nat} {L' : List (Sl Nat)} {V' : List (List Nat)} (hL : vals L = V) (hK : OkK t S V) (hL' : vals L' = V') (hK' : OkK t S V') (w : World)
    (hs : ReadsM w (fps (KQ b t As cs S Ac cc L ++ KQ b' t As' cs' S Ac' cc' L')) As (seedC S)) (hs2 : ReadsM w (fps (KQ b t As cs S Ac cc L ++ KQ b' t As' cs' S Ac' cc' L')) As' (seedC S)) :
    Fn Try.prog 20 [.pointer (some ⟨b, 0, none⟩), .pointer (some ⟨b', 0, none⟩)] (KQ b t As cs S Ac cc L ++ KQ b' t As' cs' S Ac' cc' L') (ret fun u H' => u = .int .i64 0 ∧ ∃ L2, vals L2 = mrgV t V V' ∧ H' = KQ b t As cs S Ac cc L2 ++ KQ b' t As' cs' S Ac' cc' L') w := by
  subst hL
  subst hL'
  have hl := vals_len L
  have hl' := vals_len L'
  exact kMerge ⟨b, t, As, cs, S, Ac, cc, L⟩ (by have := hK.t2; show 0 < t; omega) (by have := hK.t64; show t ≤ 1000; omega) (by show S.length = L.length; rw [hK.n, hl]) (by have := hK.n7; show L.length ≤ 7; omega) hK.good ⟨b', t, As', cs', S, Ac', cc', L'⟩ rfl rfl (by show L'.length = L.length; rw [← hl, ← hl', ← hK.n, hK'.n]) hK'.good w hs hs2
theorem qMergeSelf (hL : vals L = V) (hK : OkK t S V) (w : World) (hs : ReadsM w (fps (KQ b t As cs S Ac cc L)) As (seedC S)) : Fn Try.prog 20 [.pointer (some ⟨b, 0, none⟩), .pointer (some ⟨b, 0, none⟩)] (KQ b t As cs S Ac cc L) (ret fun u H' => u = .int .i64 0 ∧ H' = KQ b t As cs S Ac cc L) w := by
  subst hL
  have hl := vals_len L
  exact kMergeSelf ⟨b, t, As, cs, S, Ac, cc, L⟩ (by have := hK.t2; show 0 < t; omega) (by have := hK.t64; show t ≤ 1000; omega) (by show S.length = L.length; rw [hK.n, hl]) (by have := hK.n7; show L.length ≤ 7; omega) hK.good w hs hK.seeds
end
def insAll (t : Nat) (S : List (Nat × Nat)) (V : List (List Nat)) (l : List Nat) : List (List Nat) := l.foldl (insV t S) V
theorem insAll_push {t : Nat} {S : List (Nat × Nat)} {V : List (List Nat)} {l : List Nat} {i : Nat} (h : i < l.length) : insV t S (insAll t S V (l.take i)) (l.getD i 0) = insAll t S V (l.take (i + 1)) := by
  unfold insAll
  rw [List.take_add_one, List.getElem?_eq_getElem h, List.foldl_append]
  simp [List.getD, h]
theorem okK_all {t : Nat} {S : List (Nat × Nat)} : ∀ (l : List Nat) {V : List (List Nat)}, OkK t S V → OkK t S (insAll t S V l)
  | [], _, h => h
  | x :: l, _, h => okK_all l (okK_ins h x)
theorem arr595 : ∀ i : Nat, i < 3 → (#[.int .u64 5, .int .u64 5, .int .u64 9] : Array Value)[i]? = some (.int .u64 (([5, 5, 9] : List Nat).getD i 0 : Nat))
  | 0, _ => rfl
  | 1, _ => rfl
  | 2, _ => rfl
theorem lt595 : ∀ i : Nat, ([5, 5, 9] : List Nat).getD i 0 < 18446744073709551616
  | 0 => by decide
  | 1 => by decide
  | 2 => by decide
  | n + 3 => by simp [List.getD]
theorem one_row {D : List (Sl Nat)} {l : List Nat} (h : vals D = [l]) : ∃ r, D = [r] ∧ r.l = l := by
  match D, h with
  | [r], h => exact ⟨r, rfl, by simpa [vals] using h⟩

set_option maxRecDepth 20000 in
set_option maxHeartbeats 1000000 in
theorem kLives (w : World) : FnV Try.prog 14 [] (.bool true) w := by
  refine fn_enter Try.func14 rfl Try.ntmps14 rfl ?_
  refine vc_seq ?_
  refine vc_region ?_
  refine vl_val rfl (.some rfl) (val_assign rfl) ?_
  refine vl_nil ?_
  refine vc_seq ?_
  refine vc_region ?_
  refine vl_val rfl (.some rfl) (val_buildSt (pl := #[(0, 1), (1, 1)]) (cs := #[.int .u64 1, .int .u64 0]) Try.runUnderlying81 Try.zeroValue81 (fun w => by kernel_rfl) rfl rfl) ?_
  refine vl_lit sT22 rfl rfl (.some rfl) rfl rfl rfl (by decide) (by decide) rfl (show _ = seedC [(1, 0)] from rfl) (fun r8 => ?_)
  refine vl_val rfl (.some rfl) (val_buildSt (pl := #[(0, 1), (1, 1), (2, 1), (3, 1)]) (cs := #[.int .i64 2, .slice (some ⟨r8, 0, none⟩) 1 1, .int .i64 1, .int .i64 1]) Try.runUnderlying24 Try.zeroValue24 (fun w => by kernel_rfl) rfl rfl) ?_
  refine vl_call (C := []) rfl rfl (.some rfl) Try.call12 rfl .nil (fun w hw => qNew 2 1 1 (some ⟨r8, 0, none⟩) 1 [(1, 0)] (by decide) w (rdw (rd_sl (vs := seedC [(1, 0)]) (e := 81) (sz := 2) (n := 1) (c := 1) (by repeat (first | exact .head | apply In.tail | apply Take.tail | apply Upd.tail))) hw) (by decide)) (fun v H' h => ?_)
  obtain ⟨b1, As1, cs1, Ac1, cc1, L1, rfl, hL1, rfl⟩ := h
  have hK1 := okK_new (t := 2) (S := [(1, 0)]) (Kk := 1) (Mm := 1) (by decide) (by decide)
  show VL _ _ _ _ _ (_ :: _ :: _ :: _ :: _)
  refine vl_val rfl (.some rfl) (val_assign rfl) ?_
  refine vl_nil ?_
  refine vc_seq ?_
  refine vc_seq ?_
  refine vc_region ?_
  refine vl_val rfl (.some rfl) (val_move rfl) ?_
  refine vl_val rfl (.some rfl) (val_opO rfl rfl guard_ptr (bin_ptr_eq Try.runUnderlying26)) ?_
  refine vl_nil ?_
  refine vc_cond rfl (fun h => by cases h) (fun _ => ?_)
  refine vc_skip ?_
  refine vc_seq ?_
  refine vc_region ?_
  refine vl_val rfl (.some rfl) (val_move rfl) ?_
  refine vl_call (C := KQ b1 2 As1 cs1 [(1, 0)] Ac1 cc1 L1) rfl rfl (.some rfl) Try.call15 rfl (by repeat (first | exact .nil | (apply Sub.cons; · repeat (first | exact .head | apply Take.tail)))) (fun w hw => qInsert hL1 hK1 7 (by omega) w (readsM_sl (A := As1) (n := 1) (c := cs1) (sz := 2) (e := 81) (vs := seedC [(1, 0)]) (C := KQ b1 2 As1 cs1 [(1, 0)] Ac1 cc1 L1) (by repeat (first | exact .nil | (apply Sub.cons; · repeat (first | exact .head | apply Take.tail)))) (by repeat (first | exact .head | apply In.tail | apply Take.tail | apply Upd.tail)) hw)) (fun v H' h => ?_)
  obtain ⟨L2, hL2, rfl⟩ := h
  have hV2 : vals L2 = [[7]] := hL2.trans (by decide +kernel)
  have hK2 : OkK 2 [(1, 0)] [[7]] := by have := okK_ins hK1 7; rwa [show insV 2 [(1, 0)] (List.replicate ([(1, 0)] : List (Nat × Nat)).length []) 7 = [[7]] by decide +kernel] at this
  show VL _ _ _ _ _ (_ :: _ :: _ :: _)
  refine vl_nil ?_
  refine vc_seq ?_
  refine vc_region ?_
  refine vl_val rfl (.some rfl) (val_move rfl) ?_
  refine vl_call (C := KQ b1 2 As1 cs1 [(1, 0)] Ac1 cc1 L2) rfl rfl (.some rfl) Try.call19 rfl (by repeat (first | exact .nil | (apply Sub.cons; · repeat (first | exact .head | apply Take.tail)))) (fun w hw => qEstimate hV2 hK2 w) (fun v H' h => ?_)
  obtain ⟨rfl, rfl⟩ := h
  rw [show midI (ansV 2 [[7]]) = 1 by decide +kernel]
  show VL _ _ _ _ _ (_ :: _ :: _ :: _)
  refine vl_val rfl (.some rfl) (val_assign rfl) ?_
  refine vl_nil ?_
  refine vc_seq ?_
  refine vc_region ?_
  refine vl_val rfl (.some rfl) (val_buildSt (pl := #[(0, 1), (1, 1)]) (cs := #[.int .u64 1, .int .u64 0]) Try.runUnderlying81 Try.zeroValue81 (fun w => by kernel_rfl) rfl rfl) ?_
  refine vl_lit sT22 rfl rfl (.some rfl) rfl rfl rfl (by decide) (by decide) rfl (show _ = seedC [(1, 0)] from rfl) (fun r18 => ?_)
  refine vl_val rfl (.some rfl) (val_buildSt (pl := #[(0, 1), (1, 1), (2, 1), (3, 1)]) (cs := #[.int .i64 2, .slice (some ⟨r18, 0, none⟩) 1 1, .int .i64 1, .int .i64 1]) Try.runUnderlying24 Try.zeroValue24 (fun w => by kernel_rfl) rfl rfl) ?_
  refine vl_call (C := []) rfl rfl (.some rfl) Try.call12 rfl .nil (fun w hw => qNew 2 1 1 (some ⟨r18, 0, none⟩) 1 [(1, 0)] (by decide) w (rdw (rd_sl (vs := seedC [(1, 0)]) (e := 81) (sz := 2) (n := 1) (c := 1) (by repeat (first | exact .head | apply In.tail | apply Take.tail | apply Upd.tail))) hw) (by decide)) (fun v H' h => ?_)
  obtain ⟨b3, As3, cs3, Ac3, cc3, L3, rfl, hL3, rfl⟩ := h
  have hK3 := okK_new (t := 2) (S := [(1, 0)]) (Kk := 1) (Mm := 1) (by decide) (by decide)
  show VL _ _ _ _ _ (_ :: _ :: _ :: _ :: _)
  refine vl_val rfl (.some rfl) (val_assign rfl) ?_
  refine vl_nil ?_
  refine vc_seq ?_
  refine vc_seq ?_
  refine vc_region ?_
  refine vl_val rfl (.some rfl) (val_buildArr (cs := #[.int .u64 5, .int .u64 5, .int .u64 9]) Try.runUnderlying85 Try.zeroValue85 Try.sizeOf30 rfl rfl) ?_
  refine vl_val rfl (.some rfl) (val_move rfl) ?_
  refine vl_nil ?_
  refine vc_block ?_
  refine vc_loopw (fun m E H => ∃ (i : Nat) (L4 : List (Sl Nat)), i ≤ 3 ∧ m = 3 - i ∧ vals L4 = insAll 2 [(1, 0)] (List.replicate ([(1, 0)] : List (Nat × Nat)).length []) (([5, 5, 9] : List Nat).take i) ∧ E = [(2, .int .i64 1), (3, .pointer (some ⟨b3, 0, none⟩)), (21, .agg #[.int .u64 5, .int .u64 5, .int .u64 9]), (22, .int .i64 i)] ∧ H = SDc As3 1 cs3 [(1, 0)] :: KQ b3 2 As3 cs3 [(1, 0)] Ac3 cc3 L4) (3) ⟨_, _, _, ⟨0, L3, by omega, rfl, hL3, rfl, rfl⟩, (by repeat (first | exact trivial | refine ⟨rfl, ?_⟩ | refine ⟨le_item rfl (by first | rfl | (congr 1; omega) | (simp; done) | (simp; omega)), ?_⟩)), (by repeat (first | exact .nil | (apply Sub.cons; · repeat (first | exact .head | apply Take.tail))))⟩ ?_
  intro m E H hI
  obtain ⟨i, L4, hi, rfl, hL4, rfl, rfl⟩ := hI
  refine vc_seq ?_
  refine vc_region ?_
  refine vl_val rfl (.some rfl) (val_lt rfl rfl) ?_
  refine vl_nil ?_
  refine vc_seq ?_
  refine vc_cond rfl (fun hc1 => ?_) (fun hc1 => ?_)
  · (try replace hc1 := of_decide_eq_true hc1)
    refine vc_skip ?_
    refine vc_seq ?_
    refine vc_block ?_
    refine vc_seq ?_
    refine vc_region ?_
    refine vl_val rfl (.some rfl) (val_indexArr Try.runUnderlying85 Try.isAgg30 Try.sizeOf30 rfl rfl (by omega) (by omega) (by rw [Int.toNat_natCast]; exact arr595 i (by omega))) ?_
    refine vl_val rfl (.some rfl) (val_assign rfl) ?_
    refine vl_nil ?_
    refine vc_region ?_
    refine vl_val rfl (.some rfl) (val_move rfl) ?_
    refine vl_val rfl (.some rfl) (val_move rfl) ?_
    refine vl_call (C := KQ b3 2 As3 cs3 [(1, 0)] Ac3 cc3 L4) rfl rfl (.some rfl) Try.call15 rfl (by repeat (first | exact .nil | (apply Sub.cons; · repeat (first | exact .head | apply Take.tail)))) (fun w hw => qInsert hL4 (okK_all _ hK3) (([5, 5, 9] : List Nat).getD i 0) (lt595 i) w (readsM_sl (A := As3) (n := 1) (c := cs3) (sz := 2) (e := 81) (vs := seedC [(1, 0)]) (C := KQ b3 2 As3 cs3 [(1, 0)] Ac3 cc3 L4) (by repeat (first | exact .nil | (apply Sub.cons; · repeat (first | exact .head | apply Take.tail)))) (by repeat (first | exact .head | apply In.tail | apply Take.tail | apply Upd.tail)) hw)) (fun v H' h => ?_)
    obtain ⟨L5, hL5, rfl⟩ := h
    rw [insAll_push (by show i < 3; omega)] at hL5
    show VL _ _ _ _ _ (_ :: _ :: _ :: _)
    refine vl_nil ?_
    refine vc_region ?_
    refine vl_val rfl (.some rfl) (val_add rfl rfl (by first | exact w_i64 (by omega) (by omega) | rfl)) ?_
    refine vl_val rfl (.some rfl) (val_move rfl) ?_
    refine vl_nil ?_
    exact ⟨(3 - (i + 1)), _, _, _, by omega, (by repeat (first | exact trivial | refine ⟨rfl, ?_⟩ | refine ⟨le_item rfl (by first | rfl | (congr 1; omega) | (simp; done) | (simp; omega)), ?_⟩)), (by repeat (first | exact .nil | (apply Sub.cons; · repeat (first | exact .head | apply Take.tail)))), ⟨i + 1, L5, by omega, rfl, hL5, rfl, rfl⟩⟩
  · (try replace hc1 := of_decide_eq_false hc1)
    refine vc_exit ?_
    refine vc_seq ?_
    refine vc_region ?_
    refine vl_val rfl (.some rfl) (val_move rfl) ?_
    obtain rfl : i = 3 := by omega
    have hV4 : vals L4 = [[5, 9]] := hL4.trans (by decide +kernel)
    have hK4 : OkK 2 [(1, 0)] [[5, 9]] := by have := okK_all (t := 2) (S := [(1, 0)]) (([5, 5, 9] : List Nat).take 3) hK3; rwa [show insAll 2 [(1, 0)] (List.replicate ([(1, 0)] : List (Nat × Nat)).length []) (([5, 5, 9] : List Nat).take 3) = [[5, 9]] by decide +kernel] at this
    refine vl_call (C := KQ b3 2 As3 cs3 [(1, 0)] Ac3 cc3 L4) rfl rfl (.some rfl) Try.call17 rfl (by repeat (first | exact .nil | (apply Sub.cons; · repeat (first | exact .head | apply Take.tail)))) (fun w hw => qCopies hV4 hK4 w) (fun v H' h => ?_)
    obtain ⟨A6, c6, D, rfl, hD, rfl⟩ := h
    obtain ⟨r, rfl, hr5⟩ := one_row hD
    show VL _ _ _ _ _ (_ :: _ :: _ :: _ :: _ :: _)
    refine vl_val rfl (.some rfl) (val_assign rfl) ?_
    refine vl_nil ?_
    refine vc_seq ?_
    refine vc_region ?_
    refine vl_val rfl (.some rfl) (val_move rfl) ?_
    refine vl_val rfl (.some rfl) (val_eqt rfl rfl (rfl)) ?_
    refine vl_val rfl (.some rfl) (val_move rfl) ?_
    refine vl_on rfl rfl rfl rfl ?_
    refine vl_val rfl (.some rfl) (val_move rfl) ?_
    refine vl_on rfl rfl rfl rfl ?_
    refine vl_val rfl (.some rfl) (val_lenSl Try.runUnderlying33 rfl) ?_
    refine vl_on rfl rfl rfl rfl ?_
    refine vl_val rfl (.some rfl) (val_eqt rfl rfl (rfl)) ?_
    refine vl_val rfl (.some rfl) (val_pick rfl rfl) ?_
    refine vl_val rfl (.some rfl) (val_move rfl) ?_
    refine vl_on rfl rfl rfl rfl ?_
    refine vl_val rfl (.some rfl) (val_move rfl) ?_
    refine vl_on rfl rfl rfl rfl ?_
    refine vl_val rfl (.some rfl) (val_indexAddr Try.runUnderlying33 Try.sizeOf25 rfl rfl (rd_sl (vs := [hdr r]) (by repeat (first | exact .head | apply In.tail | apply Take.tail | apply Upd.tail))) (by omega) (by show (0 : Int) < ((1 : Nat) : Int); omega) (by show 0 < 1; omega)) ?_
    refine vl_on rfl rfl rfl rfl ?_
    refine vl_val rfl (.some rfl) (val_load Try.isAgg25 rfl (cell_rd (rd_sl (vs := [hdr r]) (by repeat (first | exact .head | apply In.tail | apply Take.tail | apply Upd.tail))) (show _ = some (hdr r) from rfl))) ?_
    refine vl_on rfl rfl rfl rfl ?_
    refine vl_lit sT25 rfl rfl (.some rfl) rfl rfl rfl (by decide) (by decide) rfl (show _ = ucells [5, 9] from rfl) (fun r42 => ?_)
    refine vl_on rfl rfl rfl rfl ?_
    refine vl_callV rfl rfl (.some rfl) Try.call52 rfl (fun w hw => rWords r.A (some ⟨r42, 0, none⟩) r.c 2 r.l [5, 9] (by rw [hr5]; decide) w (rdw (rd_big (n := r.l.length) (c := r.c) (e := 30) (sz := 1) (l := [r].map rwC) (by repeat (first | exact .head | apply In.tail | apply Take.tail | apply Upd.tail)) (by simp)) hw) (rdw (rd_sl (vs := ucells [5, 9]) (by repeat (first | exact .head | apply In.tail | apply Take.tail | apply Upd.tail))) hw)) ?_
    rw [decide_eq_true hr5]
    refine vl_val rfl (.some rfl) (val_pick rfl rfl) ?_
    refine vl_val rfl (.some rfl) (val_move rfl) ?_
    refine vl_on rfl rfl rfl rfl ?_
    refine vl_val rfl (.some rfl) (val_move rfl) ?_
    refine vl_on rfl rfl rfl rfl ?_
    refine vl_call (C := KQ b3 2 As3 cs3 [(1, 0)] Ac3 cc3 L4) rfl rfl (.some rfl) Try.call19 rfl (by repeat (first | exact .nil | (apply Sub.cons; · repeat (first | exact .head | apply Take.tail)))) (fun w hw => qEstimate hV4 hK4 w) (fun v H' h => ?_)
    obtain ⟨rfl, rfl⟩ := h
    rw [show midI (ansV 2 [[5, 9]]) = 256204778801521550 by decide +kernel]
    show VL _ _ _ _ _ (_ :: _ :: _ :: _)
    refine vl_on rfl rfl rfl rfl ?_
    refine vl_val rfl (.some rfl) (val_eqt rfl rfl (rfl)) ?_
    refine vl_val rfl (.some rfl) (val_pick rfl rfl) ?_
    refine vl_val rfl (.some rfl) (val_assign rfl) ?_
    refine vl_nil ?_
    refine vc_ret ?_
    refine ⟨_, [], _, res1 Try.results14 rfl, .nil, ?_⟩
    rfl

end Go.Proofs.Ytclknendeeljaaa.K
