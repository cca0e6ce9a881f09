/- Walks of the program's functions, printed by a program of this session; Lean checks them. -/
import Derived.Test.YtclknendeeljaaaFc
import Derived.Test.YtclknendeeljaaaMa
import Derived.Test.YtclknendeeljaaaMb
import Derived.Test.YtclknendeeljaaaKz
import Derived.Test.YtclknendeeljaaaCg
import Derived.Test.YtclknendeeljaaaYka
namespace Go.Proofs.Ytclknendeeljaaa.K
open Go Go.RowKit Go.Proofs
set_option linter.unusedVariables false
set_option linter.unusedSimpArgs false
set_option maxRecDepth 20000 in
theorem sT22 : SlT Try.prog 22 81 2 16 (.agg #[.int .u64 0, .int .u64 0]) := ⟨Try.underlying22, ⟨Try.t81, Try.type81, rfl, rfl, rfl⟩, rfl, Nat.lt_of_sub_eq_succ rfl⟩
set_option maxRecDepth 20000 in
theorem sT25 : SlT Try.prog 25 30 1 8 (.int .u64 0) := ⟨Try.underlying25, ⟨Try.t30, Try.type30, rfl, rfl, rfl⟩, rfl, Nat.lt_of_sub_eq_succ rfl⟩
set_option maxRecDepth 20000 in
theorem sT33 : SlT Try.prog 33 25 1 24 (.slice none 0 0) := ⟨Try.underlying33, ⟨Try.t25, Try.type25, rfl, rfl, rfl⟩, rfl, Nat.lt_of_sub_eq_succ rfl⟩

structure Sk where
  b : Nat
  t : Nat
  As : Option Addr
  cs : Nat
  S : List (Nat × Nat)
  Ac : Option Addr
  cc : Nat
  L : List (Sl Nat)
abbrev seedV (s : Nat × Nat) : List Value := [.int .u64 (s.1 : Nat), .int .u64 (s.2 : Nat)]
def seedC (S : List (Nat × Nat)) : List Value := S.flatMap seedV
theorem seedC_len (S : List (Nat × Nat)) : (seedC S).length = S.length * 2 := flat_length (f := seedV) (m := 2) (fun _ => rfl) S
theorem seed_at {S : List (Nat × Nat)} {i : Nat} {q : Int} (hq : q = (i : Int)) (h : i < S.length) : ((seedC S).drop (Int.toNat q * 2)).take 2 = seedV (S.getD i (0, 0)) := by
  rw [hq, Int.toNat_natCast]; exact flat_atM (m := 2) (f := seedV) (fun _ => rfl) (0, 0) S i h
theorem one_s (S : List (Nat × Nat)) : (seedC S).all (·.oneCell') = true := by
  rw [List.all_eq_true]
  intro v hv
  obtain ⟨s, _, hs⟩ := List.mem_flatMap.1 hv
  simp only [List.mem_cons, List.not_mem_nil, or_false] at hs
  rcases hs with rfl | rfl <;> rfl
abbrev hdr (r : Sl Nat) : Value := .slice r.A r.l.length r.c
abbrev rwC (r : Sl Nat) : Chunk := UW r.A r.l.length r.c r.l
abbrev SDc (A : Option Addr) (n c : Nat) (S : List (Nat × Nat)) : Chunk := sl A n c 81 2 (seedC S)
abbrev SKb (b t : Nat) (As : Option Addr) (ns cs : Nat) (Ac : Option Addr) (n cc : Nat) : Chunk := cells b [.int .i64 (t : Nat), .slice As ns cs, .slice Ac n cc] 57
abbrev HR (Ac : Option Addr) (n cc : Nat) (hs : List Value) : Chunk := sl Ac n cc 25 1 hs
abbrev SKc (k : Sk) : Chunk := SKb k.b k.t k.As k.S.length k.cs k.Ac k.L.length k.cc
abbrev SKh (k : Sk) : Chunk := HR k.Ac k.L.length k.cc (k.L.map hdr)
abbrev SKr (k : Sk) : Chunk := big (k.L.map rwC)
abbrev KH (k : Sk) : List Chunk := [SKc k, SKh k, SKr k]
abbrev kp (k : Sk) : Value := .pointer (some ⟨k.b, 0, none⟩)
def vals (L : List (Sl Nat)) : List (List Nat) := L.map (·.l)
def badS (s : Nat × Nat) : Prop := s.1 = 0 ∨ pM ≤ s.1 ∨ pM ≤ s.2
instance (s : Nat × Nat) : Decidable (badS s) := by unfold badS; infer_instance
/-- May settings be? -/
def goodK (T : Int) (S : List (Nat × Nat)) (K M : Int) : Prop := (2 ≤ T ∧ T ≤ 64) ∧ (1 ≤ K ∧ K ≤ 64) ∧ (1 ≤ M ∧ M ≤ 64) ∧ S.length % 2 = 1 ∧ S.length ≤ 7 ∧ ∀ i, i < S.length → ¬ badS (S.getD i (0, 0))
instance (T : Int) (S : List (Nat × Nat)) (K M : Int) : Decidable (goodK T S K M) := by unfold goodK; infer_instance
theorem ovl_run {v g off n c1 cap m k : Nat} {xs ys : List Value} {w : World} (hv : w.ownsRow 0 30 1 (.slice (some ⟨v, 0, none⟩) 1 c1) 1 xs) (ha : w.ownsRow 0 30 1 (.slice (some ⟨g, 0, none⟩) n cap) n ys) (hne : v ≠ g) (hn : 0 < n) :
    (callFunc 109 #[.slice (some ⟨v, 0, none⟩) 1 1, .slice (some ((⟨g, 0, none⟩ : Addr).add off)) m k]).run Try.prog w = .ok (.value (.bool false)) w := by
  rw [Addr.add_lit, Nat.zero_add]
  rcases hv.2 with ⟨h, _⟩ | ⟨g1, p1, cu1, h1, _, hg1, hn1, _, hs1, _⟩
  · cases h
  · cases h1
    rcases ha.2 with ⟨h, _⟩ | ⟨g2, p2, cu2, h2, _, hg2, hn2, _, hs2, _⟩
    · cases h
    · cases h2
      have := Lib.run_overlaps_apart (P := Try.prog) w 25 4 30 Try.underlying25 1 Try.sizeOf30 ⟨v, 0, none⟩ ⟨g, off, none⟩ 1 1 m k hne 30 30 cu1.size cu2.size (by simp [World.shape?, hg1]) (by simp [World.shape?, hg2]) (by rw [hs2]; omega) (by simp [World.frozen?, hg1]) (by simp [World.frozen?, hg1])
      rw [run_callFunc_extern (e := Extern.SlicesOverlaps.overlaps #[25, 25] #[4]) Try.func109 (by kernel_rfl) (by kernel_rfl) (by kernel_rfl) (by kernel_rfl), this]
      rfl
theorem apart_of {X : Cx} {H F : List Chunk} {v g n c m k : Nat} {e e' : TypeId} {xs ys : List Value} {w : World} (h1 : Take (sl (some ⟨v, 0, none⟩) n c e 1 xs) H F) (h2 : In (sl (some ⟨g, 0, none⟩) m k e' 1 ys) F) (hw : Holds X.w0 X.M H w) : v ≠ g := by
  have hnd := (hw.perm h1.perm).nodup
  rw [fps_cons] at hnd
  intro e
  subst e
  exact (List.nodup_append.1 hnd).2.2 v (by simp [sl, ownFp]) v (List.mem_flatMap.2 ⟨_, h2.mem, by simp [sl, ownFp]⟩) rfl
theorem set_laid {hs : List Value} {i : Nat} {v : Value} (hi : i < hs.length) : laid hs (Int.toNat (i : Int) * 1) [v] = hs.set i v := by
  rw [Int.toNat_natCast, Nat.mul_one]
  unfold laid
  rw [List.set_eq_take_append_cons_drop, if_pos hi]
  simp
theorem nils_eqv (n : Nat) (H : List Chunk) : Eqv H (big ((List.replicate n (⟨none, 0, []⟩ : Sl Nat)).map rwC) :: H) := by
  have hfp : fps ((List.replicate n (⟨none, 0, []⟩ : Sl Nat)).map rwC) = [] := by
    induction n with
    | zero => rfl
    | succ n ih => rw [List.replicate_succ, List.map_cons, fps_cons, ih]; rfl
  have hA : ∀ w, ∀ c ∈ (List.replicate n (⟨none, 0, []⟩ : Sl Nat)).map rwC, c.A w := fun w c hc => by
    obtain ⟨r, hr, rfl⟩ := List.mem_map.1 hc
    rw [List.eq_of_mem_replicate hr]
    exact ⟨by simp [ucells], .inl ⟨rfl, rfl⟩⟩
  refine ⟨?_, fun w h c hc => ?_, fun w h c hc => h c (by simp [hc])⟩
  · show (fps H).Perm (fps ((List.replicate n (⟨none, 0, []⟩ : Sl Nat)).map rwC) ++ fps H)
    rw [hfp]; exact .refl _
  · rcases List.mem_cons.1 hc with rfl | hc
    · exact hA w
    · exact h c hc

set_option maxRecDepth 20000 in
theorem kBetw (n low : Int) (w : World) : FnV Try.prog 48 [.int .i64 n, .int .i64 low] (.bool (decide (low ≤ n ∧ n ≤ 64))) w := by
  refine fn_enter Try.func48 rfl Try.ntmps48 rfl ?_
  refine vc_seq ?_
  refine vc_region ?_
  refine vl_val rfl (.some rfl) (val_assign rfl) ?_
  refine vl_nil ?_
  refine vc_seq ?_
  refine vc_region ?_
  refine vl_val rfl (.some rfl) (val_move rfl) ?_
  refine vl_val rfl (.some rfl) (val_move rfl) ?_
  refine vl_val rfl (.some rfl) (val_ge rfl rfl) ?_
  refine vl_val rfl (.some rfl) (val_move rfl) ?_
  refine vl_split (t := 8) rfl (fun hg8 => ?_) (fun hg8 => ?_)
  · (try replace hg8 := of_decide_eq_true hg8)
    refine vl_on rfl rfl rfl rfl ?_
    refine vl_val rfl (.some rfl) (val_move rfl) ?_
    refine vl_on rfl rfl rfl rfl ?_
    refine vl_val rfl (.some rfl) (val_le rfl rfl) ?_
    refine vl_val rfl (.some rfl) (val_pick rfl rfl) ?_
    refine vl_val rfl (.some rfl) (val_assign rfl) ?_
    refine vl_nil ?_
    refine vc_ret ?_
    refine ⟨_, [], _, res1 Try.results48 rfl, .nil, ?_⟩
    first | (show _ = _; rw [decide_eq_false (p := low ≤ n ∧ n ≤ 64) (by omega)]) | (show Value.bool _ = Value.bool _; congr 1; rw [decide_eq_decide]; omega)
  · (try replace hg8 := of_decide_eq_false hg8)
    refine vl_off rfl rfl rfl rfl (.some rfl) ?_
    refine vl_off rfl rfl rfl rfl (.some rfl) ?_
    refine vl_val rfl (.some rfl) (val_pick rfl rfl) ?_
    refine vl_val rfl (.some rfl) (val_assign rfl) ?_
    refine vl_nil ?_
    refine vc_ret ?_
    refine ⟨_, [], _, res1 Try.results48 rfl, .nil, ?_⟩
    first | (show _ = _; rw [decide_eq_false (p := low ≤ n ∧ n ≤ 64) (by omega)]) | (show Value.bool _ = Value.bool _; congr 1; rw [decide_eq_decide]; omega)
set_option maxRecDepth 20000 in
theorem kBad (a b : Nat) (ha : a < 18446744073709551616) (hb : b < 18446744073709551616) (w : World) : FnV Try.prog 50 [.agg #[.int .u64 a, .int .u64 b]] (.bool (decide (badS (a, b)))) w := by
  refine fn_enter Try.func50 rfl Try.ntmps50 rfl ?_
  refine vc_seq ?_
  refine vc_region ?_
  refine vl_box rfl rfl (.some rfl) rfl (fun r1 => ?_)
  refine vl_val rfl (.some rfl) (val_assign rfl) ?_
  refine vl_nil ?_
  refine vc_seq ?_
  refine vc_region ?_
  refine vl_val rfl (.some rfl) (by first | exact val_fieldAddr Try.runUnderlying81 rfl Try.sizeOf30 rfl | exact val_fieldAddrR Try.runUnderlying81 rfl Try.sizeOf30 rfl) ?_
  refine vl_val rfl (.some rfl) (val_load Try.isAgg30 rfl (by first | exact cell_cells (by repeat (first | exact .head | apply In.tail | apply Take.tail | apply Upd.tail)) rfl | exact cell_rd (rd_sl (by repeat (first | exact .head | apply In.tail | apply Take.tail | apply Upd.tail))) (by first | exact bcells_at (by omega) | exact ucells_at (by omega) | exact icells_at (by omega) | exact tcells_at (by omega) | exact bcells_get (by omega) | exact icells_get (by omega) | exact tcells_get (by omega) | exact ucells_get (by omega)) | exact cell_rd (rd_old (by assumption) rfl) (by first | exact bcells_at (by omega) | exact ucells_at (by omega) | exact icells_at (by omega) | exact tcells_at (by omega) | exact bcells_get (by omega) | exact icells_get (by omega) | exact tcells_get (by omega) | exact ucells_get (by omega)) | exact cell_old (by assumption) (by simp [fps]))) ?_
  refine vl_val rfl (.some rfl) (val_eq rfl rfl) ?_
  refine vl_val rfl (.some rfl) (val_move rfl) ?_
  refine vl_split (t := 6) rfl (fun hg6 => ?_) (fun hg6 => ?_)
  · (try replace hg6 := of_decide_eq_true hg6)
    refine vl_off rfl rfl rfl rfl (.some rfl) ?_
    refine vl_off rfl rfl rfl rfl (.some rfl) ?_
    refine vl_off rfl rfl rfl rfl (.some rfl) ?_
    refine vl_off rfl rfl rfl rfl (.some rfl) ?_
    refine vl_val rfl (.some rfl) (val_pick rfl rfl) ?_
    refine vl_val rfl (.some rfl) (val_move rfl) ?_
    refine vl_off rfl rfl rfl rfl (.some rfl) ?_
    refine vl_off rfl rfl rfl rfl (.some rfl) ?_
    refine vl_off rfl rfl rfl rfl (.some rfl) ?_
    refine vl_off rfl rfl rfl rfl (.some rfl) ?_
    refine vl_val rfl (.some rfl) (val_pick rfl rfl) ?_
    refine vl_val rfl (.some rfl) (val_assign rfl) ?_
    refine vl_nil ?_
    refine vc_ret ?_
    refine ⟨_, [], _, res1 Try.results50 rfl, .nil, ?_⟩
    first | (show Value.bool true = _; rw [decide_eq_true (p := badS (a, b)) (by first | exact .inl (by omega) | exact .inr (.inl (by show pM ≤ a; simp at hg12; omega)))]) | (refine congrArg Value.bool ?_; have ha2 : a < pM := (by simpa using hg12); rw [← decide_not, decide_eq_decide]; exact ⟨fun h => .inr (.inr (Nat.le_of_not_lt h)), fun h => (by have h : a = 0 ∨ pM ≤ a ∨ pM ≤ b := h; omega)⟩)
  · (try replace hg6 := of_decide_eq_false hg6)
    refine vl_on rfl rfl rfl rfl ?_
    refine vl_val rfl (.some rfl) (by first | exact val_fieldAddr Try.runUnderlying81 rfl Try.sizeOf30 rfl | exact val_fieldAddrR Try.runUnderlying81 rfl Try.sizeOf30 rfl) ?_
    refine vl_on rfl rfl rfl rfl ?_
    refine vl_val rfl (.some rfl) (val_load Try.isAgg30 rfl (by first | exact cell_cells (by repeat (first | exact .head | apply In.tail | apply Take.tail | apply Upd.tail)) rfl | exact cell_rd (rd_sl (by repeat (first | exact .head | apply In.tail | apply Take.tail | apply Upd.tail))) (by first | exact bcells_at (by omega) | exact ucells_at (by omega) | exact icells_at (by omega) | exact tcells_at (by omega) | exact bcells_get (by omega) | exact icells_get (by omega) | exact tcells_get (by omega) | exact ucells_get (by omega)) | exact cell_rd (rd_old (by assumption) rfl) (by first | exact bcells_at (by omega) | exact ucells_at (by omega) | exact icells_at (by omega) | exact tcells_at (by omega) | exact bcells_get (by omega) | exact icells_get (by omega) | exact tcells_get (by omega) | exact ucells_get (by omega)) | exact cell_old (by assumption) (by simp [fps]))) ?_
    refine vl_on rfl rfl rfl rfl ?_
    refine vl_callV rfl rfl (.some rfl) Try.call51 rfl (fun w hw => fGood _ (by omega) w) ?_
    refine vl_on rfl rfl rfl rfl ?_
    refine vl_val rfl (.some rfl) (val_not rfl) ?_
    refine vl_val rfl (.some rfl) (val_pick rfl rfl) ?_
    refine vl_val rfl (.some rfl) (val_move rfl) ?_
    refine vl_split (t := 12) rfl (fun hg12 => ?_) (fun hg12 => ?_)
    · (try replace hg12 := of_decide_eq_true hg12)
      refine vl_off rfl rfl rfl rfl (.some rfl) ?_
      refine vl_off rfl rfl rfl rfl (.some rfl) ?_
      refine vl_off rfl rfl rfl rfl (.some rfl) ?_
      refine vl_off rfl rfl rfl rfl (.some rfl) ?_
      refine vl_val rfl (.some rfl) (val_pick rfl rfl) ?_
      refine vl_val rfl (.some rfl) (val_assign rfl) ?_
      refine vl_nil ?_
      refine vc_ret ?_
      refine ⟨_, [], _, res1 Try.results50 rfl, .nil, ?_⟩
      first | (show Value.bool true = _; rw [decide_eq_true (p := badS (a, b)) (by first | exact .inl (by omega) | exact .inr (.inl (by show pM ≤ a; simp at hg12; omega)))]) | (refine congrArg Value.bool ?_; have ha2 : a < pM := (by simpa using hg12); rw [← decide_not, decide_eq_decide]; exact ⟨fun h => .inr (.inr (Nat.le_of_not_lt h)), fun h => (by have h : a = 0 ∨ pM ≤ a ∨ pM ≤ b := h; omega)⟩)
    · (try replace hg12 := of_decide_eq_false hg12)
      refine vl_on rfl rfl rfl rfl ?_
      refine vl_val rfl (.some rfl) (by first | exact val_fieldAddr Try.runUnderlying81 rfl Try.sizeOf30 rfl | exact val_fieldAddrR Try.runUnderlying81 rfl Try.sizeOf30 rfl) ?_
      refine vl_on rfl rfl rfl rfl ?_
      refine vl_val rfl (.some rfl) (val_load Try.isAgg30 rfl (by first | exact cell_cells (by repeat (first | exact .head | apply In.tail | apply Take.tail | apply Upd.tail)) rfl | exact cell_rd (rd_sl (by repeat (first | exact .head | apply In.tail | apply Take.tail | apply Upd.tail))) (by first | exact bcells_at (by omega) | exact ucells_at (by omega) | exact icells_at (by omega) | exact tcells_at (by omega) | exact bcells_get (by omega) | exact icells_get (by omega) | exact tcells_get (by omega) | exact ucells_get (by omega)) | exact cell_rd (rd_old (by assumption) rfl) (by first | exact bcells_at (by omega) | exact ucells_at (by omega) | exact icells_at (by omega) | exact tcells_at (by omega) | exact bcells_get (by omega) | exact icells_get (by omega) | exact tcells_get (by omega) | exact ucells_get (by omega)) | exact cell_old (by assumption) (by simp [fps]))) ?_
      refine vl_on rfl rfl rfl rfl ?_
      refine vl_callV rfl rfl (.some rfl) Try.call51 rfl (fun w hw => fGood _ (by omega) w) ?_
      refine vl_on rfl rfl rfl rfl ?_
      refine vl_val rfl (.some rfl) (val_not rfl) ?_
      refine vl_val rfl (.some rfl) (val_pick rfl rfl) ?_
      refine vl_val rfl (.some rfl) (val_assign rfl) ?_
      refine vl_nil ?_
      refine vc_ret ?_
      refine ⟨_, [], _, res1 Try.results50 rfl, .nil, ?_⟩
      first | (show Value.bool true = _; rw [decide_eq_true (p := badS (a, b)) (by first | exact .inl (by omega) | exact .inr (.inl (by show pM ≤ a; simp at hg12; omega)))]) | (refine congrArg Value.bool ?_; have ha2 : a < pM := (by simpa using hg12); rw [← decide_not, decide_eq_decide]; exact ⟨fun h => .inr (.inr (Nat.le_of_not_lt h)), fun h => (by have h : a = 0 ∨ pM ≤ a ∨ pM ≤ b := h; omega)⟩)
set_option maxRecDepth 20000 in
theorem kIdx (A : Option Addr) (c : Nat) (S : List (Nat × Nat)) (hS : S.length < 9223372036854775808) (hb : ∀ s ∈ S, s.1 < 18446744073709551616 ∧ s.2 < 18446744073709551616) (w : World) (hr : Reads w A (seedC S)) : Fn Try.prog 87 [.slice A S.length c, .func (.func 50) #[] #[]] [] (ret fun v H' => ∃ q : Int, v = .int .i64 q ∧ (0 ≤ q ↔ ¬ ∀ i, i < S.length → ¬ badS (S.getD i (0, 0))) ∧ H' = []) w := by
  refine fn_enter Try.func87 rfl Try.ntmps87 rfl ?_
  refine vc_seq ?_
  refine vc_region ?_
  refine vl_val rfl (.some rfl) (val_assign rfl) ?_
  refine vl_nil ?_
  refine vc_seq ?_
  refine vc_seq ?_
  refine vc_region ?_
  refine vl_val rfl (.some rfl) (val_move rfl) ?_
  refine vl_val rfl (.some rfl) (val_lenSl Try.runUnderlying22 rfl) ?_
  refine vl_val rfl (.some rfl) (val_move rfl) ?_
  refine vl_nil ?_
  refine vc_block ?_
  refine vc_loopw (fun k E H => ∃ i : Nat, i ≤ S.length ∧ k = S.length - i ∧ (∀ j, j < i → ¬ badS (S.getD j (0, 0))) ∧ E = [(0, .slice A S.length c), (1, .func (.func 50) #[] #[]), (7, .int .i64 S.length), (8, .int .i64 i)] ∧ H = []) (S.length) ⟨_, _, _, ⟨0, by omega, rfl, fun j hj => absurd hj (by omega), rfl, rfl⟩, (by repeat (first | exact trivial | refine ⟨rfl, ?_⟩ | refine ⟨le_item rfl (by first | rfl | (congr 1; omega) | (simp; done) | (simp; omega)), ?_⟩)), (by repeat (first | exact .nil | (apply Sub.cons; · repeat (first | exact .head | apply Take.tail))))⟩ ?_
  intro k E H hI
  obtain ⟨i, hil, rfl, hall, rfl, rfl⟩ := hI
  refine vc_seq ?_
  refine vc_region ?_
  refine vl_val rfl (.some rfl) (val_lt rfl rfl) ?_
  refine vl_nil ?_
  refine vc_seq ?_
  refine vc_cond rfl (fun hc0 => ?_) (fun hc0 => ?_)
  · (try replace hc0 := of_decide_eq_true hc0)
    refine vc_skip ?_
    refine vc_seq ?_
    refine vc_block ?_
    refine vc_seq ?_
    refine vc_region ?_
    refine vl_val rfl (.some rfl) (val_move rfl) ?_
    refine vl_val rfl (.some rfl) (val_assign rfl) ?_
    refine vl_nil ?_
    refine vc_seq ?_
    refine vc_region ?_
    refine vl_val rfl (.some rfl) (val_move rfl) ?_
    refine vl_val rfl (.some rfl) (val_move rfl) ?_
    refine vl_val rfl (.some rfl) (val_move rfl) ?_
    refine vl_val rfl (.some rfl) (val_indexAddr Try.runUnderlying22 Try.sizeOf81 rfl rfl (rd_old hr rfl) (by omega) (by omega) (by rw [seedC_len, Int.toNat_natCast]; omega)) ?_
    refine vl_val rfl (.some rfl) (val_loadAgg Try.isAgg81 Try.sizeOf81 rfl (cells_rd (us := seedV (S.getD i (0, 0))) (rd_old hr rfl) (seed_at rfl (by omega))) rfl) ?_
    refine vl_callvV (fs := []) (cs := []) rfl rfl (.some rfl) rfl Try.call50 rfl (fun w hw => kBad (S.getD i (0, 0)).1 (S.getD i (0, 0)).2 (hb _ (getD_mem (0, 0) (by omega))).1 (hb _ (getD_mem (0, 0) (by omega))).2 w) ?_
    refine vl_nil ?_
    refine vc_cond rfl (fun hc1 => ?_) (fun hc1 => ?_)
    · (try replace hc1 := of_decide_eq_true hc1)
      refine vc_seq ?_
      refine vc_region ?_
      refine vl_val rfl (.some rfl) (val_move rfl) ?_
      refine vl_val rfl (.some rfl) (val_assign rfl) ?_
      refine vl_nil ?_
      refine vc_ret ?_
      refine ⟨_, [], _, res1 Try.results87 rfl, .nil, ?_⟩
      exact ⟨i, rfl, ⟨fun _ h => h i (by omega) hc1, fun _ => by omega⟩, rfl⟩
    · (try replace hc1 := of_decide_eq_false hc1)
      refine vc_skip ?_
      refine vc_region ?_
      refine vl_val rfl (.some rfl) (val_add rfl rfl (by first | exact w_i64 (by omega) (by omega) | rfl)) ?_
      refine vl_val rfl (.some rfl) (val_move rfl) ?_
      refine vl_nil ?_
      exact ⟨S.length - (i + 1), _, _, _, by omega, (by repeat (first | exact trivial | refine ⟨rfl, ?_⟩ | refine ⟨le_item rfl (by first | rfl | (congr 1; omega) | (simp; done) | (simp; omega)), ?_⟩)), (by repeat (first | exact .nil | (apply Sub.cons; · repeat (first | exact .head | apply Take.tail)))), ⟨i + 1, by omega, rfl, fun j hj => by
        rcases Nat.lt_or_ge j i with h | h
        · exact hall j h
        · obtain rfl : j = i := by omega
          exact hc1, rfl, rfl⟩⟩
  · (try replace hc0 := of_decide_eq_false hc0)
    refine vc_exit ?_
    refine vc_seq ?_
    refine vc_region ?_
    refine vl_val rfl (.some rfl) (val_assign rfl) ?_
    refine vl_nil ?_
    refine vc_ret ?_
    refine ⟨_, [], _, res1 Try.results87 rfl, .nil, ?_⟩
    exact ⟨-1, rfl, ⟨fun h => absurd h (by decide), fun h => absurd (fun j hj => hall j (by omega)) h⟩, rfl⟩
set_option maxRecDepth 20000 in
theorem kCont (A : Option Addr) (c : Nat) (S : List (Nat × Nat)) (hS : S.length < 9223372036854775808) (hb : ∀ s ∈ S, s.1 < 18446744073709551616 ∧ s.2 < 18446744073709551616) (w : World) (hr : Reads w A (seedC S)) : FnV Try.prog 49 [.slice A S.length c, .func (.func 50) #[] #[]] (.bool (decide (¬ ∀ i, i < S.length → ¬ badS (S.getD i (0, 0))))) w := by
  refine fn_enter Try.func49 rfl Try.ntmps49 rfl ?_
  refine vc_seq ?_
  refine vc_region ?_
  refine vl_val rfl (.some rfl) (val_assign rfl) ?_
  refine vl_nil ?_
  refine vc_seq ?_
  refine vc_region ?_
  refine vl_val rfl (.some rfl) (val_move rfl) ?_
  refine vl_val rfl (.some rfl) (val_move rfl) ?_
  refine vl_call (C := []) rfl rfl (.some rfl) Try.call87 rfl .nil (fun w hw => kIdx A c S hS hb w (rdw (rd_old hr rfl) hw)) (fun v H' h => ?_)
  obtain ⟨q, rfl, hq, rfl⟩ := h
  rw [List.nil_append]
  refine vl_val rfl (.some rfl) (val_ge rfl rfl) ?_
  refine vl_val rfl (.some rfl) (val_assign rfl) ?_
  refine vl_nil ?_
  refine vc_ret ?_
  refine ⟨_, [], _, res1 Try.results49 rfl, .nil, ?_⟩
  show Value.bool _ = Value.bool _
  congr 1
  rw [decide_eq_decide, ← hq]
set_option maxRecDepth 20000 in
theorem kGood (T Kk Mm : Int) (A : Option Addr) (c : Nat) (S : List (Nat × Nat)) (hS : S.length < 9223372036854775808) (hb : ∀ s ∈ S, s.1 < 18446744073709551616 ∧ s.2 < 18446744073709551616) (w : World) (hr : Reads w A (seedC S)) : FnV Try.prog 13 [(.agg #[.int .i64 T, .slice A S.length c, .int .i64 Kk, .int .i64 Mm])] (.bool (decide (goodK T S Kk Mm))) w := by
  refine fn_enter Try.func13 rfl Try.ntmps13 rfl ?_
  refine vc_seq ?_
  refine vc_region ?_
  refine vl_box rfl rfl (.some rfl) rfl (fun r1 => ?_)
  refine vl_val rfl (.some rfl) (val_assign rfl) ?_
  refine vl_nil ?_
  refine vc_seq ?_
  refine vc_region ?_
  refine vl_val rfl (.some rfl) (val_assign rfl) ?_
  refine vl_nil ?_
  refine vc_seq ?_
  refine vc_seq ?_
  refine vc_region ?_
  refine vl_val rfl (.some rfl) (val_move rfl) ?_
  refine vl_val rfl (.some rfl) (by first | exact val_fieldAddr Try.runUnderlying24 rfl Try.sizeOf3 rfl | exact val_fieldAddrR Try.runUnderlying24 rfl Try.sizeOf3 rfl) ?_
  refine vl_val rfl (.some rfl) (val_load Try.isAgg3 rfl (by first | exact cell_cells (by repeat (first | exact .head | apply In.tail | apply Take.tail | apply Upd.tail)) rfl | exact cell_rd (rd_sl (by repeat (first | exact .head | apply In.tail | apply Take.tail | apply Upd.tail))) (by first | exact bcells_at (by omega) | exact ucells_at (by omega) | exact icells_at (by omega) | exact tcells_at (by omega) | exact bcells_get (by omega) | exact icells_get (by omega) | exact tcells_get (by omega) | exact ucells_get (by omega)) | exact cell_rd (rd_old (by assumption) rfl) (by first | exact bcells_at (by omega) | exact ucells_at (by omega) | exact icells_at (by omega) | exact tcells_at (by omega) | exact bcells_get (by omega) | exact icells_get (by omega) | exact tcells_get (by omega) | exact ucells_get (by omega)) | exact cell_old (by assumption) (by simp [fps]))) ?_
  refine vl_callvV (fs := []) (cs := []) rfl rfl (.some rfl) rfl Try.call48 rfl (fun w hw => kBetw T 2 w) ?_
  refine vl_val rfl (.some rfl) (val_not rfl) ?_
  refine vl_val rfl (.some rfl) (val_move rfl) ?_
  refine vl_split (t := 9) rfl (fun hg9 => ?_) (fun hg9 => ?_)
  · (try replace hg9 := of_decide_eq_true hg9)
    refine vl_off rfl rfl rfl rfl (.some rfl) ?_
    refine vl_off rfl rfl rfl rfl (.some rfl) ?_
    refine vl_off rfl rfl rfl rfl (.some rfl) ?_
    refine vl_off rfl rfl rfl rfl (.some rfl) ?_
    refine vl_off rfl rfl rfl rfl (.some rfl) ?_
    refine vl_val rfl (.some rfl) (val_pick rfl rfl) ?_
    refine vl_val rfl (.some rfl) (val_move rfl) ?_
    refine vl_off rfl rfl rfl rfl (.some rfl) ?_
    refine vl_off rfl rfl rfl rfl (.some rfl) ?_
    refine vl_off rfl rfl rfl rfl (.some rfl) ?_
    refine vl_off rfl rfl rfl rfl (.some rfl) ?_
    refine vl_off rfl rfl rfl rfl (.some rfl) ?_
    refine vl_val rfl (.some rfl) (val_pick rfl rfl) ?_
    refine vl_val rfl (.some rfl) (val_move rfl) ?_
    refine vl_off rfl rfl rfl rfl (.some rfl) ?_
    refine vl_off rfl rfl rfl rfl (.some rfl) ?_
    refine vl_off rfl rfl rfl rfl (.some rfl) ?_
    refine vl_off rfl rfl rfl rfl (.some rfl) ?_
    refine vl_off rfl rfl rfl rfl (.some rfl) ?_
    refine vl_val rfl (.some rfl) (val_pick rfl rfl) ?_
    refine vl_val rfl (.some rfl) (val_move rfl) ?_
    refine vl_off rfl rfl rfl rfl (.some rfl) ?_
    refine vl_off rfl rfl rfl rfl (.some rfl) ?_
    refine vl_off rfl rfl rfl rfl (.some rfl) ?_
    refine vl_off rfl rfl rfl rfl (.some rfl) ?_
    refine vl_val rfl (.some rfl) (val_pick rfl rfl) ?_
    refine vl_nil ?_
    refine vc_cond rfl (fun _ => ?_) (fun h => by cases h)
    refine vc_seq ?_
    refine vc_region ?_
    refine vl_val rfl (.some rfl) (val_assign rfl) ?_
    refine vl_nil ?_
    refine vc_ret ?_
    refine ⟨_, [], _, res1 Try.results13 rfl, .nil, ?_⟩
    show Value.bool false = _
    rw [decide_eq_false (p := goodK T S Kk Mm) (fun h => by obtain ⟨h1, h2, h3, h4, h5, h6⟩ := h; simp at *; omega)]
  · (try replace hg9 := of_decide_eq_false hg9)
    refine vl_on rfl rfl rfl rfl ?_
    refine vl_val rfl (.some rfl) (val_move rfl) ?_
    refine vl_on rfl rfl rfl rfl ?_
    refine vl_val rfl (.some rfl) (by first | exact val_fieldAddr Try.runUnderlying24 rfl Try.sizeOf3 rfl | exact val_fieldAddrR Try.runUnderlying24 rfl Try.sizeOf3 rfl) ?_
    refine vl_on rfl rfl rfl rfl ?_
    refine vl_val rfl (.some rfl) (val_load Try.isAgg3 rfl (by first | exact cell_cells (by repeat (first | exact .head | apply In.tail | apply Take.tail | apply Upd.tail)) rfl | exact cell_rd (rd_sl (by repeat (first | exact .head | apply In.tail | apply Take.tail | apply Upd.tail))) (by first | exact bcells_at (by omega) | exact ucells_at (by omega) | exact icells_at (by omega) | exact tcells_at (by omega) | exact bcells_get (by omega) | exact icells_get (by omega) | exact tcells_get (by omega) | exact ucells_get (by omega)) | exact cell_rd (rd_old (by assumption) rfl) (by first | exact bcells_at (by omega) | exact ucells_at (by omega) | exact icells_at (by omega) | exact tcells_at (by omega) | exact bcells_get (by omega) | exact icells_get (by omega) | exact tcells_get (by omega) | exact ucells_get (by omega)) | exact cell_old (by assumption) (by simp [fps]))) ?_
    refine vl_on rfl rfl rfl rfl ?_
    refine vl_callvV (fs := []) (cs := []) rfl rfl (.some rfl) rfl Try.call48 rfl (fun w hw => kBetw Kk 1 w) ?_
    refine vl_on rfl rfl rfl rfl ?_
    refine vl_val rfl (.some rfl) (val_not rfl) ?_
    refine vl_val rfl (.some rfl) (val_pick rfl rfl) ?_
    refine vl_val rfl (.some rfl) (val_move rfl) ?_
    refine vl_split (t := 16) rfl (fun hg16 => ?_) (fun hg16 => ?_)
    · (try replace hg16 := of_decide_eq_true hg16)
      refine vl_off rfl rfl rfl rfl (.some rfl) ?_
      refine vl_off rfl rfl rfl rfl (.some rfl) ?_
      refine vl_off rfl rfl rfl rfl (.some rfl) ?_
      refine vl_off rfl rfl rfl rfl (.some rfl) ?_
      refine vl_off rfl rfl rfl rfl (.some rfl) ?_
      refine vl_val rfl (.some rfl) (val_pick rfl rfl) ?_
      refine vl_val rfl (.some rfl) (val_move rfl) ?_
      refine vl_off rfl rfl rfl rfl (.some rfl) ?_
      refine vl_off rfl rfl rfl rfl (.some rfl) ?_
      refine vl_off rfl rfl rfl rfl (.some rfl) ?_
      refine vl_off rfl rfl rfl rfl (.some rfl) ?_
      refine vl_off rfl rfl rfl rfl (.some rfl) ?_
      refine vl_val rfl (.some rfl) (val_pick rfl rfl) ?_
      refine vl_val rfl (.some rfl) (val_move rfl) ?_
      refine vl_off rfl rfl rfl rfl (.some rfl) ?_
      refine vl_off rfl rfl rfl rfl (.some rfl) ?_
      refine vl_off rfl rfl rfl rfl (.some rfl) ?_
      refine vl_off rfl rfl rfl rfl (.some rfl) ?_
      refine vl_val rfl (.some rfl) (val_pick rfl rfl) ?_
      refine vl_nil ?_
      refine vc_cond rfl (fun _ => ?_) (fun h => by cases h)
      refine vc_seq ?_
      refine vc_region ?_
      refine vl_val rfl (.some rfl) (val_assign rfl) ?_
      refine vl_nil ?_
      refine vc_ret ?_
      refine ⟨_, [], _, res1 Try.results13 rfl, .nil, ?_⟩
      show Value.bool false = _
      rw [decide_eq_false (p := goodK T S Kk Mm) (fun h => by obtain ⟨h1, h2, h3, h4, h5, h6⟩ := h; simp at *; omega)]
    · (try replace hg16 := of_decide_eq_false hg16)
      refine vl_on rfl rfl rfl rfl ?_
      refine vl_val rfl (.some rfl) (val_move rfl) ?_
      refine vl_on rfl rfl rfl rfl ?_
      refine vl_val rfl (.some rfl) (by first | exact val_fieldAddr Try.runUnderlying24 rfl Try.sizeOf3 rfl | exact val_fieldAddrR Try.runUnderlying24 rfl Try.sizeOf3 rfl) ?_
      refine vl_on rfl rfl rfl rfl ?_
      refine vl_val rfl (.some rfl) (val_load Try.isAgg3 rfl (by first | exact cell_cells (by repeat (first | exact .head | apply In.tail | apply Take.tail | apply Upd.tail)) rfl | exact cell_rd (rd_sl (by repeat (first | exact .head | apply In.tail | apply Take.tail | apply Upd.tail))) (by first | exact bcells_at (by omega) | exact ucells_at (by omega) | exact icells_at (by omega) | exact tcells_at (by omega) | exact bcells_get (by omega) | exact icells_get (by omega) | exact tcells_get (by omega) | exact ucells_get (by omega)) | exact cell_rd (rd_old (by assumption) rfl) (by first | exact bcells_at (by omega) | exact ucells_at (by omega) | exact icells_at (by omega) | exact tcells_at (by omega) | exact bcells_get (by omega) | exact icells_get (by omega) | exact tcells_get (by omega) | exact ucells_get (by omega)) | exact cell_old (by assumption) (by simp [fps]))) ?_
      refine vl_on rfl rfl rfl rfl ?_
      refine vl_callvV (fs := []) (cs := []) rfl rfl (.some rfl) rfl Try.call48 rfl (fun w hw => kBetw Mm 1 w) ?_
      refine vl_on rfl rfl rfl rfl ?_
      refine vl_val rfl (.some rfl) (val_not rfl) ?_
      refine vl_val rfl (.some rfl) (val_pick rfl rfl) ?_
      refine vl_val rfl (.some rfl) (val_move rfl) ?_
      refine vl_split (t := 23) rfl (fun hg23 => ?_) (fun hg23 => ?_)
      · (try replace hg23 := of_decide_eq_true hg23)
        refine vl_off rfl rfl rfl rfl (.some rfl) ?_
        refine vl_off rfl rfl rfl rfl (.some rfl) ?_
        refine vl_off rfl rfl rfl rfl (.some rfl) ?_
        refine vl_off rfl rfl rfl rfl (.some rfl) ?_
        refine vl_off rfl rfl rfl rfl (.some rfl) ?_
        refine vl_val rfl (.some rfl) (val_pick rfl rfl) ?_
        refine vl_val rfl (.some rfl) (val_move rfl) ?_
        refine vl_off rfl rfl rfl rfl (.some rfl) ?_
        refine vl_off rfl rfl rfl rfl (.some rfl) ?_
        refine vl_off rfl rfl rfl rfl (.some rfl) ?_
        refine vl_off rfl rfl rfl rfl (.some rfl) ?_
        refine vl_val rfl (.some rfl) (val_pick rfl rfl) ?_
        refine vl_nil ?_
        refine vc_cond rfl (fun _ => ?_) (fun h => by cases h)
        refine vc_seq ?_
        refine vc_region ?_
        refine vl_val rfl (.some rfl) (val_assign rfl) ?_
        refine vl_nil ?_
        refine vc_ret ?_
        refine ⟨_, [], _, res1 Try.results13 rfl, .nil, ?_⟩
        show Value.bool false = _
        rw [decide_eq_false (p := goodK T S Kk Mm) (fun h => by obtain ⟨h1, h2, h3, h4, h5, h6⟩ := h; simp at *; omega)]
      · (try replace hg23 := of_decide_eq_false hg23)
        refine vl_on rfl rfl rfl rfl ?_
        refine vl_val rfl (.some rfl) (by first | exact val_fieldAddr Try.runUnderlying24 rfl Try.sizeOf22 rfl | exact val_fieldAddrR Try.runUnderlying24 rfl Try.sizeOf22 rfl) ?_
        refine vl_on rfl rfl rfl rfl ?_
        refine vl_val rfl (.some rfl) (val_load Try.isAgg22 rfl (by first | exact cell_cells (by repeat (first | exact .head | apply In.tail | apply Take.tail | apply Upd.tail)) rfl | exact cell_rd (rd_sl (by repeat (first | exact .head | apply In.tail | apply Take.tail | apply Upd.tail))) (by first | exact bcells_at (by omega) | exact ucells_at (by omega) | exact icells_at (by omega) | exact tcells_at (by omega) | exact bcells_get (by omega) | exact icells_get (by omega) | exact tcells_get (by omega) | exact ucells_get (by omega)) | exact cell_rd (rd_old (by assumption) rfl) (by first | exact bcells_at (by omega) | exact ucells_at (by omega) | exact icells_at (by omega) | exact tcells_at (by omega) | exact bcells_get (by omega) | exact icells_get (by omega) | exact tcells_get (by omega) | exact ucells_get (by omega)) | exact cell_old (by assumption) (by simp [fps]))) ?_
        refine vl_on rfl rfl rfl rfl ?_
        refine vl_val rfl (.some rfl) (val_lenSl Try.runUnderlying22 rfl) ?_
        refine vl_on rfl rfl rfl rfl ?_
        refine vl_val rfl (.some rfl) (val_rem rfl rfl (by omega) (by first | exact rem_nn (by omega) | rfl)) ?_
        refine vl_on rfl rfl rfl rfl ?_
        refine vl_val rfl (.some rfl) (val_eq rfl rfl) ?_
        refine vl_val rfl (.some rfl) (val_pick rfl rfl) ?_
        refine vl_val rfl (.some rfl) (val_move rfl) ?_
        refine vl_split (t := 30) rfl (fun hg30 => ?_) (fun hg30 => ?_)
        · (try replace hg30 := of_decide_eq_true hg30)
          refine vl_off rfl rfl rfl rfl (.some rfl) ?_
          refine vl_off rfl rfl rfl rfl (.some rfl) ?_
          refine vl_off rfl rfl rfl rfl (.some rfl) ?_
          refine vl_off rfl rfl rfl rfl (.some rfl) ?_
          refine vl_val rfl (.some rfl) (val_pick rfl rfl) ?_
          refine vl_nil ?_
          refine vc_cond rfl (fun _ => ?_) (fun h => by cases h)
          refine vc_seq ?_
          refine vc_region ?_
          refine vl_val rfl (.some rfl) (val_assign rfl) ?_
          refine vl_nil ?_
          refine vc_ret ?_
          refine ⟨_, [], _, res1 Try.results13 rfl, .nil, ?_⟩
          show Value.bool false = _
          rw [decide_eq_false (p := goodK T S Kk Mm) (fun h => by obtain ⟨h1, h2, h3, h4, h5, h6⟩ := h; simp at *; omega)]
        · (try replace hg30 := of_decide_eq_false hg30)
          refine vl_on rfl rfl rfl rfl ?_
          refine vl_val rfl (.some rfl) (by first | exact val_fieldAddr Try.runUnderlying24 rfl Try.sizeOf22 rfl | exact val_fieldAddrR Try.runUnderlying24 rfl Try.sizeOf22 rfl) ?_
          refine vl_on rfl rfl rfl rfl ?_
          refine vl_val rfl (.some rfl) (val_load Try.isAgg22 rfl (by first | exact cell_cells (by repeat (first | exact .head | apply In.tail | apply Take.tail | apply Upd.tail)) rfl | exact cell_rd (rd_sl (by repeat (first | exact .head | apply In.tail | apply Take.tail | apply Upd.tail))) (by first | exact bcells_at (by omega) | exact ucells_at (by omega) | exact icells_at (by omega) | exact tcells_at (by omega) | exact bcells_get (by omega) | exact icells_get (by omega) | exact tcells_get (by omega) | exact ucells_get (by omega)) | exact cell_rd (rd_old (by assumption) rfl) (by first | exact bcells_at (by omega) | exact ucells_at (by omega) | exact icells_at (by omega) | exact tcells_at (by omega) | exact bcells_get (by omega) | exact icells_get (by omega) | exact tcells_get (by omega) | exact ucells_get (by omega)) | exact cell_old (by assumption) (by simp [fps]))) ?_
          refine vl_on rfl rfl rfl rfl ?_
          refine vl_val rfl (.some rfl) (val_lenSl Try.runUnderlying22 rfl) ?_
          refine vl_on rfl rfl rfl rfl ?_
          refine vl_val rfl (.some rfl) (val_gt rfl rfl) ?_
          refine vl_val rfl (.some rfl) (val_pick rfl rfl) ?_
          refine vl_nil ?_
          refine vc_cond rfl (fun hc0 => ?_) (fun hc0 => ?_)
          · (try replace hc0 := of_decide_eq_true hc0)
            refine vc_seq ?_
            refine vc_region ?_
            refine vl_val rfl (.some rfl) (val_assign rfl) ?_
            refine vl_nil ?_
            refine vc_ret ?_
            refine ⟨_, [], _, res1 Try.results13 rfl, .nil, ?_⟩
            show Value.bool false = _
            rw [decide_eq_false (p := goodK T S Kk Mm) (fun h => by obtain ⟨h1, h2, h3, h4, h5, h6⟩ := h; simp at *; omega)]
          · (try replace hc0 := of_decide_eq_false hc0)
            refine vc_skip ?_
            refine vc_seq ?_
            refine vc_region ?_
            refine vl_val rfl (.some rfl) (by first | exact val_fieldAddr Try.runUnderlying24 rfl Try.sizeOf22 rfl | exact val_fieldAddrR Try.runUnderlying24 rfl Try.sizeOf22 rfl) ?_
            refine vl_val rfl (.some rfl) (val_load Try.isAgg22 rfl (by first | exact cell_cells (by repeat (first | exact .head | apply In.tail | apply Take.tail | apply Upd.tail)) rfl | exact cell_rd (rd_sl (by repeat (first | exact .head | apply In.tail | apply Take.tail | apply Upd.tail))) (by first | exact bcells_at (by omega) | exact ucells_at (by omega) | exact icells_at (by omega) | exact tcells_at (by omega) | exact bcells_get (by omega) | exact icells_get (by omega) | exact tcells_get (by omega) | exact ucells_get (by omega)) | exact cell_rd (rd_old (by assumption) rfl) (by first | exact bcells_at (by omega) | exact ucells_at (by omega) | exact icells_at (by omega) | exact tcells_at (by omega) | exact bcells_get (by omega) | exact icells_get (by omega) | exact tcells_get (by omega) | exact ucells_get (by omega)) | exact cell_old (by assumption) (by simp [fps]))) ?_
            refine vl_callV rfl rfl (.some rfl) Try.call49 rfl (fun w hw => kCont A c S hS hb w (rdw (rd_old hr rfl) hw)) ?_
            refine vl_val rfl (.some rfl) (val_not rfl) ?_
            refine vl_val rfl (.some rfl) (val_assign rfl) ?_
            refine vl_nil ?_
            refine vc_ret ?_
            refine ⟨_, [], _, res1 Try.results13 rfl, .nil, ?_⟩
            show Value.bool _ = Value.bool _
            congr 1
            simp at hg9 hg16 hg23 hg30 hc0
            rw [Bool.eq_iff_iff]
            simp only [Bool.not_eq_true', decide_eq_false_iff_not, decide_eq_true_eq, Classical.not_not]
            unfold goodK
            exact ⟨fun h => ⟨by omega, by omega, by omega, by omega, by omega, h⟩, fun h => h.2.2.2.2.2⟩
set_option maxRecDepth 20000 in
theorem kCloneS (A : Option Addr) (c : Nat) (l : List (Nat × Nat)) (hl : l.length ≤ 1000000) (w : World) (hr : Reads w A (seedC l)) : Fn Try.prog 47 [.slice A l.length c] [] (ret fun u H' => ∃ A' c', u = .slice A' l.length c' ∧ H' = [sl A' l.length c' 81 2 (seedC l)]) w := by
  refine fn_enter Try.func47 rfl Try.ntmps47 rfl ?_
  refine vc_seq ?_
  refine vc_region ?_
  refine vl_val rfl (.some rfl) (val_assign rfl) ?_
  refine vl_nil ?_
  refine vc_seq ?_
  refine vc_seq ?_
  refine vc_region ?_
  refine vl_val rfl (.some rfl) (val_move rfl) ?_
  refine vl_val rfl (.some rfl) (val_opO rfl rfl guard_slice (bin_slice_eq Try.runUnderlying22)) ?_
  refine vl_nil ?_
  refine vc_cond rfl (fun hc0 => ?_) (fun hc0 => ?_)
  · (try replace hc0 := of_decide_eq_true hc0)
    refine vc_seq ?_
    refine vc_region ?_
    obtain rfl : A = none := by simpa using hc0
    have hz : (seedC l) = [] := by
      rcases hc : (seedC l) with _ | ⟨u, t⟩
      · rfl
      · obtain ⟨x, hx', _⟩ := hr 0 u (by rw [hc]; rfl); cases hx'
    obtain rfl : l = [] := by
      have := congrArg List.length hz
      rw [seedC_len] at this
      exact List.eq_nil_of_length_eq_zero (by simp only [List.length_nil] at this; omega)
    refine vl_val rfl (.some rfl) (val_assign rfl) ?_
    refine vl_nilSl 81 2 ?_
    refine vl_nil ?_
    refine vc_ret ?_
    refine ⟨_, [sl none 0 0 81 2 []], _, res1 Try.results47 rfl, (by repeat (first | exact .nil | (apply Sub.cons; · repeat (first | exact .head | apply Take.tail)))), ?_⟩
    exact ⟨none, 0, rfl, rfl⟩
  · (try replace hc0 := of_decide_eq_false hc0)
    refine vc_skip ?_
    refine vc_seq ?_
    refine vc_region ?_
    refine vl_lit0 sT22 Try.sizeOf81 rfl rfl (.some rfl) (fun r5 => ?_)
    refine vl_val rfl (.some rfl) (val_move rfl) ?_
    refine vl_append sT22 rfl rfl (.some rfl) rfl rfl (rd_old hr rfl) (by rw [seedC_len]) (one_s l) (by omega) (by omega) (by repeat (first | exact .head | apply In.tail | apply Take.tail | apply Upd.tail)) (fun A7 k7 => ?_)
    rw [Nat.zero_add, List.nil_append]
    refine vl_val rfl (.some rfl) (val_assign rfl) ?_
    refine vl_nil ?_
    refine vc_ret ?_
    refine ⟨_, [sl A7 l.length k7 81 2 (seedC l)], _, res1 Try.results47 rfl, (by repeat (first | exact .nil | (apply Sub.cons; · repeat (first | exact .head | apply Take.tail)))), ?_⟩
    exact ⟨A7, k7, rfl, rfl⟩
set_option maxRecDepth 20000 in
theorem kClone (A : Option Addr) (c : Nat) (l : List Nat) (hl : l.length ≤ 1000000) (w : World) (hr : Reads w A (ucells l)) : Fn Try.prog 56 [.slice A l.length c] [] (ret fun u H' => ∃ A' c', u = .slice A' l.length c' ∧ H' = [sl A' l.length c' 30 1 (ucells l)]) w := by
  refine fn_enter Try.func56 rfl Try.ntmps56 rfl ?_
  refine vc_seq ?_
  refine vc_region ?_
  refine vl_val rfl (.some rfl) (val_assign rfl) ?_
  refine vl_nil ?_
  refine vc_seq ?_
  refine vc_seq ?_
  refine vc_region ?_
  refine vl_val rfl (.some rfl) (val_move rfl) ?_
  refine vl_val rfl (.some rfl) (val_opO rfl rfl guard_slice (bin_slice_eq Try.runUnderlying25)) ?_
  refine vl_nil ?_
  refine vc_cond rfl (fun hc0 => ?_) (fun hc0 => ?_)
  · (try replace hc0 := of_decide_eq_true hc0)
    refine vc_seq ?_
    refine vc_region ?_
    obtain rfl : A = none := by simpa using hc0
    have hz : (ucells l) = [] := by
      rcases hc : (ucells l) with _ | ⟨u, t⟩
      · rfl
      · obtain ⟨x, hx', _⟩ := hr 0 u (by rw [hc]; rfl); cases hx'
    obtain rfl : l = [] := by
      have := congrArg List.length hz
      rw [ucells_length] at this
      exact List.eq_nil_of_length_eq_zero (by simp only [List.length_nil] at this; omega)
    refine vl_val rfl (.some rfl) (val_assign rfl) ?_
    refine vl_nilSl 30 1 ?_
    refine vl_nil ?_
    refine vc_ret ?_
    refine ⟨_, [sl none 0 0 30 1 []], _, res1 Try.results56 rfl, (by repeat (first | exact .nil | (apply Sub.cons; · repeat (first | exact .head | apply Take.tail)))), ?_⟩
    exact ⟨none, 0, rfl, rfl⟩
  · (try replace hc0 := of_decide_eq_false hc0)
    refine vc_skip ?_
    refine vc_seq ?_
    refine vc_region ?_
    refine vl_lit0 sT25 Try.sizeOf30 rfl rfl (.some rfl) (fun r5 => ?_)
    refine vl_val rfl (.some rfl) (val_move rfl) ?_
    refine vl_append sT25 rfl rfl (.some rfl) rfl rfl (rd_old hr rfl) (by rw [ucells_length]; omega) (one_u l) (by omega) (by omega) (by repeat (first | exact .head | apply In.tail | apply Take.tail | apply Upd.tail)) (fun A7 k7 => ?_)
    rw [Nat.zero_add, List.nil_append]
    refine vl_val rfl (.some rfl) (val_assign rfl) ?_
    refine vl_nil ?_
    refine vc_ret ?_
    refine ⟨_, [sl A7 l.length k7 30 1 (ucells l)], _, res1 Try.results56 rfl, (by repeat (first | exact .nil | (apply Sub.cons; · repeat (first | exact .head | apply Take.tail)))), ?_⟩
    exact ⟨A7, k7, rfl, rfl⟩
set_option maxRecDepth 20000 in
theorem kNewBad (T Kk Mm : Int) (A : Option Addr) (c : Nat) (S : List (Nat × Nat)) (hS : S.length < 9223372036854775808) (hb : ∀ s ∈ S, s.1 < 18446744073709551616 ∧ s.2 < 18446744073709551616) (w : World) (hr : Reads w A (seedC S)) (hg : ¬ goodK T S Kk Mm) : FnV Try.prog 12 [(.agg #[.int .i64 T, .slice A S.length c, .int .i64 Kk, .int .i64 Mm])] (.pointer none) w := by
  refine fn_enter Try.func12 rfl Try.ntmps12 rfl ?_
  refine vc_seq ?_
  refine vc_region ?_
  refine vl_box rfl rfl (.some rfl) rfl (fun r1 => ?_)
  refine vl_val rfl (.some rfl) (val_assign rfl) ?_
  refine vl_nil ?_
  refine vc_seq ?_
  refine vc_seq ?_
  refine vc_region ?_
  refine vl_val rfl (.some rfl) (val_loadAgg Try.isAgg24 Try.sizeOf24 rfl (by first | exact cells_whole (by repeat (first | exact .head | apply In.tail | apply Take.tail | apply Upd.tail)) | exact cells_part (by repeat (first | exact .head | apply In.tail | apply Take.tail | apply Upd.tail)) rfl) rfl) ?_
  refine vl_callV rfl rfl (.some rfl) Try.call13 rfl (fun w hw => kGood T Kk Mm A c S hS hb w (rdw (rd_old hr rfl) hw)) ?_
  rw [decide_eq_false hg]
  refine vl_val rfl (.some rfl) (val_not rfl) ?_
  refine vl_nil ?_
  refine vc_cond rfl (fun _ => ?_) (fun h => by cases h)
  refine vc_seq ?_
  refine vc_region ?_
  refine vl_val rfl (.some rfl) (val_assign rfl) ?_
  refine vl_nil ?_
  refine vc_ret ?_
  refine ⟨_, [], _, res1 Try.results12 rfl, .nil, ?_⟩
  rfl
set_option maxRecDepth 20000 in
theorem kNew0 (t : Nat) (Kk Mm : Int) (A : Option Addr) (c : Nat) (S : List (Nat × Nat)) (hS : S.length < 9223372036854775808) (hb : ∀ s ∈ S, s.1 < 18446744073709551616 ∧ s.2 < 18446744073709551616) (w : World) (hr : Reads w A (seedC S)) (hg : goodK t S Kk Mm) : Fn Try.prog 12 [(.agg #[.int .i64 (t : Nat), .slice A S.length c, .int .i64 Kk, .int .i64 Mm])] [] (ret fun v H' => ∃ (b : Nat) (As : Option Addr) (cs : Nat) (Ac : Option Addr) (cc : Nat), v = .pointer (some ⟨b, 0, none⟩) ∧ H' = [SDc As S.length cs S, SKb b t As S.length cs Ac S.length cc, HR Ac S.length cc (List.replicate S.length (.slice none 0 0))]) w := by
  have h7 := hg.2.2.2.2.1
  refine fn_enter Try.func12 rfl Try.ntmps12 rfl ?_
  refine vc_seq ?_
  refine vc_region ?_
  refine vl_box rfl rfl (.some rfl) rfl (fun r1 => ?_)
  refine vl_val rfl (.some rfl) (val_assign rfl) ?_
  refine vl_nil ?_
  refine vc_seq ?_
  refine vc_seq ?_
  refine vc_region ?_
  refine vl_val rfl (.some rfl) (val_loadAgg Try.isAgg24 Try.sizeOf24 rfl (by first | exact cells_whole (by repeat (first | exact .head | apply In.tail | apply Take.tail | apply Upd.tail)) | exact cells_part (by repeat (first | exact .head | apply In.tail | apply Take.tail | apply Upd.tail)) rfl) rfl) ?_
  refine vl_callV rfl rfl (.some rfl) Try.call13 rfl (fun w hw => kGood t Kk Mm A c S hS hb w (rdw (rd_old hr rfl) hw)) ?_
  rw [decide_eq_true hg]
  refine vl_val rfl (.some rfl) (val_not rfl) ?_
  refine vl_nil ?_
  refine vc_cond rfl (fun h => by cases h) (fun _ => ?_)
  refine vc_skip ?_
  refine vc_seq ?_
  refine vc_drawsT 12 [0, 1, 2, 3, 5, 6, 7, 9, 11] ([cells r1 [.int .i64 (t : Nat), .slice A S.length c, .int .i64 Kk, .int .i64 Mm] 24]) (by repeat (first | exact .nil | (apply Sub.cons; · repeat (first | exact .head | apply Take.tail)))) rfl (by kernel_rfl) rfl (fun _ _ _ h => h) ?_
  refine vt_val 0 rfl rfl (by kernel_rfl) rfl (.some rfl) (by first | exact val_fieldAddr Try.runUnderlying24 rfl Try.sizeOf3 rfl | exact val_fieldAddrR Try.runUnderlying24 rfl Try.sizeOf3 rfl) ?_
  refine vt_val 1 rfl rfl (by kernel_rfl) rfl (.some rfl) (val_load Try.isAgg3 rfl (by first | exact cell_cells (by repeat (first | exact .head | apply In.tail | apply Take.tail | apply Upd.tail)) rfl | exact cell_rd (rd_sl (by repeat (first | exact .head | apply In.tail | apply Take.tail | apply Upd.tail))) (by first | exact bcells_at (by omega) | exact ucells_at (by omega) | exact icells_at (by omega) | exact tcells_at (by omega) | exact bcells_get (by omega) | exact icells_get (by omega) | exact tcells_get (by omega) | exact ucells_get (by omega)) | exact cell_rd (rd_old (by assumption) rfl) (by first | exact bcells_at (by omega) | exact ucells_at (by omega) | exact icells_at (by omega) | exact tcells_at (by omega) | exact bcells_get (by omega) | exact icells_get (by omega) | exact tcells_get (by omega) | exact ucells_get (by omega)) | exact cell_old (by assumption) (by simp [fps]))) ?_
  refine vt_val 2 rfl rfl (by kernel_rfl) rfl (.some rfl) (by first | exact val_fieldAddr Try.runUnderlying24 rfl Try.sizeOf22 rfl | exact val_fieldAddrR Try.runUnderlying24 rfl Try.sizeOf22 rfl) ?_
  refine vt_val 3 rfl rfl (by kernel_rfl) rfl (.some rfl) (val_load Try.isAgg22 rfl (by first | exact cell_cells (by repeat (first | exact .head | apply In.tail | apply Take.tail | apply Upd.tail)) rfl | exact cell_rd (rd_sl (by repeat (first | exact .head | apply In.tail | apply Take.tail | apply Upd.tail))) (by first | exact bcells_at (by omega) | exact ucells_at (by omega) | exact icells_at (by omega) | exact tcells_at (by omega) | exact bcells_get (by omega) | exact icells_get (by omega) | exact tcells_get (by omega) | exact ucells_get (by omega)) | exact cell_rd (rd_old (by assumption) rfl) (by first | exact bcells_at (by omega) | exact ucells_at (by omega) | exact icells_at (by omega) | exact tcells_at (by omega) | exact bcells_get (by omega) | exact icells_get (by omega) | exact tcells_get (by omega) | exact ucells_get (by omega)) | exact cell_old (by assumption) (by simp [fps]))) ?_
  refine vt_val 5 rfl rfl (by kernel_rfl) rfl (.some rfl) (by first | exact val_fieldAddr Try.runUnderlying24 rfl Try.sizeOf22 rfl | exact val_fieldAddrR Try.runUnderlying24 rfl Try.sizeOf22 rfl) ?_
  refine vt_val 6 rfl rfl (by kernel_rfl) rfl (.some rfl) (val_load Try.isAgg22 rfl (by first | exact cell_cells (by repeat (first | exact .head | apply In.tail | apply Take.tail | apply Upd.tail)) rfl | exact cell_rd (rd_sl (by repeat (first | exact .head | apply In.tail | apply Take.tail | apply Upd.tail))) (by first | exact bcells_at (by omega) | exact ucells_at (by omega) | exact icells_at (by omega) | exact tcells_at (by omega) | exact bcells_get (by omega) | exact icells_get (by omega) | exact tcells_get (by omega) | exact ucells_get (by omega)) | exact cell_rd (rd_old (by assumption) rfl) (by first | exact bcells_at (by omega) | exact ucells_at (by omega) | exact icells_at (by omega) | exact tcells_at (by omega) | exact bcells_get (by omega) | exact icells_get (by omega) | exact tcells_get (by omega) | exact ucells_get (by omega)) | exact cell_old (by assumption) (by simp [fps]))) ?_
  refine vt_val 7 rfl rfl (by kernel_rfl) rfl (.some rfl) (val_lenSl Try.runUnderlying22 rfl) ?_
  refine vt_fork2 4 8 (by kernel_rfl) ?_ ?_
  · refine vt_op rfl ?_
    refine vl_call (C := []) rfl rfl (.some rfl) Try.call47 rfl .nil (fun w hw => kCloneS A c S (by omega) w (rdw (rd_old hr rfl) hw)) (fun v H' h => ?_)
    obtain ⟨A10, c10, rfl, rfl⟩ := h
    show VL _ _ _ _ _ (_ :: _)
    refine vl_nil ?_
    refine ⟨⟨_, (by repeat (first | exact .nil | (apply Sub.cons; · repeat (first | exact .head | apply Take.tail))))⟩, ?_⟩
    refine vt_fork1 8 (by kernel_rfl) ?_
    · refine vt_op rfl ?_
      refine vl_makeSlice sT33 rfl rfl (.some rfl) rfl rfl (by omega) (by omega) (by omega) (made_one rfl _) (fun r14 => ?_)
      rw [Int.toNat_natCast]
      refine vl_nil ?_
      refine ⟨⟨_, (by repeat (first | exact .nil | (apply Sub.cons; · repeat (first | exact .head | apply Take.tail))))⟩, ?_⟩
      refine vt_val 9 rfl rfl (by kernel_rfl) rfl (.some rfl) (val_buildSt (pl := #[(0, 1), (1, 1), (2, 1)]) (cs := #[.int .i64 (t : Nat), .slice A10 S.length c10, .slice (some ⟨r14, 0, none⟩) S.length S.length]) Try.runUnderlying57 Try.zeroValue57 (fun w => by kernel_rfl) rfl rfl) ?_
      refine vt_fork1 10 (by kernel_rfl) ?_
      · refine vt_op rfl ?_
        refine vl_box rfl rfl (.some rfl) rfl (fun r16 => ?_)
        refine vl_nil ?_
        refine ⟨⟨_, (by repeat (first | exact .nil | (apply Sub.cons; · repeat (first | exact .head | apply Take.tail))))⟩, ?_⟩
        refine vt_val 11 rfl rfl (by kernel_rfl) rfl (.some rfl) (val_assign rfl) ?_
        refine vt_nil (by kernel_rfl) ?_
        refine vc_ret ?_
        refine ⟨_, [SDc A10 S.length c10 S, SKb r16 t A10 S.length c10 (some ⟨r14, 0, none⟩) S.length S.length, HR (some ⟨r14, 0, none⟩) S.length S.length (List.replicate S.length (.slice none 0 0))], _, res1 Try.results12 rfl, (by repeat (first | exact .nil | (apply Sub.cons; · repeat (first | exact .head | apply Take.tail)))), ?_⟩
        exact ⟨r16, A10, c10, _, _, rfl, rfl⟩
  · refine vt_op rfl ?_
    refine vl_makeSlice sT33 rfl rfl (.some rfl) rfl rfl (by omega) (by omega) (by omega) (made_one rfl _) (fun r14 => ?_)
    rw [Int.toNat_natCast]
    refine vl_nil ?_
    refine ⟨⟨_, (by repeat (first | exact .nil | (apply Sub.cons; · repeat (first | exact .head | apply Take.tail))))⟩, ?_⟩
    refine vt_fork1 4 (by kernel_rfl) ?_
    · refine vt_op rfl ?_
      refine vl_call (C := []) rfl rfl (.some rfl) Try.call47 rfl .nil (fun w hw => kCloneS A c S (by omega) w (rdw (rd_old hr rfl) hw)) (fun v H' h => ?_)
      obtain ⟨A10, c10, rfl, rfl⟩ := h
      show VL _ _ _ _ _ (_ :: _)
      refine vl_nil ?_
      refine ⟨⟨_, (by repeat (first | exact .nil | (apply Sub.cons; · repeat (first | exact .head | apply Take.tail))))⟩, ?_⟩
      refine vt_val 9 rfl rfl (by kernel_rfl) rfl (.some rfl) (val_buildSt (pl := #[(0, 1), (1, 1), (2, 1)]) (cs := #[.int .i64 (t : Nat), .slice A10 S.length c10, .slice (some ⟨r14, 0, none⟩) S.length S.length]) Try.runUnderlying57 Try.zeroValue57 (fun w => by kernel_rfl) rfl rfl) ?_
      refine vt_fork1 10 (by kernel_rfl) ?_
      · refine vt_op rfl ?_
        refine vl_box rfl rfl (.some rfl) rfl (fun r16 => ?_)
        refine vl_nil ?_
        refine ⟨⟨_, (by repeat (first | exact .nil | (apply Sub.cons; · repeat (first | exact .head | apply Take.tail))))⟩, ?_⟩
        refine vt_val 11 rfl rfl (by kernel_rfl) rfl (.some rfl) (val_assign rfl) ?_
        refine vt_nil (by kernel_rfl) ?_
        refine vc_ret ?_
        refine ⟨_, [SDc A10 S.length c10 S, SKb r16 t A10 S.length c10 (some ⟨r14, 0, none⟩) S.length S.length, HR (some ⟨r14, 0, none⟩) S.length S.length (List.replicate S.length (.slice none 0 0))], _, res1 Try.results12 rfl, (by repeat (first | exact .nil | (apply Sub.cons; · repeat (first | exact .head | apply Take.tail)))), ?_⟩
        exact ⟨r16, A10, c10, _, _, rfl, rfl⟩

/-- An empty sketch. -/
theorem kNew (t : Nat) (Kk Mm : Int) (A : Option Addr) (c : Nat) (S : List (Nat × Nat)) (hS : S.length < 9223372036854775808) (hb : ∀ s ∈ S, s.1 < 18446744073709551616 ∧ s.2 < 18446744073709551616) (w : World) (hr : Reads w A (seedC S)) (hg : goodK t S Kk Mm) : Fn Try.prog 12 [(.agg #[.int .i64 (t : Nat), .slice A S.length c, .int .i64 Kk, .int .i64 Mm])] [] (ret fun v H' => ∃ k : Sk, v = kp k ∧ k.t = t ∧ k.S = S ∧ k.L = List.replicate S.length ⟨none, 0, []⟩ ∧ H' = SDc k.As k.S.length k.cs k.S :: KH k) w := by
  refine (kNew0 t Kk Mm A c S hS hb w hr hg).out fun v H h => ?_
  obtain ⟨b, As, cs, Ac, cc, rfl, rfl⟩ := h
  refine ⟨_, [], ?_, ⟨b, t, As, cs, S, Ac, cc, List.replicate S.length ⟨none, 0, []⟩⟩, rfl, rfl, rfl, rfl, rfl⟩
  have e1 : (List.replicate S.length (⟨none, 0, []⟩ : Sl Nat)).length = S.length := List.length_replicate
  have e2 : (List.replicate S.length (⟨none, 0, []⟩ : Sl Nat)).map hdr = List.replicate S.length (.slice none 0 0) := List.map_replicate
  show Eqv _ ([SDc As S.length cs S, SKb b t As S.length cs Ac (List.replicate S.length (⟨none, 0, []⟩ : Sl Nat)).length cc, HR Ac (List.replicate S.length (⟨none, 0, []⟩ : Sl Nat)).length cc ((List.replicate S.length (⟨none, 0, []⟩ : Sl Nat)).map hdr), big ((List.replicate S.length (⟨none, 0, []⟩ : Sl Nat)).map rwC)] ++ [])
  rw [e1, e2, List.append_nil]
  exact (nils_eqv S.length _).trans (Eqv.perm (List.perm_append_comm (l₁ := [_]) (l₂ := [_, _, _])))

end Go.Proofs.Ytclknendeeljaaa.K
