/- Walks of the program's functions, printed by a program of this session; Lean checks them. -/
import Derived.Test.YtclknendeeljaaaYkb
namespace Go.Proofs.Ytclknendeeljaaa.K
open Go Go.RowKit Go.Proofs
set_option linter.unusedVariables false
set_option linter.unusedSimpArgs false


theorem putK_ins {t : Nat} {l : List Nat} {h i : Nat} (hn : h ∉ l) (hlt : i < t) (hi : i = lowN l h) : putK t l h = (l.take i ++ h :: l.drop i).take t := by
  subst hi; unfold putK; rw [if_neg (fun hc => by rcases hc with hc | hc; exact hn hc; omega)]
theorem putK_not {t : Nat} {l : List Nat} {h : Nat} (hc : h ∈ l ∨ t ≤ lowN l h) : putK t l h = l := by unfold putK; rw [if_pos hc]
theorem hs_set_same {hs : List Value} {i : Nat} {v : Value} (h : hs[i]? = some v) : hs.set i v = hs := by
  obtain ⟨hi, e⟩ := List.getElem?_eq_some_iff.1 h
  rw [← e, List.set_getElem_self]
theorem set_laidS {hs : List Value} {i n c : Nat} {A : Option Addr} (hi : i < hs.length) : laid hs (Int.toNat (i : Int) * 1) (Value.cells (.slice A n c)).toList = hs.set i (.slice A n c) := set_laid hi
theorem ucells_front {l : List Nat} {i h t : Nat} (hi : i ≤ l.length) : (ucells (l.take i ++ h :: l.drop i)).take (min (l.length + 1) t * 1) = ucells ((l.take i ++ h :: l.drop i).take t) := by
  have hlen : (l.take i ++ h :: l.drop i).length = l.length + 1 := by simp; omega
  rw [Nat.mul_one, ← ucells_takeM, ← hlen]
  congr 1
  rw [List.take_eq_take_iff]
  omega
theorem ovl_run2 {X : Cx} {H F : List Chunk} {v g off n c1 cap m k : Nat} {xs ys : List Value} {w : World} (h1 : Take (sl (some ⟨v, 0, none⟩) 1 c1 30 1 xs) H F) (h2 : In (sl (some ⟨g, 0, none⟩) n cap 30 1 ys) F) (hn : 0 < n) (hw : Holds X.w0 X.M H w) :
    (callFunc 109 #[.slice (some ⟨v, 0, none⟩) 1 1, .slice (some ((⟨g, 0, none⟩ : Addr).add off)) m k]).run Try.prog w = .ok (.value (.bool false)) w := by
  have hp := hw.perm h1.perm
  exact ovl_run (hp.chunk (sl (some ⟨v, 0, none⟩) 1 c1 30 1 xs) (by simp)) (hp.chunk (sl (some ⟨g, 0, none⟩) n cap 30 1 ys) (by simp [h2.mem])) (apart_of h1 h2 hw) hn

set_option maxRecDepth 20000 in
theorem kMade (b t : Nat) (As : Option Addr) (ns cs : Nat) (Ac : Option Addr) (n cc : Nat) (ht : 0 < t) (w : World) : FnR Try.prog 53 [.pointer (some ⟨b, 0, none⟩)] [SKb b t As ns cs Ac n cc] (.bool true) w := by
  refine fn_enter Try.func53 rfl Try.ntmps53 rfl ?_
  refine vc_seq ?_
  refine vc_region ?_
  refine vl_val rfl (.some rfl) (val_assign rfl) ?_
  refine vl_nil ?_
  refine vc_seq ?_
  refine vc_region ?_
  refine vl_val rfl (.some rfl) (val_move rfl) ?_
  refine vl_val rfl (.some rfl) (val_opO rfl rfl guard_ptr (bin_ptr_ne Try.runUnderlying26)) ?_
  refine vl_val rfl (.some rfl) (val_move rfl) ?_
  refine vl_on rfl rfl rfl rfl ?_
  refine vl_val rfl (.some rfl) (val_move rfl) ?_
  refine vl_on rfl rfl rfl rfl ?_
  refine vl_val rfl (.some rfl) (val_nil rfl rfl) ?_
  refine vl_on rfl rfl rfl rfl ?_
  refine vl_val rfl (.some rfl) (by first | exact val_fieldAddr Try.runUnderlying57 rfl Try.sizeOf3 rfl | exact val_fieldAddrR Try.runUnderlying57 rfl Try.sizeOf3 rfl) ?_
  refine vl_on rfl rfl rfl rfl ?_
  refine vl_val rfl (.some rfl) (val_load Try.isAgg3 rfl (by first | exact cell_cells (by repeat (first | exact .head | apply In.tail | apply Take.tail | apply Upd.tail)) rfl | exact cell_rd (rd_sl (by repeat (first | exact .head | apply In.tail | apply Take.tail | apply Upd.tail))) (by first | exact bcells_at (by omega) | exact ucells_at (by omega) | exact icells_at (by omega) | exact tcells_at (by omega) | exact bcells_get (by omega) | exact icells_get (by omega) | exact tcells_get (by omega) | exact ucells_get (by omega)) | exact cell_rd (rd_old (by assumption) rfl) (by first | exact bcells_at (by omega) | exact ucells_at (by omega) | exact icells_at (by omega) | exact tcells_at (by omega) | exact bcells_get (by omega) | exact icells_get (by omega) | exact tcells_get (by omega) | exact ucells_get (by omega)) | exact cell_old (by assumption) (by simp [fps]))) ?_
  refine vl_on rfl rfl rfl rfl ?_
  refine vl_val rfl (.some rfl) (val_gt rfl rfl) ?_
  refine vl_val rfl (.some rfl) (val_pick rfl rfl) ?_
  refine vl_val rfl (.some rfl) (val_assign rfl) ?_
  refine vl_nil ?_
  refine vc_ret ?_
  refine ⟨_, [SKb b t As ns cs Ac n cc], _, res1 Try.results53 rfl, (by repeat (first | exact .nil | (apply Sub.cons; · repeat (first | exact .head | apply Take.tail)))), ?_⟩
  exact ⟨by show Value.bool _ = _; rw [decide_eq_true (by omega)], rfl⟩
set_option maxRecDepth 20000 in
theorem cNan_uint64 (x : Int) (w : World) : FnV Try.prog 132 [.int .u64 x] (.bool false) w := by
  refine fn_enter Try.func132 rfl Try.ntmps132 rfl ?_
  refine vc_seq ?_
  refine vc_region ?_
  refine vl_val rfl (.some rfl) (val_assign rfl) ?_
  refine vl_nil ?_
  refine vc_seq ?_
  refine vc_region ?_
  refine vl_val rfl (.some rfl) (val_move rfl) ?_
  refine vl_val rfl (.some rfl) (val_move rfl) ?_
  refine vl_val rfl (.some rfl) (val_net rfl rfl (rfl)) ?_
  refine vl_val rfl (.some rfl) (val_assign rfl) ?_
  refine vl_nil ?_
  refine vc_ret ?_
  refine ⟨_, [], _, res1 Try.results132 rfl, .nil, ?_⟩
  rfl
set_option maxRecDepth 20000 in
theorem cNan_int (x : Int) (w : World) : FnV Try.prog 101 [.int .i64 x] (.bool false) w := by
  refine fn_enter Try.func101 rfl Try.ntmps101 rfl ?_
  refine vc_seq ?_
  refine vc_region ?_
  refine vl_val rfl (.some rfl) (val_assign rfl) ?_
  refine vl_nil ?_
  refine vc_seq ?_
  refine vc_region ?_
  refine vl_val rfl (.some rfl) (val_move rfl) ?_
  refine vl_val rfl (.some rfl) (val_move rfl) ?_
  refine vl_val rfl (.some rfl) (val_net rfl rfl (rfl)) ?_
  refine vl_val rfl (.some rfl) (val_assign rfl) ?_
  refine vl_nil ?_
  refine vc_ret ?_
  refine ⟨_, [], _, res1 Try.results101 rfl, .nil, ?_⟩
  rfl
set_option maxRecDepth 20000 in
theorem sNan (x : Int) (w : World) : FnV Try.prog 108 [.int .u64 x] (.bool false) w := by
  refine fn_enter Try.func108 rfl Try.ntmps108 rfl ?_
  refine vc_seq ?_
  refine vc_region ?_
  refine vl_val rfl (.some rfl) (val_assign rfl) ?_
  refine vl_nil ?_
  refine vc_seq ?_
  refine vc_region ?_
  refine vl_val rfl (.some rfl) (val_move rfl) ?_
  refine vl_val rfl (.some rfl) (val_move rfl) ?_
  refine vl_val rfl (.some rfl) (val_net rfl rfl (rfl)) ?_
  refine vl_val rfl (.some rfl) (val_assign rfl) ?_
  refine vl_nil ?_
  refine vc_ret ?_
  refine ⟨_, [], _, res1 Try.results108 rfl, .nil, ?_⟩
  rfl
set_option maxRecDepth 20000 in
theorem cLess_uint64 (x y : Int) (w : World) : FnV Try.prog 107 [.int .u64 x, .int .u64 y] (.bool (decide (x < y))) w := by
  refine fn_enter Try.func107 rfl Try.ntmps107 rfl ?_
  refine vc_seq ?_
  refine vc_region ?_
  refine vl_val rfl (.some rfl) (val_assign rfl) ?_
  refine vl_nil ?_
  refine vc_seq ?_
  refine vc_region ?_
  refine vl_val rfl (.some rfl) (val_move rfl) ?_
  refine vl_callV rfl rfl (.some rfl) Try.call132 rfl (fun w hw => cNan_uint64 x w) ?_
  refine vl_val rfl (.some rfl) (val_move rfl) ?_
  refine vl_off rfl rfl rfl rfl (.some rfl) ?_
  refine vl_off rfl rfl rfl rfl (.some rfl) ?_
  refine vl_off rfl rfl rfl rfl (.some rfl) ?_
  refine vl_val rfl (.some rfl) (val_pick rfl rfl) ?_
  refine vl_val rfl (.some rfl) (val_move rfl) ?_
  refine vl_on rfl rfl rfl rfl ?_
  refine vl_val rfl (.some rfl) (val_move rfl) ?_
  refine vl_on rfl rfl rfl rfl ?_
  refine vl_val rfl (.some rfl) (val_move rfl) ?_
  refine vl_on rfl rfl rfl rfl ?_
  refine vl_val rfl (.some rfl) (val_lt rfl rfl) ?_
  refine vl_val rfl (.some rfl) (val_pick rfl rfl) ?_
  refine vl_val rfl (.some rfl) (val_assign rfl) ?_
  refine vl_nil ?_
  refine vc_ret ?_
  refine ⟨_, [], _, res1 Try.results107 rfl, .nil, ?_⟩
  rfl
set_option maxRecDepth 20000 in
theorem cLess_int (x y : Int) (w : World) : FnV Try.prog 119 [.int .i64 x, .int .i64 y] (.bool (decide (x < y))) w := by
  refine fn_enter Try.func119 rfl Try.ntmps119 rfl ?_
  refine vc_seq ?_
  refine vc_region ?_
  refine vl_val rfl (.some rfl) (val_assign rfl) ?_
  refine vl_nil ?_
  refine vc_seq ?_
  refine vc_region ?_
  refine vl_val rfl (.some rfl) (val_move rfl) ?_
  refine vl_callV rfl rfl (.some rfl) Try.call101 rfl (fun w hw => cNan_int x w) ?_
  refine vl_val rfl (.some rfl) (val_move rfl) ?_
  refine vl_off rfl rfl rfl rfl (.some rfl) ?_
  refine vl_off rfl rfl rfl rfl (.some rfl) ?_
  refine vl_off rfl rfl rfl rfl (.some rfl) ?_
  refine vl_val rfl (.some rfl) (val_pick rfl rfl) ?_
  refine vl_val rfl (.some rfl) (val_move rfl) ?_
  refine vl_on rfl rfl rfl rfl ?_
  refine vl_val rfl (.some rfl) (val_move rfl) ?_
  refine vl_on rfl rfl rfl rfl ?_
  refine vl_val rfl (.some rfl) (val_move rfl) ?_
  refine vl_on rfl rfl rfl rfl ?_
  refine vl_val rfl (.some rfl) (val_lt rfl rfl) ?_
  refine vl_val rfl (.some rfl) (val_pick rfl rfl) ?_
  refine vl_val rfl (.some rfl) (val_assign rfl) ?_
  refine vl_nil ?_
  refine vc_ret ?_
  refine ⟨_, [], _, res1 Try.results119 rfl, .nil, ?_⟩
  rfl
set_option maxRecDepth 20000 in
theorem sSearch (A : Option Addr) (c : Nat) (l : List Nat) (h : Nat) (hl : l.length ≤ 1000000) (hri : Rise l) (w : World) (hr : Reads w A (ucells l)) : FnV Try.prog 89 [.slice A l.length c, .int .u64 h] (.tuple #[.int .i64 (lowN l h : Nat), .bool (decide (h ∈ l))]) w := by
  refine fn_enter Try.func89 rfl Try.ntmps89 rfl ?_
  refine vc_seq ?_
  refine vc_region ?_
  refine vl_val rfl (.some rfl) (val_assign rfl) ?_
  refine vl_val rfl (.some rfl) (val_assign rfl) ?_
  refine vl_nil ?_
  refine vc_seq ?_
  refine vc_region ?_
  refine vl_val rfl (.some rfl) (val_move rfl) ?_
  refine vl_val rfl (.some rfl) (val_lenSl Try.runUnderlying25 rfl) ?_
  refine vl_val rfl (.some rfl) (val_assign rfl) ?_
  refine vl_nil ?_
  refine vc_seq ?_
  refine vc_region ?_
  refine vl_val rfl (.some rfl) (val_move rfl) ?_
  refine vl_val rfl (.some rfl) (val_assign rfl) ?_
  refine vl_val rfl (.some rfl) (val_assign rfl) ?_
  refine vl_nil ?_
  refine vc_seq ?_
  refine vc_block ?_
  refine vc_loopw (fun k E H => ∃ i j : Nat, i ≤ j ∧ j ≤ l.length ∧ k = j - i ∧ (0 < i → l.getD (i - 1) 0 < h) ∧ (j < l.length → ¬ l.getD j 0 < h) ∧ E = [(0, .slice A l.length c), (1, .int .u64 h), (6, .int .i64 l.length), (7, .int .i64 i), (8, .int .i64 j)] ∧ H = []) (l.length) ⟨_, _, _, ⟨0, l.length, by omega, by omega, rfl, fun h => absurd h (by decide), fun h => absurd h (by omega), rfl, rfl⟩, (by repeat (first | exact trivial | refine ⟨rfl, ?_⟩ | refine ⟨le_item rfl (by first | rfl | (congr 1; omega) | (simp; done) | (simp; omega)), ?_⟩)), (by repeat (first | exact .nil | (apply Sub.cons; · repeat (first | exact .head | apply Take.tail))))⟩ ?_
  intro k E H hI
  obtain ⟨i, j, hij, hj, rfl, h1, h2, rfl, rfl⟩ := hI
  refine vc_seq ?_
  refine vc_seq ?_
  refine vc_region ?_
  refine vl_val rfl (.some rfl) (val_move rfl) ?_
  refine vl_val rfl (.some rfl) (val_move rfl) ?_
  refine vl_val rfl (.some rfl) (val_lt rfl rfl) ?_
  refine vl_nil ?_
  refine vc_cond rfl (fun hc0 => ?_) (fun hc0 => ?_)
  · (try replace hc0 := of_decide_eq_true hc0)
    refine vc_skip ?_
    refine vc_block ?_
    refine vc_seq ?_
    refine vc_region ?_
    refine vl_val rfl (.some rfl) (val_move rfl) ?_
    refine vl_val rfl (.some rfl) (val_move rfl) ?_
    refine vl_val rfl (.some rfl) (val_add rfl rfl (show _ = ((i + j : Nat) : Int) by rw [w_i64 (by omega) (by omega)]; omega)) ?_
    refine vl_val rfl (.some rfl) (val_convInt Try.runUnderlying3 Try.runUnderlying39 rfl (wN (by omega))) ?_
    refine vl_val rfl (.some rfl) (val_shr rfl rfl (by decide) (show _ = (((i + j) / 2 : Nat) : Int) by rw [shr_lit 2 rfl (by decide)]; omega)) ?_
    refine vl_val rfl (.some rfl) (val_convInt Try.runUnderlying39 Try.runUnderlying3 rfl (w_i64 (by omega) (by omega))) ?_
    refine vl_val rfl (.some rfl) (val_assign rfl) ?_
    refine vl_nil ?_
    refine vc_seq ?_
    refine vc_region ?_
    refine vl_val rfl (.some rfl) (val_move rfl) ?_
    refine vl_val rfl (.some rfl) (val_move rfl) ?_
    refine vl_val rfl (.some rfl) (val_indexAddr Try.runUnderlying25 Try.sizeOf30 rfl rfl (by first | exact rd_sl (by repeat (first | exact .head | apply In.tail | apply Take.tail | apply Upd.tail)) | exact rd_slr (by repeat (first | exact .head | apply In.tail | apply Take.tail | apply Upd.tail)) | exact rd_old (by assumption) rfl) (by omega) (by omega) (by first | omega | (simp only [bcells_length, icells_length, ucells_length, tcells_length]; omega) | (simp only [bcells_length, icells_length, ucells_length, tcells_length, fillG_length]; omega) | (simp; omega))) ?_
    refine vl_val rfl (.some rfl) (val_load Try.isAgg30 rfl (by first | exact cell_cells (by repeat (first | exact .head | apply In.tail | apply Take.tail | apply Upd.tail)) rfl | exact cell_rd (rd_sl (by repeat (first | exact .head | apply In.tail | apply Take.tail | apply Upd.tail))) (by first | exact bcells_at (by omega) | exact ucells_at (by omega) | exact icells_at (by omega) | exact tcells_at (by omega) | exact bcells_get (by omega) | exact icells_get (by omega) | exact tcells_get (by omega) | exact ucells_get (by omega)) | exact cell_rd (rd_old (by assumption) rfl) (by first | exact bcells_at (by omega) | exact ucells_at (by omega) | exact icells_at (by omega) | exact tcells_at (by omega) | exact bcells_get (by omega) | exact icells_get (by omega) | exact tcells_get (by omega) | exact ucells_get (by omega)) | exact cell_old (by assumption) (by simp [fps]))) ?_
    refine vl_val rfl (.some rfl) (val_move rfl) ?_
    refine vl_callV rfl rfl (.some rfl) Try.call107 rfl (fun w hw => cLess_uint64 (l.getD ((i + j) / 2) 0 : Nat) h w) ?_
    refine vl_nil ?_
    refine vc_cond rfl (fun hc1 => ?_) (fun hc1 => ?_)
    · (try replace hc1 := of_decide_eq_true hc1)
      refine vc_region ?_
      refine vl_val rfl (.some rfl) (val_move rfl) ?_
      refine vl_val rfl (.some rfl) (val_add rfl rfl (show _ = (((i + j) / 2 + 1 : Nat) : Int) by rw [w_i64 (by omega) (by omega)]; omega)) ?_
      refine vl_val rfl (.some rfl) (val_assign rfl) ?_
      refine vl_nil ?_
      first
        | exact ⟨(j - ((i + j) / 2 + 1)), _, _, _, by omega, (by repeat (first | exact trivial | refine ⟨rfl, ?_⟩ | refine ⟨le_item rfl (by first | rfl | (congr 1; omega) | (simp; done) | (simp; omega)), ?_⟩)), (by repeat (first | exact .nil | (apply Sub.cons; · repeat (first | exact .head | apply Take.tail)))), ⟨(i + j) / 2 + 1, j, by omega, hj, rfl, fun _ => (by rw [Nat.add_sub_cancel]; omega), h2, rfl, rfl⟩⟩
        | exact ⟨((i + j) / 2 - i), _, _, _, by omega, (by repeat (first | exact trivial | refine ⟨rfl, ?_⟩ | refine ⟨le_item rfl (by first | rfl | (congr 1; omega) | (simp; done) | (simp; omega)), ?_⟩)), (by repeat (first | exact .nil | (apply Sub.cons; · repeat (first | exact .head | apply Take.tail)))), ⟨i, (i + j) / 2, by omega, by omega, rfl, h1, fun _ => (by omega), rfl, rfl⟩⟩
    · (try replace hc1 := of_decide_eq_false hc1)
      refine vc_region ?_
      refine vl_val rfl (.some rfl) (val_move rfl) ?_
      refine vl_val rfl (.some rfl) (val_assign rfl) ?_
      refine vl_nil ?_
      first
        | exact ⟨(j - ((i + j) / 2 + 1)), _, _, _, by omega, (by repeat (first | exact trivial | refine ⟨rfl, ?_⟩ | refine ⟨le_item rfl (by first | rfl | (congr 1; omega) | (simp; done) | (simp; omega)), ?_⟩)), (by repeat (first | exact .nil | (apply Sub.cons; · repeat (first | exact .head | apply Take.tail)))), ⟨(i + j) / 2 + 1, j, by omega, hj, rfl, fun _ => (by rw [Nat.add_sub_cancel]; omega), h2, rfl, rfl⟩⟩
        | exact ⟨((i + j) / 2 - i), _, _, _, by omega, (by repeat (first | exact trivial | refine ⟨rfl, ?_⟩ | refine ⟨le_item rfl (by first | rfl | (congr 1; omega) | (simp; done) | (simp; omega)), ?_⟩)), (by repeat (first | exact .nil | (apply Sub.cons; · repeat (first | exact .head | apply Take.tail)))), ⟨i, (i + j) / 2, by omega, by omega, rfl, h1, fun _ => (by omega), rfl, rfl⟩⟩
  · (try replace hc0 := of_decide_eq_false hc0)
    refine vc_exit ?_
    refine vc_seq ?_
    refine vc_region ?_
    refine vl_val rfl (.some rfl) (val_move rfl) ?_
    refine vl_val rfl (.some rfl) (val_move rfl) ?_
    refine vl_val rfl (.some rfl) (val_move rfl) ?_
    refine vl_val rfl (.some rfl) (val_lt rfl rfl) ?_
    refine vl_val rfl (.some rfl) (val_move rfl) ?_
    refine vl_split (t := 35) rfl (fun hg35 => ?_) (fun hg35 => ?_)
    · (try replace hg35 := of_decide_eq_true hg35)
      refine vl_on rfl rfl rfl rfl ?_
      refine vl_val rfl (.some rfl) (val_move rfl) ?_
      refine vl_on rfl rfl rfl rfl ?_
      refine vl_val rfl (.some rfl) (val_move rfl) ?_
      refine vl_on rfl rfl rfl rfl ?_
      refine vl_val rfl (.some rfl) (val_indexAddr Try.runUnderlying25 Try.sizeOf30 rfl rfl (by first | exact rd_sl (by repeat (first | exact .head | apply In.tail | apply Take.tail | apply Upd.tail)) | exact rd_slr (by repeat (first | exact .head | apply In.tail | apply Take.tail | apply Upd.tail)) | exact rd_old (by assumption) rfl) (by omega) (by omega) (by first | omega | (simp only [bcells_length, icells_length, ucells_length, tcells_length]; omega) | (simp only [bcells_length, icells_length, ucells_length, tcells_length, fillG_length]; omega) | (simp; omega))) ?_
      refine vl_on rfl rfl rfl rfl ?_
      refine vl_val rfl (.some rfl) (val_load Try.isAgg30 rfl (by first | exact cell_cells (by repeat (first | exact .head | apply In.tail | apply Take.tail | apply Upd.tail)) rfl | exact cell_rd (rd_sl (by repeat (first | exact .head | apply In.tail | apply Take.tail | apply Upd.tail))) (by first | exact bcells_at (by omega) | exact ucells_at (by omega) | exact icells_at (by omega) | exact tcells_at (by omega) | exact bcells_get (by omega) | exact icells_get (by omega) | exact tcells_get (by omega) | exact ucells_get (by omega)) | exact cell_rd (rd_old (by assumption) rfl) (by first | exact bcells_at (by omega) | exact ucells_at (by omega) | exact icells_at (by omega) | exact tcells_at (by omega) | exact bcells_get (by omega) | exact icells_get (by omega) | exact tcells_get (by omega) | exact ucells_get (by omega)) | exact cell_old (by assumption) (by simp [fps]))) ?_
      refine vl_on rfl rfl rfl rfl ?_
      refine vl_val rfl (.some rfl) (val_move rfl) ?_
      refine vl_on rfl rfl rfl rfl ?_
      refine vl_val rfl (.some rfl) (val_eq rfl rfl) ?_
      refine vl_on rfl rfl rfl rfl ?_
      refine vl_val rfl (.some rfl) (val_move rfl) ?_
      refine vl_split (t := 42) rfl (fun hg42 => ?_) (fun hg42 => ?_)
      · (try replace hg42 := of_decide_eq_true hg42)
        refine vl_off rfl rfl rfl rfl (.some rfl) ?_
        refine vl_off rfl rfl rfl rfl (.some rfl) ?_
        refine vl_off rfl rfl rfl rfl (.some rfl) ?_
        refine vl_off rfl rfl rfl rfl (.some rfl) ?_
        refine vl_off rfl rfl rfl rfl (.some rfl) ?_
        refine vl_off rfl rfl rfl rfl (.some rfl) ?_
        refine vl_offU rfl rfl rfl rfl (.some rfl) ?_
        refine vl_offU rfl rfl rfl rfl (.some rfl) ?_
        refine vl_off rfl rfl rfl rfl (.some rfl) ?_
        refine vl_on rfl rfl rfl rfl ?_
        refine vl_val rfl (.some rfl) (val_pick rfl rfl) ?_
        refine vl_val rfl (.some rfl) (val_pick rfl rfl) ?_
        refine vl_val rfl (.some rfl) (val_assign rfl) ?_
        refine vl_val rfl (.some rfl) (val_assign rfl) ?_
        refine vl_nil ?_
        refine vc_ret ?_
        refine ⟨_, [], _, res2 Try.results89 rfl rfl, .nil, ?_⟩
        obtain rfl : i = j := by omega
        have e := low_is hri hj h1 h2
        have hm := low_mem (h := h) hri
        rw [← e] at hm ⊢
        first | (show _ = _; rw [decide_eq_true (hm.2 ⟨by omega, by omega⟩)]) | (show _ = _; rw [decide_eq_false (fun hc => by have := hm.1 hc; omega)])
      · (try replace hg42 := of_decide_eq_false hg42)
        refine vl_on rfl rfl rfl rfl ?_
        refine vl_val rfl (.some rfl) (val_move rfl) ?_
        refine vl_on rfl rfl rfl rfl ?_
        refine vl_val rfl (.some rfl) (val_move rfl) ?_
        refine vl_on rfl rfl rfl rfl ?_
        refine vl_val rfl (.some rfl) (val_indexAddr Try.runUnderlying25 Try.sizeOf30 rfl rfl (by first | exact rd_sl (by repeat (first | exact .head | apply In.tail | apply Take.tail | apply Upd.tail)) | exact rd_slr (by repeat (first | exact .head | apply In.tail | apply Take.tail | apply Upd.tail)) | exact rd_old (by assumption) rfl) (by omega) (by omega) (by first | omega | (simp only [bcells_length, icells_length, ucells_length, tcells_length]; omega) | (simp only [bcells_length, icells_length, ucells_length, tcells_length, fillG_length]; omega) | (simp; omega))) ?_
        refine vl_on rfl rfl rfl rfl ?_
        refine vl_val rfl (.some rfl) (val_load Try.isAgg30 rfl (by first | exact cell_cells (by repeat (first | exact .head | apply In.tail | apply Take.tail | apply Upd.tail)) rfl | exact cell_rd (rd_sl (by repeat (first | exact .head | apply In.tail | apply Take.tail | apply Upd.tail))) (by first | exact bcells_at (by omega) | exact ucells_at (by omega) | exact icells_at (by omega) | exact tcells_at (by omega) | exact bcells_get (by omega) | exact icells_get (by omega) | exact tcells_get (by omega) | exact ucells_get (by omega)) | exact cell_rd (rd_old (by assumption) rfl) (by first | exact bcells_at (by omega) | exact ucells_at (by omega) | exact icells_at (by omega) | exact tcells_at (by omega) | exact bcells_get (by omega) | exact icells_get (by omega) | exact tcells_get (by omega) | exact ucells_get (by omega)) | exact cell_old (by assumption) (by simp [fps]))) ?_
        refine vl_on rfl rfl rfl rfl ?_
        refine vl_callV rfl rfl (.some rfl) Try.call108 rfl (fun w hw => sNan _ w) ?_
        refine vl_on rfl rfl rfl rfl ?_
        refine vl_val rfl (.some rfl) (val_move rfl) ?_
        refine vl_off rfl rfl rfl rfl (.some rfl) ?_
        refine vl_off rfl rfl rfl rfl (.some rfl) ?_
        refine vl_on rfl rfl rfl rfl ?_
        refine vl_val rfl (.some rfl) (val_pick rfl rfl) ?_
        refine vl_on rfl rfl rfl rfl ?_
        refine vl_val rfl (.some rfl) (val_pick rfl rfl) ?_
        refine vl_val rfl (.some rfl) (val_pick rfl rfl) ?_
        refine vl_val rfl (.some rfl) (val_assign rfl) ?_
        refine vl_val rfl (.some rfl) (val_assign rfl) ?_
        refine vl_nil ?_
        refine vc_ret ?_
        refine ⟨_, [], _, res2 Try.results89 rfl rfl, .nil, ?_⟩
        obtain rfl : i = j := by omega
        have e := low_is hri hj h1 h2
        have hm := low_mem (h := h) hri
        rw [← e] at hm ⊢
        first | (show _ = _; rw [decide_eq_true (hm.2 ⟨by omega, by omega⟩)]) | (show _ = _; rw [decide_eq_false (fun hc => by have := hm.1 hc; omega)])
    · (try replace hg35 := of_decide_eq_false hg35)
      refine vl_off rfl rfl rfl rfl (.some rfl) ?_
      refine vl_off rfl rfl rfl rfl (.some rfl) ?_
      refine vl_off rfl rfl rfl rfl (.some rfl) ?_
      refine vl_off rfl rfl rfl rfl (.some rfl) ?_
      refine vl_off rfl rfl rfl rfl (.some rfl) ?_
      refine vl_off rfl rfl rfl rfl (.some rfl) ?_
      refine vl_off rfl rfl rfl rfl (.some rfl) ?_
      refine vl_offU rfl rfl rfl rfl (.some rfl) ?_
      refine vl_offU rfl rfl rfl rfl (.some rfl) ?_
      refine vl_offU rfl rfl rfl rfl (.some rfl) ?_
      refine vl_offU rfl rfl rfl rfl (.some rfl) ?_
      refine vl_offU rfl rfl rfl rfl (.some rfl) ?_
      refine vl_offU rfl rfl rfl rfl (.some rfl) ?_
      refine vl_offU rfl rfl rfl rfl (.some rfl) ?_
      refine vl_offU rfl rfl rfl rfl (.some rfl) ?_
      refine vl_offU rfl rfl rfl rfl (.some rfl) ?_
      refine vl_off rfl rfl rfl rfl (.some rfl) ?_
      refine vl_val rfl (.some rfl) (val_pick rfl rfl) ?_
      refine vl_val rfl (.some rfl) (val_assign rfl) ?_
      refine vl_val rfl (.some rfl) (val_assign rfl) ?_
      refine vl_nil ?_
      refine vc_ret ?_
      refine ⟨_, [], _, res2 Try.results89 rfl rfl, .nil, ?_⟩
      obtain rfl : i = j := by omega
      have e := low_is hri hj h1 h2
      have hm := low_mem (h := h) hri
      rw [← e] at hm ⊢
      first | (show _ = _; rw [decide_eq_true (hm.2 ⟨by omega, by omega⟩)]) | (show _ = _; rw [decide_eq_false (fun hc => by have := hm.1 hc; omega)])
set_option maxRecDepth 20000 in
theorem kPlace (x y : Nat) (A : Option Addr) (c : Nat) (l : List Nat) (h : Nat) (hl : l.length ≤ 1000000) (hri : Rise l) (w : World) (hx : w.cell? ⟨x, 0, none⟩ = some (.slice A l.length c)) (hy : w.cell? ⟨y, 0, none⟩ = some (.int .u64 h)) (hr : Reads w A (ucells l)) : FnV Try.prog 88 [.pointer (some ⟨x, 0, none⟩), .pointer (some ⟨y, 0, none⟩)] (.tuple #[.int .i64 (lowN l h : Nat), .bool (decide (h ∈ l))]) w := by
  refine fn_enter Try.func88 rfl Try.ntmps88 rfl ?_
  refine vc_seq ?_
  refine vc_region ?_
  refine vl_val rfl (.some rfl) (val_assign rfl) ?_
  refine vl_val rfl (.some rfl) (val_assign rfl) ?_
  refine vl_nil ?_
  refine vc_seq ?_
  refine vc_region ?_
  refine vl_val rfl (.some rfl) (val_load Try.isAgg25 rfl (by first | exact cell_cells (by repeat (first | exact .head | apply In.tail | apply Take.tail | apply Upd.tail)) rfl | exact cell_rd (rd_sl (by repeat (first | exact .head | apply In.tail | apply Take.tail | apply Upd.tail))) (by first | exact bcells_at (by omega) | exact ucells_at (by omega) | exact icells_at (by omega) | exact tcells_at (by omega) | exact bcells_get (by omega) | exact icells_get (by omega) | exact tcells_get (by omega) | exact ucells_get (by omega)) | exact cell_rd (rd_old (by assumption) rfl) (by first | exact bcells_at (by omega) | exact ucells_at (by omega) | exact icells_at (by omega) | exact tcells_at (by omega) | exact bcells_get (by omega) | exact icells_get (by omega) | exact tcells_get (by omega) | exact ucells_get (by omega)) | exact cell_old (by assumption) (by simp [fps]))) ?_
  refine vl_val rfl (.some rfl) (val_load Try.isAgg30 rfl (by first | exact cell_cells (by repeat (first | exact .head | apply In.tail | apply Take.tail | apply Upd.tail)) rfl | exact cell_rd (rd_sl (by repeat (first | exact .head | apply In.tail | apply Take.tail | apply Upd.tail))) (by first | exact bcells_at (by omega) | exact ucells_at (by omega) | exact icells_at (by omega) | exact tcells_at (by omega) | exact bcells_get (by omega) | exact icells_get (by omega) | exact tcells_get (by omega) | exact ucells_get (by omega)) | exact cell_rd (rd_old (by assumption) rfl) (by first | exact bcells_at (by omega) | exact ucells_at (by omega) | exact icells_at (by omega) | exact tcells_at (by omega) | exact bcells_get (by omega) | exact icells_get (by omega) | exact tcells_get (by omega) | exact ucells_get (by omega)) | exact cell_old (by assumption) (by simp [fps]))) ?_
  refine vl_callV rfl rfl (.some rfl) Try.call89 rfl (fun w hw => sSearch A c l h hl hri w (rdw (rd_old hr rfl) hw)) ?_
  refine vl_val rfl (.some rfl) (val_extract rfl rfl) ?_
  refine vl_val rfl (.some rfl) (val_extract rfl rfl) ?_
  refine vl_val rfl (.some rfl) (val_assign rfl) ?_
  refine vl_val rfl (.some rfl) (val_assign rfl) ?_
  refine vl_nil ?_
  refine vc_ret ?_
  refine ⟨_, [], _, res2 Try.results88 rfl rfl, .nil, ?_⟩
  rfl
set_option maxRecDepth 20000 in
set_option maxHeartbeats 1000000 in
theorem sIns (A : Option Addr) (c : Nat) (l : List Nat) (i v h : Nat) (hl : l.length ≤ 1000) (hi : i ≤ l.length) (w : World) : Fn Try.prog 90 [.slice A l.length c, .int .i64 i, .slice (some ⟨v, 0, none⟩) 1 1] [UW A l.length c l, UW (some ⟨v, 0, none⟩) 1 1 [h]] (ret fun u H' => ∃ A' c', u = .slice A' (l.length + 1) c' ∧ H' = [UW A' (l.length + 1) c' (l.take i ++ h :: l.drop i)]) w := by
  refine fn_enter Try.func90 rfl Try.ntmps90 rfl ?_
  refine vc_seq ?_
  refine vc_region ?_
  refine vl_val rfl (.some rfl) (val_assign rfl) ?_
  refine vl_nil ?_
  refine vc_seq ?_
  refine vc_region ?_
  refine vl_val rfl (.some rfl) (val_move rfl) ?_
  refine vl_val rfl (.some rfl) (val_move rfl) ?_
  refine vl_val rfl (.some rfl) (val_cutFrom Try.runUnderlying25 Try.sizeOf30 rfl rfl (by omega) (by omega)) ?_
  refine vl_nil ?_
  refine vc_seq ?_
  refine vc_region ?_
  refine vl_val rfl (.some rfl) (val_move rfl) ?_
  refine vl_val rfl (.some rfl) (val_lenSl Try.runUnderlying25 rfl) ?_
  refine vl_val rfl (.some rfl) (val_assign rfl) ?_
  refine vl_nil ?_
  refine vc_seq ?_
  refine vc_seq ?_
  refine vc_region ?_
  refine vl_val rfl (.some rfl) (val_move rfl) ?_
  refine vl_val rfl (.some rfl) (val_eq rfl rfl) ?_
  refine vl_nil ?_
  refine vc_cond rfl (fun hc0 => False.elim (by (try replace hc0 := of_decide_eq_true hc0); omega)) (fun hc0 => ?_)
  (try replace hc0 := of_decide_eq_false hc0)
  refine vc_skip ?_
  refine vc_seq ?_
  refine vc_region ?_
  refine vl_val rfl (.some rfl) (val_move rfl) ?_
  refine vl_val rfl (.some rfl) (val_lenSl Try.runUnderlying25 rfl) ?_
  refine vl_val rfl (.some rfl) (val_assign rfl) ?_
  refine vl_nil ?_
  refine vc_seq ?_
  refine vc_seq ?_
  refine vc_region ?_
  refine vl_val rfl (.some rfl) (val_move rfl) ?_
  refine vl_val rfl (.some rfl) (val_move rfl) ?_
  refine vl_val rfl (.some rfl) (val_eq rfl rfl) ?_
  refine vl_nil ?_
  refine vc_cond rfl (fun hc1 => ?_) (fun hc1 => ?_)
  · (try replace hc1 := of_decide_eq_true hc1)
    obtain rfl : i = l.length := by omega
    refine vc_seq ?_
    refine vc_region ?_
    refine vl_val rfl (.some rfl) (val_move rfl) ?_
    refine vl_val rfl (.some rfl) (val_move rfl) ?_
    refine vl_append sT25 rfl rfl (.some rfl) rfl rfl (by first | exact rd_sl (by repeat (first | exact .head | apply In.tail | apply Take.tail | apply Upd.tail)) | exact rd_slr (by repeat (first | exact .head | apply In.tail | apply Take.tail | apply Upd.tail)) | exact rd_old (by assumption) rfl) (by first | rfl | (simp; done) | (simp; omega) | (simp only [bcells_length, icells_length, ucells_length, tcells_length]; omega)) (by first | rfl | exact one_b _ | exact one_u _ | exact one_i _ | exact one_t _) (by omega) (by omega) (by repeat (first | exact .head | apply In.tail | apply Take.tail | apply Upd.tail)) (fun A25 k25 => ?_)
    refine vl_val rfl (.some rfl) (val_assign rfl) ?_
    refine vl_nil ?_
    refine vc_ret ?_
    refine ⟨_, [sl A25 (l.length + 1) k25 30 1 (ucells l ++ ucells [h])], _, res1 Try.results90 rfl, (by repeat (first | exact .nil | (apply Sub.cons; · repeat (first | exact .head | apply Take.tail)))), ?_⟩
    exact ⟨A25, k25, rfl, by rw [ucells_appM, List.take_length, List.drop_length]⟩
  · (try replace hc1 := of_decide_eq_false hc1)
    refine vc_skip ?_
    refine vc_seq ?_
    refine vc_seq ?_
    refine vc_region ?_
    refine vl_slSome (A := A) (n := l.length) (c := c) (sz := 1) (e := 30) (vs := ucells l) (by repeat (first | exact .head | apply In.tail | apply Take.tail | apply Upd.tail)) (by omega) (fun g hA hnc => ?_)
    subst hA
    refine vl_val rfl (.some rfl) (val_move rfl) ?_
    refine vl_val rfl (.some rfl) (val_move rfl) ?_
    refine vl_val rfl (.some rfl) (val_add rfl rfl (by first | exact w_i64 (by omega) (by omega) | rfl)) ?_
    refine vl_val rfl (.some rfl) (val_move rfl) ?_
    refine vl_val rfl (.some rfl) (val_capSl Try.runUnderlying25 rfl) ?_
    refine vl_val rfl (.some rfl) (val_gt rfl rfl) ?_
    refine vl_nil ?_
    refine vc_cond rfl (fun hc2 => ?_) (fun hc2 => ?_)
    · (try replace hc2 := of_decide_eq_true hc2)
      refine vc_seq ?_
      refine vc_region ?_
      refine vl_val rfl (.some rfl) (val_move rfl) ?_
      refine vl_val rfl (.some rfl) (val_move rfl) ?_
      refine vl_val rfl (.some rfl) (val_cutTo Try.runUnderlying25 Try.sizeOf30 rfl rfl (by omega) (by omega)) ?_
      refine vl_val rfl (.some rfl) (val_move rfl) ?_
      refine vl_val rfl (.some rfl) (val_move rfl) ?_
      refine vl_val rfl (.some rfl) (val_add rfl rfl (show _ = ((l.length + 1 : Nat) : Int) by rw [w_i64 (by omega) (by omega)]; omega)) ?_
      refine vl_val rfl (.some rfl) (val_move rfl) ?_
      refine vl_val rfl (.some rfl) (val_sub rfl rfl (show _ = ((l.length + 1 - i : Nat) : Int) by rw [w_i64 (by omega) (by omega)]; omega)) ?_
      refine vl_appendMake (vs := ucells (l.take i)) sT25 rfl Try.underlying3 rfl rfl (.some rfl) rfl rfl (by rw [ucells_takeM]; exact (rd_sl (vs := ucells l) (by repeat (first | exact .head | apply In.tail | apply Take.tail | apply Upd.tail))).take i) (by rw [ucells_length, List.length_take]; omega) (by omega) (by omega) (by omega) (by omega) (fun r k40 => ?_)
      rw [ucells_repM, ucells_appM]
      rw [show Int.toNat (i : Int) + Int.toNat ((l.length + 1 - i : Nat) : Int) = l.length + 1 by omega, Int.toNat_natCast]
      refine vl_slSome (A := some ⟨r, 0, none⟩) (n := l.length + 1) (c := k40) (sz := 1) (e := 30) (by repeat (first | exact .head | apply In.tail | apply Take.tail | apply Upd.tail)) (by omega) (fun _ _ hk40 => ?_)
      refine vl_val rfl (.some rfl) (val_assign rfl) ?_
      refine vl_nil ?_
      refine vc_seq ?_
      refine vc_region ?_
      refine vl_val rfl (.some rfl) (val_move rfl) ?_
      refine vl_val rfl (.some rfl) (val_move rfl) ?_
      refine vl_val rfl (.some rfl) (val_cutFrom Try.runUnderlying25 Try.sizeOf30 rfl rfl (by omega) (by omega)) ?_
      refine vl_val rfl (.some rfl) (val_move rfl) ?_
      refine vl_copy (A := some ⟨r, 0, none⟩) (n := l.length + 1) (off := i) (vs := ucells (l.take i ++ List.replicate (l.length + 1 - i) 0)) (us := ucells [h]) rfl rfl (.some rfl) Try.underlying25 (by kernel_rfl) rfl (cut_some1 (by omega)) rfl (rd_sl (by repeat (first | exact .head | apply In.tail | apply Take.tail | apply Upd.tail))) (by simp [ucells] <;> omega) (one_u _) (by simp [ucells]) (by repeat (first | exact .head | apply In.tail | apply Take.tail | apply Upd.tail)) (by simp [ucells] <;> omega) ?_
      rw [ins_a (by omega) rfl rfl]
      refine vl_nil ?_
      refine vc_seq ?_
      refine vc_drawsS [0, 1, 2, 3, 4, 5, 6, 7] [] [0, 1, 2, 3, 4, 5, 6, 7, 8] [] (by repeat (first | exact .nil | (apply Sub.cons; · repeat (first | exact .head | apply Take.tail)))) rfl (by kernel_rfl) (fun _ _ _ h => h) ?_
      refine vd_val rfl rfl rfl (.some rfl) (val_move rfl) ?_
      refine vd_val rfl rfl rfl (.some rfl) (val_move rfl) ?_
      refine vd_val rfl rfl rfl (.some rfl) (val_move rfl) ?_
      refine vd_val rfl rfl rfl (.some rfl) (val_add rfl rfl (show _ = ((i + 1 : Nat) : Int) by rw [w_i64 (by omega) (by omega)]; omega)) ?_
      refine vd_val rfl rfl rfl (.some rfl) (val_cutFrom Try.runUnderlying25 Try.sizeOf30 rfl rfl (by omega) (by omega)) ?_
      refine vd_val rfl rfl rfl (.some rfl) (val_move rfl) ?_
      refine vd_val rfl rfl rfl (.some rfl) (val_move rfl) ?_
      refine vd_val rfl rfl rfl (.some rfl) (val_cutFrom Try.runUnderlying25 Try.sizeOf30 rfl rfl (by omega) (by omega)) ?_
      refine vd_op rfl rfl ?_
      refine vl_copy (A := some ⟨r, 0, none⟩) (n := l.length + 1) (off := i + 1) (vs := ucells (l.take i ++ h :: List.replicate (l.length - i) 0)) (us := ucells (l.drop i)) rfl rfl (.some rfl) Try.underlying25 (by kernel_rfl) rfl (cut_some1 (by omega)) rfl (rd_dropi (us := []) (by rw [List.append_nil]; exact rd_sl (n := l.length) (c := c) (e := 30) (sz := 1) (by repeat (first | exact .head | apply In.tail | apply Take.tail | apply Upd.tail))) (by omega)) (by simp [ucells] <;> omega) (one_u _) (by simp [ucells] <;> omega) (by repeat (first | exact .head | apply In.tail | apply Take.tail | apply Upd.tail)) (by simp [ucells] <;> omega) ?_
      rw [ins_b (by omega) rfl]
      refine vl_nil ?_
      refine ⟨fun _ => ⟨_, (by repeat (first | exact .nil | (apply Sub.cons; · repeat (first | exact .head | apply Take.tail))))⟩, ?_⟩
      refine vd_nil ?_
      refine vc_seq ?_
      refine vc_region ?_
      refine vl_val rfl (.some rfl) (val_move rfl) ?_
      refine vl_val rfl (.some rfl) (val_assign rfl) ?_
      refine vl_nil ?_
      refine vc_ret ?_
      refine ⟨_, [UW (some ⟨r, 0, none⟩) (l.length + 1) k40 (l.take i ++ h :: l.drop i)], _, res1 Try.results90 rfl, (by repeat (first | exact .nil | (apply Sub.cons; · repeat (first | exact .head | apply Take.tail)))), ?_⟩
      exact ⟨_, _, rfl, rfl⟩
    · (try replace hc2 := of_decide_eq_false hc2)
      
      refine vc_skip ?_
      refine vc_seq ?_
      refine vc_region ?_
      refine vl_spare (A := (some ⟨g, 0, none⟩)) (n := l.length) (c := c) (k := 1) (sz := 1) (e := 30) (vs := ucells l) (by repeat (first | exact .head | apply In.tail | apply Take.tail | apply Upd.tail)) (by omega) (by omega) (fun us hus => ?_)
      refine vl_val rfl (.some rfl) (val_move rfl) ?_
      refine vl_val rfl (.some rfl) (val_move rfl) ?_
      refine vl_val rfl (.some rfl) (val_move rfl) ?_
      refine vl_val rfl (.some rfl) (val_add rfl rfl (show _ = ((l.length + 1 : Nat) : Int) by rw [w_i64 (by omega) (by omega)]; omega)) ?_
      refine vl_val rfl (.some rfl) (val_cutTo Try.runUnderlying25 Try.sizeOf30 rfl rfl (by omega) (by omega)) ?_
      refine vl_val rfl (.some rfl) (val_assign rfl) ?_
      refine vl_nil ?_
      refine vc_seq ?_
      refine vc_seq ?_
      refine vc_region ?_
      refine vl_val rfl (.some rfl) (val_move rfl) ?_
      refine vl_val rfl (.some rfl) (val_move rfl) ?_
      refine vl_val rfl (.some rfl) (val_move rfl) ?_
      refine vl_val rfl (.some rfl) (val_move rfl) ?_
      refine vl_val rfl (.some rfl) (val_add rfl rfl (show _ = ((i + 1 : Nat) : Int) by rw [w_i64 (by omega) (by omega)]; omega)) ?_
      refine vl_val rfl (.some rfl) (val_cutFrom Try.runUnderlying25 Try.sizeOf30 rfl rfl (by omega) (by omega)) ?_
      rw [cut_some1 (by omega)]
      refine vl_extW (v := .bool false) rfl rfl (.some rfl) rfl (fun w hw => ovl_run2 (c1 := 1) (n := l.length + 1) (cap := c) (xs := ucells [h]) (ys := ucells l ++ us) (by repeat (first | exact .head | apply In.tail | apply Take.tail | apply Upd.tail)) (by repeat (first | exact .head | apply In.tail | apply Take.tail | apply Upd.tail)) (by omega) hw) ?_
      refine vl_val rfl (.some rfl) (val_not rfl) ?_
      refine vl_nil ?_
      refine vc_cond rfl (fun _ => ?_) (fun h => by cases h)
      refine vc_seq ?_
      refine vc_drawsS [0, 1, 2, 3, 4, 5, 6, 7] [] [0, 1, 2, 3, 4, 5, 6, 7, 8] [] (by repeat (first | exact .nil | (apply Sub.cons; · repeat (first | exact .head | apply Take.tail)))) rfl (by kernel_rfl) (fun _ _ _ h => h) ?_
      refine vd_val rfl rfl rfl (.some rfl) (val_move rfl) ?_
      refine vd_val rfl rfl rfl (.some rfl) (val_move rfl) ?_
      refine vd_val rfl rfl rfl (.some rfl) (val_move rfl) ?_
      refine vd_val rfl rfl rfl (.some rfl) (val_add rfl rfl (show _ = ((i + 1 : Nat) : Int) by rw [w_i64 (by omega) (by omega)]; omega)) ?_
      refine vd_val rfl rfl rfl (.some rfl) (val_cutFrom Try.runUnderlying25 Try.sizeOf30 rfl rfl (by omega) (by omega)) ?_
      refine vd_val rfl rfl rfl (.some rfl) (val_move rfl) ?_
      refine vd_val rfl rfl rfl (.some rfl) (val_move rfl) ?_
      refine vd_val rfl rfl rfl (.some rfl) (val_cutFrom Try.runUnderlying25 Try.sizeOf30 rfl rfl (by omega) (by omega)) ?_
      refine vd_op rfl rfl ?_
      refine vl_copy (A := (some ⟨g, 0, none⟩)) (n := l.length + 1) (off := i + 1) (vs := ucells l ++ us) (us := ucells (l.drop i)) rfl rfl (.some rfl) Try.underlying25 (by kernel_rfl) rfl (cut_some1 (by omega)) rfl (rd_dropi (rd_sl (A := (some ⟨g, 0, none⟩)) (n := l.length + 1) (c := c) (e := 30) (sz := 1) (vs := ucells l ++ us) (by repeat (first | exact .head | apply In.tail | apply Take.tail | apply Upd.tail))) (by omega)) (by simp [ucells] <;> omega) (one_u _) (by simp [ucells] <;> omega) (by repeat (first | exact .head | apply In.tail | apply Take.tail | apply Upd.tail)) (by simp [ucells] <;> omega) ?_
      rw [ins_c (by omega) rfl hus]
      refine vl_nil ?_
      refine ⟨fun _ => ⟨_, (by repeat (first | exact .nil | (apply Sub.cons; · repeat (first | exact .head | apply Take.tail))))⟩, ?_⟩
      refine vd_nil ?_
      refine vc_seq ?_
      refine vc_region ?_
      refine vl_val rfl (.some rfl) (val_move rfl) ?_
      refine vl_val rfl (.some rfl) (val_move rfl) ?_
      refine vl_val rfl (.some rfl) (val_cutFrom Try.runUnderlying25 Try.sizeOf30 rfl rfl (by omega) (by omega)) ?_
      refine vl_val rfl (.some rfl) (val_move rfl) ?_
      refine vl_copy (A := (some ⟨g, 0, none⟩)) (n := l.length + 1) (off := i) (vs := ucells (l.take (i + 1) ++ l.drop i)) (us := ucells [h]) rfl rfl (.some rfl) Try.underlying25 (by kernel_rfl) rfl (cut_some1 (by omega)) rfl (rd_sl (by repeat (first | exact .head | apply In.tail | apply Take.tail | apply Upd.tail))) (by simp [ucells] <;> omega) (one_u _) (by simp [ucells]) (by repeat (first | exact .head | apply In.tail | apply Take.tail | apply Upd.tail)) (by simp [ucells] <;> omega) ?_
      rw [ins_d (by omega) rfl]
      refine vl_nil ?_
      refine vc_seq ?_
      refine vc_region ?_
      refine vl_val rfl (.some rfl) (val_move rfl) ?_
      refine vl_val rfl (.some rfl) (val_assign rfl) ?_
      refine vl_nil ?_
      refine vc_ret ?_
      refine ⟨_, [UW (some ⟨g, 0, none⟩) (l.length + 1) c (l.take i ++ h :: l.drop i)], _, res1 Try.results90 rfl, (by repeat (first | exact .nil | (apply Sub.cons; · repeat (first | exact .head | apply Take.tail)))), ?_⟩
      exact ⟨_, _, rfl, rfl⟩
set_option maxRecDepth 20000 in
theorem kPut0 (b t : Nat) (As : Option Addr) (ns cs : Nat) (Ac : Option Addr) (cc : Nat) (hs : List Value) (i : Nat) (A : Option Addr) (c : Nat) (l : List Nat) (h : Nat) (ht : t ≤ 1000) (hn : hs.length ≤ 1000) (hi : hs[i]? = some (.slice A l.length c)) (hri : Rise l) (hl : l.length ≤ t) (w : World) : Fn Try.prog 54 [.pointer (some ⟨b, 0, none⟩), .int .i64 i, .int .u64 h] [SKb b t As ns cs Ac hs.length cc, HR Ac hs.length cc hs, UW A l.length c l] (ret fun u H' => ∃ A' c', H' = [SKb b t As ns cs Ac hs.length cc, HR Ac hs.length cc (hs.set i (.slice A' (putK t l h).length c')), UW A' (putK t l h).length c' (putK t l h)]) w := by
  obtain ⟨hin, _⟩ := List.getElem?_eq_some_iff.1 hi
  have hat : hs[Int.toNat (i : Int) * 1]? = some (.slice A l.length c) := by rw [Int.toNat_natCast, Nat.mul_one]; exact hi
  have hlow := lowN_le l h
  refine fn_enter Try.func54 rfl Try.ntmps54 rfl ?_
  refine vc_seq ?_
  refine vc_region ?_
  refine vl_box rfl rfl (.some rfl) rfl (fun r5 => ?_)
  refine vl_nil ?_
  refine vc_seq ?_
  refine vc_region ?_
  refine vl_val rfl (.some rfl) (val_move rfl) ?_
  refine vl_val rfl (.some rfl) (val_nil rfl rfl) ?_
  refine vl_val rfl (.some rfl) (by first | exact val_fieldAddr Try.runUnderlying57 rfl Try.sizeOf33 rfl | exact val_fieldAddrR Try.runUnderlying57 rfl Try.sizeOf33 rfl) ?_
  refine vl_val rfl (.some rfl) (val_load Try.isAgg33 rfl (by first | exact cell_cells (by repeat (first | exact .head | apply In.tail | apply Take.tail | apply Upd.tail)) rfl | exact cell_rd (rd_sl (by repeat (first | exact .head | apply In.tail | apply Take.tail | apply Upd.tail))) (by first | exact bcells_at (by omega) | exact ucells_at (by omega) | exact icells_at (by omega) | exact tcells_at (by omega) | exact bcells_get (by omega) | exact icells_get (by omega) | exact tcells_get (by omega) | exact ucells_get (by omega)) | exact cell_rd (rd_old (by assumption) rfl) (by first | exact bcells_at (by omega) | exact ucells_at (by omega) | exact icells_at (by omega) | exact tcells_at (by omega) | exact bcells_get (by omega) | exact icells_get (by omega) | exact tcells_get (by omega) | exact ucells_get (by omega)) | exact cell_old (by assumption) (by simp [fps]))) ?_
  refine vl_val rfl (.some rfl) (val_move rfl) ?_
  refine vl_val rfl (.some rfl) (val_indexAddr Try.runUnderlying33 Try.sizeOf25 rfl rfl (by first | exact rd_sl (by repeat (first | exact .head | apply In.tail | apply Take.tail | apply Upd.tail)) | exact rd_slr (by repeat (first | exact .head | apply In.tail | apply Take.tail | apply Upd.tail)) | exact rd_old (by assumption) rfl) (by omega) (by omega) (by first | omega | (simp only [bcells_length, icells_length, ucells_length, tcells_length]; omega) | (simp only [bcells_length, icells_length, ucells_length, tcells_length, fillG_length]; omega) | (simp; omega))) ?_
  refine vl_val rfl (.some rfl) (val_load Try.isAgg25 rfl (cell_rd (rd_sl (by repeat (first | exact .head | apply In.tail | apply Take.tail | apply Upd.tail))) hat)) ?_
  refine vl_alloc rfl rfl (.some rfl) Try.zeroValue25 (fun r6 => ?_)
  first | refine vl_store rfl rfl .none rfl rfl Try.sizeOf25 rfl (by repeat (first | exact .head | apply In.tail | apply Take.tail | apply Upd.tail)) (by first | decide | exact Nat.le_refl _ | exact Nat.le_of_ble_eq_true rfl | (simp; omega)) ?_ | refine vl_storeSl rfl rfl .none rfl rfl Try.sizeOf25 rfl (by simp [Value.cells]) (by repeat (first | exact .head | apply In.tail | apply Take.tail | apply Upd.tail)) (by first | decide | (simp [Value.cells]; omega)) ?_
  refine vl_nil ?_
  refine vc_seq ?_
  refine vc_region ?_
  refine vl_val rfl (.some rfl) (val_mkFunc rfl rfl) ?_
  refine vl_val rfl (.some rfl) (val_assign rfl) ?_
  refine vl_nil ?_
  refine vc_seq ?_
  refine vc_region ?_
  refine vl_val rfl (.some rfl) (val_move rfl) ?_
  refine vl_callvV (fs := []) (cs := [.pointer (some ⟨r6, 0, none⟩), .pointer (some ⟨r5, 0, none⟩)]) rfl rfl (.some rfl) rfl Try.call88 rfl (fun w hw => kPlace r6 r5 A c l h (by omega) hri w (cell_cells (by repeat (first | exact .head | apply In.tail | apply Take.tail | apply Upd.tail)) rfl w hw) (cell_cells (by repeat (first | exact .head | apply In.tail | apply Take.tail | apply Upd.tail)) rfl w hw) (rdw (by first | exact rd_sl (by repeat (first | exact .head | apply In.tail | apply Take.tail | apply Upd.tail)) | exact rd_slr (by repeat (first | exact .head | apply In.tail | apply Take.tail | apply Upd.tail)) | exact rd_old (by assumption) rfl | exact rd_slq (by repeat (first | exact .head | apply In.tail | apply Take.tail | apply Upd.tail)) | exact rd_nil) hw)) ?_
  refine vl_val rfl (.some rfl) (val_move rfl) ?_
  refine vl_val rfl (.some rfl) (val_extract rfl rfl) ?_
  refine vl_val rfl (.some rfl) (val_extract rfl rfl) ?_
  refine vl_val rfl (.some rfl) (val_assign rfl) ?_
  refine vl_val rfl (.some rfl) (val_assign rfl) ?_
  refine vl_nil ?_
  refine vc_seq ?_
  refine vc_seq ?_
  refine vc_region ?_
  refine vl_val rfl (.some rfl) (val_move rfl) ?_
  refine vl_val rfl (.some rfl) (val_move rfl) ?_
  refine vl_split (t := 24) rfl (fun hg24 => ?_) (fun hg24 => ?_)
  · (try replace hg24 := of_decide_eq_true hg24)
    refine vl_off rfl rfl rfl rfl (.some rfl) ?_
    refine vl_off rfl rfl rfl rfl (.some rfl) ?_
    refine vl_off rfl rfl rfl rfl (.some rfl) ?_
    refine vl_off rfl rfl rfl rfl (.some rfl) ?_
    refine vl_off rfl rfl rfl rfl (.some rfl) ?_
    refine vl_off rfl rfl rfl rfl (.some rfl) ?_
    refine vl_val rfl (.some rfl) (val_pick rfl rfl) ?_
    refine vl_nil ?_
    refine vc_cond rfl (fun _ => ?_) (fun h => by cases h)
    refine vc_ret ?_
    refine ⟨_, [SKb b t As ns cs Ac hs.length cc, HR Ac hs.length cc hs, UW A l.length c l], _, res0 Try.results54, (by repeat (first | exact .nil | (apply Sub.cons; · repeat (first | exact .head | apply Take.tail)))), ?_⟩
    exact ⟨A, c, by rw [putK_not (by first | exact .inl (by assumption) | exact .inr (by omega)), hs_set_same hi]⟩
  · (try replace hg24 := of_decide_eq_false hg24)
    refine vl_on rfl rfl rfl rfl ?_
    refine vl_val rfl (.some rfl) (val_move rfl) ?_
    refine vl_on rfl rfl rfl rfl ?_
    refine vl_val rfl (.some rfl) (val_move rfl) ?_
    refine vl_on rfl rfl rfl rfl ?_
    refine vl_val rfl (.some rfl) (val_nil rfl rfl) ?_
    refine vl_on rfl rfl rfl rfl ?_
    refine vl_val rfl (.some rfl) (by first | exact val_fieldAddr Try.runUnderlying57 rfl Try.sizeOf3 rfl | exact val_fieldAddrR Try.runUnderlying57 rfl Try.sizeOf3 rfl) ?_
    refine vl_on rfl rfl rfl rfl ?_
    refine vl_val rfl (.some rfl) (val_load Try.isAgg3 rfl (by first | exact cell_cells (by repeat (first | exact .head | apply In.tail | apply Take.tail | apply Upd.tail)) rfl | exact cell_rd (rd_sl (by repeat (first | exact .head | apply In.tail | apply Take.tail | apply Upd.tail))) (by first | exact bcells_at (by omega) | exact ucells_at (by omega) | exact icells_at (by omega) | exact tcells_at (by omega) | exact bcells_get (by omega) | exact icells_get (by omega) | exact tcells_get (by omega) | exact ucells_get (by omega)) | exact cell_rd (rd_old (by assumption) rfl) (by first | exact bcells_at (by omega) | exact ucells_at (by omega) | exact icells_at (by omega) | exact tcells_at (by omega) | exact bcells_get (by omega) | exact icells_get (by omega) | exact tcells_get (by omega) | exact ucells_get (by omega)) | exact cell_old (by assumption) (by simp [fps]))) ?_
    refine vl_on rfl rfl rfl rfl ?_
    refine vl_val rfl (.some rfl) (val_ge rfl rfl) ?_
    refine vl_val rfl (.some rfl) (val_pick rfl rfl) ?_
    refine vl_nil ?_
    refine vc_cond rfl (fun hc0 => ?_) (fun hc0 => ?_)
    · (try replace hc0 := of_decide_eq_true hc0)
      refine vc_ret ?_
      refine ⟨_, [SKb b t As ns cs Ac hs.length cc, HR Ac hs.length cc hs, UW A l.length c l], _, res0 Try.results54, (by repeat (first | exact .nil | (apply Sub.cons; · repeat (first | exact .head | apply Take.tail)))), ?_⟩
      exact ⟨A, c, by rw [putK_not (by first | exact .inl (by assumption) | exact .inr (by omega)), hs_set_same hi]⟩
    · (try replace hc0 := of_decide_eq_false hc0)
      refine vc_skip ?_
      refine vc_seq ?_
      refine vc_region ?_
      refine vl_val rfl (.some rfl) (val_load Try.isAgg25 rfl (by first | exact cell_cells (by repeat (first | exact .head | apply In.tail | apply Take.tail | apply Upd.tail)) rfl | exact cell_rd (rd_sl (by repeat (first | exact .head | apply In.tail | apply Take.tail | apply Upd.tail))) (by first | exact bcells_at (by omega) | exact ucells_at (by omega) | exact icells_at (by omega) | exact tcells_at (by omega) | exact bcells_get (by omega) | exact icells_get (by omega) | exact tcells_get (by omega) | exact ucells_get (by omega)) | exact cell_rd (rd_old (by assumption) rfl) (by first | exact bcells_at (by omega) | exact ucells_at (by omega) | exact icells_at (by omega) | exact tcells_at (by omega) | exact bcells_get (by omega) | exact icells_get (by omega) | exact tcells_get (by omega) | exact ucells_get (by omega)) | exact cell_old (by assumption) (by simp [fps]))) ?_
      refine vl_val rfl (.some rfl) (val_move rfl) ?_
      refine vl_val rfl (.some rfl) (val_load Try.isAgg30 rfl (by first | exact cell_cells (by repeat (first | exact .head | apply In.tail | apply Take.tail | apply Upd.tail)) rfl | exact cell_rd (rd_sl (by repeat (first | exact .head | apply In.tail | apply Take.tail | apply Upd.tail))) (by first | exact bcells_at (by omega) | exact ucells_at (by omega) | exact icells_at (by omega) | exact tcells_at (by omega) | exact bcells_get (by omega) | exact icells_get (by omega) | exact tcells_get (by omega) | exact ucells_get (by omega)) | exact cell_rd (rd_old (by assumption) rfl) (by first | exact bcells_at (by omega) | exact ucells_at (by omega) | exact icells_at (by omega) | exact tcells_at (by omega) | exact bcells_get (by omega) | exact icells_get (by omega) | exact tcells_get (by omega) | exact ucells_get (by omega)) | exact cell_old (by assumption) (by simp [fps]))) ?_
      refine vl_lit sT25 rfl rfl (.some rfl) rfl rfl rfl (by decide) (by decide) rfl (flat_one rfl) (fun r35 => ?_)
      refine vl_call (C := [UW A l.length c l, UW (some ⟨r35, 0, none⟩) 1 1 [h]]) rfl rfl (.some rfl) Try.call90 rfl (by repeat (first | exact .nil | (apply Sub.cons; · repeat (first | exact .head | apply Take.tail)))) (fun w hw => sIns A c l (lowN l h) r35 h (by omega) hlow w) (fun v H' h => ?_)
      obtain ⟨A36, c36, rfl, rfl⟩ := h
      show VL _ _ _ _ _ (_ :: _)
      refine vl_slSome (A := A36) (n := l.length + 1) (c := c36) (sz := 1) (e := 30) (vs := ucells (l.take (lowN l h) ++ h :: l.drop (lowN l h))) (by repeat (first | exact .head | apply In.tail | apply Take.tail | apply Upd.tail)) (by omega) (fun g36 hA36 hc36 => ?_)
      first | refine vl_store rfl rfl .none rfl rfl Try.sizeOf25 rfl (by repeat (first | exact .head | apply In.tail | apply Take.tail | apply Upd.tail)) (by first | decide | exact Nat.le_refl _ | exact Nat.le_of_ble_eq_true rfl | (simp; omega)) ?_ | refine vl_storeSl rfl rfl .none rfl rfl Try.sizeOf25 rfl (by simp [Value.cells]) (by repeat (first | exact .head | apply In.tail | apply Take.tail | apply Upd.tail)) (by first | decide | (simp [Value.cells]; omega)) ?_
      refine vl_nil ?_
      refine vc_draws [0, 1, 2, 3, 4, 5, 6, 7, 8, 9, 10, 11, 12, 13, 14] [15] [0, 1, 2, 3, 4, 5, 6, 7, 8, 9, 10, 11, 12, 13, 14, 15] rfl (by kernel_rfl) (fun _ _ _ h => h) ?_
      refine vd_val rfl rfl rfl (.some rfl) (val_move rfl) ?_
      refine vd_val rfl rfl rfl (.some rfl) (val_nil rfl rfl) ?_
      refine vd_val rfl rfl rfl (.some rfl) (by first | exact val_fieldAddr Try.runUnderlying57 rfl Try.sizeOf33 rfl | exact val_fieldAddrR Try.runUnderlying57 rfl Try.sizeOf33 rfl) ?_
      refine vd_val rfl rfl rfl (.some rfl) (val_load Try.isAgg33 rfl (by first | exact cell_cells (by repeat (first | exact .head | apply In.tail | apply Take.tail | apply Upd.tail)) rfl | exact cell_rd (rd_sl (by repeat (first | exact .head | apply In.tail | apply Take.tail | apply Upd.tail))) (by first | exact bcells_at (by omega) | exact ucells_at (by omega) | exact icells_at (by omega) | exact tcells_at (by omega) | exact bcells_get (by omega) | exact icells_get (by omega) | exact tcells_get (by omega) | exact ucells_get (by omega)) | exact cell_rd (rd_old (by assumption) rfl) (by first | exact bcells_at (by omega) | exact ucells_at (by omega) | exact icells_at (by omega) | exact tcells_at (by omega) | exact bcells_get (by omega) | exact icells_get (by omega) | exact tcells_get (by omega) | exact ucells_get (by omega)) | exact cell_old (by assumption) (by simp [fps]))) ?_
      refine vd_val rfl rfl rfl (.some rfl) (val_move rfl) ?_
      refine vd_val rfl rfl rfl (.some rfl) (val_load Try.isAgg25 rfl (by first | exact cell_cells (by repeat (first | exact .head | apply In.tail | apply Take.tail | apply Upd.tail)) rfl | exact cell_rd (rd_sl (by repeat (first | exact .head | apply In.tail | apply Take.tail | apply Upd.tail))) (by first | exact bcells_at (by omega) | exact ucells_at (by omega) | exact icells_at (by omega) | exact tcells_at (by omega) | exact bcells_get (by omega) | exact icells_get (by omega) | exact tcells_get (by omega) | exact ucells_get (by omega)) | exact cell_rd (rd_old (by assumption) rfl) (by first | exact bcells_at (by omega) | exact ucells_at (by omega) | exact icells_at (by omega) | exact tcells_at (by omega) | exact bcells_get (by omega) | exact icells_get (by omega) | exact tcells_get (by omega) | exact ucells_get (by omega)) | exact cell_old (by assumption) (by simp [fps]))) ?_
      refine vd_val rfl rfl rfl (.some rfl) (val_load Try.isAgg25 rfl (by first | exact cell_cells (by repeat (first | exact .head | apply In.tail | apply Take.tail | apply Upd.tail)) rfl | exact cell_rd (rd_sl (by repeat (first | exact .head | apply In.tail | apply Take.tail | apply Upd.tail))) (by first | exact bcells_at (by omega) | exact ucells_at (by omega) | exact icells_at (by omega) | exact tcells_at (by omega) | exact bcells_get (by omega) | exact icells_get (by omega) | exact tcells_get (by omega) | exact ucells_get (by omega)) | exact cell_rd (rd_old (by assumption) rfl) (by first | exact bcells_at (by omega) | exact ucells_at (by omega) | exact icells_at (by omega) | exact tcells_at (by omega) | exact bcells_get (by omega) | exact icells_get (by omega) | exact tcells_get (by omega) | exact ucells_get (by omega)) | exact cell_old (by assumption) (by simp [fps]))) ?_
      refine vd_val rfl rfl rfl (.some rfl) (val_lenSl Try.runUnderlying25 rfl) ?_
      refine vd_val rfl rfl rfl (.some rfl) (val_move rfl) ?_
      refine vd_val rfl rfl rfl (.some rfl) (val_nil rfl rfl) ?_
      refine vd_val rfl rfl rfl (.some rfl) (by first | exact val_fieldAddr Try.runUnderlying57 rfl Try.sizeOf3 rfl | exact val_fieldAddrR Try.runUnderlying57 rfl Try.sizeOf3 rfl) ?_
      refine vd_val rfl rfl rfl (.some rfl) (val_load Try.isAgg3 rfl (by first | exact cell_cells (by repeat (first | exact .head | apply In.tail | apply Take.tail | apply Upd.tail)) rfl | exact cell_rd (rd_sl (by repeat (first | exact .head | apply In.tail | apply Take.tail | apply Upd.tail))) (by first | exact bcells_at (by omega) | exact ucells_at (by omega) | exact icells_at (by omega) | exact tcells_at (by omega) | exact bcells_get (by omega) | exact icells_get (by omega) | exact tcells_get (by omega) | exact ucells_get (by omega)) | exact cell_rd (rd_old (by assumption) rfl) (by first | exact bcells_at (by omega) | exact ucells_at (by omega) | exact icells_at (by omega) | exact tcells_at (by omega) | exact bcells_get (by omega) | exact icells_get (by omega) | exact tcells_get (by omega) | exact ucells_get (by omega)) | exact cell_old (by assumption) (by simp [fps]))) ?_
      refine vd_val rfl rfl rfl (.some rfl) (valEq (congrArg (Value.int .i64) (show min ((l.length + 1 : Nat) : Int) (t : Int) = ((min (l.length + 1) t : Nat) : Int) by omega)) (val_min rfl rfl)) ?_
      refine vd_val rfl rfl rfl (.some rfl) (val_cutTo Try.runUnderlying25 Try.sizeOf30 rfl rfl (by omega) (by omega)) ?_
      refine vd_val rfl rfl rfl (.some rfl) (val_indexAddr Try.runUnderlying33 Try.sizeOf25 rfl rfl (by first | exact rd_sl (by repeat (first | exact .head | apply In.tail | apply Take.tail | apply Upd.tail)) | exact rd_slr (by repeat (first | exact .head | apply In.tail | apply Take.tail | apply Upd.tail)) | exact rd_old (by assumption) rfl) (by omega) (by omega) (by first | omega | (simp only [bcells_length, icells_length, ucells_length, tcells_length]; omega) | (simp only [bcells_length, icells_length, ucells_length, tcells_length, fillG_length]; omega) | (simp; omega))) ?_
      refine vd_op rfl rfl ?_
      refine vl_storeSl rfl rfl .none rfl rfl Try.sizeOf25 rfl (by simp [Value.cells]) (by repeat (first | exact .head | apply In.tail | apply Take.tail | apply Upd.tail)) (by show Int.toNat (i : Int) * 1 + 1 ≤ _; omega) ?_
      rw [set_laidS hin, Int.toNat_natCast]
      refine vl_front (A := A36) (n := l.length + 1) (c := c36) (k := min (l.length + 1) t) (sz := 1) (e := 30) (vs := ucells (l.take (lowN l h) ++ h :: l.drop (lowN l h))) (by repeat (first | exact .head | apply In.tail | apply Take.tail | apply Upd.tail)) (by omega) (by omega) ?_
      rw [ucells_front hlow]
      refine vl_nil ?_
      refine ⟨fun h => (by cases h), ?_⟩
      refine vd_nil ?_
      refine ⟨_, [SKb b t As ns cs Ac hs.length cc, HR Ac hs.length cc (hs.set (Int.toNat (i : Int)) (.slice A36 (min (l.length + 1) t) c36)), UW A36 (min (l.length + 1) t) c36 ((l.take (lowN l h) ++ h :: l.drop (lowN l h)).take t)], _, res0 Try.results54, (by repeat (first | exact .nil | (apply Sub.cons; · repeat (first | exact .head | apply Take.tail)))), ?_⟩
      have hpl : (putK t l h).length = min (l.length + 1) t := by rw [putK_ins (by assumption) (by omega) rfl, List.length_take]; simp; omega
      exact ⟨A36, c36, by rw [hpl, putK_ins (by assumption) (by omega) rfl, Int.toNat_natCast]⟩

end Go.Proofs.Ytclknendeeljaaa.K
