/- Walks of the program's functions, printed by a program of this session; Lean checks them. -/
import Derived.Test.YtclknendeeljaaaYkd
namespace Go.Proofs.Ytclknendeeljaaa.K
open Go Go.RowKit Go.Proofs
set_option linter.unusedVariables false
set_option linter.unusedSimpArgs false
set_option maxRecDepth 20000 in
theorem sT35 : SlT Try.prog 35 3 1 8 (.int .i64 0) := ⟨Try.underlying35, ⟨Try.t3, Try.type3, rfl, rfl, rfl⟩, rfl, Nat.lt_of_sub_eq_succ rfl⟩

def ansN (t : Nat) (l : List Nat) : Nat := if l.length = t then (if mdOk (t - 1) pM (l.getD (t - 1) 0) then min (mdQ (t - 1) pM (l.getD (t - 1) 0)) 4611686018427387904 else 4611686018427387904) else l.length
def ansV (t : Nat) (V : List (List Nat)) : List Int := V.map fun l => (ansN t l : Int)
theorem ansV_len (t : Nat) (V : List (List Nat)) : (ansV t V).length = V.length := by simp [ansV]
theorem ans_push {t i : Nat} {V : List (List Nat)} {l : List Nat} (h : i < V.length) (hl : V.getD i [] = l) : icells .i64 (ansV t (V.take i)) ++ [Value.int .i64 (ansN t l : Nat)] = icells .i64 (ansV t (V.take (i + 1))) := by
  have : V[i]? = some l := by rw [← hl]; simp [List.getD, h]
  rw [List.take_add_one, this]
  simp [ansV, icells]
theorem ins_end00 {l : List Int} {i j : Nat} (h : InsG l i j) (e : j = 0) : SrtG l (i + 1) := by subst e; exact ins_end0 h

set_option maxRecDepth 20000 in
theorem kAnswers (k : Sk) (ht1 : 0 < k.t) (ht : k.t ≤ 1000) (hSL : k.S.length = k.L.length) (hn : k.L.length ≤ 7) (hg : GoodV k.t (vals k.L)) (hb : ∀ j, j < (vals k.L).length → ∀ x ∈ (vals k.L).getD j [], x < 18446744073709551616) (w : World) : Fn Try.prog 18 [kp k] (KH k) (ret fun u H' => ∃ A c, u = .slice A (ansV k.t (vals k.L)).length c ∧ H' = KH k ++ [IW A (ansV k.t (vals k.L)).length c (ansV k.t (vals k.L))]) w := by
  have hvl := vals_len k.L
  refine fn_enter Try.func18 rfl Try.ntmps18 rfl ?_
  refine vc_seq ?_
  refine vc_region ?_
  refine vl_val rfl (.some rfl) (val_assign rfl) ?_
  refine vl_nil ?_
  refine vc_seq ?_
  refine vc_seq ?_
  refine vc_region ?_
  refine vl_val rfl (.some rfl) (val_move rfl) ?_
  refine vl_callR [SKc k] rfl rfl (.some rfl) Try.call53 rfl (by repeat (first | exact .nil | (apply Sub.cons; · repeat (first | exact .head | apply Take.tail)))) (fun w hw => kMade k.b k.t k.As k.S.length k.cs k.Ac k.L.length k.cc ht1 w) ?_
  refine vl_val rfl (.some rfl) (val_not rfl) ?_
  refine vl_nil ?_
  refine vc_cond rfl (fun h => by cases h) (fun _ => ?_)
  refine vc_skip ?_
  refine vc_seq ?_
  refine vc_region ?_
  refine vl_val rfl (.some rfl) (val_assign rfl) ?_
  refine vl_nilSl 3 1 ?_
  refine vl_nil ?_
  refine vc_seq ?_
  refine vc_seq ?_
  refine vc_region ?_
  refine vl_val rfl (.some rfl) (val_move rfl) ?_
  refine vl_val rfl (.some rfl) (val_nil rfl rfl) ?_
  refine vl_val rfl (.some rfl) (by first | exact val_fieldAddr Try.runUnderlying57 rfl Try.sizeOf33 rfl | exact val_fieldAddrR Try.runUnderlying57 rfl Try.sizeOf33 rfl) ?_
  refine vl_val rfl (.some rfl) (val_load Try.isAgg33 rfl (by first | exact cell_cells (by repeat (first | exact .head | apply In.tail | apply Take.tail | apply Upd.tail)) rfl | exact cell_rd (rd_sl (by repeat (first | exact .head | apply In.tail | apply Take.tail | apply Upd.tail))) (by first | exact bcells_at (by omega) | exact ucells_at (by omega) | exact icells_at (by omega) | exact tcells_at (by omega) | exact bcells_get (by omega) | exact icells_get (by omega) | exact tcells_get (by omega) | exact ucells_get (by omega)) | exact cell_rd (rd_old (by assumption) rfl) (by first | exact bcells_at (by omega) | exact ucells_at (by omega) | exact icells_at (by omega) | exact tcells_at (by omega) | exact bcells_get (by omega) | exact icells_get (by omega) | exact tcells_get (by omega) | exact ucells_get (by omega)) | exact cell_old (by assumption) (by simp [fps]))) ?_
  refine vl_val rfl (.some rfl) (val_lenSl Try.runUnderlying33 rfl) ?_
  refine vl_val rfl (.some rfl) (val_move rfl) ?_
  refine vl_nil ?_
  refine vc_block ?_
  refine vc_loopw (fun m E H => ∃ (i : Nat) (A : Option Addr) (c : Nat), i ≤ k.L.length ∧ m = k.L.length - i ∧ E = [(0, kp k), (3, .slice A i c), (15, .slice k.Ac k.L.length k.cc), (16, .int .i64 k.L.length), (17, .int .i64 i)] ∧ H = [sl A i c 3 1 (icells .i64 (ansV k.t ((vals k.L).take i))), SKc k, SKh k, SKr k]) (k.L.length) ⟨_, _, _, ⟨0, none, 0, by omega, rfl, rfl, rfl⟩, (by repeat (first | exact trivial | refine ⟨rfl, ?_⟩ | refine ⟨le_item rfl (by first | rfl | (congr 1; omega) | (simp; done) | (simp; omega)), ?_⟩)), (by repeat (first | exact .nil | (apply Sub.cons; · repeat (first | exact .head | apply Take.tail))))⟩ ?_
  intro m E H hI
  obtain ⟨i, A, c, hi, rfl, rfl, rfl⟩ := hI
  refine vc_seq ?_
  refine vc_region ?_
  refine vl_val rfl (.some rfl) (val_lt rfl rfl) ?_
  refine vl_nil ?_
  refine vc_seq ?_
  refine vc_cond rfl (fun hc1 => ?_) (fun hc1 => ?_)
  · (try replace hc1 := of_decide_eq_true hc1)
    obtain ⟨r, hr⟩ := row_at (L := k.L) (i := i) (by omega)
    have hri := vals_get hr
    refine vc_skip ?_
    refine vc_seq ?_
    refine vc_block ?_
    refine vc_seq ?_
    refine vc_region ?_
    refine vl_val rfl (.some rfl) (val_indexAddr Try.runUnderlying33 Try.sizeOf25 rfl rfl (rd_sl (vs := k.L.map hdr) (by repeat (first | exact .head | apply In.tail | apply Take.tail | apply Upd.tail))) (by omega) (by omega) (by rw [List.length_map]; omega)) ?_
    refine vl_val rfl (.some rfl) (val_load Try.isAgg25 rfl (cell_rd (rd_sl (vs := k.L.map hdr) (by repeat (first | exact .head | apply In.tail | apply Take.tail | apply Upd.tail))) (hdr_at hr))) ?_
    refine vl_val rfl (.some rfl) (val_assign rfl) ?_
    refine vl_nil ?_
    refine vc_seq ?_
    refine vc_region ?_
    refine vl_val rfl (.some rfl) (val_move rfl) ?_
    refine vl_val rfl (.some rfl) (val_lenSl Try.runUnderlying25 rfl) ?_
    refine vl_val rfl (.some rfl) (val_assign rfl) ?_
    refine vl_nil ?_
    refine vc_seq ?_
    refine vc_seq ?_
    refine vc_region ?_
    refine vl_val rfl (.some rfl) (val_move rfl) ?_
    refine vl_val rfl (.some rfl) (val_move rfl) ?_
    refine vl_val rfl (.some rfl) (val_nil rfl rfl) ?_
    refine vl_val rfl (.some rfl) (by first | exact val_fieldAddr Try.runUnderlying57 rfl Try.sizeOf3 rfl | exact val_fieldAddrR Try.runUnderlying57 rfl Try.sizeOf3 rfl) ?_
    refine vl_val rfl (.some rfl) (val_load Try.isAgg3 rfl (by first | exact cell_cells (by repeat (first | exact .head | apply In.tail | apply Take.tail | apply Upd.tail)) rfl | exact cell_rd (rd_sl (by repeat (first | exact .head | apply In.tail | apply Take.tail | apply Upd.tail))) (by first | exact bcells_at (by omega) | exact ucells_at (by omega) | exact icells_at (by omega) | exact tcells_at (by omega) | exact bcells_get (by omega) | exact icells_get (by omega) | exact tcells_get (by omega) | exact ucells_get (by omega)) | exact cell_rd (rd_old (by assumption) rfl) (by first | exact bcells_at (by omega) | exact ucells_at (by omega) | exact icells_at (by omega) | exact tcells_at (by omega) | exact bcells_get (by omega) | exact icells_get (by omega) | exact tcells_get (by omega) | exact ucells_get (by omega)) | exact cell_old (by assumption) (by simp [fps]))) ?_
    refine vl_val rfl (.some rfl) (val_eq rfl rfl) ?_
    refine vl_nil ?_
    refine vc_cond rfl (fun hc2 => ?_) (fun hc2 => ?_)
    · (try replace hc2 := of_decide_eq_true hc2)
      have hrl : r.l.length = k.t := by omega
      have hq : mdQ (k.t - 1) pM (r.l.getD (k.t - 1) 0) < 18446744073709551616 := mdQ_lt _ _ _
      refine vc_seq ?_
      refine vc_region ?_
      refine vl_val rfl (.some rfl) (val_move rfl) ?_
      refine vl_val rfl (.some rfl) (val_sub rfl rfl (show _ = ((k.t - 1 : Nat) : Int) by rw [w_i64 (by omega) (by omega)]; omega)) ?_
      refine vl_val rfl (.some rfl) (val_convInt Try.runUnderlying3 Try.runUnderlying30 rfl (wN (by omega))) ?_
      refine vl_val rfl (.some rfl) (val_move rfl) ?_
      refine vl_val rfl (.some rfl) (val_move rfl) ?_
      refine vl_val rfl (.some rfl) (val_sub rfl rfl (show _ = ((k.t - 1 : Nat) : Int) by rw [w_i64 (by omega) (by omega)]; omega)) ?_
      refine vl_val rfl (.some rfl) (val_indexAddr Try.runUnderlying25 Try.sizeOf30 rfl rfl (vs := ucells r.l) (rd_big (n := r.l.length) (c := r.c) (e := 30) (sz := 1) (l := k.L.map rwC) (by repeat (first | exact .head | apply In.tail | apply Take.tail | apply Upd.tail)) (List.mem_map.2 ⟨r, List.mem_of_getElem? hr, rfl⟩)) (by omega) (by omega) (by rw [ucells_length]; omega)) ?_
      refine vl_val rfl (.some rfl) (val_load Try.isAgg30 rfl (cell_rd (rd_big (n := r.l.length) (c := r.c) (e := 30) (sz := 1) (l := k.L.map rwC) (by repeat (first | exact .head | apply In.tail | apply Take.tail | apply Upd.tail)) (List.mem_map.2 ⟨r, List.mem_of_getElem? hr, rfl⟩)) (ucells_at (by omega)))) ?_
      refine vl_callV rfl rfl (.some rfl) Try.call57 rfl (fun w hw => fMulDiv (k.t - 1) pM (r.l.getD (k.t - 1) 0) (by omega) (by decide) (hb i (by omega) _ (by rw [vals_get hr]; exact getD_mem 0 (by omega))) w) ?_
      refine vl_val rfl (.some rfl) (val_move rfl) ?_
      refine vl_val rfl (.some rfl) (val_extract rfl rfl) ?_
      refine vl_val rfl (.some rfl) (val_extract rfl rfl) ?_
      refine vl_val rfl (.some rfl) (val_assign rfl) ?_
      refine vl_val rfl (.some rfl) (val_assign rfl) ?_
      refine vl_nil ?_
      refine vc_seq ?_
      refine vc_seq ?_
      refine vc_region ?_
      refine vl_val rfl (.some rfl) (val_move rfl) ?_
      refine vl_val rfl (.some rfl) (val_not rfl) ?_
      refine vl_nil ?_
      refine vc_cond rfl (fun hc3 => ?_) (fun hc3 => ?_)
      · (try replace hc3 := of_decide_eq_true hc3)
        refine vc_region ?_
        refine vl_val rfl (.some rfl) (val_assign rfl) ?_
        refine vl_nil ?_
        refine vc_region ?_
        refine vl_val rfl (.some rfl) (val_move rfl) ?_
        refine vl_val rfl (.some rfl) (val_min rfl rfl) ?_
        refine vl_val rfl (.some rfl) (val_convInt Try.runUnderlying30 Try.runUnderlying3 rfl (show _ = ((ansN k.t r.l : Nat) : Int) by unfold ansN; rw [if_pos hrl]; first | (rw [if_pos (by simpa using hc3)]; rw [w_i64 (by omega) (by omega)]; omega) | (rw [if_neg (by simpa using hc3)]; rfl))) ?_
        refine vl_val rfl (.some rfl) (val_assign rfl) ?_
        refine vl_nil ?_
        refine vc_region ?_
        refine vl_val rfl (.some rfl) (val_move rfl) ?_
        refine vl_val rfl (.some rfl) (val_move rfl) ?_
        refine vl_lit sT35 rfl rfl (.some rfl) rfl rfl rfl (by decide) (by decide) rfl (flat_one rfl) (fun r48 => ?_)
        refine vl_append (A := A) (n := i) (vs := icells .i64 (ansV k.t ((vals k.L).take i))) sT35 rfl rfl (.some rfl) rfl rfl (rd_sl (A := some ⟨r48, 0, none⟩) (by repeat (first | exact .head | apply In.tail | apply Take.tail | apply Upd.tail))) (by rfl) (by rfl) (by omega) (by omega) (by repeat (first | exact .head | apply In.tail | apply Take.tail | apply Upd.tail)) (fun A49 k49 => ?_)
        have hpush := ans_push (t := k.t) (by omega) hri
        first | rw [hpush] | rw [show ((r.l.length : Nat) : Int) = ((ansN k.t r.l : Nat) : Int) by unfold ansN; rw [if_neg (by omega)], hpush]
        refine vl_val rfl (.some rfl) (val_assign rfl) ?_
        refine vl_nil ?_
        refine vc_region ?_
        refine vl_val rfl (.some rfl) (val_add rfl rfl (by first | exact w_i64 (by omega) (by omega) | rfl)) ?_
        refine vl_val rfl (.some rfl) (val_move rfl) ?_
        refine vl_nil ?_
        exact ⟨(k.L.length - (i + 1)), _, _, _, by omega, (by repeat (first | exact trivial | refine ⟨rfl, ?_⟩ | refine ⟨le_item rfl (by first | rfl | (congr 1; omega) | (simp; done) | (simp; omega)), ?_⟩)), (by repeat (first | exact .nil | (apply Sub.cons; · repeat (first | exact .head | apply Take.tail)))), ⟨i + 1, A49, k49, by omega, rfl, rfl, rfl⟩⟩
      · (try replace hc3 := of_decide_eq_false hc3)
        refine vc_skip ?_
        refine vc_region ?_
        refine vl_val rfl (.some rfl) (val_move rfl) ?_
        refine vl_val rfl (.some rfl) (val_min rfl rfl) ?_
        refine vl_val rfl (.some rfl) (val_convInt Try.runUnderlying30 Try.runUnderlying3 rfl (show _ = ((ansN k.t r.l : Nat) : Int) by unfold ansN; rw [if_pos hrl]; first | (rw [if_pos (by simpa using hc3)]; rw [w_i64 (by omega) (by omega)]; omega) | (rw [if_neg (by simpa using hc3)]; rfl))) ?_
        refine vl_val rfl (.some rfl) (val_assign rfl) ?_
        refine vl_nil ?_
        refine vc_region ?_
        refine vl_val rfl (.some rfl) (val_move rfl) ?_
        refine vl_val rfl (.some rfl) (val_move rfl) ?_
        refine vl_lit sT35 rfl rfl (.some rfl) rfl rfl rfl (by decide) (by decide) rfl (flat_one rfl) (fun r48 => ?_)
        refine vl_append (A := A) (n := i) (vs := icells .i64 (ansV k.t ((vals k.L).take i))) sT35 rfl rfl (.some rfl) rfl rfl (rd_sl (A := some ⟨r48, 0, none⟩) (by repeat (first | exact .head | apply In.tail | apply Take.tail | apply Upd.tail))) (by rfl) (by rfl) (by omega) (by omega) (by repeat (first | exact .head | apply In.tail | apply Take.tail | apply Upd.tail)) (fun A49 k49 => ?_)
        have hpush := ans_push (t := k.t) (by omega) hri
        first | rw [hpush] | rw [show ((r.l.length : Nat) : Int) = ((ansN k.t r.l : Nat) : Int) by unfold ansN; rw [if_neg (by omega)], hpush]
        refine vl_val rfl (.some rfl) (val_assign rfl) ?_
        refine vl_nil ?_
        refine vc_region ?_
        refine vl_val rfl (.some rfl) (val_add rfl rfl (by first | exact w_i64 (by omega) (by omega) | rfl)) ?_
        refine vl_val rfl (.some rfl) (val_move rfl) ?_
        refine vl_nil ?_
        exact ⟨(k.L.length - (i + 1)), _, _, _, by omega, (by repeat (first | exact trivial | refine ⟨rfl, ?_⟩ | refine ⟨le_item rfl (by first | rfl | (congr 1; omega) | (simp; done) | (simp; omega)), ?_⟩)), (by repeat (first | exact .nil | (apply Sub.cons; · repeat (first | exact .head | apply Take.tail)))), ⟨i + 1, A49, k49, by omega, rfl, rfl, rfl⟩⟩
    · (try replace hc2 := of_decide_eq_false hc2)
      refine vc_skip ?_
      refine vc_region ?_
      refine vl_val rfl (.some rfl) (val_move rfl) ?_
      refine vl_val rfl (.some rfl) (val_move rfl) ?_
      refine vl_lit sT35 rfl rfl (.some rfl) rfl rfl rfl (by decide) (by decide) rfl (flat_one rfl) (fun r48 => ?_)
      refine vl_append (A := A) (n := i) (vs := icells .i64 (ansV k.t ((vals k.L).take i))) sT35 rfl rfl (.some rfl) rfl rfl (rd_sl (A := some ⟨r48, 0, none⟩) (by repeat (first | exact .head | apply In.tail | apply Take.tail | apply Upd.tail))) (by rfl) (by rfl) (by omega) (by omega) (by repeat (first | exact .head | apply In.tail | apply Take.tail | apply Upd.tail)) (fun A49 k49 => ?_)
      have hpush := ans_push (t := k.t) (by omega) hri
      first | rw [hpush] | rw [show ((r.l.length : Nat) : Int) = ((ansN k.t r.l : Nat) : Int) by unfold ansN; rw [if_neg (by omega)], hpush]
      refine vl_val rfl (.some rfl) (val_assign rfl) ?_
      refine vl_nil ?_
      refine vc_region ?_
      refine vl_val rfl (.some rfl) (val_add rfl rfl (by first | exact w_i64 (by omega) (by omega) | rfl)) ?_
      refine vl_val rfl (.some rfl) (val_move rfl) ?_
      refine vl_nil ?_
      exact ⟨(k.L.length - (i + 1)), _, _, _, by omega, (by repeat (first | exact trivial | refine ⟨rfl, ?_⟩ | refine ⟨le_item rfl (by first | rfl | (congr 1; omega) | (simp; done) | (simp; omega)), ?_⟩)), (by repeat (first | exact .nil | (apply Sub.cons; · repeat (first | exact .head | apply Take.tail)))), ⟨i + 1, A49, k49, by omega, rfl, rfl, rfl⟩⟩
  · (try replace hc1 := of_decide_eq_false hc1)
    refine vc_exit ?_
    refine vc_seq ?_
    refine vc_region ?_
    refine vl_val rfl (.some rfl) (val_move rfl) ?_
    refine vl_val rfl (.some rfl) (val_assign rfl) ?_
    refine vl_nil ?_
    refine vc_ret ?_
    obtain rfl : i = k.L.length := by omega
    refine ⟨_, [SKc k, SKh k, SKr k, sl A k.L.length c 3 1 (icells .i64 (ansV k.t ((vals k.L).take k.L.length)))], _, res1 Try.results18 rfl, (by repeat (first | exact .nil | (apply Sub.cons; · repeat (first | exact .head | apply Take.tail)))), ?_⟩
    rw [List.take_of_length_le (by omega)]
    have he : (ansV k.t (vals k.L)).length = k.L.length := by rw [ansV_len, hvl]
    exact ⟨A, c, by rw [he], by rw [he]; rfl⟩
set_option maxRecDepth 20000 in
theorem sInsort (g c : Nat) (l : List Int) (hl : l.length ≤ 1000) (w : World) : Fn Try.prog 113 [.slice (some ⟨g, 0, none⟩) l.length c, .int .i64 0, .int .i64 l.length] [IW (some ⟨g, 0, none⟩) l.length c l] (ret fun u H' => ∃ L : List Int, L.Perm l ∧ SrtG L L.length ∧ H' = [IW (some ⟨g, 0, none⟩) L.length c L]) w := by
  refine fn_enter Try.func113 rfl Try.ntmps113 rfl ?_
  refine vc_seq ?_
  refine vc_region ?_
  refine vl_val rfl (.some rfl) (val_move rfl) ?_
  refine vl_val rfl (.some rfl) (val_add rfl rfl (show _ = ((1 : Nat) : Int) from rfl)) ?_
  refine vl_val rfl (.some rfl) (val_assign rfl) ?_
  refine vl_nil ?_
  refine vc_block ?_
  refine vc_loopw (fun m E H => ∃ (i : Nat) (L : List Int), L.Perm l ∧ L.length = l.length ∧ m = l.length + 1 - i ∧ SrtG L i ∧ 1 ≤ i ∧ E = [(0, .slice (some ⟨g, 0, none⟩) l.length c), (1, .int .i64 0), (2, .int .i64 l.length), (6, .int .i64 i)] ∧ H = [IW (some ⟨g, 0, none⟩) l.length c L]) (l.length) ⟨_, _, _, ⟨1, l, .refl _, rfl, rfl, fun p q h1 h2 => by omega, by omega, rfl, rfl⟩, (by repeat (first | exact trivial | refine ⟨rfl, ?_⟩ | refine ⟨le_item rfl (by first | rfl | (congr 1; omega) | (simp; done) | (simp; omega)), ?_⟩)), (by repeat (first | exact .nil | (apply Sub.cons; · repeat (first | exact .head | apply Take.tail))))⟩ ?_
  intro m E H hI
  obtain ⟨i, L, hp, hLl, rfl, hs, hi1, rfl, rfl⟩ := hI
  refine vc_seq ?_
  refine vc_seq ?_
  refine vc_region ?_
  refine vl_val rfl (.some rfl) (val_move rfl) ?_
  refine vl_val rfl (.some rfl) (val_move rfl) ?_
  refine vl_val rfl (.some rfl) (val_lt rfl rfl) ?_
  refine vl_nil ?_
  refine vc_cond rfl (fun hc0 => ?_) (fun hc0 => ?_)
  · (try replace hc0 := of_decide_eq_true hc0)
    refine vc_skip ?_
    refine vc_seq ?_
    refine vc_block ?_
    refine vc_seq ?_
    refine vc_region ?_
    refine vl_val rfl (.some rfl) (val_move rfl) ?_
    refine vl_val rfl (.some rfl) (val_assign rfl) ?_
    refine vl_nil ?_
    refine vc_block ?_
    refine vc_loopw (fun m E H => ∃ (j : Nat) (L : List Int), L.Perm l ∧ L.length = l.length ∧ j = m ∧ InsG L i j ∧ j ≤ i ∧ E = [(0, .slice (some ⟨g, 0, none⟩) l.length c), (1, .int .i64 0), (2, .int .i64 l.length), (6, .int .i64 i), (7, .int .i64 j)] ∧ H = [IW (some ⟨g, 0, none⟩) l.length c L]) (i) ⟨_, _, _, ⟨i, L, hp, hLl, rfl, ins_start hs, by omega, rfl, rfl⟩, (by repeat (first | exact trivial | refine ⟨rfl, ?_⟩ | refine ⟨le_item rfl (by first | rfl | (congr 1; omega) | (simp; done) | (simp; omega)), ?_⟩)), (by repeat (first | exact .nil | (apply Sub.cons; · repeat (first | exact .head | apply Take.tail))))⟩ ?_
    clear hp hLl hs
    intro m E H hI
    obtain ⟨j, L, hp, hLl, rfl, hs2, hji, rfl, rfl⟩ := hI
    refine vc_seq ?_
    refine vc_seq ?_
    refine vc_drawsS [0, 1, 2, 3, 4, 5, 6, 7, 8, 9, 10, 11, 12, 14] [] [0, 1, 2, 3, 4, 5, 6, 7, 8, 9, 10, 11, 12, 13, 14] [IW (some ⟨g, 0, none⟩) l.length c L] (by repeat (first | exact .nil | (apply Sub.cons; · repeat (first | exact .head | apply Take.tail)))) rfl (by kernel_rfl) (fun _ _ _ h => h) ?_
    refine vd_val rfl rfl rfl (.some rfl) (val_move rfl) ?_
    refine vd_val rfl rfl rfl (.some rfl) (val_move rfl) ?_
    refine vd_val rfl rfl rfl (.some rfl) (val_gt rfl rfl) ?_
    refine vd_val rfl rfl rfl (.some rfl) (val_move rfl) ?_
    refine vd_split (t := 19) rfl (fun hg19 => ?_) (fun hg19 => ?_)
    · (try replace hg19 := of_decide_eq_true hg19)
      refine vd_on rfl rfl rfl rfl rfl rfl (.some rfl) (val_move rfl) ?_
      refine vd_on rfl rfl rfl rfl rfl rfl (.some rfl) (val_move rfl) ?_
      refine vd_on rfl rfl rfl rfl rfl rfl (.some rfl) (val_indexAddrA Try.runUnderlying35 Try.sizeOf3 rfl rfl (by omega) (by omega)) ?_
      refine vd_on rfl rfl rfl rfl rfl rfl (.some rfl) (val_load Try.isAgg3 rfl (cell_rd (rd_sl (A := some ⟨g, 0, none⟩) (vs := icells .i64 L) (by repeat (first | exact .head | apply In.tail | apply Take.tail | apply Upd.tail))) (icells_at (i := j) (by omega)))) ?_
      refine vd_on rfl rfl rfl rfl rfl rfl (.some rfl) (val_move rfl) ?_
      refine vd_on rfl rfl rfl rfl rfl rfl (.some rfl) (val_move rfl) ?_
      refine vd_on rfl rfl rfl rfl rfl rfl (.some rfl) (val_sub rfl rfl (show _ = ((j - 1 : Nat) : Int) by rw [w_i64 (by omega) (by omega)]; omega)) ?_
      refine vd_on rfl rfl rfl rfl rfl rfl (.some rfl) (val_indexAddrA Try.runUnderlying35 Try.sizeOf3 rfl rfl (by omega) (by omega)) ?_
      refine vd_on rfl rfl rfl rfl rfl rfl (.some rfl) (val_load Try.isAgg3 rfl (cell_rd (rd_sl (A := some ⟨g, 0, none⟩) (vs := icells .i64 L) (by repeat (first | exact .head | apply In.tail | apply Take.tail | apply Upd.tail))) (icells_at (i := j - 1) (by omega)))) ?_
      refine vd_op rfl rfl ?_
      refine vl_on rfl rfl rfl rfl ?_
      refine vl_callV rfl rfl (.some rfl) Try.call119 rfl (fun w hw => cLess_int (L.getD j 0) (L.getD (j - 1) 0) w) ?_
      refine vl_nil ?_
      refine ⟨fun _ => ⟨_, (by repeat (first | exact .nil | (apply Sub.cons; · repeat (first | exact .head | apply Take.tail))))⟩, ?_⟩
      refine vd_val rfl rfl rfl (.some rfl) (val_pick rfl rfl) ?_
      refine vd_nil ?_
      refine vc_cond rfl (fun hc1 => ?_) (fun hc1 => ?_)
      · (try replace hc1 := of_decide_eq_true hc1)
        refine vc_skip ?_
        refine vc_seq ?_
        refine vc_block ?_
        refine vc_draws3 [0, 1, 2, 3, 4, 5, 6, 7, 8, 9, 10, 11, 12, 13, 14] [2, 3, 4, 10, 11, 12] [17, 16, 15] [0, 1, 2, 3, 4, 5, 6, 7, 8, 9, 10, 11, 12, 13, 14, 15, 16, 17] ([IW (some ⟨g, 0, none⟩) l.length c L]) (by repeat (first | exact .nil | (apply Sub.cons; · repeat (first | exact .head | apply Take.tail)))) rfl (by kernel_rfl) (fun _ _ _ h => h) ?_
        refine vd3_val rfl rfl rfl rfl (.some rfl) (val_move rfl) ?_
        refine vd3_val rfl rfl rfl rfl (.some rfl) (val_move rfl) ?_
        refine vd3_lt rfl rfl rfl rfl (.some rfl) (val_move rfl) ?_
        refine vd3_lt rfl rfl rfl rfl (.some rfl) (val_move rfl) ?_
        refine vd3_lt rfl rfl rfl rfl (.some rfl) (val_sub rfl rfl (show _ = ((j - 1 : Nat) : Int) by rw [w_i64 (by omega) (by omega)]; omega)) ?_
        refine vd3_val rfl rfl rfl rfl (.some rfl) (val_move rfl) ?_
        refine vd3_val rfl rfl rfl rfl (.some rfl) (val_move rfl) ?_
        refine vd3_val rfl rfl rfl rfl (.some rfl) (val_sub rfl rfl (show _ = ((j - 1 : Nat) : Int) by rw [w_i64 (by omega) (by omega)]; omega)) ?_
        refine vd3_val rfl rfl rfl rfl (.some rfl) (val_indexAddrA Try.runUnderlying35 Try.sizeOf3 rfl rfl (by omega) (by omega)) ?_
        refine vd3_val rfl rfl rfl rfl (.some rfl) (val_load Try.isAgg3 rfl (cell_rd (rd_sl (A := some ⟨g, 0, none⟩) (vs := icells .i64 L) (by repeat (first | exact .head | apply In.tail | apply Take.tail | apply Upd.tail))) (icells_at (i := j - 1) (by omega)))) ?_
        refine vd3_lt rfl rfl rfl rfl (.some rfl) (val_move rfl) ?_
        refine vd3_lt rfl rfl rfl rfl (.some rfl) (val_move rfl) ?_
        refine vd3_lt rfl rfl rfl rfl (.some rfl) (val_indexAddrA Try.runUnderlying35 Try.sizeOf3 rfl rfl (by omega) (by omega)) ?_
        refine vd3_val rfl rfl rfl rfl (.some rfl) (val_load Try.isAgg3 rfl (cell_rd (rd_sl (A := some ⟨g, 0, none⟩) (vs := icells .i64 L) (by repeat (first | exact .head | apply In.tail | apply Take.tail | apply Upd.tail))) (icells_at (i := j) (by omega)))) ?_
        refine vd3_val rfl rfl rfl rfl (.some rfl) (val_indexAddrA Try.runUnderlying35 Try.sizeOf3 rfl rfl (by omega) (by omega)) ?_
        refine vd3_op rfl rfl ?_
        refine vl_storeSl (A := some ⟨g, 0, none⟩) (vs := icells .i64 L) rfl rfl .none rfl rfl Try.sizeOf3 rfl (by simp [Value.cells]) (by repeat (first | exact .head | apply In.tail | apply Take.tail | apply Upd.tail)) (by rw [icells_length]; show Int.toNat (j : Int) * 1 + 1 ≤ _; omega) ?_
        rw [laid_i (j := j) (by omega) (by omega)]
        refine vl_nil ?_
        refine ⟨fun h => (by cases h), ?_⟩
        refine vd3_op rfl rfl ?_
        refine vl_val rfl (.some rfl) (val_indexAddrA Try.runUnderlying35 Try.sizeOf3 rfl rfl (by omega) (by omega)) ?_
        refine vl_nil ?_
        refine ⟨fun h => (by cases h), ?_⟩
        refine vd3_op rfl rfl ?_
        refine vl_storeSl (A := some ⟨g, 0, none⟩) (vs := icells .i64 (L.set j (L.getD (j - 1) 0))) rfl rfl .none rfl rfl Try.sizeOf3 rfl (by simp [Value.cells]) (by repeat (first | exact .head | apply In.tail | apply Take.tail | apply Upd.tail)) (by rw [icells_length, List.length_set]; show Int.toNat ((j - 1 : Nat) : Int) * 1 + 1 ≤ _; omega) ?_
        rw [laid_i (j := j - 1) (by omega) (by rw [List.length_set]; omega)]
        refine vl_nil ?_
        refine ⟨fun h => (by cases h), ?_⟩
        refine vd3_nil ?_
        refine vc_region ?_
        refine vl_val rfl (.some rfl) (val_move rfl) ?_
        refine vl_val rfl (.some rfl) (val_sub rfl rfl (show _ = ((j - 1 : Nat) : Int) by rw [w_i64 (by omega) (by omega)]; omega)) ?_
        refine vl_val rfl (.some rfl) (val_assign rfl) ?_
        refine vl_nil ?_
        exact ⟨(j - 1), _, _, _, by omega, (by repeat (first | exact trivial | refine ⟨rfl, ?_⟩ | refine ⟨le_item rfl (by first | rfl | (congr 1; omega) | (simp; done) | (simp; omega)), ?_⟩)), (by repeat (first | exact .nil | (apply Sub.cons; · repeat (first | exact .head | apply Take.tail)))), ⟨j - 1, _, (swap_perm (by omega) (by omega)).trans hp, by simp [hLl], rfl, ins_swap hs2 (by omega) hji (by omega) (by omega), by omega, rfl, rfl⟩⟩
      · (try replace hc1 := of_decide_eq_false hc1)
        refine vc_exit ?_
        refine vc_region ?_
        refine vl_val rfl (.some rfl) (val_move rfl) ?_
        refine vl_val rfl (.some rfl) (val_add rfl rfl (show _ = ((i + 1 : Nat) : Int) by rw [w_i64 (by omega) (by omega)]; omega)) ?_
        refine vl_val rfl (.some rfl) (val_assign rfl) ?_
        refine vl_nil ?_
        first
          | exact ⟨(l.length + 1 - (i + 1)), _, _, _, by omega, (by repeat (first | exact trivial | refine ⟨rfl, ?_⟩ | refine ⟨le_item rfl (by first | rfl | (congr 1; omega) | (simp; done) | (simp; omega)), ?_⟩)), (by repeat (first | exact .nil | (apply Sub.cons; · repeat (first | exact .head | apply Take.tail)))), ⟨i + 1, L, hp, hLl, rfl, ins_end00 hs2 (by omega), by omega, rfl, rfl⟩⟩
          | exact ⟨(l.length + 1 - (i + 1)), _, _, _, by omega, (by repeat (first | exact trivial | refine ⟨rfl, ?_⟩ | refine ⟨le_item rfl (by first | rfl | (congr 1; omega) | (simp; done) | (simp; omega)), ?_⟩)), (by repeat (first | exact .nil | (apply Sub.cons; · repeat (first | exact .head | apply Take.tail)))), ⟨i + 1, L, hp, hLl, rfl, ins_end hs2 hji (by omega), by omega, rfl, rfl⟩⟩
    · (try replace hg19 := of_decide_eq_false hg19)
      refine vd_off rfl rfl rfl rfl rfl rfl (.some rfl) ?_
      refine vd_off rfl rfl rfl rfl rfl rfl (.some rfl) ?_
      refine vd_off rfl rfl rfl rfl rfl rfl (.some rfl) ?_
      refine vd_off rfl rfl rfl rfl rfl rfl (.some rfl) ?_
      refine vd_off rfl rfl rfl rfl rfl rfl (.some rfl) ?_
      refine vd_off rfl rfl rfl rfl rfl rfl (.some rfl) ?_
      refine vd_off rfl rfl rfl rfl rfl rfl (.some rfl) ?_
      refine vd_off rfl rfl rfl rfl rfl rfl (.some rfl) ?_
      refine vd_off rfl rfl rfl rfl rfl rfl (.some rfl) ?_
      refine vd_op rfl rfl ?_
      refine vl_off rfl rfl rfl rfl (.some rfl) ?_
      refine vl_nil ?_
      refine ⟨fun _ => ⟨_, (by repeat (first | exact .nil | (apply Sub.cons; · repeat (first | exact .head | apply Take.tail))))⟩, ?_⟩
      refine vd_val rfl rfl rfl (.some rfl) (val_pick rfl rfl) ?_
      refine vd_nil ?_
      refine vc_cond rfl (fun h => by cases h) (fun _ => ?_)
      refine vc_exit ?_
      refine vc_region ?_
      refine vl_val rfl (.some rfl) (val_move rfl) ?_
      refine vl_val rfl (.some rfl) (val_add rfl rfl (show _ = ((i + 1 : Nat) : Int) by rw [w_i64 (by omega) (by omega)]; omega)) ?_
      refine vl_val rfl (.some rfl) (val_assign rfl) ?_
      refine vl_nil ?_
      first
        | exact ⟨(l.length + 1 - (i + 1)), _, _, _, by omega, (by repeat (first | exact trivial | refine ⟨rfl, ?_⟩ | refine ⟨le_item rfl (by first | rfl | (congr 1; omega) | (simp; done) | (simp; omega)), ?_⟩)), (by repeat (first | exact .nil | (apply Sub.cons; · repeat (first | exact .head | apply Take.tail)))), ⟨i + 1, L, hp, hLl, rfl, ins_end00 hs2 (by omega), by omega, rfl, rfl⟩⟩
        | exact ⟨(l.length + 1 - (i + 1)), _, _, _, by omega, (by repeat (first | exact trivial | refine ⟨rfl, ?_⟩ | refine ⟨le_item rfl (by first | rfl | (congr 1; omega) | (simp; done) | (simp; omega)), ?_⟩)), (by repeat (first | exact .nil | (apply Sub.cons; · repeat (first | exact .head | apply Take.tail)))), ⟨i + 1, L, hp, hLl, rfl, ins_end hs2 hji (by omega), by omega, rfl, rfl⟩⟩
  · (try replace hc0 := of_decide_eq_false hc0)
    refine vc_exit ?_
    refine ⟨_, [IW (some ⟨g, 0, none⟩) l.length c L], _, res0 Try.results113, (by repeat (first | exact .nil | (apply Sub.cons; · repeat (first | exact .head | apply Take.tail)))), ?_⟩
    exact ⟨L, hp, fun p q h1 h2 => hs p q h1 (by omega), by rw [hLl]⟩
set_option maxRecDepth 20000 in
theorem sPdq (g c : Nat) (l : List Int) (q : Int) (hl : l.length ≤ 12) (w : World) : Fn Try.prog 95 [.slice (some ⟨g, 0, none⟩) l.length c, .int .i64 0, .int .i64 l.length, .int .i64 q] [IW (some ⟨g, 0, none⟩) l.length c l] (ret fun u H' => ∃ L : List Int, L.Perm l ∧ SrtG L L.length ∧ H' = [IW (some ⟨g, 0, none⟩) L.length c L]) w := by
  refine fn_enter Try.func95 rfl Try.ntmps95 rfl ?_
  refine vc_seq ?_
  refine vc_region ?_
  refine vl_val rfl (.some rfl) (val_assign rfl) ?_
  refine vl_nil ?_
  refine vc_seq ?_
  refine vc_region ?_
  refine vl_val rfl (.some rfl) (val_assign rfl) ?_
  refine vl_nil ?_
  refine vc_block ?_
  refine vc_loopw (fun m E H => E = [(0, .slice (some ⟨g, 0, none⟩) l.length c), (1, .int .i64 0), (2, .int .i64 l.length)] ∧ H = [IW (some ⟨g, 0, none⟩) l.length c l]) (0) ⟨_, _, _, ⟨rfl, rfl⟩, (by repeat (first | exact trivial | refine ⟨rfl, ?_⟩ | refine ⟨le_item rfl (by first | rfl | (congr 1; omega) | (simp; done) | (simp; omega)), ?_⟩)), (by repeat (first | exact .nil | (apply Sub.cons; · repeat (first | exact .head | apply Take.tail))))⟩ ?_
  intro m E H hI
  obtain ⟨rfl, rfl⟩ := hI
  refine vc_block ?_
  refine vc_seq ?_
  refine vc_region ?_
  refine vl_val rfl (.some rfl) (val_move rfl) ?_
  refine vl_val rfl (.some rfl) (val_move rfl) ?_
  refine vl_val rfl (.some rfl) (val_sub rfl rfl (by first | exact w_i64 (by omega) (by omega) | rfl)) ?_
  refine vl_val rfl (.some rfl) (val_assign rfl) ?_
  refine vl_nil ?_
  refine vc_seq ?_
  refine vc_seq ?_
  refine vc_region ?_
  refine vl_val rfl (.some rfl) (val_move rfl) ?_
  refine vl_val rfl (.some rfl) (val_le rfl rfl) ?_
  refine vl_nil ?_
  refine vc_cond rfl (fun hc0 => ?_) (fun hc0 => False.elim (by (try replace hc0 := of_decide_eq_false hc0); omega))
  (try replace hc0 := of_decide_eq_true hc0)
  refine vc_seq ?_
  refine vc_region ?_
  refine vl_val rfl (.some rfl) (val_move rfl) ?_
  refine vl_val rfl (.some rfl) (val_move rfl) ?_
  refine vl_val rfl (.some rfl) (val_move rfl) ?_
  refine vl_call (C := [IW (some ⟨g, 0, none⟩) l.length c l]) rfl rfl (.some rfl) Try.call113 rfl (by repeat (first | exact .nil | (apply Sub.cons; · repeat (first | exact .head | apply Take.tail)))) (fun w hw => sInsort g c l (by omega) w) (fun v H' h => ?_)
  obtain ⟨L, hLp, hLs, rfl⟩ := h
  show VL _ _ _ _ _ (_ :: _)
  refine vl_nil ?_
  refine vc_ret ?_
  refine ⟨_, [IW (some ⟨g, 0, none⟩) L.length c L], _, res0 Try.results95, (by repeat (first | exact .nil | (apply Sub.cons; · repeat (first | exact .head | apply Take.tail)))), ?_⟩
  exact ⟨L, hLp, hLs, rfl⟩
set_option maxRecDepth 20000 in
theorem sSort (g c : Nat) (l : List Int) (hl : l.length ≤ 12) (w : World) : Fn Try.prog 58 [.slice (some ⟨g, 0, none⟩) l.length c] [IW (some ⟨g, 0, none⟩) l.length c l] (ret fun u H' => ∃ L : List Int, L.Perm l ∧ SrtG L L.length ∧ H' = [IW (some ⟨g, 0, none⟩) L.length c L]) w := by
  refine fn_enter Try.func58 rfl Try.ntmps58 rfl ?_
  refine vc_seq ?_
  refine vc_region ?_
  refine vl_val rfl (.some rfl) (val_move rfl) ?_
  refine vl_val rfl (.some rfl) (val_lenSl Try.runUnderlying35 rfl) ?_
  refine vl_val rfl (.some rfl) (val_assign rfl) ?_
  refine vl_nil ?_
  refine vc_region ?_
  refine vl_val rfl (.some rfl) (val_move rfl) ?_
  refine vl_val rfl (.some rfl) (val_move rfl) ?_
  refine vl_val rfl (.some rfl) (val_move rfl) ?_
  refine vl_val rfl (.some rfl) (val_convInt Try.runUnderlying3 Try.runUnderlying39 rfl (wN (by omega))) ?_
  refine vl_callV rfl rfl (.some rfl) Try.call96 rfl (fun w hw => bLen l.length (by omega) w) ?_
  refine vl_call (C := [IW (some ⟨g, 0, none⟩) l.length c l]) rfl rfl (.some rfl) Try.call95 rfl (by repeat (first | exact .nil | (apply Sub.cons; · repeat (first | exact .head | apply Take.tail)))) (fun w hw => sPdq g c l _ hl w) (fun v H' h => ?_)
  obtain ⟨L, hLp, hLs, rfl⟩ := h
  show VL _ _ _ _ _ (_ :: _)
  refine vl_nil ?_
  refine ⟨_, [IW (some ⟨g, 0, none⟩) L.length c L], _, res0 Try.results58, (by repeat (first | exact .nil | (apply Sub.cons; · repeat (first | exact .head | apply Take.tail)))), ?_⟩
  exact ⟨L, hLp, hLs, rfl⟩
set_option maxRecDepth 20000 in
theorem kEstimate (k : Sk) (ht1 : 0 < k.t) (ht : k.t ≤ 1000) (hSL : k.S.length = k.L.length) (hn : k.L.length ≤ 7) (hg : GoodV k.t (vals k.L)) (h1 : 0 < k.L.length) (hb : ∀ j, j < (vals k.L).length → ∀ x ∈ (vals k.L).getD j [], x < 18446744073709551616) (w : World) : Fn Try.prog 19 [kp k] (KH k) (ret fun u H' => u = .int .i64 (midI (ansV k.t (vals k.L))) ∧ H' = KH k) w := by
  have hvl := vals_len k.L
  obtain ⟨l, hl⟩ : ∃ l, ansV k.t (vals k.L) = l := ⟨_, rfl⟩
  have hll : l.length = k.L.length := by rw [← hl, ansV_len, hvl]
  rw [hl]
  refine fn_enter Try.func19 rfl Try.ntmps19 rfl ?_
  refine vc_seq ?_
  refine vc_region ?_
  refine vl_val rfl (.some rfl) (val_assign rfl) ?_
  refine vl_nil ?_
  refine vc_seq ?_
  refine vc_region ?_
  refine vl_val rfl (.some rfl) (val_move rfl) ?_
  refine vl_call (C := KH k) rfl rfl (.some rfl) Try.call18 rfl (by repeat (first | exact .nil | (apply Sub.cons; · repeat (first | exact .head | apply Take.tail)))) (fun w hw => kAnswers k ht1 ht hSL hn hg hb w) (fun v H' h => ?_)
  rw [hl] at h
  obtain ⟨A5, c5, rfl, rfl⟩ := h
  show VL _ _ _ _ _ (_ :: _ :: _ :: _ :: _)
  refine vl_slSome (A := A5) (n := l.length) (c := c5) (sz := 1) (e := 3) (vs := icells .i64 l) (by repeat (first | exact .head | apply In.tail | apply Take.tail | apply Upd.tail)) (by omega) (fun g hA hnc => ?_)
  subst hA
  refine vl_val rfl (.some rfl) (val_assign rfl) ?_
  refine vl_nil ?_
  refine vc_seq ?_
  refine vc_seq ?_
  refine vc_region ?_
  refine vl_val rfl (.some rfl) (val_move rfl) ?_
  refine vl_val rfl (.some rfl) (val_lenSl Try.runUnderlying35 rfl) ?_
  refine vl_val rfl (.some rfl) (val_eq rfl rfl) ?_
  refine vl_nil ?_
  refine vc_cond rfl (fun hc0 => False.elim (by (try replace hc0 := of_decide_eq_true hc0); omega)) (fun hc0 => ?_)
  (try replace hc0 := of_decide_eq_false hc0)
  refine vc_skip ?_
  refine vc_seq ?_
  refine vc_region ?_
  refine vl_val rfl (.some rfl) (val_move rfl) ?_
  refine vl_call (C := [IW (some ⟨g, 0, none⟩) l.length c5 l]) rfl rfl (.some rfl) Try.call58 rfl (by repeat (first | exact .nil | (apply Sub.cons; · repeat (first | exact .head | apply Take.tail)))) (fun w hw => sSort g c5 l (by omega) w) (fun v H' h => ?_)
  obtain ⟨L, hLp, hLs, rfl⟩ := h
  show VL _ _ _ _ _ (_ :: _)
  have hLl := hLp.length_eq
  refine vl_nil ?_
  refine vc_seq ?_
  refine vc_region ?_
  refine vl_val rfl (.some rfl) (val_move rfl) ?_
  refine vl_val rfl (.some rfl) (val_move rfl) ?_
  refine vl_val rfl (.some rfl) (val_lenSl Try.runUnderlying35 rfl) ?_
  refine vl_val rfl (.some rfl) (val_quo rfl rfl (by omega) (show _ = ((l.length / 2 : Nat) : Int) by rw [quo_nn (by omega) (w_i64 (by omega) (by omega))]; omega)) ?_
  refine vl_val rfl (.some rfl) (val_indexAddr Try.runUnderlying35 Try.sizeOf3 rfl rfl (rd_sl (A := some ⟨g, 0, none⟩) (vs := icells .i64 L) (by repeat (first | exact .head | apply In.tail | apply Take.tail | apply Upd.tail))) (by omega) (by omega) (by rw [icells_length]; show l.length / 2 * 1 < _; omega)) ?_
  refine vl_val rfl (.some rfl) (val_load Try.isAgg3 rfl (cell_rd (rd_sl (A := some ⟨g, 0, none⟩) (vs := icells .i64 L) (by repeat (first | exact .head | apply In.tail | apply Take.tail | apply Upd.tail))) (icells_at (i := l.length / 2) (by omega)))) ?_
  refine vl_val rfl (.some rfl) (val_assign rfl) ?_
  refine vl_nil ?_
  refine vc_ret ?_
  refine ⟨_, KH k, _, res1 Try.results19 rfl, (by repeat (first | exact .nil | (apply Sub.cons; · repeat (first | exact .head | apply Take.tail)))), ?_⟩
  exact ⟨by rw [midI_perm hLp hLs (by omega), hLl], rfl⟩
set_option maxRecDepth 20000 in
theorem kCopy (k : Sk) (ht1 : 0 < k.t) (ht : k.t ≤ 1000) (hSL : k.S.length = k.L.length) (hn : k.L.length ≤ 7) (hg : GoodV k.t (vals k.L)) (w : World) : Fn Try.prog 28 [kp k] (KH k) (ret fun u H' => ∃ k2 : Sk, u = kp k2 ∧ k2.t = k.t ∧ k2.As = k.As ∧ k2.cs = k.cs ∧ k2.S = k.S ∧ vals k2.L = vals k.L ∧ H' = KH k ++ KH k2) w := by
  refine fn_enter Try.func28 rfl Try.ntmps28 rfl ?_
  refine vc_seq ?_
  refine vc_region ?_
  refine vl_val rfl (.some rfl) (val_assign rfl) ?_
  refine vl_nil ?_
  refine vc_seq ?_
  refine vc_seq ?_
  refine vc_region ?_
  refine vl_val rfl (.some rfl) (val_move rfl) ?_
  refine vl_callR [SKc k] rfl rfl (.some rfl) Try.call53 rfl (by repeat (first | exact .nil | (apply Sub.cons; · repeat (first | exact .head | apply Take.tail)))) (fun w hw => kMade k.b k.t k.As k.S.length k.cs k.Ac k.L.length k.cc ht1 w) ?_
  refine vl_val rfl (.some rfl) (val_not rfl) ?_
  refine vl_nil ?_
  refine vc_cond rfl (fun h => by cases h) (fun _ => ?_)
  refine vc_skip ?_
  refine vc_seq ?_
  refine vc_drawsS [0, 1, 2, 3, 4, 5, 6, 7, 8, 10, 12] [] [0, 1, 2, 3, 4, 5, 6, 7, 8, 9, 10, 11, 12] (KH k) (by repeat (first | exact .nil | (apply Sub.cons; · repeat (first | exact .head | apply Take.tail)))) rfl (by kernel_rfl) (fun _ _ _ h => h) ?_
  refine vd_val rfl rfl rfl (.some rfl) (val_move rfl) ?_
  refine vd_val rfl rfl rfl (.some rfl) (val_nil rfl rfl) ?_
  refine vd_val rfl rfl rfl (.some rfl) (by first | exact val_fieldAddr Try.runUnderlying57 rfl Try.sizeOf3 rfl | exact val_fieldAddrR Try.runUnderlying57 rfl Try.sizeOf3 rfl) ?_
  refine vd_val rfl rfl rfl (.some rfl) (val_load Try.isAgg3 rfl (by first | exact cell_cells (by repeat (first | exact .head | apply In.tail | apply Take.tail | apply Upd.tail)) rfl | exact cell_rd (rd_sl (by repeat (first | exact .head | apply In.tail | apply Take.tail | apply Upd.tail))) (by first | exact bcells_at (by omega) | exact ucells_at (by omega) | exact icells_at (by omega) | exact tcells_at (by omega) | exact bcells_get (by omega) | exact icells_get (by omega) | exact tcells_get (by omega) | exact ucells_get (by omega)) | exact cell_rd (rd_old (by assumption) rfl) (by first | exact bcells_at (by omega) | exact ucells_at (by omega) | exact icells_at (by omega) | exact tcells_at (by omega) | exact bcells_get (by omega) | exact icells_get (by omega) | exact tcells_get (by omega) | exact ucells_get (by omega)) | exact cell_old (by assumption) (by simp [fps]))) ?_
  refine vd_val rfl rfl rfl (.some rfl) (val_move rfl) ?_
  refine vd_val rfl rfl rfl (.some rfl) (val_nil rfl rfl) ?_
  refine vd_val rfl rfl rfl (.some rfl) (by first | exact val_fieldAddr Try.runUnderlying57 rfl Try.sizeOf22 rfl | exact val_fieldAddrR Try.runUnderlying57 rfl Try.sizeOf22 rfl) ?_
  refine vd_val rfl rfl rfl (.some rfl) (val_load Try.isAgg22 rfl (by first | exact cell_cells (by repeat (first | exact .head | apply In.tail | apply Take.tail | apply Upd.tail)) rfl | exact cell_rd (rd_sl (by repeat (first | exact .head | apply In.tail | apply Take.tail | apply Upd.tail))) (by first | exact bcells_at (by omega) | exact ucells_at (by omega) | exact icells_at (by omega) | exact tcells_at (by omega) | exact bcells_get (by omega) | exact icells_get (by omega) | exact tcells_get (by omega) | exact ucells_get (by omega)) | exact cell_rd (rd_old (by assumption) rfl) (by first | exact bcells_at (by omega) | exact ucells_at (by omega) | exact icells_at (by omega) | exact tcells_at (by omega) | exact bcells_get (by omega) | exact icells_get (by omega) | exact tcells_get (by omega) | exact ucells_get (by omega)) | exact cell_old (by assumption) (by simp [fps]))) ?_
  refine vd_val rfl rfl rfl (.some rfl) (val_move rfl) ?_
  refine vd_op rfl rfl ?_
  refine vl_call (C := KH k) rfl rfl (.some rfl) Try.call17 rfl (by repeat (first | exact .nil | (apply Sub.cons; · repeat (first | exact .head | apply Take.tail)))) (fun w hw => kCopies k ht1 ht hSL hn hg w) (fun v H' h => ?_)
  obtain ⟨A15, c15, D, rfl, hD, rfl⟩ := h
  show VL _ _ _ _ _ (_ :: _ :: _ :: _ :: _ :: _)
  refine vl_nil ?_
  refine ⟨fun _ => ⟨_, (by repeat (first | exact .nil | (apply Sub.cons; · repeat (first | exact .head | apply Take.tail))))⟩, ?_⟩
  refine vd_val rfl rfl rfl (.some rfl) (val_buildSt (pl := #[(0, 1), (1, 1), (2, 1)]) (cs := #[.int .i64 (k.t : Nat), .slice k.As k.S.length k.cs, .slice A15 D.length c15]) Try.runUnderlying57 Try.zeroValue57 (fun w => by kernel_rfl) rfl rfl) ?_
  refine vd_op rfl rfl ?_
  refine vl_box rfl rfl (.some rfl) rfl (fun r17 => ?_)
  refine vl_nil ?_
  refine ⟨fun _ => ⟨_, (by repeat (first | exact .nil | (apply Sub.cons; · repeat (first | exact .head | apply Take.tail))))⟩, ?_⟩
  refine vd_val rfl rfl rfl (.some rfl) (val_assign rfl) ?_
  refine vd_nil ?_
  refine vc_ret ?_
  refine ⟨_, KH k ++ KH ⟨r17, k.t, k.As, k.cs, k.S, A15, c15, D⟩, _, res1 Try.results28 rfl, (by repeat (first | exact .nil | (apply Sub.cons; · repeat (first | exact .head | apply Take.tail)))), ?_⟩
  exact ⟨⟨r17, k.t, k.As, k.cs, k.S, A15, c15, D⟩, rfl, rfl, rfl, rfl, rfl, hD, rfl⟩

end Go.Proofs.Ytclknendeeljaaa.K
