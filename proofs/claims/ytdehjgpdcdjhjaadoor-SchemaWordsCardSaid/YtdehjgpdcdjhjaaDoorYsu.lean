/- Walks of the program's functions, printed by a program of this session; Lean checks them. -/
import Derived.Test.YtdehjgpdcdjhjaaDoorYsr
namespace Go.Proofs.YtdehjgpdcdjhjaaDoor.K
open Go Go.RowKit Go.Proofs
set_option linter.unusedVariables false
set_option linter.unusedSimpArgs false


def w21 : List (List UInt8) := [[115, 101, 108, 101, 99, 116], [102, 114, 111, 109], [119, 104, 101, 114, 101], [103, 114, 111, 117, 112], [98, 121], [104, 97, 118, 105, 110, 103], [111, 114, 100, 101, 114], [108, 105, 109, 105, 116], [97, 115], [97, 110, 100], [111, 114], [110, 111, 116], [105, 115], [110, 117, 108, 108], [116, 114, 117, 101], [102, 97, 108, 115, 101], [97, 115, 99], [100, 101, 115, 99], [110, 97, 110], [105, 110, 102], []]
theorem w21_all : ((List.range 21).all fun i => !decide (nameP (w21.getD i [])) && decide (nameP (w21.getD i [] ++ [122])) && decide ((w21.getD i []).length ≤ 10)) = true := by decide +kernel
theorem w21_is {i : Nat} (h : i < 21) : ¬ nameP (w21.getD i []) ∧ nameP (w21.getD i [] ++ [122]) ∧ (w21.getD i []).length ≤ 10 := by
  have := List.all_eq_true.1 w21_all i (List.mem_range.2 h)
  simp only [Bool.and_eq_true, Bool.not_eq_true', decide_eq_false_iff_not, decide_eq_true_eq] at this
  exact ⟨this.1.1, this.1.2, this.2⟩
theorem w21_len : w21.length = 21 := by decide
theorem w21_at {i : Nat} (h : i < 21) : (tcS w21).toArray[Int.toNat (i : Int)]? = some (.string (sL (w21.getD i []))) := by
  have := tcS_at (ws := w21) (i := i) (by rw [w21_len]; exact h)
  rw [Nat.mul_one] at this
  simpa using this
theorem name_nine {l : List UInt8} (h : nameP l) (h16 : ¬ l.length = 16) : nameP (l ++ [57]) ∨ l ++ [57] ∈ wordsL := by
  by_cases hw : l ++ [57] ∈ wordsL
  · exact .inr hw
  · obtain ⟨⟨h1, h2⟩, h3, h4, h5⟩ := h
    refine .inl ⟨by rw [List.length_append, List.length_singleton]; omega, ?_, fun j hj => ?_, hw⟩
    · have e : (l ++ [57]).getD 0 0 = l.getD 0 0 := by
        show ((l ++ [57])[0]?).getD 0 = (l[0]?).getD 0
        rw [List.getElem?_append_left (by omega)]
      rw [e]; exact h3
    · rw [List.length_append, List.length_singleton] at hj
      rcases Nat.lt_or_ge j l.length with h | h
      · have e : (l ++ [57]).getD j 0 = l.getD j 0 := by
          show ((l ++ [57])[j]?).getD 0 = (l[j]?).getD 0
          rw [List.getElem?_append_left h]
        rw [e]; exact h4 j h
      · obtain rfl : j = l.length := by omega
        have e : (l ++ [57]).getD l.length 0 = 57 := by simp [List.getD]
        rw [e]; decide

set_option maxRecDepth 20000 in
set_option maxHeartbeats 2000000 in
theorem xWords (l : List UInt8) (hlb : l.length < 9223372036854775808) (w : World) : FnV Tryd.prog 5 [.string (sL l)] (.bool true) w := by
  have hsz := sL_size l
  refine fn_enter Tryd.func5 rfl Tryd.ntmps5 rfl ?_
  refine vc_seq ?_
  refine vc_region ?_
  refine vl_val rfl (.some rfl) (val_assign rfl) ?_
  refine vl_nil ?_
  refine vc_seq ?_
  refine vc_seq ?_
  refine vc_region ?_
  refine vl_val rfl (.some rfl) (val_buildArr (sz := 1) (n := 21) (cs := (tcS w21).toArray) Tryd.runUnderlying39 Tryd.zeroValue39 Tryd.sizeOf9 rfl rfl) ?_
  refine vl_val rfl (.some rfl) (val_move rfl) ?_
  refine vl_nil ?_
  refine vc_block ?_
  refine vc_loopw (fun m E H => ∃ i : Nat, i ≤ 21 ∧ m = 21 - i ∧ E = [(0, .string (sL l)), (6, .agg (tcS w21).toArray), (7, .int .i64 i)] ∧ H = []) (21) ⟨_, _, _, ⟨0, by omega, rfl, rfl, rfl⟩, (by repeat (first | exact trivial | refine ⟨rfl, ?_⟩ | refine ⟨le_item rfl (by first | rfl | (congr 1; omega) | (simp; done) | (simp; omega)), ?_⟩)), (by repeat (first | exact .nil | (apply Sub.cons; · repeat (first | exact .head | apply Take.tail))))⟩ ?_
  intro m E H hI
  obtain ⟨i, hi, rfl, rfl, rfl⟩ := hI
  refine vc_seq ?_
  refine vc_region ?_
  refine vl_val rfl (.some rfl) (val_lt rfl rfl) ?_
  refine vl_nil ?_
  refine vc_seq ?_
  refine vc_cond rfl (fun hc0 => ?_) (fun hc0 => ?_)
  · (try replace hc0 := of_decide_eq_true hc0)
    refine vc_skip ?_
    refine vc_seq ?_
    refine vc_block ?_
    refine vc_seq ?_
    refine vc_region ?_
    refine vl_val rfl (.some rfl) (val_indexArr Tryd.runUnderlying39 Tryd.isAgg9 Tryd.sizeOf9 rfl rfl (by omega) (by omega) (w21_at (by omega))) ?_
    refine vl_val rfl (.some rfl) (val_assign rfl) ?_
    refine vl_nil ?_
    refine vc_seq ?_
    refine vc_region ?_
    refine vl_val rfl (.some rfl) (val_move rfl) ?_
    obtain ⟨hw1, hw2, hw3⟩ := w21_is (show i < 21 by omega)
    refine vl_callV rfl rfl (.some rfl) Tryd.call9 rfl (fun w hw => sName (w21.getD i []) (by omega) w) ?_
    rw [decide_eq_false hw1]
    refine vl_val rfl (.some rfl) (val_move rfl) ?_
    refine vl_on rfl rfl rfl rfl ?_
    refine vl_val rfl (.some rfl) (val_move rfl) ?_
    refine vl_on rfl rfl rfl rfl ?_
    refine vl_val rfl (.some rfl) (val_cat (s := sL (w21.getD i [])) (t := sL [122]) rfl rfl (by rw [sL_size, sL_size]; simp only [List.length_singleton]; omega)) ?_
    rw [sL_cat]
    refine vl_on rfl rfl rfl rfl ?_
    refine vl_callV rfl rfl (.some rfl) Tryd.call9 rfl (fun w hw => sName (w21.getD i [] ++ [122]) (by rw [List.length_append]; simp only [List.length_singleton]; omega) w) ?_
    rw [decide_eq_true hw2]
    refine vl_on rfl rfl rfl rfl ?_
    refine vl_val rfl (.some rfl) (val_not rfl) ?_
    refine vl_val rfl (.some rfl) (val_pick rfl rfl) ?_
    refine vl_nil ?_
    refine vc_cond rfl (fun h => by cases h) (fun _ => ?_)
    refine vc_skip ?_
    refine vc_region ?_
    refine vl_val rfl (.some rfl) (val_add rfl rfl (by first | exact w_i64 (by omega) (by omega) | rfl)) ?_
    refine vl_val rfl (.some rfl) (val_move rfl) ?_
    refine vl_nil ?_
    exact ⟨(21 - (i + 1)), _, _, _, by omega, (by repeat (first | exact trivial | refine ⟨rfl, ?_⟩ | refine ⟨le_item rfl (by first | rfl | (congr 1; omega) | (simp; done) | (simp; omega)), ?_⟩)), (by repeat (first | exact .nil | (apply Sub.cons; · repeat (first | exact .head | apply Take.tail)))), ⟨i + 1, by omega, rfl, rfl, rfl⟩⟩
  · (try replace hc0 := of_decide_eq_false hc0)
    refine vc_exit ?_
    refine vc_seq ?_
    refine vc_seq ?_
    refine vc_region ?_
    refine vl_val rfl (.some rfl) (val_move rfl) ?_
    refine vl_val rfl (.some rfl) (val_lenStr Tryd.runUnderlying9 rfl) ?_
    refine vl_val rfl (.some rfl) (val_gt rfl rfl) ?_
    refine vl_nil ?_
    refine vc_cond rfl (fun hc2 => ?_) (fun hc2 => ?_)
    · (try replace hc2 := of_decide_eq_true hc2)
      refine vc_seq ?_
      refine vc_region ?_
      refine vl_callV rfl rfl (.some rfl) Tryd.call8 rfl (fun w hw => xLives w) ?_
      refine vl_val rfl (.some rfl) (val_assign rfl) ?_
      refine vl_nil ?_
      refine vc_ret ?_
      refine ⟨_, [], _, res1 Tryd.results5 rfl, .nil, ?_⟩
      rfl
    · (try replace hc2 := of_decide_eq_false hc2)
      refine vc_skip ?_
      refine vc_seq ?_
      refine vc_seq ?_
      refine vc_region ?_
      refine vl_val rfl (.some rfl) (val_move rfl) ?_
      refine vl_val rfl (.some rfl) (val_lenStr Tryd.runUnderlying9 rfl) ?_
      refine vl_val rfl (.some rfl) (val_move rfl) ?_
      refine vl_nil ?_
      refine vc_block ?_
      rw [hsz]
      refine vc_loopw (fun m E H => ∃ i : Nat, i ≤ l.length ∧ m = l.length - i ∧ E = [(0, .string (sL l)), (24, .int .i64 l.length), (25, .int .i64 i)] ∧ H = []) (l.length) ⟨_, _, _, ⟨0, by omega, rfl, rfl, rfl⟩, (by repeat (first | exact trivial | refine ⟨rfl, ?_⟩ | refine ⟨le_item rfl (by first | rfl | (congr 1; omega) | (simp; done) | (simp; omega)), ?_⟩)), (by repeat (first | exact .nil | (apply Sub.cons; · repeat (first | exact .head | apply Take.tail))))⟩ ?_
      intro m E H hI
      obtain ⟨i, hi, rfl, rfl, rfl⟩ := hI
      have hbt : bt (sL l) (Int.toNat (i : Int)) = (l.getD i 0).toNat := by rw [Int.toNat_natCast, bt_sL]
      refine vc_seq ?_
      refine vc_region ?_
      refine vl_val rfl (.some rfl) (val_lt rfl rfl) ?_
      refine vl_nil ?_
      refine vc_seq ?_
      refine vc_cond rfl (fun hc3 => ?_) (fun hc3 => ?_)
      · (try replace hc3 := of_decide_eq_true hc3)
        refine vc_skip ?_
        refine vc_seq ?_
        refine vc_block ?_
        refine vc_seq ?_
        refine vc_region ?_
        refine vl_val rfl (.some rfl) (val_move rfl) ?_
        refine vl_val rfl (.some rfl) (val_assign rfl) ?_
        refine vl_nil ?_
        refine vc_seq ?_
        refine vc_region ?_
        refine vl_val rfl (.some rfl) (val_move rfl) ?_
        refine vl_val rfl (.some rfl) (val_move rfl) ?_
        refine vl_val rfl (.some rfl) (val_indexStr Tryd.runUnderlying9 rfl rfl (by omega) (by first | omega | (simp; omega))) ?_
        refine vl_val rfl (.some rfl) (val_ge rfl rfl) ?_
        refine vl_val rfl (.some rfl) (val_move rfl) ?_
        refine vl_split (t := 32) rfl (fun hg32 => ?_) (fun hg32 => ?_)
        · (try replace hg32 := of_decide_eq_true hg32)
          refine vl_on rfl rfl rfl rfl ?_
          refine vl_val rfl (.some rfl) (val_move rfl) ?_
          refine vl_on rfl rfl rfl rfl ?_
          refine vl_val rfl (.some rfl) (val_move rfl) ?_
          refine vl_on rfl rfl rfl rfl ?_
          refine vl_val rfl (.some rfl) (val_indexStr Tryd.runUnderlying9 rfl rfl (by omega) (by first | omega | (simp; omega))) ?_
          refine vl_on rfl rfl rfl rfl ?_
          refine vl_val rfl (.some rfl) (val_le rfl rfl) ?_
          refine vl_val rfl (.some rfl) (val_pick rfl rfl) ?_
          refine vl_val rfl (.some rfl) (val_move rfl) ?_
          refine vl_split (t := 38) rfl (fun hg38 => ?_) (fun hg38 => ?_)
          · (try replace hg38 := of_decide_eq_true hg38)
            refine vl_on rfl rfl rfl rfl ?_
            refine vl_val rfl (.some rfl) (val_move rfl) ?_
            refine vl_on rfl rfl rfl rfl ?_
            refine vl_callV rfl rfl (.some rfl) Tryd.call9 rfl (fun w hw => sName l (by omega) w) ?_
            refine vl_val rfl (.some rfl) (val_pick rfl rfl) ?_
            refine vl_nil ?_
            refine vc_cond rfl (fun hc4 => ?_) (fun hc4 => ?_)
            · (try replace hc4 := of_decide_eq_true hc4)
              refine vc_seq ?_
              refine vc_region ?_
              refine vl_val rfl (.some rfl) (val_assign rfl) ?_
              refine vl_nil ?_
              refine vc_ret ?_
              refine ⟨_, [], _, res1 Tryd.results5 rfl, .nil, ?_⟩
              exfalso
              have h := (show nameP l by simpa using hc4).2.2.1 i (by omega)
              unfold okCh at h
              omega
            · (try replace hc4 := of_decide_eq_false hc4)
              refine vc_skip ?_
              refine vc_region ?_
              refine vl_val rfl (.some rfl) (val_add rfl rfl (by first | exact w_i64 (by omega) (by omega) | rfl)) ?_
              refine vl_val rfl (.some rfl) (val_move rfl) ?_
              refine vl_nil ?_
              exact ⟨(l.length - (i + 1)), _, _, _, by omega, (by repeat (first | exact trivial | refine ⟨rfl, ?_⟩ | refine ⟨le_item rfl (by first | rfl | (congr 1; omega) | (simp; done) | (simp; omega)), ?_⟩)), (by repeat (first | exact .nil | (apply Sub.cons; · repeat (first | exact .head | apply Take.tail)))), ⟨i + 1, by omega, rfl, rfl, rfl⟩⟩
          · (try replace hg38 := of_decide_eq_false hg38)
            refine vl_off rfl rfl rfl rfl (.some rfl) ?_
            refine vl_off rfl rfl rfl rfl (.some rfl) ?_
            refine vl_val rfl (.some rfl) (val_pick rfl rfl) ?_
            refine vl_nil ?_
            refine vc_cond rfl (fun h => by cases h) (fun _ => ?_)
            refine vc_skip ?_
            refine vc_region ?_
            refine vl_val rfl (.some rfl) (val_add rfl rfl (by first | exact w_i64 (by omega) (by omega) | rfl)) ?_
            refine vl_val rfl (.some rfl) (val_move rfl) ?_
            refine vl_nil ?_
            exact ⟨(l.length - (i + 1)), _, _, _, by omega, (by repeat (first | exact trivial | refine ⟨rfl, ?_⟩ | refine ⟨le_item rfl (by first | rfl | (congr 1; omega) | (simp; done) | (simp; omega)), ?_⟩)), (by repeat (first | exact .nil | (apply Sub.cons; · repeat (first | exact .head | apply Take.tail)))), ⟨i + 1, by omega, rfl, rfl, rfl⟩⟩
        · (try replace hg32 := of_decide_eq_false hg32)
          refine vl_off rfl rfl rfl rfl (.some rfl) ?_
          refine vl_off rfl rfl rfl rfl (.some rfl) ?_
          refine vl_off rfl rfl rfl rfl (.some rfl) ?_
          refine vl_off rfl rfl rfl rfl (.some rfl) ?_
          refine vl_val rfl (.some rfl) (val_pick rfl rfl) ?_
          refine vl_val rfl (.some rfl) (val_move rfl) ?_
          refine vl_off rfl rfl rfl rfl (.some rfl) ?_
          refine vl_off rfl rfl rfl rfl (.some rfl) ?_
          refine vl_val rfl (.some rfl) (val_pick rfl rfl) ?_
          refine vl_nil ?_
          refine vc_cond rfl (fun h => by cases h) (fun _ => ?_)
          refine vc_skip ?_
          refine vc_region ?_
          refine vl_val rfl (.some rfl) (val_add rfl rfl (by first | exact w_i64 (by omega) (by omega) | rfl)) ?_
          refine vl_val rfl (.some rfl) (val_move rfl) ?_
          refine vl_nil ?_
          exact ⟨(l.length - (i + 1)), _, _, _, by omega, (by repeat (first | exact trivial | refine ⟨rfl, ?_⟩ | refine ⟨le_item rfl (by first | rfl | (congr 1; omega) | (simp; done) | (simp; omega)), ?_⟩)), (by repeat (first | exact .nil | (apply Sub.cons; · repeat (first | exact .head | apply Take.tail)))), ⟨i + 1, by omega, rfl, rfl, rfl⟩⟩
      · (try replace hc3 := of_decide_eq_false hc3)
        refine vc_exit ?_
        refine vc_seq ?_
        refine vc_region ?_
        refine vl_val rfl (.some rfl) (val_move rfl) ?_
        refine vl_callV rfl rfl (.some rfl) Tryd.call9 rfl (fun w hw => sName l (by omega) w) ?_
        refine vl_val rfl (.some rfl) (val_not rfl) ?_
        refine vl_val rfl (.some rfl) (val_move rfl) ?_
        refine vl_split (t := 46) rfl (fun hg46 => ?_) (fun hg46 => ?_)
        · (try replace hg46 := of_decide_eq_true hg46)
          refine vl_off rfl rfl rfl rfl (.some rfl) ?_
          refine vl_off rfl rfl rfl rfl (.some rfl) ?_
          refine vl_off rfl rfl rfl rfl (.some rfl) ?_
          refine vl_val rfl (.some rfl) (val_pick rfl rfl) ?_
          refine vl_val rfl (.some rfl) (val_move rfl) ?_
          refine vl_off rfl rfl rfl rfl (.some rfl) ?_
          refine vl_off rfl rfl rfl rfl (.some rfl) ?_
          refine vl_off rfl rfl rfl rfl (.some rfl) ?_
          refine vl_val rfl (.some rfl) (val_pick rfl rfl) ?_
          refine vl_val rfl (.some rfl) (val_move rfl) ?_
          refine vl_off rfl rfl rfl rfl (.some rfl) ?_
          refine vl_off rfl rfl rfl rfl (.some rfl) ?_
          refine vl_off rfl rfl rfl rfl (.some rfl) ?_
          refine vl_val rfl (.some rfl) (val_pick rfl rfl) ?_
          refine vl_val rfl (.some rfl) (val_move rfl) ?_
          refine vl_on rfl rfl rfl rfl ?_
          refine vl_callV rfl rfl (.some rfl) Tryd.call8 rfl (fun w hw => xLives w) ?_
          refine vl_val rfl (.some rfl) (val_pick rfl rfl) ?_
          refine vl_val rfl (.some rfl) (val_assign rfl) ?_
          refine vl_nil ?_
          refine vc_ret ?_
          refine ⟨_, [], _, res1 Tryd.results5 rfl, .nil, ?_⟩
          first | rfl | exact absurd (name_nine (by simpa using hg46) (by omega)) (by rintro (h | h); exact hg56 h; exact hg61 h)
        · (try replace hg46 := of_decide_eq_false hg46)
          refine vl_on rfl rfl rfl rfl ?_
          refine vl_val rfl (.some rfl) (val_move rfl) ?_
          refine vl_on rfl rfl rfl rfl ?_
          refine vl_val rfl (.some rfl) (val_lenStr Tryd.runUnderlying9 rfl) ?_
          refine vl_on rfl rfl rfl rfl ?_
          refine vl_val rfl (.some rfl) (val_eq rfl rfl) ?_
          refine vl_val rfl (.some rfl) (val_pick rfl rfl) ?_
          refine vl_val rfl (.some rfl) (val_move rfl) ?_
          refine vl_split (t := 51) rfl (fun hg51 => ?_) (fun hg51 => ?_)
          · (try replace hg51 := of_decide_eq_true hg51)
            refine vl_off rfl rfl rfl rfl (.some rfl) ?_
            refine vl_off rfl rfl rfl rfl (.some rfl) ?_
            refine vl_off rfl rfl rfl rfl (.some rfl) ?_
            refine vl_val rfl (.some rfl) (val_pick rfl rfl) ?_
            refine vl_val rfl (.some rfl) (val_move rfl) ?_
            refine vl_off rfl rfl rfl rfl (.some rfl) ?_
            refine vl_off rfl rfl rfl rfl (.some rfl) ?_
            refine vl_off rfl rfl rfl rfl (.some rfl) ?_
            refine vl_val rfl (.some rfl) (val_pick rfl rfl) ?_
            refine vl_val rfl (.some rfl) (val_move rfl) ?_
            refine vl_on rfl rfl rfl rfl ?_
            refine vl_callV rfl rfl (.some rfl) Tryd.call8 rfl (fun w hw => xLives w) ?_
            refine vl_val rfl (.some rfl) (val_pick rfl rfl) ?_
            refine vl_val rfl (.some rfl) (val_assign rfl) ?_
            refine vl_nil ?_
            refine vc_ret ?_
            refine ⟨_, [], _, res1 Tryd.results5 rfl, .nil, ?_⟩
            first | rfl | exact absurd (name_nine (by simpa using hg46) (by omega)) (by rintro (h | h); exact hg56 h; exact hg61 h)
          · (try replace hg51 := of_decide_eq_false hg51)
            refine vl_on rfl rfl rfl rfl ?_
            refine vl_val rfl (.some rfl) (val_move rfl) ?_
            refine vl_on rfl rfl rfl rfl ?_
            refine vl_val rfl (.some rfl) (val_cat (s := sL l) (t := sL [57]) rfl rfl (by rw [sL_size, sL_size]; simp only [List.length_singleton]; omega)) ?_
            rw [sL_cat]
            refine vl_on rfl rfl rfl rfl ?_
            refine vl_callV rfl rfl (.some rfl) Tryd.call9 rfl (fun w hw => sName (l ++ [57]) (by rw [List.length_append]; simp only [List.length_singleton]; omega) w) ?_
            refine vl_val rfl (.some rfl) (val_pick rfl rfl) ?_
            refine vl_val rfl (.some rfl) (val_move rfl) ?_
            refine vl_split (t := 56) rfl (fun hg56 => ?_) (fun hg56 => ?_)
            · (try replace hg56 := of_decide_eq_true hg56)
              refine vl_off rfl rfl rfl rfl (.some rfl) ?_
              refine vl_off rfl rfl rfl rfl (.some rfl) ?_
              refine vl_off rfl rfl rfl rfl (.some rfl) ?_
              refine vl_val rfl (.some rfl) (val_pick rfl rfl) ?_
              refine vl_val rfl (.some rfl) (val_move rfl) ?_
              refine vl_on rfl rfl rfl rfl ?_
              refine vl_callV rfl rfl (.some rfl) Tryd.call8 rfl (fun w hw => xLives w) ?_
              refine vl_val rfl (.some rfl) (val_pick rfl rfl) ?_
              refine vl_val rfl (.some rfl) (val_assign rfl) ?_
              refine vl_nil ?_
              refine vc_ret ?_
              refine ⟨_, [], _, res1 Tryd.results5 rfl, .nil, ?_⟩
              first | rfl | exact absurd (name_nine (by simpa using hg46) (by omega)) (by rintro (h | h); exact hg56 h; exact hg61 h)
            · (try replace hg56 := of_decide_eq_false hg56)
              refine vl_on rfl rfl rfl rfl ?_
              refine vl_val rfl (.some rfl) (val_move rfl) ?_
              refine vl_on rfl rfl rfl rfl ?_
              refine vl_val rfl (.some rfl) (val_cat (s := sL l) (t := sL [57]) rfl rfl (by rw [sL_size, sL_size]; simp only [List.length_singleton]; omega)) ?_
              rw [sL_cat]
              refine vl_on rfl rfl rfl rfl ?_
              refine vl_callV rfl rfl (.some rfl) Tryd.call17 rfl (fun w hw => rWord (l ++ [57]) (by rw [List.length_append]; simp only [List.length_singleton]; omega) w) ?_
              refine vl_val rfl (.some rfl) (val_pick rfl rfl) ?_
              refine vl_val rfl (.some rfl) (val_move rfl) ?_
              refine vl_split (t := 61) rfl (fun hg61 => ?_) (fun hg61 => ?_)
              · (try replace hg61 := of_decide_eq_true hg61)
                refine vl_on rfl rfl rfl rfl ?_
                refine vl_callV rfl rfl (.some rfl) Tryd.call8 rfl (fun w hw => xLives w) ?_
                refine vl_val rfl (.some rfl) (val_pick rfl rfl) ?_
                refine vl_val rfl (.some rfl) (val_assign rfl) ?_
                refine vl_nil ?_
                refine vc_ret ?_
                refine ⟨_, [], _, res1 Tryd.results5 rfl, .nil, ?_⟩
                first | rfl | exact absurd (name_nine (by simpa using hg46) (by omega)) (by rintro (h | h); exact hg56 h; exact hg61 h)
              · (try replace hg61 := of_decide_eq_false hg61)
                refine vl_off rfl rfl rfl rfl (.some rfl) ?_
                refine vl_val rfl (.some rfl) (val_pick rfl rfl) ?_
                refine vl_val rfl (.some rfl) (val_assign rfl) ?_
                refine vl_nil ?_
                refine vc_ret ?_
                refine ⟨_, [], _, res1 Tryd.results5 rfl, .nil, ?_⟩
                first | rfl | exact absurd (name_nine (by simpa using hg46) (by omega)) (by rintro (h | h); exact hg56 h; exact hg61 h)

theorem law_SchemaWords (s : ByteArray) (w : World) (hs : s.size ≤ maxLen) : FnV Tryd.prog 5 [.string s] (.bool true) w := by
  have hl : s.data.toList.length = s.size := Array.length_toList
  have hm : maxLen < 9223372036854775808 := by decide
  have h := xWords s.data.toList (by omega) w
  rw [sL_eta] at h
  exact h


end Go.Proofs.YtdehjgpdcdjhjaaDoor.K
