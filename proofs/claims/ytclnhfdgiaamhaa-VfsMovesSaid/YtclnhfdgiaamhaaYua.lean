/- Walks of the program's functions, printed by a program of this session; Lean checks them. -/
import Derived.Test.YtclnhfdgiaamhaaMh
import Derived.Test.YtclnhfdgiaamhaaKi
import Derived.Test.YtclnhfdgiaamhaaCg
import Derived.Test.YtclnhfdgiaamhaaMi
import Derived.Test.YtclnhfdgiaamhaaMn
import Derived.Test.YtclnhfdgiaamhaaKn
import Derived.Test.YtclnhfdgiaamhaaCd
import Derived.Test.YtclnhfdgiaamhaaMg
import Derived.Test.YtclnhfdgiaamhaaMa
import Derived.Test.YtclnhfdgiaamhaaProg
namespace Go.Proofs.Ytclnhfdgiaamhaa.K
open Go Go.RowKit Go.Proofs
set_option linter.unusedVariables false
set_option linter.unusedSimpArgs false


/-! The names of files. -/
def nmCh (c : UInt8) : Prop := (97 ≤ c.toNat ∧ c.toNat ≤ 122) ∨ (48 ≤ c.toNat ∧ c.toNat ≤ 57) ∨ c.toNat = 46 ∨ c.toNat = 45
instance (c : UInt8) : Decidable (nmCh c) := by unfold nmCh; infer_instance
def fnameP (l : List UInt8) : Prop := (1 ≤ l.length ∧ l.length ≤ 32) ∧ ∀ j, j < l.length → nmCh (l.getD j 0)
instance (l : List UInt8) : Decidable (fnameP l) := by unfold fnameP; infer_instance
/-- Is this rune no letter of a name? -/
def otherR (r : Int) : Prop := ¬ ((97 ≤ r ∧ r ≤ 122) ∨ (48 ≤ r ∧ r ≤ 57) ∨ r = 46 ∨ r = 45)
instance (r : Int) : Decidable (otherR r) := by unfold otherR; infer_instance
abbrev gdF : Value := .func (.func 71) #[] #[]
theorem dec_is {l : List UInt8} {i : Nat} (h : i < l.length) : ∃ rn wd : Nat, (Utf8.decode (sL l) i).1 = rn ∧ (Utf8.decode (sL l) i).2 = wd ∧ rn ≤ 2147483647 ∧ 1 ≤ wd ∧ (((l.getD i 0).toNat < 128 ∧ rn = (l.getD i 0).toNat ∧ wd = 1) ∨ (128 ≤ (l.getD i 0).toNat ∧ 128 ≤ rn)) := by
  refine ⟨_, _, rfl, rfl, ?_, ?_, ?_⟩
  · exact decode_le _ _
  · rcases decode_sL h with ⟨_, e⟩ | ⟨_, _, e, _⟩
    · rw [e]; exact Nat.le_refl _
    · exact e
  · rcases decode_sL h with ⟨c, e⟩ | ⟨c, e, _, _⟩
    · exact .inl ⟨c, by rw [e], by rw [e]⟩
    · exact .inr ⟨c, e⟩

set_option maxRecDepth 20000 in
theorem vNameOk1 (r : Int) (w : World) : Fn Try.prog 71 [.int .i32 r] [] (ret fun v H' => v = .bool (decide (otherR r)) ∧ H' = []) w := by
  refine fn_enter Try.func71 rfl Try.ntmps71 rfl ?_
  refine vc_seq ?_
  refine vc_region ?_
  refine vl_val rfl (.some rfl) (val_assign rfl) ?_
  refine vl_nil ?_
  refine vc_seq ?_
  refine vc_region ?_
  refine vl_val rfl (.some rfl) (val_move rfl) ?_
  refine vl_val rfl (.some rfl) (val_lt rfl rfl) ?_
  refine vl_val rfl (.some rfl) (val_move rfl) ?_
  refine vl_split (t := 5) rfl (fun hg5 => ?_) (fun hg5 => ?_)
  · (try replace hg5 := of_decide_eq_true hg5)
    refine vl_off rfl rfl rfl rfl (.some rfl) ?_
    refine vl_off rfl rfl rfl rfl (.some rfl) ?_
    refine vl_val rfl (.some rfl) (val_pick rfl rfl) ?_
    refine vl_val rfl (.some rfl) (val_move rfl) ?_
    refine vl_on rfl rfl rfl rfl ?_
    refine vl_val rfl (.some rfl) (val_move rfl) ?_
    refine vl_on rfl rfl rfl rfl ?_
    refine vl_val rfl (.some rfl) (val_lt rfl rfl) ?_
    refine vl_on rfl rfl rfl rfl ?_
    refine vl_val rfl (.some rfl) (val_move rfl) ?_
    refine vl_split (t := 12) rfl (fun hg12 => ?_) (fun hg12 => ?_)
    · (try replace hg12 := of_decide_eq_true hg12)
      refine vl_off rfl rfl rfl rfl (.some rfl) ?_
      refine vl_off rfl rfl rfl rfl (.some rfl) ?_
      refine vl_on rfl rfl rfl rfl ?_
      refine vl_val rfl (.some rfl) (val_pick rfl rfl) ?_
      refine vl_val rfl (.some rfl) (val_pick rfl rfl) ?_
      refine vl_val rfl (.some rfl) (val_move rfl) ?_
      refine vl_on rfl rfl rfl rfl ?_
      refine vl_val rfl (.some rfl) (val_move rfl) ?_
      refine vl_on rfl rfl rfl rfl ?_
      refine vl_val rfl (.some rfl) (val_ne rfl rfl) ?_
      refine vl_val rfl (.some rfl) (val_pick rfl rfl) ?_
      refine vl_val rfl (.some rfl) (val_move rfl) ?_
      refine vl_split (t := 21) rfl (fun hg21 => ?_) (fun hg21 => ?_)
      · (try replace hg21 := of_decide_eq_true hg21)
        refine vl_on rfl rfl rfl rfl ?_
        refine vl_val rfl (.some rfl) (val_move rfl) ?_
        refine vl_on rfl rfl rfl rfl ?_
        refine vl_val rfl (.some rfl) (val_ne rfl rfl) ?_
        refine vl_val rfl (.some rfl) (val_pick rfl rfl) ?_
        refine vl_val rfl (.some rfl) (val_assign rfl) ?_
        refine vl_nil ?_
        refine vc_ret ?_
        refine ⟨_, [], _, res1 Try.results71 rfl, (by repeat constructor), ?_⟩
        refine ⟨?_, rfl⟩
        show Value.bool _ = Value.bool _
        refine congrArg Value.bool ?_
        first | (rw [decide_eq_decide]; unfold otherR; omega) | exact (decide_eq_true (by unfold otherR; omega)).symm | exact (decide_eq_false (by unfold otherR; omega)).symm
      · (try replace hg21 := of_decide_eq_false hg21)
        refine vl_off rfl rfl rfl rfl (.some rfl) ?_
        refine vl_off rfl rfl rfl rfl (.some rfl) ?_
        refine vl_val rfl (.some rfl) (val_pick rfl rfl) ?_
        refine vl_val rfl (.some rfl) (val_assign rfl) ?_
        refine vl_nil ?_
        refine vc_ret ?_
        refine ⟨_, [], _, res1 Try.results71 rfl, (by repeat constructor), ?_⟩
        refine ⟨?_, rfl⟩
        show Value.bool _ = Value.bool _
        refine congrArg Value.bool ?_
        first | (rw [decide_eq_decide]; unfold otherR; omega) | exact (decide_eq_true (by unfold otherR; omega)).symm | exact (decide_eq_false (by unfold otherR; omega)).symm
    · (try replace hg12 := of_decide_eq_false hg12)
      refine vl_on rfl rfl rfl rfl ?_
      refine vl_val rfl (.some rfl) (val_move rfl) ?_
      refine vl_on rfl rfl rfl rfl ?_
      refine vl_val rfl (.some rfl) (val_gt rfl rfl) ?_
      refine vl_on rfl rfl rfl rfl ?_
      refine vl_val rfl (.some rfl) (val_pick rfl rfl) ?_
      refine vl_val rfl (.some rfl) (val_pick rfl rfl) ?_
      refine vl_val rfl (.some rfl) (val_move rfl) ?_
      refine vl_split (t := 17) rfl (fun hg17 => ?_) (fun hg17 => ?_)
      · (try replace hg17 := of_decide_eq_true hg17)
        refine vl_on rfl rfl rfl rfl ?_
        refine vl_val rfl (.some rfl) (val_move rfl) ?_
        refine vl_on rfl rfl rfl rfl ?_
        refine vl_val rfl (.some rfl) (val_ne rfl rfl) ?_
        refine vl_val rfl (.some rfl) (val_pick rfl rfl) ?_
        refine vl_val rfl (.some rfl) (val_move rfl) ?_
        refine vl_split (t := 21) rfl (fun hg21 => ?_) (fun hg21 => ?_)
        · (try replace hg21 := of_decide_eq_true hg21)
          refine vl_on rfl rfl rfl rfl ?_
          refine vl_val rfl (.some rfl) (val_move rfl) ?_
          refine vl_on rfl rfl rfl rfl ?_
          refine vl_val rfl (.some rfl) (val_ne rfl rfl) ?_
          refine vl_val rfl (.some rfl) (val_pick rfl rfl) ?_
          refine vl_val rfl (.some rfl) (val_assign rfl) ?_
          refine vl_nil ?_
          refine vc_ret ?_
          refine ⟨_, [], _, res1 Try.results71 rfl, (by repeat constructor), ?_⟩
          refine ⟨?_, rfl⟩
          show Value.bool _ = Value.bool _
          refine congrArg Value.bool ?_
          first | (rw [decide_eq_decide]; unfold otherR; omega) | exact (decide_eq_true (by unfold otherR; omega)).symm | exact (decide_eq_false (by unfold otherR; omega)).symm
        · (try replace hg21 := of_decide_eq_false hg21)
          refine vl_off rfl rfl rfl rfl (.some rfl) ?_
          refine vl_off rfl rfl rfl rfl (.some rfl) ?_
          refine vl_val rfl (.some rfl) (val_pick rfl rfl) ?_
          refine vl_val rfl (.some rfl) (val_assign rfl) ?_
          refine vl_nil ?_
          refine vc_ret ?_
          refine ⟨_, [], _, res1 Try.results71 rfl, (by repeat constructor), ?_⟩
          refine ⟨?_, rfl⟩
          show Value.bool _ = Value.bool _
          refine congrArg Value.bool ?_
          first | (rw [decide_eq_decide]; unfold otherR; omega) | exact (decide_eq_true (by unfold otherR; omega)).symm | exact (decide_eq_false (by unfold otherR; omega)).symm
      · (try replace hg17 := of_decide_eq_false hg17)
        refine vl_off rfl rfl rfl rfl (.some rfl) ?_
        refine vl_off rfl rfl rfl rfl (.some rfl) ?_
        refine vl_val rfl (.some rfl) (val_pick rfl rfl) ?_
        refine vl_val rfl (.some rfl) (val_move rfl) ?_
        refine vl_off rfl rfl rfl rfl (.some rfl) ?_
        refine vl_off rfl rfl rfl rfl (.some rfl) ?_
        refine vl_val rfl (.some rfl) (val_pick rfl rfl) ?_
        refine vl_val rfl (.some rfl) (val_assign rfl) ?_
        refine vl_nil ?_
        refine vc_ret ?_
        refine ⟨_, [], _, res1 Try.results71 rfl, (by repeat constructor), ?_⟩
        refine ⟨?_, rfl⟩
        show Value.bool _ = Value.bool _
        refine congrArg Value.bool ?_
        first | (rw [decide_eq_decide]; unfold otherR; omega) | exact (decide_eq_true (by unfold otherR; omega)).symm | exact (decide_eq_false (by unfold otherR; omega)).symm
  · (try replace hg5 := of_decide_eq_false hg5)
    refine vl_on rfl rfl rfl rfl ?_
    refine vl_val rfl (.some rfl) (val_move rfl) ?_
    refine vl_on rfl rfl rfl rfl ?_
    refine vl_val rfl (.some rfl) (val_gt rfl rfl) ?_
    refine vl_val rfl (.some rfl) (val_pick rfl rfl) ?_
    refine vl_val rfl (.some rfl) (val_move rfl) ?_
    refine vl_split (t := 9) rfl (fun hg9 => ?_) (fun hg9 => ?_)
    · (try replace hg9 := of_decide_eq_true hg9)
      refine vl_on rfl rfl rfl rfl ?_
      refine vl_val rfl (.some rfl) (val_move rfl) ?_
      refine vl_on rfl rfl rfl rfl ?_
      refine vl_val rfl (.some rfl) (val_lt rfl rfl) ?_
      refine vl_on rfl rfl rfl rfl ?_
      refine vl_val rfl (.some rfl) (val_move rfl) ?_
      refine vl_split (t := 12) rfl (fun hg12 => ?_) (fun hg12 => ?_)
      · (try replace hg12 := of_decide_eq_true hg12)
        refine vl_off rfl rfl rfl rfl (.some rfl) ?_
        refine vl_off rfl rfl rfl rfl (.some rfl) ?_
        refine vl_on rfl rfl rfl rfl ?_
        refine vl_val rfl (.some rfl) (val_pick rfl rfl) ?_
        refine vl_val rfl (.some rfl) (val_pick rfl rfl) ?_
        refine vl_val rfl (.some rfl) (val_move rfl) ?_
        refine vl_on rfl rfl rfl rfl ?_
        refine vl_val rfl (.some rfl) (val_move rfl) ?_
        refine vl_on rfl rfl rfl rfl ?_
        refine vl_val rfl (.some rfl) (val_ne rfl rfl) ?_
        refine vl_val rfl (.some rfl) (val_pick rfl rfl) ?_
        refine vl_val rfl (.some rfl) (val_move rfl) ?_
        refine vl_split (t := 21) rfl (fun hg21 => ?_) (fun hg21 => ?_)
        · (try replace hg21 := of_decide_eq_true hg21)
          refine vl_on rfl rfl rfl rfl ?_
          refine vl_val rfl (.some rfl) (val_move rfl) ?_
          refine vl_on rfl rfl rfl rfl ?_
          refine vl_val rfl (.some rfl) (val_ne rfl rfl) ?_
          refine vl_val rfl (.some rfl) (val_pick rfl rfl) ?_
          refine vl_val rfl (.some rfl) (val_assign rfl) ?_
          refine vl_nil ?_
          refine vc_ret ?_
          refine ⟨_, [], _, res1 Try.results71 rfl, (by repeat constructor), ?_⟩
          refine ⟨?_, rfl⟩
          show Value.bool _ = Value.bool _
          refine congrArg Value.bool ?_
          first | (rw [decide_eq_decide]; unfold otherR; omega) | exact (decide_eq_true (by unfold otherR; omega)).symm | exact (decide_eq_false (by unfold otherR; omega)).symm
        · (try replace hg21 := of_decide_eq_false hg21)
          refine vl_off rfl rfl rfl rfl (.some rfl) ?_
          refine vl_off rfl rfl rfl rfl (.some rfl) ?_
          refine vl_val rfl (.some rfl) (val_pick rfl rfl) ?_
          refine vl_val rfl (.some rfl) (val_assign rfl) ?_
          refine vl_nil ?_
          refine vc_ret ?_
          refine ⟨_, [], _, res1 Try.results71 rfl, (by repeat constructor), ?_⟩
          refine ⟨?_, rfl⟩
          show Value.bool _ = Value.bool _
          refine congrArg Value.bool ?_
          first | (rw [decide_eq_decide]; unfold otherR; omega) | exact (decide_eq_true (by unfold otherR; omega)).symm | exact (decide_eq_false (by unfold otherR; omega)).symm
      · (try replace hg12 := of_decide_eq_false hg12)
        refine vl_on rfl rfl rfl rfl ?_
        refine vl_val rfl (.some rfl) (val_move rfl) ?_
        refine vl_on rfl rfl rfl rfl ?_
        refine vl_val rfl (.some rfl) (val_gt rfl rfl) ?_
        refine vl_on rfl rfl rfl rfl ?_
        refine vl_val rfl (.some rfl) (val_pick rfl rfl) ?_
        refine vl_val rfl (.some rfl) (val_pick rfl rfl) ?_
        refine vl_val rfl (.some rfl) (val_move rfl) ?_
        refine vl_split (t := 17) rfl (fun hg17 => ?_) (fun hg17 => ?_)
        · (try replace hg17 := of_decide_eq_true hg17)
          refine vl_on rfl rfl rfl rfl ?_
          refine vl_val rfl (.some rfl) (val_move rfl) ?_
          refine vl_on rfl rfl rfl rfl ?_
          refine vl_val rfl (.some rfl) (val_ne rfl rfl) ?_
          refine vl_val rfl (.some rfl) (val_pick rfl rfl) ?_
          refine vl_val rfl (.some rfl) (val_move rfl) ?_
          refine vl_split (t := 21) rfl (fun hg21 => ?_) (fun hg21 => ?_)
          · (try replace hg21 := of_decide_eq_true hg21)
            refine vl_on rfl rfl rfl rfl ?_
            refine vl_val rfl (.some rfl) (val_move rfl) ?_
            refine vl_on rfl rfl rfl rfl ?_
            refine vl_val rfl (.some rfl) (val_ne rfl rfl) ?_
            refine vl_val rfl (.some rfl) (val_pick rfl rfl) ?_
            refine vl_val rfl (.some rfl) (val_assign rfl) ?_
            refine vl_nil ?_
            refine vc_ret ?_
            refine ⟨_, [], _, res1 Try.results71 rfl, (by repeat constructor), ?_⟩
            refine ⟨?_, rfl⟩
            show Value.bool _ = Value.bool _
            refine congrArg Value.bool ?_
            first | (rw [decide_eq_decide]; unfold otherR; omega) | exact (decide_eq_true (by unfold otherR; omega)).symm | exact (decide_eq_false (by unfold otherR; omega)).symm
          · (try replace hg21 := of_decide_eq_false hg21)
            refine vl_off rfl rfl rfl rfl (.some rfl) ?_
            refine vl_off rfl rfl rfl rfl (.some rfl) ?_
            refine vl_val rfl (.some rfl) (val_pick rfl rfl) ?_
            refine vl_val rfl (.some rfl) (val_assign rfl) ?_
            refine vl_nil ?_
            refine vc_ret ?_
            refine ⟨_, [], _, res1 Try.results71 rfl, (by repeat constructor), ?_⟩
            refine ⟨?_, rfl⟩
            show Value.bool _ = Value.bool _
            refine congrArg Value.bool ?_
            first | (rw [decide_eq_decide]; unfold otherR; omega) | exact (decide_eq_true (by unfold otherR; omega)).symm | exact (decide_eq_false (by unfold otherR; omega)).symm
        · (try replace hg17 := of_decide_eq_false hg17)
          refine vl_off rfl rfl rfl rfl (.some rfl) ?_
          refine vl_off rfl rfl rfl rfl (.some rfl) ?_
          refine vl_val rfl (.some rfl) (val_pick rfl rfl) ?_
          refine vl_val rfl (.some rfl) (val_move rfl) ?_
          refine vl_off rfl rfl rfl rfl (.some rfl) ?_
          refine vl_off rfl rfl rfl rfl (.some rfl) ?_
          refine vl_val rfl (.some rfl) (val_pick rfl rfl) ?_
          refine vl_val rfl (.some rfl) (val_assign rfl) ?_
          refine vl_nil ?_
          refine vc_ret ?_
          refine ⟨_, [], _, res1 Try.results71 rfl, (by repeat constructor), ?_⟩
          refine ⟨?_, rfl⟩
          show Value.bool _ = Value.bool _
          refine congrArg Value.bool ?_
          first | (rw [decide_eq_decide]; unfold otherR; omega) | exact (decide_eq_true (by unfold otherR; omega)).symm | exact (decide_eq_false (by unfold otherR; omega)).symm
    · (try replace hg9 := of_decide_eq_false hg9)
      refine vl_off rfl rfl rfl rfl (.some rfl) ?_
      refine vl_off rfl rfl rfl rfl (.some rfl) ?_
      refine vl_off rfl rfl rfl rfl (.some rfl) ?_
      refine vl_offU rfl rfl rfl rfl (.some rfl) ?_
      refine vl_offU rfl rfl rfl rfl (.some rfl) ?_
      refine vl_off rfl rfl rfl rfl (.some rfl) ?_
      refine vl_val rfl (.some rfl) (val_pick rfl rfl) ?_
      refine vl_val rfl (.some rfl) (val_move rfl) ?_
      refine vl_off rfl rfl rfl rfl (.some rfl) ?_
      refine vl_off rfl rfl rfl rfl (.some rfl) ?_
      refine vl_val rfl (.some rfl) (val_pick rfl rfl) ?_
      refine vl_val rfl (.some rfl) (val_move rfl) ?_
      refine vl_off rfl rfl rfl rfl (.some rfl) ?_
      refine vl_off rfl rfl rfl rfl (.some rfl) ?_
      refine vl_val rfl (.some rfl) (val_pick rfl rfl) ?_
      refine vl_val rfl (.some rfl) (val_assign rfl) ?_
      refine vl_nil ?_
      refine vc_ret ?_
      refine ⟨_, [], _, res1 Try.results71 rfl, (by repeat constructor), ?_⟩
      refine ⟨?_, rfl⟩
      show Value.bool _ = Value.bool _
      refine congrArg Value.bool ?_
      first | (rw [decide_eq_decide]; unfold otherR; omega) | exact (decide_eq_true (by unfold otherR; omega)).symm | exact (decide_eq_false (by unfold otherR; omega)).symm
set_option maxRecDepth 20000 in
theorem vIdxF (l : List UInt8) (hlb : l.length < 9223372036854775808) (w : World) : Fn Try.prog 130 [.string (sL l), gdF, .bool true] [] (ret fun v H' => ∃ p : Int, v = .int .i64 p ∧ (0 ≤ p ↔ ¬ ∀ j, j < l.length → nmCh (l.getD j 0)) ∧ H' = []) w := by
  have hsz := sL_size l
  refine fn_enter Try.func130 rfl Try.ntmps130 rfl ?_
  refine vc_seq ?_
  refine vc_region ?_
  refine vl_val rfl (.some rfl) (val_assign rfl) ?_
  refine vl_nil ?_
  refine vc_seq ?_
  refine vc_seq ?_
  refine vc_region ?_
  refine vl_val rfl (.some rfl) (val_move rfl) ?_
  refine vl_rangeStr rfl rfl (.some rfl) Try.underlying9 rfl (fun r10 => ?_)
  refine vl_nil ?_
  refine vc_block ?_
  refine vc_loopw (fun m E H => ∃ pos : Nat, pos ≤ l.length ∧ m = l.length - pos ∧ (∀ j, j < pos → nmCh (l.getD j 0)) ∧ E = [(1, gdF), (2, .bool true), (10, .pointer (some ⟨r10, 0, none⟩))] ∧ H = [itS r10 (sL l) pos]) (l.length) ⟨_, _, _, ⟨0, by omega, rfl, fun j hj => absurd hj (by omega), rfl, rfl⟩, (by repeat (first | exact trivial | refine ⟨rfl, ?_⟩ | refine ⟨le_item rfl (by first | rfl | (congr 1; omega) | (simp; done) | (simp; omega)), ?_⟩)), (by repeat constructor)⟩ ?_
  intro m E H hI
  obtain ⟨pos, hpos, rfl, hall, rfl, rfl⟩ := hI
  refine vc_seq ?_
  refine vc_region ?_
  refine vl_nextStr rfl rfl (.some rfl) rfl (by repeat constructor) (fun hn11 => ?_) (fun hn11 => ?_)
  ·
    refine vl_val rfl (.some rfl) (val_extract rfl rfl) ?_
    refine vl_nil ?_
    refine vc_seq ?_
    refine vc_cond rfl (fun _ => ?_) (fun h => by cases h)
    refine vc_skip ?_
    refine vc_block ?_
    refine vc_seq ?_
    refine vc_region ?_
    have hpl : pos < l.length := by omega
    obtain ⟨rn, wd, hrn, hwd, hrm, hw1, hdec⟩ := dec_is hpl
    rw [hrn, hwd]
    refine vl_val rfl (.some rfl) (val_extract rfl rfl) ?_
    refine vl_val rfl (.some rfl) (val_extract rfl rfl) ?_
    refine vl_val rfl (.some rfl) (val_assign rfl) ?_
    refine vl_val rfl (.some rfl) (val_assign rfl) ?_
    refine vl_nil ?_
    refine vc_seq ?_
    refine vc_region ?_
    refine vl_val rfl (.some rfl) (val_move rfl) ?_
    refine vl_val rfl (.some rfl) (val_move rfl) ?_
    refine vl_callv (fs := []) (cs := []) rfl rfl (.some rfl) rfl (fun args w => by kernel_rfl) rfl .nil (fun w hw => vNameOk1 rn w) (fun v H' h => ?_)
    obtain ⟨rfl, rfl⟩ := h
    show VL _ _ _ _ _ _
    refine vl_val rfl (.some rfl) (val_move rfl) ?_
    refine vl_val rfl (.some rfl) (val_beq Try.underlying4 rfl rfl) ?_
    refine vl_nil ?_
    refine vc_cond rfl (fun hc1 => ?_) (fun hc1 => ?_)
    · (try replace hc1 := of_decide_eq_true hc1)
      refine vc_seq ?_
      refine vc_region ?_
      refine vl_val rfl (.some rfl) (val_move rfl) ?_
      refine vl_val rfl (.some rfl) (val_assign rfl) ?_
      refine vl_nil ?_
      refine vc_ret ?_
      refine ⟨_, [], _, res1 Try.results130 rfl, (by repeat constructor), ?_⟩
      refine ⟨_, rfl, ⟨fun _ h => ?_, fun _ => by omega⟩, rfl⟩
      have h9 : otherR rn := by simpa using hc1
      have h8 := h pos hpl
      unfold nmCh at h8
      unfold otherR at h9
      omega
    · (try replace hc1 := of_decide_eq_false hc1)
      refine vc_skip ?_
      have hok : nmCh (l.getD pos 0) ∧ wd = 1 := by
        have h9 : ¬ otherR rn := by simpa using hc1
        unfold nmCh
        unfold otherR at h9
        omega
      obtain ⟨hok, rfl⟩ := hok
      exact ⟨(l.length - (pos + 1)), _, _, _, by omega, (by repeat (first | exact trivial | refine ⟨rfl, ?_⟩ | refine ⟨le_item rfl (by first | rfl | (congr 1; omega) | (simp; done) | (simp; omega)), ?_⟩)), (by repeat constructor), ⟨pos + 1, by omega, rfl, fun j hj => by
        rcases Nat.lt_or_ge j pos with h | h
        · exact hall j h
        · obtain rfl : j = pos := by omega
          exact hok, rfl, rfl⟩⟩
  ·
    refine vl_val rfl (.some rfl) (val_extract rfl rfl) ?_
    refine vl_nil ?_
    refine vc_seq ?_
    refine vc_cond rfl (fun h => by cases h) (fun _ => ?_)
    refine vc_exit ?_
    refine vc_seq ?_
    refine vc_region ?_
    refine vl_val rfl (.some rfl) (val_assign rfl) ?_
    refine vl_nil ?_
    refine vc_ret ?_
    refine ⟨_, [], _, res1 Try.results130 rfl, (by repeat constructor), ?_⟩
    exact ⟨_, rfl, ⟨fun h => by omega, fun h => absurd (fun j hj => hall j (by omega)) h⟩, rfl⟩
set_option maxRecDepth 20000 in
theorem vIdx (l : List UInt8) (hlb : l.length < 9223372036854775808) (w : World) : Fn Try.prog 113 [.string (sL l), gdF] [] (ret fun v H' => ∃ p : Int, v = .int .i64 p ∧ (0 ≤ p ↔ ¬ ∀ j, j < l.length → nmCh (l.getD j 0)) ∧ H' = []) w := by
  refine fn_enter Try.func113 rfl Try.ntmps113 rfl ?_
  refine vc_seq ?_
  refine vc_region ?_
  refine vl_val rfl (.some rfl) (val_assign rfl) ?_
  refine vl_nil ?_
  refine vc_seq ?_
  refine vc_region ?_
  refine vl_val rfl (.some rfl) (val_move rfl) ?_
  refine vl_val rfl (.some rfl) (val_move rfl) ?_
  refine vl_call (C := []) rfl rfl (.some rfl) Try.call130 rfl .nil (fun w hw => vIdxF l hlb w) (fun v H' h => ?_)
  obtain ⟨p, rfl, hp, rfl⟩ := h
  show VL _ _ _ _ _ _
  refine vl_val rfl (.some rfl) (val_assign rfl) ?_
  refine vl_nil ?_
  refine vc_ret ?_
  refine ⟨_, [], _, res1 Try.results113 rfl, (by repeat constructor), ?_⟩
  exact ⟨p, rfl, hp, rfl⟩
set_option maxRecDepth 20000 in
theorem vCon (l : List UInt8) (hlb : l.length < 9223372036854775808) (w : World) : FnV Try.prog 72 [.string (sL l), gdF] (.bool (decide (¬ ∀ j, j < l.length → nmCh (l.getD j 0)))) w := by
  refine fn_enter Try.func72 rfl Try.ntmps72 rfl ?_
  refine vc_seq ?_
  refine vc_region ?_
  refine vl_val rfl (.some rfl) (val_assign rfl) ?_
  refine vl_nil ?_
  refine vc_seq ?_
  refine vc_region ?_
  refine vl_val rfl (.some rfl) (val_move rfl) ?_
  refine vl_val rfl (.some rfl) (val_move rfl) ?_
  refine vl_call (C := []) rfl rfl (.some rfl) Try.call113 rfl .nil (fun w hw => vIdx l hlb w) (fun v H' h => ?_)
  obtain ⟨p, rfl, hp, rfl⟩ := h
  show VL _ _ _ _ _ _
  refine vl_val rfl (.some rfl) (val_ge rfl rfl) ?_
  refine vl_val rfl (.some rfl) (val_assign rfl) ?_
  refine vl_nil ?_
  refine vc_ret ?_
  refine ⟨_, [], _, res1 Try.results72 rfl, .nil, ?_⟩
  show Value.bool _ = Value.bool _
  refine congrArg Value.bool ?_
  rw [decide_eq_decide]; exact hp
set_option maxRecDepth 20000 in
theorem vNameOk (l : List UInt8) (hlb : l.length < 9223372036854775808) (w : World) : FnV Try.prog 30 [.string (sL l)] (.bool (decide (fnameP l))) w := by
  have hsz := sL_size l
  refine fn_enter Try.func30 rfl Try.ntmps30 rfl ?_
  refine vc_seq ?_
  refine vc_region ?_
  refine vl_val rfl (.some rfl) (val_assign rfl) ?_
  refine vl_nil ?_
  refine vc_seq ?_
  refine vc_region ?_
  refine vl_val rfl (.some rfl) (val_assign rfl) ?_
  refine vl_nil ?_
  refine vc_seq ?_
  refine vc_region ?_
  refine vl_val rfl (.some rfl) (val_move rfl) ?_
  refine vl_val rfl (.some rfl) (val_sne rfl rfl) ?_
  refine vl_val rfl (.some rfl) (val_move rfl) ?_
  refine vl_split (t := 6) rfl (fun hg6 => ?_) (fun hg6 => ?_)
  · (try replace hg6 := of_decide_eq_true hg6)
    have hl1 : 1 ≤ l.length := by cases l with | nil => exact absurd rfl hg6 | cons a b => simp
    refine vl_on rfl rfl rfl rfl ?_
    refine vl_val rfl (.some rfl) (val_move rfl) ?_
    refine vl_on rfl rfl rfl rfl ?_
    refine vl_val rfl (.some rfl) (val_lenStr Try.runUnderlying9 rfl) ?_
    refine vl_on rfl rfl rfl rfl ?_
    refine vl_val rfl (.some rfl) (val_le rfl rfl) ?_
    refine vl_val rfl (.some rfl) (val_pick rfl rfl) ?_
    refine vl_val rfl (.some rfl) (val_move rfl) ?_
    refine vl_split (t := 11) rfl (fun hg11 => ?_) (fun hg11 => ?_)
    · (try replace hg11 := of_decide_eq_true hg11)
      refine vl_on rfl rfl rfl rfl ?_
      refine vl_val rfl (.some rfl) (val_move rfl) ?_
      refine vl_on rfl rfl rfl rfl ?_
      refine vl_val rfl (.some rfl) (val_move rfl) ?_
      refine vl_on rfl rfl rfl rfl ?_
      refine vl_callV rfl rfl (.some rfl) Try.call72 rfl (fun w hw => vCon l hlb w) ?_
      refine vl_on rfl rfl rfl rfl ?_
      refine vl_val rfl (.some rfl) (val_not rfl) ?_
      refine vl_val rfl (.some rfl) (val_pick rfl rfl) ?_
      refine vl_val rfl (.some rfl) (val_assign rfl) ?_
      refine vl_nil ?_
      refine vc_ret ?_
      refine ⟨_, [], _, res1 Try.results30 rfl, .nil, ?_⟩
      show Value.bool _ = Value.bool _
      refine congrArg Value.bool ?_
      first | exact (decide_eq_false (fun h => by have h1 := h.1; omega)).symm | (rw [← decide_not, decide_eq_decide, Decidable.not_not]; exact ⟨fun h => ⟨⟨by omega, by omega⟩, h⟩, fun h => h.2⟩)
    · (try replace hg11 := of_decide_eq_false hg11)
      refine vl_off rfl rfl rfl rfl (.some rfl) ?_
      refine vl_off rfl rfl rfl rfl (.some rfl) ?_
      refine vl_off rfl rfl rfl rfl (.some rfl) ?_
      refine vl_off rfl rfl rfl rfl (.some rfl) ?_
      refine vl_val rfl (.some rfl) (val_pick rfl rfl) ?_
      refine vl_val rfl (.some rfl) (val_assign rfl) ?_
      refine vl_nil ?_
      refine vc_ret ?_
      refine ⟨_, [], _, res1 Try.results30 rfl, .nil, ?_⟩
      show Value.bool _ = Value.bool _
      refine congrArg Value.bool ?_
      first | exact (decide_eq_false (fun h => by have h1 := h.1; omega)).symm | (rw [← decide_not, decide_eq_decide, Decidable.not_not]; exact ⟨fun h => ⟨⟨by omega, by omega⟩, h⟩, fun h => h.2⟩)
  · (try replace hg6 := of_decide_eq_false hg6)
    have hl0 : l.length = 0 := by have := (sL_inj (a := l) (b := [])).1 (by simpa using hg6); rw [this]; rfl
    refine vl_off rfl rfl rfl rfl (.some rfl) ?_
    refine vl_off rfl rfl rfl rfl (.some rfl) ?_
    refine vl_off rfl rfl rfl rfl (.some rfl) ?_
    refine vl_val rfl (.some rfl) (val_pick rfl rfl) ?_
    refine vl_val rfl (.some rfl) (val_move rfl) ?_
    refine vl_off rfl rfl rfl rfl (.some rfl) ?_
    refine vl_off rfl rfl rfl rfl (.some rfl) ?_
    refine vl_off rfl rfl rfl rfl (.some rfl) ?_
    refine vl_off rfl rfl rfl rfl (.some rfl) ?_
    refine vl_val rfl (.some rfl) (val_pick rfl rfl) ?_
    refine vl_val rfl (.some rfl) (val_assign rfl) ?_
    refine vl_nil ?_
    refine vc_ret ?_
    refine ⟨_, [], _, res1 Try.results30 rfl, .nil, ?_⟩
    show Value.bool _ = Value.bool _
    refine congrArg Value.bool ?_
    first | exact (decide_eq_false (fun h => by have h1 := h.1; omega)).symm | (rw [← decide_not, decide_eq_decide, Decidable.not_not]; exact ⟨fun h => ⟨⟨by omega, by omega⟩, h⟩, fun h => h.2⟩)
set_option maxRecDepth 20000 in
theorem sT22 : SlT Try.prog 22 5 1 1 (.int .u8 0) := ⟨Try.underlying22, ⟨Try.t5, Try.type5, rfl, rfl, rfl⟩, rfl, Nat.lt_of_sub_eq_succ rfl⟩
set_option maxRecDepth 20000 in
theorem sT69 : SlT Try.prog 69 3 1 8 (.int .i64 0) := ⟨Try.underlying69, ⟨Try.t3, Try.type3, rfl, rfl, rfl⟩, rfl, Nat.lt_of_sub_eq_succ rfl⟩
def tcS (ws : List (List UInt8)) : List Value := ws.map fun x => Value.string (sL x)
theorem tcS_length (ws : List (List UInt8)) : (tcS ws).length = ws.length := by simp [tcS]
theorem tcS_at {ws : List (List UInt8)} {i : Nat} (h : i < ws.length) : (tcS ws)[Int.toNat (i : Int) * 1]? = some (.string (sL (ws.getD i []))) := by
  rw [Int.toNat_natCast, Nat.mul_one]; simp [tcS, List.getD, h]

/-! The disk, as it lies in memory. -/
abbrev DK (d a : Nat) (off : Bool) (cut : Int) (K : Option Addr) (kn kc : Nat) (ops : Int) : Chunk := cells d [.map (some a), .bool off, .int .i64 cut, .slice K kn kc, .int .i64 ops] 91
abbrev FL (f : Nat) (A : Option Addr) (n c : Nat) (sy : Int) : Chunk := cells f [.slice A n c, .int .i64 sy] 139
theorem kQ : KeyQ Try.prog 89 9 136 kS (.pointer none) := keyQ_str Try.runUnderlying89 Try.runUnderlying9 Try.zeroValue136
abbrev may1F : Value := .func (.func 115) #[] #[]
theorem tc_in {ws : List (List UInt8)} {i : Nat} (h : i < ws.length) : ws.getD i [] ∈ ws := by simp [List.getD, h]

set_option maxRecDepth 20000 in
theorem dMade (d a : Nat) (off : Bool) (cut : Int) (K : Option Addr) (kn kc : Nat) (ops : Int) (w : World) : FnR Try.prog 80 [.pointer (some ⟨d, 0, none⟩)] [DK d a off cut K kn kc ops] (.bool true) w := by
  refine fn_enter Try.func80 rfl Try.ntmps80 rfl ?_
  refine vc_seq ?_
  refine vc_region ?_
  refine vl_val rfl (.some rfl) (val_assign rfl) ?_
  refine vl_nil ?_
  refine vc_seq ?_
  refine vc_region ?_
  refine vl_val rfl (.some rfl) (val_move rfl) ?_
  refine vl_val rfl (.some rfl) (val_opO rfl rfl guard_ptr (bin_ptr_ne Try.runUnderlying64)) ?_
  refine vl_val rfl (.some rfl) (val_move rfl) ?_
  refine vl_on rfl rfl rfl rfl ?_
  refine vl_val rfl (.some rfl) (val_move rfl) ?_
  refine vl_on rfl rfl rfl rfl ?_
  refine vl_val rfl (.some rfl) (val_nil rfl rfl) ?_
  refine vl_on rfl rfl rfl rfl ?_
  refine vl_val rfl (.some rfl) (by first | exact val_fieldAddr Try.runUnderlying91 rfl Try.sizeOf89 rfl | exact val_fieldAddrR Try.runUnderlying91 rfl Try.sizeOf89 rfl) ?_
  refine vl_on rfl rfl rfl rfl ?_
  refine vl_val rfl (.some rfl) (val_load Try.isAgg89 rfl (by first | exact cell_cells (by repeat constructor) rfl | exact cell_rd (by first | exact rd_sl (by repeat constructor) | exact rd_old (by assumption) rfl) (by first | exact bcells_at (by omega) | exact ucells_at (by omega) | exact icells_at (by omega) | exact tcells_at (by omega) | exact bcells_get (by omega) | exact icells_get (by omega) | exact tcells_get (by omega) | exact ucells_get (by omega)) | exact cell_old (by assumption) (by simp [fps]))) ?_
  refine vl_on rfl rfl rfl rfl ?_
  refine vl_val rfl (.some rfl) (val_opO rfl rfl guard_map (bin_map_ne Try.runUnderlying89)) ?_
  refine vl_val rfl (.some rfl) (val_pick rfl rfl) ?_
  refine vl_val rfl (.some rfl) (val_assign rfl) ?_
  refine vl_nil ?_
  refine vc_ret ?_
  refine ⟨_, [DK d a off cut K kn kc ops], _, res1 Try.results80 rfl, (by repeat constructor), ?_⟩
  exact ⟨rfl, rfl⟩
set_option maxRecDepth 20000 in
theorem dMay1 (l : List UInt8) (hlb : l.length < 9223372036854775808) (w : World) : FnV Try.prog 115 [.string (sL l)] (.bool (!decide (fnameP l))) w := by
  refine fn_enter Try.func115 rfl Try.ntmps115 rfl ?_
  refine vc_seq ?_
  refine vc_region ?_
  refine vl_val rfl (.some rfl) (val_assign rfl) ?_
  refine vl_nil ?_
  refine vc_seq ?_
  refine vc_region ?_
  refine vl_val rfl (.some rfl) (val_move rfl) ?_
  refine vl_callV rfl rfl (.some rfl) Try.call30 rfl (fun w hw => vNameOk l hlb w) ?_
  refine vl_val rfl (.some rfl) (val_not rfl) ?_
  refine vl_val rfl (.some rfl) (val_assign rfl) ?_
  refine vl_nil ?_
  refine vc_ret ?_
  refine ⟨_, [], _, res1 Try.results115 rfl, .nil, ?_⟩
  rfl
set_option maxRecDepth 20000 in
theorem dIdx (A : Option Addr) (c : Nat) (ws : List (List UInt8)) (hg : ∀ x ∈ ws, fnameP x) (hl : ws.length ≤ 1000000) (w : World) (hr : Reads w A (tcS ws)) : FnV Try.prog 131 [.slice A ws.length c, may1F] (.int .i64 (-1)) w := by
  refine fn_enter Try.func131 rfl Try.ntmps131 rfl ?_
  refine vc_seq ?_
  refine vc_region ?_
  refine vl_val rfl (.some rfl) (val_assign rfl) ?_
  refine vl_nil ?_
  refine vc_seq ?_
  refine vc_seq ?_
  refine vc_region ?_
  refine vl_val rfl (.some rfl) (val_move rfl) ?_
  refine vl_val rfl (.some rfl) (val_lenSl Try.runUnderlying37 rfl) ?_
  refine vl_val rfl (.some rfl) (val_move rfl) ?_
  refine vl_nil ?_
  refine vc_block ?_
  refine vc_loopw (fun m E H => ∃ i : Nat, i ≤ ws.length ∧ m = ws.length - i ∧ E = [(0, .slice A ws.length c), (1, may1F), (7, .int .i64 (ws.length : Nat)), (8, .int .i64 i)] ∧ H = []) (ws.length) ⟨_, _, _, ⟨0, by omega, rfl, rfl, rfl⟩, (by repeat (first | exact trivial | refine ⟨rfl, ?_⟩ | refine ⟨le_item rfl (by first | rfl | (congr 1; omega) | (simp; done) | (simp; omega)), ?_⟩)), (by repeat constructor)⟩ ?_
  intro m E H hI
  obtain ⟨i, hi, rfl, rfl, rfl⟩ := hI
  refine vc_seq ?_
  refine vc_region ?_
  refine vl_val rfl (.some rfl) (val_lt rfl rfl) ?_
  refine vl_nil ?_
  refine vc_seq ?_
  refine vc_cond rfl (fun hc0 => ?_) (fun hc0 => ?_)
  · (try replace hc0 := of_decide_eq_true hc0)
    refine vc_skip ?_
    refine vc_seq ?_
    refine vc_block ?_
    refine vc_seq ?_
    refine vc_region ?_
    refine vl_val rfl (.some rfl) (val_move rfl) ?_
    refine vl_val rfl (.some rfl) (val_assign rfl) ?_
    refine vl_nil ?_
    refine vc_seq ?_
    refine vc_region ?_
    refine vl_val rfl (.some rfl) (val_move rfl) ?_
    refine vl_val rfl (.some rfl) (val_move rfl) ?_
    refine vl_val rfl (.some rfl) (val_move rfl) ?_
    refine vl_val rfl (.some rfl) (val_indexAddr Try.runUnderlying37 Try.sizeOf9 rfl rfl (vs := tcS ws) (rd_old hr rfl) (by omega) (by omega) (by rw [tcS_length, Int.toNat_natCast]; omega)) ?_
    refine vl_val rfl (.some rfl) (val_load Try.isAgg9 rfl (cell_rd (rd_old hr rfl) (tcS_at (i := i) (by omega)))) ?_
    have hgi := hg _ (tc_in (ws := ws) (i := i) (by omega))
    refine vl_callvV (fs := []) (cs := []) rfl rfl (.some rfl) rfl Try.call115 rfl (fun w hw => dMay1 (ws.getD i []) (by have := hgi.1; omega) w) ?_
    rw [decide_eq_true hgi]
    refine vl_nil ?_
    refine vc_cond rfl (fun hc1 => False.elim (by (try replace hc1 := of_decide_eq_true hc1); cases hc1)) (fun hc1 => ?_)
    (try replace hc1 := of_decide_eq_false hc1)
    refine vc_skip ?_
    refine vc_region ?_
    refine vl_val rfl (.some rfl) (val_add rfl rfl (by first | exact w_i64 (by omega) (by omega) | rfl)) ?_
    refine vl_val rfl (.some rfl) (val_move rfl) ?_
    refine vl_nil ?_
    exact ⟨(ws.length - (i + 1)), _, _, _, by omega, (by repeat (first | exact trivial | refine ⟨rfl, ?_⟩ | refine ⟨le_item rfl (by first | rfl | (congr 1; omega) | (simp; done) | (simp; omega)), ?_⟩)), (by repeat constructor), ⟨i + 1, by omega, rfl, rfl, rfl⟩⟩
  · (try replace hc0 := of_decide_eq_false hc0)
    refine vc_exit ?_
    refine vc_seq ?_
    refine vc_region ?_
    refine vl_val rfl (.some rfl) (val_assign rfl) ?_
    refine vl_nil ?_
    refine vc_ret ?_
    refine ⟨_, [], _, res1 Try.results131 rfl, .nil, ?_⟩
    rfl
set_option maxRecDepth 20000 in
theorem dCon (A : Option Addr) (c : Nat) (ws : List (List UInt8)) (hg : ∀ x ∈ ws, fnameP x) (hl : ws.length ≤ 1000000) (w : World) (hr : Reads w A (tcS ws)) : FnV Try.prog 114 [.slice A ws.length c, may1F] (.bool false) w := by
  refine fn_enter Try.func114 rfl Try.ntmps114 rfl ?_
  refine vc_seq ?_
  refine vc_region ?_
  refine vl_val rfl (.some rfl) (val_assign rfl) ?_
  refine vl_nil ?_
  refine vc_seq ?_
  refine vc_region ?_
  refine vl_val rfl (.some rfl) (val_move rfl) ?_
  refine vl_val rfl (.some rfl) (val_move rfl) ?_
  refine vl_callV rfl rfl (.some rfl) Try.call131 rfl (fun w hw => dIdx A c ws hg hl w (rdw (rd_old hr rfl) hw)) ?_
  refine vl_val rfl (.some rfl) (val_ge rfl rfl) ?_
  refine vl_val rfl (.some rfl) (val_assign rfl) ?_
  refine vl_nil ?_
  refine vc_ret ?_
  refine ⟨_, [], _, res1 Try.results114 rfl, .nil, ?_⟩
  rfl
set_option maxRecDepth 20000 in
theorem dMay (d a : Nat) (off : Bool) (cut : Int) (K : Option Addr) (kn kc : Nat) (ops : Int) (A : Option Addr) (c : Nat) (ws : List (List UInt8)) (hg : ∀ x ∈ ws, fnameP x) (hl : ws.length ≤ 1000000) (w : World) : FnR Try.prog 73 [.pointer (some ⟨d, 0, none⟩), .slice A ws.length c] [DK d a off cut K kn kc ops, sl A ws.length c 9 1 (tcS ws)] (.int .i64 (if off = true then 9 else 0)) w := by
  refine fn_enter Try.func73 rfl Try.ntmps73 rfl ?_
  refine vc_seq ?_
  refine vc_region ?_
  refine vl_val rfl (.some rfl) (val_assign rfl) ?_
  refine vl_nil ?_
  refine vc_seq ?_
  refine vc_block ?_
  refine vc_seq ?_
  refine vc_region ?_
  refine vl_val rfl (.some rfl) (val_move rfl) ?_
  refine vl_callR [DK d a off cut K kn kc ops] rfl rfl (.some rfl) Try.call80 rfl (by repeat constructor) (fun w hw => dMade d a off cut K kn kc ops w) ?_
  refine vl_val rfl (.some rfl) (val_not rfl) ?_
  refine vl_val rfl (.some rfl) (val_assign rfl) ?_
  refine vl_nil ?_
  refine vc_cond rfl (fun h => by cases h) (fun _ => ?_)
  refine vc_seq ?_
  refine vc_region ?_
  refine vl_val rfl (.some rfl) (val_move rfl) ?_
  refine vl_val rfl (.some rfl) (val_nil rfl rfl) ?_
  refine vl_val rfl (.some rfl) (by first | exact val_fieldAddr Try.runUnderlying91 rfl Try.sizeOf4 rfl | exact val_fieldAddrR Try.runUnderlying91 rfl Try.sizeOf4 rfl) ?_
  refine vl_val rfl (.some rfl) (val_load Try.isAgg4 rfl (by first | exact cell_cells (by repeat constructor) rfl | exact cell_rd (by first | exact rd_sl (by repeat constructor) | exact rd_old (by assumption) rfl) (by first | exact bcells_at (by omega) | exact ucells_at (by omega) | exact icells_at (by omega) | exact tcells_at (by omega) | exact bcells_get (by omega) | exact icells_get (by omega) | exact tcells_get (by omega) | exact ucells_get (by omega)) | exact cell_old (by assumption) (by simp [fps]))) ?_
  refine vl_val rfl (.some rfl) (val_assign rfl) ?_
  refine vl_nil ?_
  refine vc_cond rfl (fun hc1 => ?_) (fun hc1 => ?_)
  · (try replace hc1 := of_decide_eq_true hc1)
    refine vc_seq ?_
    refine vc_region ?_
    refine vl_val rfl (.some rfl) (val_assign rfl) ?_
    refine vl_nil ?_
    refine vc_ret ?_
    refine ⟨_, [DK d a off cut K kn kc ops, sl A ws.length c 9 1 (tcS ws)], _, res1 Try.results73 rfl, (by repeat constructor), ?_⟩
    exact ⟨by simp [hc1], rfl⟩
  · (try replace hc1 := of_decide_eq_false hc1)
    refine vc_seq ?_
    refine vc_region ?_
    refine vl_val rfl (.some rfl) (val_move rfl) ?_
    refine vl_callV rfl rfl (.some rfl) Try.call114 rfl (fun w hw => dCon A c ws hg hl w (rdw (rd_sl (by repeat constructor)) hw)) ?_
    refine vl_val rfl (.some rfl) (val_assign rfl) ?_
    refine vl_nil ?_
    refine vc_cond rfl (fun h => by cases h) (fun _ => ?_)
    refine vc_skip ?_
    refine vc_seq ?_
    refine vc_region ?_
    refine vl_val rfl (.some rfl) (val_assign rfl) ?_
    refine vl_nil ?_
    refine vc_ret ?_
    refine ⟨_, [DK d a off cut K kn kc ops, sl A ws.length c 9 1 (tcS ws)], _, res1 Try.results73 rfl, (by repeat constructor), ?_⟩
    exact ⟨by simp [hc1], rfl⟩
set_option maxRecDepth 20000 in
theorem dStart (d a : Nat) (off : Bool) (cut : Int) (K : Option Addr) (kn kc : Nat) (ops : Int) (w : World) : Fn Try.prog 39 [.pointer (some ⟨d, 0, none⟩)] [DK d a off cut K kn kc ops] (ret fun v H' => H' = [DK d a false cut K kn kc ops]) w := by
  refine fn_enter Try.func39 rfl Try.ntmps39 rfl ?_
  refine vc_seq ?_
  refine vc_region ?_
  refine vl_val rfl (.some rfl) (val_move rfl) ?_
  refine vl_callR [DK d a off cut K kn kc ops] rfl rfl (.some rfl) Try.call80 rfl (by repeat constructor) (fun w hw => dMade d a off cut K kn kc ops w) ?_
  refine vl_nil ?_
  refine vc_cond rfl (fun _ => ?_) (fun h => by cases h)
  refine vc_region ?_
  refine vl_val rfl (.some rfl) (val_move rfl) ?_
  refine vl_val rfl (.some rfl) (val_nil rfl rfl) ?_
  refine vl_val rfl (.some rfl) (by first | exact val_fieldAddr Try.runUnderlying91 rfl Try.sizeOf4 rfl | exact val_fieldAddrR Try.runUnderlying91 rfl Try.sizeOf4 rfl) ?_
  first | refine vl_store rfl rfl .none rfl rfl Try.sizeOf4 rfl (by repeat constructor) (by first | decide | exact Nat.le_refl _ | exact Nat.le_of_ble_eq_true rfl | (simp; omega)) ?_ | refine vl_storeSl rfl rfl .none rfl rfl Try.sizeOf4 rfl (by simp [Value.cells]) (by repeat constructor) (by first | decide | (simp [Value.cells]; omega)) ?_
  refine vl_nil ?_
  refine ⟨_, [DK d a false cut K kn kc ops], _, res0 Try.results39, (by repeat constructor), ?_⟩
  exact rfl
set_option maxRecDepth 20000 in
theorem dOps (d a : Nat) (off : Bool) (cut : Int) (K : Option Addr) (kn kc : Nat) (ops : Int) (w : World) : FnR Try.prog 43 [.pointer (some ⟨d, 0, none⟩)] [DK d a off cut K kn kc ops] (.int .i64 ops) w := by
  refine fn_enter Try.func43 rfl Try.ntmps43 rfl ?_
  refine vc_seq ?_
  refine vc_region ?_
  refine vl_val rfl (.some rfl) (val_assign rfl) ?_
  refine vl_nil ?_
  refine vc_seq ?_
  refine vc_seq ?_
  refine vc_region ?_
  refine vl_val rfl (.some rfl) (val_move rfl) ?_
  refine vl_callR [DK d a off cut K kn kc ops] rfl rfl (.some rfl) Try.call80 rfl (by repeat constructor) (fun w hw => dMade d a off cut K kn kc ops w) ?_
  refine vl_val rfl (.some rfl) (val_not rfl) ?_
  refine vl_nil ?_
  refine vc_cond rfl (fun h => by cases h) (fun _ => ?_)
  refine vc_skip ?_
  refine vc_seq ?_
  refine vc_region ?_
  refine vl_val rfl (.some rfl) (val_move rfl) ?_
  refine vl_val rfl (.some rfl) (val_nil rfl rfl) ?_
  refine vl_val rfl (.some rfl) (by first | exact val_fieldAddr Try.runUnderlying91 rfl Try.sizeOf3 rfl | exact val_fieldAddrR Try.runUnderlying91 rfl Try.sizeOf3 rfl) ?_
  refine vl_val rfl (.some rfl) (val_load Try.isAgg3 rfl (by first | exact cell_cells (by repeat constructor) rfl | exact cell_rd (by first | exact rd_sl (by repeat constructor) | exact rd_old (by assumption) rfl) (by first | exact bcells_at (by omega) | exact ucells_at (by omega) | exact icells_at (by omega) | exact tcells_at (by omega) | exact bcells_get (by omega) | exact icells_get (by omega) | exact tcells_get (by omega) | exact ucells_get (by omega)) | exact cell_old (by assumption) (by simp [fps]))) ?_
  refine vl_val rfl (.some rfl) (val_assign rfl) ?_
  refine vl_nil ?_
  refine vc_ret ?_
  refine ⟨_, [DK d a off cut K kn kc ops], _, res1 Try.results43 rfl, (by repeat constructor), ?_⟩
  exact ⟨rfl, rfl⟩
set_option maxRecDepth 20000 in
theorem dCloneI (A : Option Addr) (c : Nat) (l : List Int) (hl : l.length ≤ 1000000) (w : World) (hr : Reads w A (icells .i64 l)) : Fn Try.prog 79 [.slice A l.length c] [] (ret fun u H' => ∃ A' c', u = .slice A' l.length c' ∧ H' = [sl A' l.length c' 3 1 (icells .i64 l)]) w := by
  refine fn_enter Try.func79 rfl Try.ntmps79 rfl ?_
  refine vc_seq ?_
  refine vc_region ?_
  refine vl_val rfl (.some rfl) (val_assign rfl) ?_
  refine vl_nil ?_
  refine vc_seq ?_
  refine vc_seq ?_
  refine vc_region ?_
  refine vl_val rfl (.some rfl) (val_move rfl) ?_
  refine vl_val rfl (.some rfl) (val_opO rfl rfl guard_slice (bin_slice_eq Try.runUnderlying69)) ?_
  refine vl_nil ?_
  refine vc_cond rfl (fun hc0 => ?_) (fun hc0 => ?_)
  · (try replace hc0 := of_decide_eq_true hc0)
    refine vc_seq ?_
    refine vc_region ?_
    obtain rfl : A = none := by simpa using hc0
    have hz : (icells .i64 l) = [] := by
      rcases hc : (icells .i64 l) with _ | ⟨u, t⟩
      · rfl
      · obtain ⟨x, hx', _⟩ := hr 0 u (by rw [hc]; rfl); cases hx'
    obtain rfl : l = [] := by
      have := congrArg List.length hz
      rw [icells_length] at this
      exact List.eq_nil_of_length_eq_zero (by simp only [List.length_nil] at this; omega)
    refine vl_val rfl (.some rfl) (val_assign rfl) ?_
    refine vl_nilSl 3 1 ?_
    refine vl_nil ?_
    refine vc_ret ?_
    refine ⟨_, [sl none 0 0 3 1 []], _, res1 Try.results79 rfl, (by repeat constructor), ?_⟩
    exact ⟨none, 0, rfl, rfl⟩
  · (try replace hc0 := of_decide_eq_false hc0)
    refine vc_skip ?_
    refine vc_seq ?_
    refine vc_region ?_
    refine vl_lit0 sT69 Try.sizeOf3 rfl rfl (.some rfl) (fun r5 => ?_)
    refine vl_val rfl (.some rfl) (val_move rfl) ?_
    refine vl_append sT69 rfl rfl (.some rfl) rfl rfl (rd_old hr rfl) (by rw [icells_length]; omega) (one_i l) (by omega) (by omega) (by repeat constructor) (fun A7 k7 => ?_)
    rw [Nat.zero_add, List.nil_append]
    refine vl_val rfl (.some rfl) (val_assign rfl) ?_
    refine vl_nil ?_
    refine vc_ret ?_
    refine ⟨_, [sl A7 l.length k7 3 1 (icells .i64 l)], _, res1 Try.results79 rfl, (by repeat constructor), ?_⟩
    exact ⟨A7, k7, rfl, rfl⟩
set_option maxRecDepth 20000 in
theorem dCloneB (A : Option Addr) (c : Nat) (l : List UInt8) (hl : l.length ≤ 1000000) (w : World) (hr : Reads w A (bcells l)) : Fn Try.prog 81 [.slice A l.length c] [] (ret fun u H' => ∃ A' c', u = .slice A' l.length c' ∧ H' = [sl A' l.length c' 5 1 (bcells l)]) w := by
  refine fn_enter Try.func81 rfl Try.ntmps81 rfl ?_
  refine vc_seq ?_
  refine vc_region ?_
  refine vl_val rfl (.some rfl) (val_assign rfl) ?_
  refine vl_nil ?_
  refine vc_seq ?_
  refine vc_seq ?_
  refine vc_region ?_
  refine vl_val rfl (.some rfl) (val_move rfl) ?_
  refine vl_val rfl (.some rfl) (val_opO rfl rfl guard_slice (bin_slice_eq Try.runUnderlying22)) ?_
  refine vl_nil ?_
  refine vc_cond rfl (fun hc0 => ?_) (fun hc0 => ?_)
  · (try replace hc0 := of_decide_eq_true hc0)
    refine vc_seq ?_
    refine vc_region ?_
    obtain rfl : A = none := by simpa using hc0
    have hz : (bcells l) = [] := by
      rcases hc : (bcells l) with _ | ⟨u, t⟩
      · rfl
      · obtain ⟨x, hx', _⟩ := hr 0 u (by rw [hc]; rfl); cases hx'
    obtain rfl : l = [] := by
      have := congrArg List.length hz
      rw [bcells_length] at this
      exact List.eq_nil_of_length_eq_zero (by simp only [List.length_nil] at this; omega)
    refine vl_val rfl (.some rfl) (val_assign rfl) ?_
    refine vl_nilSl 5 1 ?_
    refine vl_nil ?_
    refine vc_ret ?_
    refine ⟨_, [sl none 0 0 5 1 []], _, res1 Try.results81 rfl, (by repeat constructor), ?_⟩
    exact ⟨none, 0, rfl, rfl⟩
  · (try replace hc0 := of_decide_eq_false hc0)
    refine vc_skip ?_
    refine vc_seq ?_
    refine vc_region ?_
    refine vl_lit0 sT22 Try.sizeOf5 rfl rfl (.some rfl) (fun r5 => ?_)
    refine vl_val rfl (.some rfl) (val_move rfl) ?_
    refine vl_append sT22 rfl rfl (.some rfl) rfl rfl (rd_old hr rfl) (by rw [bcells_length]; omega) (one_b l) (by omega) (by omega) (by repeat constructor) (fun A7 k7 => ?_)
    rw [Nat.zero_add, List.nil_append]
    refine vl_val rfl (.some rfl) (val_assign rfl) ?_
    refine vl_nil ?_
    refine vc_ret ?_
    refine ⟨_, [sl A7 l.length k7 5 1 (bcells l)], _, res1 Try.results81 rfl, (by repeat constructor), ?_⟩
    exact ⟨A7, k7, rfl, rfl⟩


set_option maxRecDepth 20000 in
theorem sT37 : SlT Try.prog 37 9 1 16 (.string .empty) := ⟨Try.underlying37, ⟨Try.t9, Try.type9, rfl, rfl, rfl⟩, rfl, Nat.lt_of_sub_eq_succ rfl⟩

theorem val_look0 {X : Cx} {E : Env} {H : List Chunk} {mt kt et ty a : Nat} {x y : Operand} {k : List UInt8} {ks : List (List UInt8)} {vs : List Value} {z : Value} (K : KeyQ X.P mt kt et kS z) (hn : kfind k ks vs 0 = none) (hx : E.ev x = some (.map (some a))) (hy : E.ev y = some (kS k)) (hm : In (mq kS a ks vs) H) :
    Val X E H (.lookup mt x y false) ty z := by
  have h := val_lookupQ (ty := ty) K hx hy hm
  unfold kval at h
  rw [hn] at h
  exact h
theorem val_look1 {X : Cx} {E : Env} {H : List Chunk} {mt kt et ty a i : Nat} {x y : Operand} {k : List UInt8} {ks : List (List UInt8)} {vs : List Value} {z v : Value} (K : KeyQ X.P mt kt et kS z) (hn : kfind k ks vs 0 = some (i, v)) (hx : E.ev x = some (.map (some a))) (hy : E.ev y = some (kS k)) (hm : In (mq kS a ks vs) H) :
    Val X E H (.lookup mt x y false) ty v := by
  have h := val_lookupQ (ty := ty) K hx hy hm
  unfold kval at h
  rw [hn] at h
  exact h

set_option maxRecDepth 20000 in
theorem dOp0 (d a : Nat) (off : Bool) (K : Option Addr) (kn kc : Nat) (ops : Int) (hops : 0 ≤ ops ∧ ops < 4611686018427387904) (g : FuncId) (fs cs : List Value) (C : List Chunk) (Φ : List Chunk → Prop) (hgc : ∀ args w, (callFunc g args).run Try.prog w = .ok (.enter g args) w) (hgd : ∀ w, Fn Try.prog g (fs ++ [] ++ cs) (DK d a off 0 K kn kc (ops + 1) :: C) (ret fun v H' => ∃ C', H' = DK d a off 0 K kn kc (ops + 1) :: C' ∧ Φ C') w) (w : World) : Fn Try.prog 74 [.pointer (some ⟨d, 0, none⟩), .func (.func g) fs.toArray cs.toArray] (DK d a off 0 K kn kc ops :: C) (ret fun v H' => v = .int .i64 0 ∧ ∃ C', H' = DK d a off 0 K kn kc (ops + 1) :: C' ∧ Φ C') w := by
  refine fn_enter Try.func74 rfl Try.ntmps74 rfl ?_
  refine vc_seq ?_
  refine vc_region ?_
  refine vl_val rfl (.some rfl) (val_assign rfl) ?_
  refine vl_nil ?_
  refine vc_seq ?_
  refine vc_region ?_
  refine vl_val rfl (.some rfl) (val_move rfl) ?_
  refine vl_val rfl (.some rfl) (val_nil rfl rfl) ?_
  refine vl_val rfl (.some rfl) (by first | exact val_fieldAddr Try.runUnderlying91 rfl Try.sizeOf3 rfl | exact val_fieldAddrR Try.runUnderlying91 rfl Try.sizeOf3 rfl) ?_
  refine vl_val rfl (.some rfl) (val_load Try.isAgg3 rfl (by first | exact cell_cells (by repeat constructor) rfl | exact cell_rd (by first | exact rd_sl (by repeat constructor) | exact rd_old (by assumption) rfl) (by first | exact bcells_at (by omega) | exact ucells_at (by omega) | exact icells_at (by omega) | exact tcells_at (by omega) | exact bcells_get (by omega) | exact icells_get (by omega) | exact tcells_get (by omega) | exact ucells_get (by omega)) | exact cell_old (by assumption) (by simp [fps]))) ?_
  refine vl_val rfl (.some rfl) (val_add rfl rfl (by first | exact w_i64 (by omega) (by omega) | rfl)) ?_
  refine vl_val rfl (.some rfl) (val_nil rfl rfl) ?_
  refine vl_val rfl (.some rfl) (by first | exact val_fieldAddr Try.runUnderlying91 rfl Try.sizeOf3 rfl | exact val_fieldAddrR Try.runUnderlying91 rfl Try.sizeOf3 rfl) ?_
  first | refine vl_store rfl rfl .none rfl rfl Try.sizeOf3 rfl (by repeat constructor) (by first | decide | exact Nat.le_refl _ | exact Nat.le_of_ble_eq_true rfl | (simp; omega)) ?_ | refine vl_storeSl rfl rfl .none rfl rfl Try.sizeOf3 rfl (by simp [Value.cells]) (by repeat constructor) (by first | decide | (simp [Value.cells]; omega)) ?_
  refine vl_nil ?_
  refine vc_seq ?_
  refine vc_seq ?_
  refine vc_region ?_
  refine vl_val rfl (.some rfl) (val_move rfl) ?_
  refine vl_val rfl (.some rfl) (val_nil rfl rfl) ?_
  refine vl_val rfl (.some rfl) (by first | exact val_fieldAddr Try.runUnderlying91 rfl Try.sizeOf3 rfl | exact val_fieldAddrR Try.runUnderlying91 rfl Try.sizeOf3 rfl) ?_
  refine vl_val rfl (.some rfl) (val_load Try.isAgg3 rfl (by first | exact cell_cells (by repeat constructor) rfl | exact cell_rd (by first | exact rd_sl (by repeat constructor) | exact rd_old (by assumption) rfl) (by first | exact bcells_at (by omega) | exact ucells_at (by omega) | exact icells_at (by omega) | exact tcells_at (by omega) | exact bcells_get (by omega) | exact icells_get (by omega) | exact tcells_get (by omega) | exact ucells_get (by omega)) | exact cell_old (by assumption) (by simp [fps]))) ?_
  refine vl_val rfl (.some rfl) (val_gt rfl rfl) ?_
  refine vl_nil ?_
  refine vc_cond rfl (fun hc0 => False.elim (by (try replace hc0 := of_decide_eq_true hc0); revert hc0; decide)) (fun hc0 => ?_)
  (try replace hc0 := of_decide_eq_false hc0)
  refine vc_skip ?_
  refine vc_seq ?_
  refine vc_region ?_
  refine vl_val rfl (.some rfl) (val_move rfl) ?_
  refine vl_callv (C := DK d a off 0 K kn kc (ops + 1) :: C) (F := []) rfl rfl (.some rfl) rfl hgc rfl (sub_self _) (fun w hw => hgd w) (fun v H' h => ?_)
  obtain ⟨C', rfl, hΦ⟩ := h
  rw [List.append_nil]
  refine vl_nil ?_
  refine vc_seq ?_
  refine vc_region ?_
  refine vl_val rfl (.some rfl) (val_assign rfl) ?_
  refine vl_nil ?_
  refine vc_ret ?_
  exact ⟨_, _, _, res1 Try.results74 rfl, sub_self _, rfl, C', rfl, hΦ⟩
set_option maxRecDepth 20000 in
theorem dCreate1 (d a : Nat) (off : Bool) (cut : Int) (K : Option Addr) (kn kc : Nat) (ops : Int) (b1 b2 : Nat) (name : List UInt8) (ks : List (List UInt8)) (vs : List Value) (hn : kfind name ks vs 0 = none) (w : World) : Fn Try.prog 75 [.pointer (some ⟨b1, 0, none⟩), .pointer (some ⟨b2, 0, none⟩)] (DK d a off cut K kn kc ops :: [cells b1 [.pointer (some ⟨d, 0, none⟩)] 64, cells b2 [.string (sL name)] 9, mq kS a ks vs]) (ret fun v H' => ∃ C', H' = DK d a off cut K kn kc ops :: C' ∧ ∃ f, C' = [cells b1 [.pointer (some ⟨d, 0, none⟩)] 64, cells b2 [.string (sL name)] 9, FL f none 0 0 0, mq kS a (ks ++ [name]) (vs ++ [.pointer (some ⟨f, 0, none⟩)])]) w := by
  refine fn_enter Try.func75 rfl Try.ntmps75 rfl ?_
  refine vc_drawsS [0, 1, 2, 3, 4, 5] [7] [0, 1, 2, 3, 4, 5, 6, 7] [DK d a off cut K kn kc ops, cells b1 [.pointer (some ⟨d, 0, none⟩)] 64, cells b2 [.string (sL name)] 9] (by repeat constructor) rfl (by kernel_rfl) (fun _ _ _ h => h) ?_
  refine vd_val rfl rfl rfl (.some rfl) (val_load Try.isAgg64 rfl (by first | exact cell_cells (by repeat constructor) rfl | exact cell_rd (by first | exact rd_sl (by repeat constructor) | exact rd_old (by assumption) rfl) (by first | exact bcells_at (by omega) | exact ucells_at (by omega) | exact icells_at (by omega) | exact tcells_at (by omega) | exact bcells_get (by omega) | exact icells_get (by omega) | exact tcells_get (by omega) | exact ucells_get (by omega)) | exact cell_old (by assumption) (by simp [fps]))) ?_
  refine vd_val rfl rfl rfl (.some rfl) (val_nil rfl rfl) ?_
  refine vd_val rfl rfl rfl (.some rfl) (by first | exact val_fieldAddr Try.runUnderlying91 rfl Try.sizeOf89 rfl | exact val_fieldAddrR Try.runUnderlying91 rfl Try.sizeOf89 rfl) ?_
  refine vd_val rfl rfl rfl (.some rfl) (val_load Try.isAgg89 rfl (by first | exact cell_cells (by repeat constructor) rfl | exact cell_rd (by first | exact rd_sl (by repeat constructor) | exact rd_old (by assumption) rfl) (by first | exact bcells_at (by omega) | exact ucells_at (by omega) | exact icells_at (by omega) | exact tcells_at (by omega) | exact bcells_get (by omega) | exact icells_get (by omega) | exact tcells_get (by omega) | exact ucells_get (by omega)) | exact cell_old (by assumption) (by simp [fps]))) ?_
  refine vd_val rfl rfl rfl (.some rfl) (val_load Try.isAgg9 rfl (by first | exact cell_cells (by repeat constructor) rfl | exact cell_rd (by first | exact rd_sl (by repeat constructor) | exact rd_old (by assumption) rfl) (by first | exact bcells_at (by omega) | exact ucells_at (by omega) | exact icells_at (by omega) | exact tcells_at (by omega) | exact bcells_get (by omega) | exact icells_get (by omega) | exact tcells_get (by omega) | exact ucells_get (by omega)) | exact cell_old (by assumption) (by simp [fps]))) ?_
  refine vd_val rfl rfl rfl (.some rfl) (val_buildSt (pl := #[(0, 1), (1, 1)]) (cs := #[.slice none 0 0, .int .i64 0]) Try.runUnderlying139 Try.zeroValue139 (fun w => by kernel_rfl) rfl rfl) ?_
  refine vd_op rfl rfl ?_
  refine vl_box rfl rfl (.some rfl) rfl (fun r8 => ?_)
  refine vl_nil ?_
  refine ⟨fun _ => ⟨_, (by repeat (first | exact .nil | exact sub_self _ | exact sub_skip (sub_self _) | exact sub_skip (sub_skip (sub_self _)) | exact sub_skip (sub_skip (sub_skip (sub_self _))) | (apply Sub.cons; · repeat (first | exact .head | apply Take.tail))))⟩, ?_⟩
  refine vd_op rfl rfl ?_
  refine vl_mapNewQ kQ rfl rfl .none rfl rfl rfl hn (by repeat constructor) ?_
  refine vl_nil ?_
  refine ⟨fun h => (by cases h), ?_⟩
  refine vd_nil ?_
  refine ⟨_, [DK d a off cut K kn kc ops, cells b1 [.pointer (some ⟨d, 0, none⟩)] 64, cells b2 [.string (sL name)] 9, FL r8 none 0 0 0, mq kS a (ks ++ [name]) (vs ++ [.pointer (some ⟨r8, 0, none⟩)])], _, res0 Try.results75, (by repeat constructor), ?_⟩
  exact ⟨_, rfl, r8, rfl⟩
set_option maxRecDepth 20000 in
theorem dCreate (d a : Nat) (K : Option Addr) (kn kc : Nat) (ops : Int) (hops : 0 ≤ ops ∧ ops < 4611686018427387904) (name : List UInt8) (ks : List (List UInt8)) (vs : List Value) (hn : kfind name ks vs 0 = none) (hk : ks.length < 64) (hnm : fnameP name) (w : World) : Fn Try.prog 34 [.pointer (some ⟨d, 0, none⟩), .string (sL name)] [DK d a false 0 K kn kc ops, mq kS a ks vs] (ret fun v H' => v = .int .i64 0 ∧ ∃ f, H' = [DK d a false 0 K kn kc (ops + 1), FL f none 0 0 0, mq kS a (ks ++ [name]) (vs ++ [.pointer (some ⟨f, 0, none⟩)])]) w := by
  have hgn : ∀ x ∈ [name], fnameP x := fun x hx => by rw [List.mem_singleton.1 hx]; exact hnm
  refine fn_enter Try.func34 rfl Try.ntmps34 rfl ?_
  refine vc_seq ?_
  refine vc_region ?_
  refine vl_box rfl rfl (.some rfl) rfl (fun r2 => ?_)
  refine vl_box rfl rfl (.some rfl) rfl (fun r3 => ?_)
  refine vl_val rfl (.some rfl) (val_assign rfl) ?_
  refine vl_nil ?_
  refine vc_seq ?_
  refine vc_seq ?_
  refine vc_region ?_
  refine vl_val rfl (.some rfl) (val_load Try.isAgg64 rfl (by first | exact cell_cells (by repeat constructor) rfl | exact cell_rd (by first | exact rd_sl (by repeat constructor) | exact rd_old (by assumption) rfl) (by first | exact bcells_at (by omega) | exact ucells_at (by omega) | exact icells_at (by omega) | exact tcells_at (by omega) | exact bcells_get (by omega) | exact icells_get (by omega) | exact tcells_get (by omega) | exact ucells_get (by omega)) | exact cell_old (by assumption) (by simp [fps]))) ?_
  refine vl_val rfl (.some rfl) (val_load Try.isAgg9 rfl (by first | exact cell_cells (by repeat constructor) rfl | exact cell_rd (by first | exact rd_sl (by repeat constructor) | exact rd_old (by assumption) rfl) (by first | exact bcells_at (by omega) | exact ucells_at (by omega) | exact icells_at (by omega) | exact tcells_at (by omega) | exact bcells_get (by omega) | exact icells_get (by omega) | exact tcells_get (by omega) | exact ucells_get (by omega)) | exact cell_old (by assumption) (by simp [fps]))) ?_
  refine vl_lit sT37 rfl rfl (.some rfl) rfl rfl rfl (by decide) (by decide) rfl (flat_one rfl) (fun r8 => ?_)
  refine vl_callR [DK d a false 0 K kn kc ops, sl (some ⟨r8, 0, none⟩) ([name]).length 1 9 1 (tcS [name])] rfl rfl (.some rfl) Try.call73 rfl (by repeat constructor) (fun w hw => dMay d a false 0 K kn kc ops (some ⟨r8, 0, none⟩) 1 [name] hgn (by simp) w) ?_
  refine vl_val rfl (.some rfl) (val_assign rfl) ?_
  refine vl_nil ?_
  refine vc_seq ?_
  refine vc_region ?_
  refine vl_val rfl (.some rfl) (val_move rfl) ?_
  refine vl_val rfl (.some rfl) (val_ne rfl rfl) ?_
  refine vl_nil ?_
  refine vc_cond rfl (fun hc0 => False.elim (by (try replace hc0 := of_decide_eq_true hc0); exact hc0 rfl)) (fun hc0 => ?_)
  (try replace hc0 := of_decide_eq_false hc0)
  refine vc_skip ?_
  refine vc_seq ?_
  refine vc_seq ?_
  refine vc_drawsS [0, 1, 2, 3, 4, 5, 6, 7, 8, 9, 10, 11, 12, 13, 14] [] [0, 1, 2, 3, 4, 5, 6, 7, 8, 9, 10, 11, 12, 13, 14] [cells r2 [.pointer (some ⟨d, 0, none⟩)] 64, cells r3 [.string (sL name)] 9, DK d a false 0 K kn kc ops, mq kS a ks vs] (by repeat constructor) rfl (by kernel_rfl) (fun _ _ _ h => h) ?_
  refine vd_val rfl rfl rfl (.some rfl) (val_load Try.isAgg64 rfl (by first | exact cell_cells (by repeat constructor) rfl | exact cell_rd (by first | exact rd_sl (by repeat constructor) | exact rd_old (by assumption) rfl) (by first | exact bcells_at (by omega) | exact ucells_at (by omega) | exact icells_at (by omega) | exact tcells_at (by omega) | exact bcells_get (by omega) | exact icells_get (by omega) | exact tcells_get (by omega) | exact ucells_get (by omega)) | exact cell_old (by assumption) (by simp [fps]))) ?_
  refine vd_val rfl rfl rfl (.some rfl) (val_nil rfl rfl) ?_
  refine vd_val rfl rfl rfl (.some rfl) (by first | exact val_fieldAddr Try.runUnderlying91 rfl Try.sizeOf89 rfl | exact val_fieldAddrR Try.runUnderlying91 rfl Try.sizeOf89 rfl) ?_
  refine vd_val rfl rfl rfl (.some rfl) (val_load Try.isAgg89 rfl (by first | exact cell_cells (by repeat constructor) rfl | exact cell_rd (by first | exact rd_sl (by repeat constructor) | exact rd_old (by assumption) rfl) (by first | exact bcells_at (by omega) | exact ucells_at (by omega) | exact icells_at (by omega) | exact tcells_at (by omega) | exact bcells_get (by omega) | exact icells_get (by omega) | exact tcells_get (by omega) | exact ucells_get (by omega)) | exact cell_old (by assumption) (by simp [fps]))) ?_
  refine vd_val rfl rfl rfl (.some rfl) (val_load Try.isAgg9 rfl (by first | exact cell_cells (by repeat constructor) rfl | exact cell_rd (by first | exact rd_sl (by repeat constructor) | exact rd_old (by assumption) rfl) (by first | exact bcells_at (by omega) | exact ucells_at (by omega) | exact icells_at (by omega) | exact tcells_at (by omega) | exact bcells_get (by omega) | exact icells_get (by omega) | exact tcells_get (by omega) | exact ucells_get (by omega)) | exact cell_old (by assumption) (by simp [fps]))) ?_
  refine vd_val rfl rfl rfl (.some rfl) (val_look0 kQ hn rfl rfl (by repeat constructor)) ?_
  refine vd_val rfl rfl rfl (.some rfl) (val_opO rfl rfl guard_ptr (bin_nil_eq Try.runUnderlying136)) ?_
  refine vd_val rfl rfl rfl (.some rfl) (val_move rfl) ?_
  refine vd_on rfl rfl rfl rfl rfl rfl (.some rfl) (val_load Try.isAgg64 rfl (by first | exact cell_cells (by repeat constructor) rfl | exact cell_rd (by first | exact rd_sl (by repeat constructor) | exact rd_old (by assumption) rfl) (by first | exact bcells_at (by omega) | exact ucells_at (by omega) | exact icells_at (by omega) | exact tcells_at (by omega) | exact bcells_get (by omega) | exact icells_get (by omega) | exact tcells_get (by omega) | exact ucells_get (by omega)) | exact cell_old (by assumption) (by simp [fps]))) ?_
  refine vd_on rfl rfl rfl rfl rfl rfl (.some rfl) (val_nil rfl rfl) ?_
  refine vd_on rfl rfl rfl rfl rfl rfl (.some rfl) (by first | exact val_fieldAddr Try.runUnderlying91 rfl Try.sizeOf89 rfl | exact val_fieldAddrR Try.runUnderlying91 rfl Try.sizeOf89 rfl) ?_
  refine vd_on rfl rfl rfl rfl rfl rfl (.some rfl) (val_load Try.isAgg89 rfl (by first | exact cell_cells (by repeat constructor) rfl | exact cell_rd (by first | exact rd_sl (by repeat constructor) | exact rd_old (by assumption) rfl) (by first | exact bcells_at (by omega) | exact ucells_at (by omega) | exact icells_at (by omega) | exact tcells_at (by omega) | exact bcells_get (by omega) | exact icells_get (by omega) | exact tcells_get (by omega) | exact ucells_get (by omega)) | exact cell_old (by assumption) (by simp [fps]))) ?_
  refine vd_on rfl rfl rfl rfl rfl rfl (.some rfl) (val_lenMapQ Try.runUnderlying89 rfl (by repeat constructor)) ?_
  refine vd_on rfl rfl rfl rfl rfl rfl (.some rfl) (val_ge rfl rfl) ?_
  refine vd_val rfl rfl rfl (.some rfl) (val_pick rfl rfl) ?_
  refine vd_nil ?_
  refine vc_cond rfl (fun hc1 => False.elim (by (try replace hc1 := of_decide_eq_true hc1); omega)) (fun hc1 => ?_)
  (try replace hc1 := of_decide_eq_false hc1)
  refine vc_skip ?_
  refine vc_seq ?_
  refine vc_region ?_
  refine vl_val rfl (.some rfl) (val_load Try.isAgg64 rfl (by first | exact cell_cells (by repeat constructor) rfl | exact cell_rd (by first | exact rd_sl (by repeat constructor) | exact rd_old (by assumption) rfl) (by first | exact bcells_at (by omega) | exact ucells_at (by omega) | exact icells_at (by omega) | exact tcells_at (by omega) | exact bcells_get (by omega) | exact icells_get (by omega) | exact tcells_get (by omega) | exact ucells_get (by omega)) | exact cell_old (by assumption) (by simp [fps]))) ?_
  refine vl_val rfl (.some rfl) (val_mkFunc (us := []) (vs := [.pointer (some ⟨r2, 0, none⟩), .pointer (some ⟨r3, 0, none⟩)]) rfl rfl) ?_
  refine vl_call (C := DK d a false 0 K kn kc ops :: [cells r2 [.pointer (some ⟨d, 0, none⟩)] 64, cells r3 [.string (sL name)] 9, mq kS a ks vs]) rfl rfl (.some rfl) Try.call74 rfl (by repeat constructor) (fun w hw => dOp0 d a false K kn kc ops hops 75 [] [.pointer (some ⟨r2, 0, none⟩), .pointer (some ⟨r3, 0, none⟩)] [cells r2 [.pointer (some ⟨d, 0, none⟩)] 64, cells r3 [.string (sL name)] 9, mq kS a ks vs] (fun C' => ∃ f, C' = [cells r2 [.pointer (some ⟨d, 0, none⟩)] 64, cells r3 [.string (sL name)] 9, FL f none 0 0 0, mq kS a (ks ++ [name]) (vs ++ [.pointer (some ⟨f, 0, none⟩)])]) Try.call75 (fun w => by
    have h := dCreate1 d a false 0 K kn kc (ops + 1) r2 r3 name ks vs hn w
    exact h) w) (fun v H' h => ?_)
  obtain ⟨rfl, C', rfl, f, rfl⟩ := h
  show VL _ _ _ _ _ (_ :: _)
  refine vl_val rfl (.some rfl) (val_assign rfl) ?_
  refine vl_nil ?_
  refine vc_ret ?_
  refine ⟨_, [DK d a false 0 K kn kc (ops + 1), FL f none 0 0 0, mq kS a (ks ++ [name]) (vs ++ [.pointer (some ⟨f, 0, none⟩)])], _, res1 Try.results34 rfl, (by repeat constructor), ?_⟩
  exact ⟨rfl, f, rfl⟩
set_option maxRecDepth 20000 in
theorem dOf (d a : Nat) (cut : Int) (K : Option Addr) (kn kc : Nat) (ops : Int) (name : List UInt8) (hnm : fnameP name) (ks : List (List UInt8)) (vs : List Value) (i f : Nat) (hf : kfind name ks vs 0 = some (i, .pointer (some ⟨f, 0, none⟩))) (w : World) : FnR Try.prog 76 [.pointer (some ⟨d, 0, none⟩), .string (sL name), .slice none 0 0] [DK d a false cut K kn kc ops, mq kS a ks vs] (.tuple #[.pointer (some ⟨f, 0, none⟩), .int .i64 0]) w := by
  have hgn : ∀ x ∈ [name], fnameP x := fun x hx => by rw [List.mem_singleton.1 hx]; exact hnm
  refine fn_enter Try.func76 rfl Try.ntmps76 rfl ?_
  refine vc_seq ?_
  refine vc_region ?_
  refine vl_val rfl (.some rfl) (val_assign rfl) ?_
  refine vl_val rfl (.some rfl) (val_assign rfl) ?_
  refine vl_nil ?_
  refine vc_seq ?_
  refine vc_seq ?_
  refine vc_region ?_
  refine vl_val rfl (.some rfl) (val_move rfl) ?_
  refine vl_val rfl (.some rfl) (val_move rfl) ?_
  refine vl_lit sT37 rfl rfl (.some rfl) rfl rfl rfl (by decide) (by decide) rfl (flat_one rfl) (fun r12 => ?_)
  refine vl_val rfl (.some rfl) (val_move rfl) ?_
  refine vl_append (vs := [.string (sL name)]) (us := []) sT37 rfl rfl (.some rfl) rfl rfl (fun w _ j u hu => by cases hu) rfl rfl (by omega) (by omega) (by repeat constructor) (fun A14 k14 => ?_)
  refine (show VL _ _ _ _ _ (sl A14 [name].length k14 9 1 (tcS [name]) :: _) from ?_)
  refine vl_callR [DK d a false cut K kn kc ops, sl A14 ([name]).length k14 9 1 (tcS [name])] rfl rfl (.some rfl) Try.call73 rfl (by repeat constructor) (fun w hw => dMay d a false cut K kn kc ops A14 k14 [name] hgn (by simp) w) ?_
  refine vl_val rfl (.some rfl) (val_assign rfl) ?_
  refine vl_nil ?_
  refine vc_seq ?_
  refine vc_region ?_
  refine vl_val rfl (.some rfl) (val_move rfl) ?_
  refine vl_val rfl (.some rfl) (val_ne rfl rfl) ?_
  refine vl_nil ?_
  refine vc_cond rfl (fun hc0 => False.elim (by (try replace hc0 := of_decide_eq_true hc0); exact hc0 rfl)) (fun hc0 => ?_)
  (try replace hc0 := of_decide_eq_false hc0)
  refine vc_skip ?_
  refine vc_seq ?_
  refine vc_region ?_
  refine vl_val rfl (.some rfl) (val_move rfl) ?_
  refine vl_val rfl (.some rfl) (val_nil rfl rfl) ?_
  refine vl_val rfl (.some rfl) (by first | exact val_fieldAddr Try.runUnderlying91 rfl Try.sizeOf89 rfl | exact val_fieldAddrR Try.runUnderlying91 rfl Try.sizeOf89 rfl) ?_
  refine vl_val rfl (.some rfl) (val_load Try.isAgg89 rfl (by first | exact cell_cells (by repeat constructor) rfl | exact cell_rd (by first | exact rd_sl (by repeat constructor) | exact rd_old (by assumption) rfl) (by first | exact bcells_at (by omega) | exact ucells_at (by omega) | exact icells_at (by omega) | exact tcells_at (by omega) | exact bcells_get (by omega) | exact icells_get (by omega) | exact tcells_get (by omega) | exact ucells_get (by omega)) | exact cell_old (by assumption) (by simp [fps]))) ?_
  refine vl_val rfl (.some rfl) (val_move rfl) ?_
  refine vl_val rfl (.some rfl) (val_look1 kQ hf rfl rfl (by repeat constructor)) ?_
  refine vl_val rfl (.some rfl) (val_assign rfl) ?_
  refine vl_nil ?_
  refine vc_seq ?_
  refine vc_seq ?_
  refine vc_region ?_
  refine vl_val rfl (.some rfl) (val_move rfl) ?_
  refine vl_val rfl (.some rfl) (val_opO rfl rfl guard_ptr (bin_ptr_eq Try.runUnderlying136)) ?_
  refine vl_nil ?_
  refine vc_cond rfl (fun h => by cases h) (fun _ => ?_)
  refine vc_skip ?_
  refine vc_seq ?_
  refine vc_region ?_
  refine vl_val rfl (.some rfl) (val_move rfl) ?_
  refine vl_val rfl (.some rfl) (val_assign rfl) ?_
  refine vl_val rfl (.some rfl) (val_assign rfl) ?_
  refine vl_nil ?_
  refine vc_ret ?_
  refine ⟨_, [DK d a false cut K kn kc ops, mq kS a ks vs], _, res2 Try.results76 rfl rfl, (by repeat constructor), ?_⟩
  exact ⟨rfl, rfl⟩




theorem kS_inj (x y : List UInt8) (h : kS x = kS y) : x = y := by simpa using h

theorem vc_nilSl {X : Cx} {Q : Post} {E : Env} {H : List Chunk} {c : Code} (e sz : Nat) (h : VC X c Q E (sl none 0 0 e sz [] :: H)) : VC X c Q E H := by
  intro a w ha hw
  refine h a w ha ?_
  have := Holds.change (w := w) (C := []) (C' := [sl none 0 0 e sz []]) (F := H) (w' := w) (by simpa using hw) (Nat.le_refl _) rfl rfl rfl (fun _ _ _ => rfl) (by
    intro c hc
    simp at hc
    subst hc
    simp [sl, World.ownsRow]) (by simp [fps, sl, ownFp]) (by simp [fps, sl, ownFp])
  simpa using this

set_option maxRecDepth 20000 in
theorem dIns (A : Option Addr) (c : Nat) (w : World) : Fn Try.prog 132 [.slice A 1 c, .int .i64 0, .int .i64 1] [] (ret fun v H' => H' = []) w := by
  refine fn_enter Try.func132 rfl Try.ntmps132 rfl ?_
  refine vc_seq ?_
  refine vc_region ?_
  refine vl_val rfl (.some rfl) (val_move rfl) ?_
  refine vl_val rfl (.some rfl) (val_add rfl rfl (by first | exact w_i64 (by omega) (by omega) | rfl)) ?_
  refine vl_val rfl (.some rfl) (val_assign rfl) ?_
  refine vl_nil ?_
  refine vc_block ?_
  refine vc_loopw (fun m E H => E = [(0, .slice A 1 c), (1, .int .i64 0), (2, .int .i64 1), (6, .int .i64 1)] ∧ H = []) (0) ⟨_, _, _, ⟨rfl, rfl⟩, (by repeat (first | exact trivial | refine ⟨rfl, ?_⟩ | refine ⟨le_item rfl (by first | rfl | (congr 1; omega) | (simp; done) | (simp; omega)), ?_⟩)), (by repeat constructor)⟩ ?_
  intro m E H hI
  obtain ⟨rfl, rfl⟩ := hI
  refine vc_seq ?_
  refine vc_seq ?_
  refine vc_region ?_
  refine vl_val rfl (.some rfl) (val_move rfl) ?_
  refine vl_val rfl (.some rfl) (val_move rfl) ?_
  refine vl_val rfl (.some rfl) (val_lt rfl rfl) ?_
  refine vl_nil ?_
  refine vc_cond rfl (fun hc0 => False.elim (by (try replace hc0 := of_decide_eq_true hc0); revert hc0; decide)) (fun hc0 => ?_)
  (try replace hc0 := of_decide_eq_false hc0)
  refine vc_exit ?_
  refine ⟨_, [], _, res0 Try.results132, (by repeat constructor), ?_⟩
  exact rfl
set_option maxRecDepth 20000 in
theorem dPdq (A : Option Addr) (c : Nat) (lim : Int) (w : World) : Fn Try.prog 117 [.slice A 1 c, .int .i64 0, .int .i64 1, .int .i64 lim] [] (ret fun v H' => H' = []) w := by
  refine fn_enter Try.func117 rfl Try.ntmps117 rfl ?_
  refine vc_seq ?_
  refine vc_region ?_
  refine vl_val rfl (.some rfl) (val_assign rfl) ?_
  refine vl_nil ?_
  refine vc_seq ?_
  refine vc_region ?_
  refine vl_val rfl (.some rfl) (val_assign rfl) ?_
  refine vl_nil ?_
  refine vc_block ?_
  refine vc_loopw (fun m E H => E = [(0, .slice A 1 c), (1, .int .i64 0), (2, .int .i64 1), (3, .int .i64 lim)] ∧ H = []) (0) ⟨_, _, _, ⟨rfl, rfl⟩, (by repeat (first | exact trivial | refine ⟨rfl, ?_⟩ | refine ⟨le_item rfl (by first | rfl | (congr 1; omega) | (simp; done) | (simp; omega)), ?_⟩)), (by repeat constructor)⟩ ?_
  intro m E H hI
  obtain ⟨rfl, rfl⟩ := hI
  refine vc_block ?_
  refine vc_seq ?_
  refine vc_region ?_
  refine vl_val rfl (.some rfl) (val_move rfl) ?_
  refine vl_val rfl (.some rfl) (val_move rfl) ?_
  refine vl_val rfl (.some rfl) (val_sub rfl rfl (by first | exact w_i64 (by omega) (by omega) | rfl)) ?_
  refine vl_val rfl (.some rfl) (val_assign rfl) ?_
  refine vl_nil ?_
  refine vc_seq ?_
  refine vc_seq ?_
  refine vc_region ?_
  refine vl_val rfl (.some rfl) (val_move rfl) ?_
  refine vl_val rfl (.some rfl) (val_le rfl rfl) ?_
  refine vl_nil ?_
  refine vc_cond rfl (fun hc0 => ?_) (fun hc0 => False.elim (by (try replace hc0 := of_decide_eq_false hc0); revert hc0; decide))
  (try replace hc0 := of_decide_eq_true hc0)
  refine vc_seq ?_
  refine vc_region ?_
  refine vl_val rfl (.some rfl) (val_move rfl) ?_
  refine vl_val rfl (.some rfl) (val_move rfl) ?_
  refine vl_val rfl (.some rfl) (val_move rfl) ?_
  refine vl_call (C := []) rfl rfl (.some rfl) Try.call132 rfl .nil (fun w hw => dIns A c w) (fun v H' h => ?_)
  obtain rfl := h
  show VL _ _ _ _ _ _
  refine vl_nil ?_
  refine vc_ret ?_
  refine ⟨_, [], _, res0 Try.results117, (by repeat constructor), ?_⟩
  exact rfl
set_option maxRecDepth 20000 in
theorem dLen64 (w : World) : Fn Try.prog 142 [.int .u64 1] [] (ret fun v H' => ∃ n, v = .int .i64 n ∧ H' = []) w := by
  refine fn_enter Try.func142 rfl Try.ntmps142 rfl ?_
  refine vc_seq ?_
  refine vc_region ?_
  refine vl_val rfl (.some rfl) (val_assign rfl) ?_
  refine vl_nil ?_
  refine vc_seq ?_
  refine vc_seq ?_
  refine vc_region ?_
  refine vl_val rfl (.some rfl) (val_move rfl) ?_
  refine vl_val rfl (.some rfl) (val_ge rfl rfl) ?_
  refine vl_nil ?_
  refine vc_cond rfl (fun hc0 => False.elim (by (try replace hc0 := of_decide_eq_true hc0); revert hc0; decide)) (fun hc0 => ?_)
  (try replace hc0 := of_decide_eq_false hc0)
  refine vc_skip ?_
  refine vc_seq ?_
  refine vc_seq ?_
  refine vc_region ?_
  refine vl_val rfl (.some rfl) (val_move rfl) ?_
  refine vl_val rfl (.some rfl) (val_ge rfl rfl) ?_
  refine vl_nil ?_
  refine vc_cond rfl (fun hc1 => False.elim (by (try replace hc1 := of_decide_eq_true hc1); revert hc1; decide)) (fun hc1 => ?_)
  (try replace hc1 := of_decide_eq_false hc1)
  refine vc_skip ?_
  refine vc_seq ?_
  refine vc_seq ?_
  refine vc_region ?_
  refine vl_val rfl (.some rfl) (val_move rfl) ?_
  refine vl_val rfl (.some rfl) (val_ge rfl rfl) ?_
  refine vl_nil ?_
  refine vc_cond rfl (fun hc2 => False.elim (by (try replace hc2 := of_decide_eq_true hc2); revert hc2; decide)) (fun hc2 => ?_)
  (try replace hc2 := of_decide_eq_false hc2)
  refine vc_skip ?_
  refine vc_seq ?_
  refine vc_region ?_
  refine vl_val rfl (.some rfl) (val_move rfl) ?_
  refine vl_val rfl (.some rfl) (val_move rfl) ?_
  refine vl_val rfl (.some rfl) (val_convInt Try.runUnderlying23 Try.runUnderlying5 rfl (w_u8 (by omega) (by omega))) ?_
  refine vl_val rfl (.some rfl) (val_indexStr Try.runUnderlying9 rfl rfl (by omega) (by decide +kernel)) ?_
  refine vl_val rfl (.some rfl) (val_convInt Try.runUnderlying5 Try.runUnderlying3 rfl rfl) ?_
  refine vl_val rfl (.some rfl) (val_add rfl rfl (by first | exact w_i64 (by omega) (by omega) | rfl)) ?_
  refine vl_val rfl (.some rfl) (val_assign rfl) ?_
  refine vl_nil ?_
  refine vc_ret ?_
  refine ⟨_, [], _, res1 Try.results142 rfl, (by repeat constructor), ?_⟩
  exact ⟨_, rfl, rfl⟩
set_option maxRecDepth 20000 in
theorem dLen (w : World) : Fn Try.prog 118 [.int .u64 1] [] (ret fun v H' => ∃ n, v = .int .i64 n ∧ H' = []) w := by
  refine fn_enter Try.func118 rfl Try.ntmps118 rfl ?_
  refine vc_seq ?_
  refine vc_region ?_
  refine vl_val rfl (.some rfl) (val_assign rfl) ?_
  refine vl_nil ?_
  refine vc_seq ?_
  refine vc_cond rfl (fun h => by cases h) (fun _ => ?_)
  refine vc_skip ?_
  refine vc_seq ?_
  refine vc_region ?_
  refine vl_val rfl (.some rfl) (val_move rfl) ?_
  refine vl_call (C := []) rfl rfl (.some rfl) Try.call142 rfl .nil (fun w hw => dLen64 w) (fun v H' h => ?_)
  obtain ⟨n, rfl, rfl⟩ := h
  show VL _ _ _ _ _ _
  refine vl_val rfl (.some rfl) (val_assign rfl) ?_
  refine vl_nil ?_
  refine vc_ret ?_
  refine ⟨_, [], _, res1 Try.results118 rfl, (by repeat constructor), ?_⟩
  exact ⟨_, rfl, rfl⟩
set_option maxRecDepth 20000 in
theorem dSort (A : Option Addr) (c : Nat) (w : World) : Fn Try.prog 83 [.slice A 1 c] [] (ret fun v H' => H' = []) w := by
  refine fn_enter Try.func83 rfl Try.ntmps83 rfl ?_
  refine vc_seq ?_
  refine vc_region ?_
  refine vl_val rfl (.some rfl) (val_move rfl) ?_
  refine vl_val rfl (.some rfl) (val_lenSl Try.runUnderlying37 rfl) ?_
  refine vl_val rfl (.some rfl) (val_assign rfl) ?_
  refine vl_nil ?_
  refine vc_region ?_
  refine vl_val rfl (.some rfl) (val_move rfl) ?_
  refine vl_val rfl (.some rfl) (val_move rfl) ?_
  refine vl_val rfl (.some rfl) (val_move rfl) ?_
  refine vl_val rfl (.some rfl) (val_convInt Try.runUnderlying3 Try.runUnderlying59 rfl (by first | exact w_u64 (by omega) (by omega) | rfl)) ?_
  refine vl_call (C := []) rfl rfl (.some rfl) Try.call118 rfl .nil (fun w hw => dLen w) (fun v H' h => ?_)
  obtain ⟨lim, rfl, rfl⟩ := h
  show VL _ _ _ _ _ _
  refine vl_call (C := []) rfl rfl (.some rfl) Try.call117 rfl .nil (fun w hw => dPdq A c lim w) (fun v H' h => ?_)
  obtain rfl := h
  show VL _ _ _ _ _ _
  refine vl_nil ?_
  refine ⟨_, [], _, res0 Try.results83, (by repeat constructor), ?_⟩
  exact rfl
set_option maxRecDepth 20000 in
theorem dList (d a : Nat) (off : Bool) (cut : Int) (K : Option Addr) (kn kc : Nat) (ops : Int) (f : Nat) (name : List UInt8) (w : World) : Fn Try.prog 42 [.pointer (some ⟨d, 0, none⟩)] [DK d a off cut K kn kc ops, mq kS a [name] [.pointer (some ⟨f, 0, none⟩)]] (ret fun v H' => ∃ A c, v = .slice A 1 c ∧ H' = [DK d a off cut K kn kc ops, mq kS a [name] [.pointer (some ⟨f, 0, none⟩)], sl A 1 c 9 1 (tcS [name])]) w := by
  refine fn_enter Try.func42 rfl Try.ntmps42 rfl ?_
  refine vc_seq ?_
  refine vc_region ?_
  refine vl_val rfl (.some rfl) (val_assign rfl) ?_
  refine vl_nil ?_
  refine vc_seq ?_
  refine vc_region ?_
  refine vl_val rfl (.some rfl) (val_assign rfl) ?_
  refine vl_nil ?_
  refine vc_seq ?_
  refine vc_seq ?_
  refine vc_region ?_
  refine vl_val rfl (.some rfl) (val_move rfl) ?_
  refine vl_callR [DK d a off cut K kn kc ops] rfl rfl (.some rfl) Try.call80 rfl (by repeat constructor) (fun w hw => dMade d a off cut K kn kc ops w) ?_
  refine vl_nil ?_
  refine vc_cond rfl (fun _ => ?_) (fun h => by cases h)
  refine vc_seq ?_
  refine vc_region ?_
  refine vl_val rfl (.some rfl) (val_move rfl) ?_
  refine vl_val rfl (.some rfl) (val_nil rfl rfl) ?_
  refine vl_val rfl (.some rfl) (by first | exact val_fieldAddr Try.runUnderlying91 rfl Try.sizeOf89 rfl | exact val_fieldAddrR Try.runUnderlying91 rfl Try.sizeOf89 rfl) ?_
  refine vl_val rfl (.some rfl) (val_load Try.isAgg89 rfl (by first | exact cell_cells (by repeat constructor) rfl | exact cell_rd (by first | exact rd_sl (by repeat constructor) | exact rd_old (by assumption) rfl) (by first | exact bcells_at (by omega) | exact ucells_at (by omega) | exact icells_at (by omega) | exact tcells_at (by omega) | exact bcells_get (by omega) | exact icells_get (by omega) | exact tcells_get (by omega) | exact ucells_get (by omega)) | exact cell_old (by assumption) (by simp [fps]))) ?_
  refine vl_rangeMap rfl rfl (.some rfl) Try.underlying89 rfl (by repeat (first | exact .head | apply Take.tail)) (fun r11 => ?_)
  refine vl_nil ?_
  refine vc_block ?_
  refine vc_nilSl 9 1 ?_
  refine vc_loopw (fun m E H => ∃ (ls acc : List (List UInt8)) (A3 : Option Addr) (c3 : Nat) (cur : Option (List UInt8 × Value)), m = ls.length ∧ ((ls = [name] ∧ acc = []) ∨ (ls = [] ∧ acc = [name])) ∧ E = [(3, .slice A3 acc.length c3), (11, .pointer (some ⟨r11, 0, none⟩))] ∧ H = [mi kS a r11 [name] [.pointer (some ⟨f, 0, none⟩)] ls cur, sl A3 acc.length c3 9 1 (tcS acc), DK d a off cut K kn kc ops]) (1) ⟨_, _, _, ⟨[name], [], none, 0, none, rfl, .inl ⟨rfl, rfl⟩, rfl, rfl⟩, (by repeat (first | exact trivial | refine ⟨rfl, ?_⟩ | refine ⟨le_item rfl (by first | rfl | (congr 1; omega) | (simp; done) | (simp; omega)), ?_⟩)), (by repeat constructor)⟩ ?_
  intro m E H hI
  obtain ⟨ls, acc, A3, c3, cur, rfl, hst, rfl, rfl⟩ := hI
  refine vc_seq ?_
  refine vc_region ?_
  refine vl_nextMap rfl rfl (.some rfl) rfl (by repeat (first | exact .head | apply Take.tail)) (fun k12 v12 l12 hp12 hv12 => ?_) (fun hn12 => ?_) kS_inj
  ·
    obtain ⟨rfl, rfl⟩ | ⟨rfl, rfl⟩ := hst
    rotate_left
    · exact absurd hp12.length_eq (by simp)
    obtain ⟨i, hi1, hi2⟩ := hv12
    obtain rfl : l12 = [] := by have := hp12.length_eq; simp at this; exact this
    obtain rfl : name = k12 := by have := hp12.mem_iff.1 (List.mem_singleton.2 rfl : name ∈ [name]); simpa using this
    refine vl_val rfl (.some rfl) (val_extract rfl rfl) ?_
    refine vl_nil ?_
    refine vc_seq ?_
    refine vc_cond rfl (fun _ => ?_) (fun h => by cases h)
    refine vc_skip ?_
    refine vc_block ?_
    refine vc_seq ?_
    refine vc_region ?_
    refine vl_entryMap rfl rfl (.some rfl) rfl (by repeat constructor) ?_
    refine vl_val rfl (.some rfl) (val_extract rfl rfl) ?_
    refine vl_val rfl (.some rfl) (val_assign rfl) ?_
    refine vl_nil ?_
    refine vc_region ?_
    refine vl_val rfl (.some rfl) (val_move rfl) ?_
    refine vl_val rfl (.some rfl) (val_move rfl) ?_
    refine vl_lit sT37 rfl rfl (.some rfl) rfl rfl rfl (by decide) (by decide) rfl (flat_one rfl) (fun r18 => ?_)
    refine vl_append (vs := tcS []) (us := [.string (sL name)]) sT37 rfl rfl (.some rfl) rfl rfl (rd_sl (by repeat constructor)) rfl rfl (by simp) (by simp) (by repeat constructor) (fun A19 k19 => ?_)
    refine vl_val rfl (.some rfl) (val_assign rfl) ?_
    refine vl_nil ?_
    exact ⟨0, _, _, _, by simp, (by repeat (first | exact trivial | refine ⟨rfl, ?_⟩ | refine ⟨le_item rfl (by first | rfl | (congr 1; omega) | (simp; done) | (simp; omega)), ?_⟩)), (by repeat constructor), ⟨[], [name], A19, k19, _, rfl, .inr ⟨rfl, rfl⟩, rfl, rfl⟩⟩
  ·
    obtain ⟨rfl, rfl⟩ | ⟨rfl, rfl⟩ := hst
    · cases hn12
    refine vl_val rfl (.some rfl) (val_extract rfl rfl) ?_
    refine vl_nil ?_
    refine vc_seq ?_
    refine vc_cond rfl (fun h => by cases h) (fun _ => ?_)
    refine vc_endRange (by repeat (first | exact .head | apply Take.tail)) ?_
    refine vc_exit ?_
    refine vc_seq ?_
    refine vc_region ?_
    refine vl_val rfl (.some rfl) (val_move rfl) ?_
    refine vl_call (C := []) rfl rfl (.some rfl) Try.call83 rfl .nil (fun w hw => dSort A3 c3 w) (fun v H' h => ?_)
    obtain rfl := h
    show VL _ _ _ _ _ _
    refine vl_nil ?_
    refine vc_seq ?_
    refine vc_region ?_
    refine vl_val rfl (.some rfl) (val_move rfl) ?_
    refine vl_val rfl (.some rfl) (val_assign rfl) ?_
    refine vl_nil ?_
    refine vc_ret ?_
    refine ⟨_, [DK d a off cut K kn kc ops, mq kS a [name] [.pointer (some ⟨f, 0, none⟩)], sl A3 1 c3 9 1 (tcS [name])], _, res1 Try.results42 rfl, (by repeat constructor), ?_⟩
    exact ⟨A3, c3, rfl, rfl⟩




abbrev BY (A : Option Addr) (n c : Nat) (l : List UInt8) : Chunk := sl A n c 5 1 (bcells l)
theorem kf1 {name : List UInt8} {v : Value} : kfind name [name] [v] 0 = some (0, v) := by simp [kfind]
theorem btake (b : List UInt8) (n : Nat) : bcells (b.take n) = (bcells b).take n := by simp [bcells, List.map_take]
theorem bappV (a b : List UInt8) : bcells a ++ bcells b = bcells (a ++ b) := by simp [bcells]

set_option maxRecDepth 20000 in
theorem dFail (d a : Nat) (K : Option Addr) (kc : Nat) (ops : Int) (name : List UInt8) (f : Nat) (A : Option Addr) (c : Nat) (b : List UInt8) (hb : b.length = 6) (off : Bool) (cut : Int) (w : World) : Fn Try.prog 116 [.pointer (some ⟨d, 0, none⟩)] [DK d a off cut K 1 kc ops, mq kS a [name] [.pointer (some ⟨f, 0, none⟩)], FL f A (b).length c 3, BY A (b).length c (b), sl K 1 kc 3 1 [.int .i64 1]] (ret fun v H' => v = .int .i64 9 ∧ ∃ A' c', H' = [DK d a true cut K 1 kc ops, mq kS a [name] [.pointer (some ⟨f, 0, none⟩)], FL f A' 4 c' 4, BY A' 4 c' (b.take 4), sl K 1 kc 3 1 [.int .i64 1]]) w := by
  refine fn_enter Try.func116 rfl Try.ntmps116 rfl ?_
  refine vc_seq ?_
  refine vc_region ?_
  refine vl_val rfl (.some rfl) (val_assign rfl) ?_
  refine vl_nil ?_
  refine vc_seq ?_
  refine vc_region ?_
  refine vl_val rfl (.some rfl) (val_move rfl) ?_
  refine vl_val rfl (.some rfl) (val_nil rfl rfl) ?_
  refine vl_val rfl (.some rfl) (by first | exact val_fieldAddr Try.runUnderlying91 rfl Try.sizeOf4 rfl | exact val_fieldAddrR Try.runUnderlying91 rfl Try.sizeOf4 rfl) ?_
  first | refine vl_store rfl rfl .none rfl rfl Try.sizeOf4 rfl (by repeat constructor) (by first | decide | exact Nat.le_refl _ | exact Nat.le_of_ble_eq_true rfl | (simp; omega)) ?_ | refine vl_storeSl rfl rfl .none rfl rfl Try.sizeOf4 rfl (by simp [Value.cells]) (by repeat constructor) (by first | decide | (simp [Value.cells]; omega)) ?_
  refine vl_nil ?_
  refine vc_seq ?_
  refine vc_seq ?_
  refine vc_region ?_
  refine vl_val rfl (.some rfl) (val_move rfl) ?_
  refine vl_call (C := [DK d a true cut K 1 kc ops, mq kS a [name] [.pointer (some ⟨f, 0, none⟩)]]) rfl rfl (.some rfl) Try.call42 rfl (by repeat constructor) (fun w hw => dList d a true cut K 1 kc ops f name w) (fun v H' h => ?_)
  obtain ⟨A11, c11, rfl, rfl⟩ := h
  show VL _ _ _ _ _ (_ :: _)
  refine vl_val rfl (.some rfl) (val_lenSl Try.runUnderlying37 rfl) ?_
  refine vl_val rfl (.some rfl) (val_move rfl) ?_
  refine vl_nil ?_
  refine vc_block ?_
  refine vc_loopw (fun m E H => ∃ (i : Nat) (A' : Option Addr) (c' : Nat) (sy' : Int) (b' : List UInt8), ((0 = i ∧ A = A' ∧ c = c' ∧ 3 = sy' ∧ b = b') ∨ (1 = i ∧ 4 = sy' ∧ b.take 4 = b')) ∧ m = 1 - i ∧ E = [(0, .pointer (some ⟨d, 0, none⟩)), (11, .slice A11 1 c11), (12, .int .i64 1), (13, .int .i64 (i : Nat))] ∧ H = [DK d a true cut K 1 kc ops, mq kS a [name] [.pointer (some ⟨f, 0, none⟩)], FL f A' (b').length c' sy', BY A' (b').length c' (b'), sl K 1 kc 3 1 [.int .i64 1], sl A11 1 c11 9 1 (tcS [name])]) (1) ⟨_, _, _, ⟨0, A, c, 3, b, .inl ⟨rfl, rfl, rfl, rfl, rfl⟩, rfl, rfl, rfl⟩, (by repeat (first | exact trivial | refine ⟨rfl, ?_⟩ | refine ⟨le_item rfl (by first | rfl | (congr 1; omega) | (simp; done) | (simp; omega)), ?_⟩)), (by repeat constructor)⟩ ?_
  intro m E H hI
  obtain ⟨i, A', c', sy', b', hst, rfl, rfl, rfl⟩ := hI
  refine vc_seq ?_
  refine vc_region ?_
  refine vl_val rfl (.some rfl) (val_lt rfl rfl) ?_
  refine vl_nil ?_
  refine vc_seq ?_
  refine vc_cond rfl (fun hc0 => ?_) (fun hc0 => ?_)
  · (try replace hc0 := of_decide_eq_true hc0)
    obtain ⟨rfl, rfl, rfl, rfl, rfl⟩ | ⟨rfl, _, _⟩ := hst
    rotate_left
    · exact absurd hc0 (by decide)
    refine vc_skip ?_
    refine vc_seq ?_
    refine vc_block ?_
    refine vc_seq ?_
    refine vc_region ?_
    refine vl_val rfl (.some rfl) (val_move rfl) ?_
    refine vl_val rfl (.some rfl) (val_indexAddr Try.runUnderlying37 Try.sizeOf9 rfl rfl (vs := tcS [name]) (rd_sl (by repeat constructor)) (by decide) (by decide) (by rw [tcS_length]; exact Nat.lt_succ_self 0)) ?_
    refine vl_val rfl (.some rfl) (val_load Try.isAgg9 rfl (cell_rd (rd_sl (vs := tcS [name]) (by repeat constructor)) (u := .string (sL name)) rfl)) ?_
    refine vl_val rfl (.some rfl) (val_assign rfl) ?_
    refine vl_val rfl (.some rfl) (val_assign rfl) ?_
    refine vl_nil ?_
    refine vc_seq ?_
    refine vc_region ?_
    refine vl_val rfl (.some rfl) (val_move rfl) ?_
    refine vl_val rfl (.some rfl) (val_nil rfl rfl) ?_
    refine vl_val rfl (.some rfl) (by first | exact val_fieldAddr Try.runUnderlying91 rfl Try.sizeOf89 rfl | exact val_fieldAddrR Try.runUnderlying91 rfl Try.sizeOf89 rfl) ?_
    refine vl_val rfl (.some rfl) (val_load Try.isAgg89 rfl (by first | exact cell_cells (by repeat constructor) rfl | exact cell_rd (by first | exact rd_sl (by repeat constructor) | exact rd_old (by assumption) rfl) (by first | exact bcells_at (by omega) | exact ucells_at (by omega) | exact icells_at (by omega) | exact tcells_at (by omega) | exact bcells_get (by omega) | exact icells_get (by omega) | exact tcells_get (by omega) | exact ucells_get (by omega)) | exact cell_old (by assumption) (by simp [fps]))) ?_
    refine vl_val rfl (.some rfl) (val_move rfl) ?_
    refine vl_val rfl (.some rfl) (val_look1 kQ kf1 rfl rfl (by repeat constructor)) ?_
    refine vl_val rfl (.some rfl) (val_assign rfl) ?_
    refine vl_nil ?_
    refine vc_seq ?_
    refine vc_region ?_
    refine vl_val rfl (.some rfl) (val_assign rfl) ?_
    refine vl_nil ?_
    refine vc_seq ?_
    refine vc_seq ?_
    refine vc_region ?_
    refine vl_slCap (A := A) (n := b.length) (c := c) (sz := 1) (e := 5) (vs := bcells b) (by repeat constructor) (fun hcap => ?_)
    refine vl_val rfl (.some rfl) (val_move rfl) ?_
    refine vl_val rfl (.some rfl) (val_nil rfl rfl) ?_
    refine vl_val rfl (.some rfl) (by first | exact val_fieldAddr Try.runUnderlying91 rfl Try.sizeOf69 rfl | exact val_fieldAddrR Try.runUnderlying91 rfl Try.sizeOf69 rfl) ?_
    refine vl_val rfl (.some rfl) (val_load Try.isAgg69 rfl (by first | exact cell_cells (by repeat constructor) rfl | exact cell_rd (by first | exact rd_sl (by repeat constructor) | exact rd_old (by assumption) rfl) (by first | exact bcells_at (by omega) | exact ucells_at (by omega) | exact icells_at (by omega) | exact tcells_at (by omega) | exact bcells_get (by omega) | exact icells_get (by omega) | exact tcells_get (by omega) | exact ucells_get (by omega)) | exact cell_old (by assumption) (by simp [fps]))) ?_
    refine vl_val rfl (.some rfl) (val_lenSl Try.runUnderlying69 rfl) ?_
    refine vl_val rfl (.some rfl) (val_gt rfl rfl) ?_
    refine vl_nil ?_
    refine vc_cond rfl (fun hc1 => ?_) (fun hc1 => False.elim (by (try replace hc1 := of_decide_eq_false hc1); revert hc1; decide))
    (try replace hc1 := of_decide_eq_true hc1)
    refine vc_drawsS [0, 1, 2, 3, 4, 5, 6, 7, 8, 9, 10, 11, 12, 13, 14] [] [0, 1, 2, 3, 4, 5, 6, 7, 8, 9, 10, 11, 12, 13, 14] [DK d a true cut K 1 kc ops, sl K 1 kc 3 1 [.int .i64 1]] (by repeat constructor) rfl (by kernel_rfl) (fun _ _ _ h => h) ?_
    refine vd_val rfl rfl rfl (.some rfl) (val_move rfl) ?_
    refine vd_val rfl rfl rfl (.some rfl) (val_nil rfl rfl) ?_
    refine vd_val rfl rfl rfl (.some rfl) (by first | exact val_fieldAddr Try.runUnderlying91 rfl Try.sizeOf69 rfl | exact val_fieldAddrR Try.runUnderlying91 rfl Try.sizeOf69 rfl) ?_
    refine vd_val rfl rfl rfl (.some rfl) (val_load Try.isAgg69 rfl (by first | exact cell_cells (by repeat constructor) rfl | exact cell_rd (by first | exact rd_sl (by repeat constructor) | exact rd_old (by assumption) rfl) (by first | exact bcells_at (by omega) | exact ucells_at (by omega) | exact icells_at (by omega) | exact tcells_at (by omega) | exact bcells_get (by omega) | exact icells_get (by omega) | exact tcells_get (by omega) | exact ucells_get (by omega)) | exact cell_old (by assumption) (by simp [fps]))) ?_
    refine vd_val rfl rfl rfl (.some rfl) (val_move rfl) ?_
    refine vd_val rfl rfl rfl (.some rfl) (val_move rfl) ?_
    refine vd_val rfl rfl rfl (.some rfl) (val_nil rfl rfl) ?_
    refine vd_val rfl rfl rfl (.some rfl) (by first | exact val_fieldAddr Try.runUnderlying91 rfl Try.sizeOf69 rfl | exact val_fieldAddrR Try.runUnderlying91 rfl Try.sizeOf69 rfl) ?_
    refine vd_val rfl rfl rfl (.some rfl) (val_load Try.isAgg69 rfl (by first | exact cell_cells (by repeat constructor) rfl | exact cell_rd (by first | exact rd_sl (by repeat constructor) | exact rd_old (by assumption) rfl) (by first | exact bcells_at (by omega) | exact ucells_at (by omega) | exact icells_at (by omega) | exact tcells_at (by omega) | exact bcells_get (by omega) | exact icells_get (by omega) | exact tcells_get (by omega) | exact ucells_get (by omega)) | exact cell_old (by assumption) (by simp [fps]))) ?_
    refine vd_val rfl rfl rfl (.some rfl) (val_lenSl Try.runUnderlying69 rfl) ?_
    refine vd_val rfl rfl rfl (.some rfl) (val_rem rfl rfl (by omega) (by first | exact rem_nn (by omega) | rfl)) ?_
    refine vd_val rfl rfl rfl (.some rfl) (val_indexAddr Try.runUnderlying69 Try.sizeOf3 rfl rfl (vs := [.int .i64 1]) (rd_sl (by repeat constructor)) (by decide) (by decide) (by decide)) ?_
    refine vd_val rfl rfl rfl (.some rfl) (val_load Try.isAgg3 rfl (cell_rd (rd_sl (vs := [.int .i64 1]) (by repeat constructor)) (u := .int .i64 1) rfl)) ?_
    refine vd_val rfl rfl rfl (.some rfl) (val_max rfl rfl (show _ = (1 : Int) by decide)) ?_
    refine vd_val rfl rfl rfl (.some rfl) (val_assign rfl) ?_
    refine vd_nil ?_
    refine vc_seq ?_
    refine vc_drawsS [0, 1, 2, 3, 4, 5, 6, 7, 8, 9, 10, 11, 12, 13, 14, 15, 16, 18] [19] [0, 1, 2, 3, 4, 5, 6, 7, 8, 9, 10, 11, 12, 13, 14, 15, 16, 17, 18, 19] [FL f A (b).length c 3, BY A (b).length c (b)] (by repeat constructor) rfl (by kernel_rfl) (fun _ _ _ h => h) ?_
    refine vd_val rfl rfl rfl (.some rfl) (val_move rfl) ?_
    refine vd_val rfl rfl rfl (.some rfl) (val_nil rfl rfl) ?_
    refine vd_val rfl rfl rfl (.some rfl) (by first | exact val_fieldAddr Try.runUnderlying139 rfl Try.sizeOf3 rfl | exact val_fieldAddrR Try.runUnderlying139 rfl Try.sizeOf3 rfl) ?_
    refine vd_val rfl rfl rfl (.some rfl) (val_load Try.isAgg3 rfl (by first | exact cell_cells (by repeat constructor) rfl | exact cell_rd (by first | exact rd_sl (by repeat constructor) | exact rd_old (by assumption) rfl) (by first | exact bcells_at (by omega) | exact ucells_at (by omega) | exact icells_at (by omega) | exact tcells_at (by omega) | exact bcells_get (by omega) | exact icells_get (by omega) | exact tcells_get (by omega) | exact ucells_get (by omega)) | exact cell_old (by assumption) (by simp [fps]))) ?_
    refine vd_val rfl rfl rfl (.some rfl) (val_move rfl) ?_
    refine vd_val rfl rfl rfl (.some rfl) (val_move rfl) ?_
    refine vd_val rfl rfl rfl (.some rfl) (val_nil rfl rfl) ?_
    refine vd_val rfl rfl rfl (.some rfl) (by first | exact val_fieldAddr Try.runUnderlying139 rfl Try.sizeOf22 rfl | exact val_fieldAddrR Try.runUnderlying139 rfl Try.sizeOf22 rfl) ?_
    refine vd_val rfl rfl rfl (.some rfl) (val_load Try.isAgg22 rfl (by first | exact cell_cells (by repeat constructor) rfl | exact cell_rd (by first | exact rd_sl (by repeat constructor) | exact rd_old (by assumption) rfl) (by first | exact bcells_at (by omega) | exact ucells_at (by omega) | exact icells_at (by omega) | exact tcells_at (by omega) | exact bcells_get (by omega) | exact icells_get (by omega) | exact tcells_get (by omega) | exact ucells_get (by omega)) | exact cell_old (by assumption) (by simp [fps]))) ?_
    refine vd_val rfl rfl rfl (.some rfl) (val_lenSl Try.runUnderlying22 rfl) ?_
    refine vd_val rfl rfl rfl (.some rfl) (val_move rfl) ?_
    refine vd_val rfl rfl rfl (.some rfl) (val_nil rfl rfl) ?_
    refine vd_val rfl rfl rfl (.some rfl) (by first | exact val_fieldAddr Try.runUnderlying139 rfl Try.sizeOf3 rfl | exact val_fieldAddrR Try.runUnderlying139 rfl Try.sizeOf3 rfl) ?_
    refine vd_val rfl rfl rfl (.some rfl) (val_load Try.isAgg3 rfl (by first | exact cell_cells (by repeat constructor) rfl | exact cell_rd (by first | exact rd_sl (by repeat constructor) | exact rd_old (by assumption) rfl) (by first | exact bcells_at (by omega) | exact ucells_at (by omega) | exact icells_at (by omega) | exact tcells_at (by omega) | exact bcells_get (by omega) | exact icells_get (by omega) | exact tcells_get (by omega) | exact ucells_get (by omega)) | exact cell_old (by assumption) (by simp [fps]))) ?_
    refine vd_val rfl rfl rfl (.some rfl) (val_sub rfl rfl (by first | exact w_i64 (by omega) (by omega) | rfl)) ?_
    refine vd_val rfl rfl rfl (.some rfl) (val_min rfl rfl) ?_
    refine vd_val rfl rfl rfl (.some rfl) (val_add rfl rfl (show _ = (4 : Int) by rw [hb]; rfl)) ?_
    refine vd_op rfl rfl ?_
    refine vl_val rfl (.some rfl) (val_nil rfl rfl) ?_
    refine vl_nil ?_
    refine ⟨fun _ => ⟨_, (by repeat (first | exact .nil | exact sub_self _ | exact sub_skip (sub_self _) | exact sub_skip (sub_skip (sub_self _)) | exact sub_skip (sub_skip (sub_skip (sub_self _))) | (apply Sub.cons; · repeat (first | exact .head | apply Take.tail))))⟩, ?_⟩
    refine vd_val rfl rfl rfl (.some rfl) (by first | exact val_fieldAddr Try.runUnderlying139 rfl Try.sizeOf3 rfl | exact val_fieldAddrR Try.runUnderlying139 rfl Try.sizeOf3 rfl) ?_
    refine vd_op rfl rfl ?_
    first | refine vl_store rfl rfl .none rfl rfl Try.sizeOf3 rfl (by repeat constructor) (by first | decide | exact Nat.le_refl _ | exact Nat.le_of_ble_eq_true rfl | (simp; omega)) ?_ | refine vl_storeSl rfl rfl .none rfl rfl Try.sizeOf3 rfl (by simp [Value.cells]) (by repeat constructor) (by first | decide | (simp [Value.cells]; omega)) ?_
    refine vl_nil ?_
    refine ⟨fun h => (by cases h), ?_⟩
    refine vd_nil ?_
    refine vc_drawsS [0, 1, 2, 3, 4, 5, 6, 7, 8, 9, 12] [13] [0, 1, 2, 3, 4, 5, 6, 7, 8, 9, 10, 11, 12, 13] [FL f A b.length c 4, BY A b.length c b] (by repeat constructor) rfl (by kernel_rfl) (fun _ _ _ h => h) ?_
    refine vd_val rfl rfl rfl (.some rfl) (val_move rfl) ?_
    refine vd_val rfl rfl rfl (.some rfl) (val_move rfl) ?_
    refine vd_val rfl rfl rfl (.some rfl) (val_nil rfl rfl) ?_
    refine vd_val rfl rfl rfl (.some rfl) (by first | exact val_fieldAddr Try.runUnderlying139 rfl Try.sizeOf22 rfl | exact val_fieldAddrR Try.runUnderlying139 rfl Try.sizeOf22 rfl) ?_
    refine vd_val rfl rfl rfl (.some rfl) (val_load Try.isAgg22 rfl (by first | exact cell_cells (by repeat constructor) rfl | exact cell_rd (by first | exact rd_sl (by repeat constructor) | exact rd_old (by assumption) rfl) (by first | exact bcells_at (by omega) | exact ucells_at (by omega) | exact icells_at (by omega) | exact tcells_at (by omega) | exact bcells_get (by omega) | exact icells_get (by omega) | exact tcells_get (by omega) | exact ucells_get (by omega)) | exact cell_old (by assumption) (by simp [fps]))) ?_
    refine vd_val rfl rfl rfl (.some rfl) (val_move rfl) ?_
    refine vd_val rfl rfl rfl (.some rfl) (val_nil rfl rfl) ?_
    refine vd_val rfl rfl rfl (.some rfl) (by first | exact val_fieldAddr Try.runUnderlying139 rfl Try.sizeOf3 rfl | exact val_fieldAddrR Try.runUnderlying139 rfl Try.sizeOf3 rfl) ?_
    refine vd_val rfl rfl rfl (.some rfl) (val_load Try.isAgg3 rfl (by first | exact cell_cells (by repeat constructor) rfl | exact cell_rd (by first | exact rd_sl (by repeat constructor) | exact rd_old (by assumption) rfl) (by first | exact bcells_at (by omega) | exact ucells_at (by omega) | exact icells_at (by omega) | exact tcells_at (by omega) | exact bcells_get (by omega) | exact icells_get (by omega) | exact tcells_get (by omega) | exact ucells_get (by omega)) | exact cell_old (by assumption) (by simp [fps]))) ?_
    refine vd_val rfl rfl rfl (.some rfl) (show Val _ _ _ _ _ (.slice A (b.take 4).length c) by rw [show (b.take 4).length = Int.toNat 4 by rw [List.length_take, hb]; rfl]; exact val_cutTo Try.runUnderlying22 Try.sizeOf5 rfl rfl (by decide) (by omega)) ?_
    refine vd_op rfl rfl ?_
    refine vl_call (C := []) rfl rfl (.some rfl) Try.call81 rfl .nil (fun w hw => dCloneB A c (b.take 4) (by rw [List.length_take, hb]; decide) w (by rw [btake]; exact (rdw (rd_sl (vs := bcells b) (by repeat constructor)) hw).take 4)) (fun v H' h => ?_)
    obtain ⟨A73, c73, rfl, rfl⟩ := h
    show VL _ _ _ _ _ (_ :: _)
    refine vl_nil ?_
    refine ⟨fun _ => ⟨_, (by repeat (first | exact .nil | exact sub_self _ | exact sub_skip (sub_self _) | exact sub_skip (sub_skip (sub_self _)) | exact sub_skip (sub_skip (sub_skip (sub_self _))) | (apply Sub.cons; · repeat (first | exact .head | apply Take.tail))))⟩, ?_⟩
    refine vd_op rfl rfl ?_
    refine vl_val rfl (.some rfl) (val_nil rfl rfl) ?_
    refine vl_nil ?_
    refine ⟨fun _ => ⟨_, (by repeat (first | exact .nil | exact sub_self _ | exact sub_skip (sub_self _) | exact sub_skip (sub_skip (sub_self _)) | exact sub_skip (sub_skip (sub_skip (sub_self _))) | (apply Sub.cons; · repeat (first | exact .head | apply Take.tail))))⟩, ?_⟩
    refine vd_val rfl rfl rfl (.some rfl) (by first | exact val_fieldAddr Try.runUnderlying139 rfl Try.sizeOf22 rfl | exact val_fieldAddrR Try.runUnderlying139 rfl Try.sizeOf22 rfl) ?_
    refine vd_op rfl rfl ?_
    first | refine vl_store rfl rfl .none rfl rfl Try.sizeOf22 rfl (by repeat constructor) (by first | decide | exact Nat.le_refl _ | exact Nat.le_of_ble_eq_true rfl | (simp; omega)) ?_ | refine vl_storeSl rfl rfl .none rfl rfl Try.sizeOf22 rfl (by simp [Value.cells]) (by repeat constructor) (by first | decide | (simp [Value.cells]; omega)) ?_
    refine vl_nil ?_
    refine ⟨fun h => (by cases h), ?_⟩
    refine vd_nil ?_
    refine vc_region ?_
    refine vl_val rfl (.some rfl) (val_add rfl rfl (by first | exact w_i64 (by omega) (by omega) | rfl)) ?_
    refine vl_val rfl (.some rfl) (val_move rfl) ?_
    refine vl_nil ?_
    exact ⟨0, _, _, _, by decide, (by repeat (first | exact trivial | refine ⟨rfl, ?_⟩ | refine ⟨le_item rfl (by first | rfl | (congr 1; omega) | (simp; done) | (simp; omega)), ?_⟩)), (by repeat constructor), ⟨1, A73, c73, 4, b.take 4, .inr ⟨rfl, rfl, rfl⟩, rfl, rfl, rfl⟩⟩
  · (try replace hc0 := of_decide_eq_false hc0)
    obtain ⟨rfl, _, _, _, _⟩ | ⟨rfl, rfl, rfl⟩ := hst
    · exact absurd (by decide) hc0
    refine vc_exit ?_
    refine vc_seq ?_
    refine vc_region ?_
    refine vl_val rfl (.some rfl) (val_assign rfl) ?_
    refine vl_nil ?_
    refine vc_ret ?_
    refine ⟨_, [DK d a true cut K 1 kc ops, mq kS a [name] [.pointer (some ⟨f, 0, none⟩)], FL f A' (b.take 4).length c' 4, BY A' (b.take 4).length c' (b.take 4), sl K 1 kc 3 1 [.int .i64 1]], _, res1 Try.results116 rfl, (by repeat constructor), ?_⟩
    rw [show (b.take 4).length = 4 by rw [List.length_take, hb]; rfl]
    exact ⟨rfl, A', c', rfl⟩
set_option maxRecDepth 20000 in
theorem dOp1 (d a : Nat) (K : Option Addr) (kc : Nat) (ops : Int) (name : List UInt8) (f : Nat) (A : Option Addr) (c : Nat) (b : List UInt8) (hb : b.length = 6) (hops : 0 ≤ ops ∧ ops < 4611686018427387904) (q : Value) (w : World) : Fn Try.prog 74 [.pointer (some ⟨d, 0, none⟩), q] [DK d a false 1 K 1 kc ops, mq kS a [name] [.pointer (some ⟨f, 0, none⟩)], FL f A (b).length c 3, BY A (b).length c (b), sl K 1 kc 3 1 [.int .i64 1]] (ret fun v H' => v = .int .i64 9 ∧ ∃ A' c', H' = [DK d a true 0 K 1 kc (ops + 1), mq kS a [name] [.pointer (some ⟨f, 0, none⟩)], FL f A' 4 c' 4, BY A' 4 c' (b.take 4), sl K 1 kc 3 1 [.int .i64 1]]) w := by
  refine fn_enter Try.func74 rfl Try.ntmps74 rfl ?_
  refine vc_seq ?_
  refine vc_region ?_
  refine vl_val rfl (.some rfl) (val_assign rfl) ?_
  refine vl_nil ?_
  refine vc_seq ?_
  refine vc_region ?_
  refine vl_val rfl (.some rfl) (val_move rfl) ?_
  refine vl_val rfl (.some rfl) (val_nil rfl rfl) ?_
  refine vl_val rfl (.some rfl) (by first | exact val_fieldAddr Try.runUnderlying91 rfl Try.sizeOf3 rfl | exact val_fieldAddrR Try.runUnderlying91 rfl Try.sizeOf3 rfl) ?_
  refine vl_val rfl (.some rfl) (val_load Try.isAgg3 rfl (by first | exact cell_cells (by repeat constructor) rfl | exact cell_rd (by first | exact rd_sl (by repeat constructor) | exact rd_old (by assumption) rfl) (by first | exact bcells_at (by omega) | exact ucells_at (by omega) | exact icells_at (by omega) | exact tcells_at (by omega) | exact bcells_get (by omega) | exact icells_get (by omega) | exact tcells_get (by omega) | exact ucells_get (by omega)) | exact cell_old (by assumption) (by simp [fps]))) ?_
  refine vl_val rfl (.some rfl) (val_add rfl rfl (by first | exact w_i64 (by omega) (by omega) | rfl)) ?_
  refine vl_val rfl (.some rfl) (val_nil rfl rfl) ?_
  refine vl_val rfl (.some rfl) (by first | exact val_fieldAddr Try.runUnderlying91 rfl Try.sizeOf3 rfl | exact val_fieldAddrR Try.runUnderlying91 rfl Try.sizeOf3 rfl) ?_
  first | refine vl_store rfl rfl .none rfl rfl Try.sizeOf3 rfl (by repeat constructor) (by first | decide | exact Nat.le_refl _ | exact Nat.le_of_ble_eq_true rfl | (simp; omega)) ?_ | refine vl_storeSl rfl rfl .none rfl rfl Try.sizeOf3 rfl (by simp [Value.cells]) (by repeat constructor) (by first | decide | (simp [Value.cells]; omega)) ?_
  refine vl_nil ?_
  refine vc_seq ?_
  refine vc_seq ?_
  refine vc_region ?_
  refine vl_val rfl (.some rfl) (val_move rfl) ?_
  refine vl_val rfl (.some rfl) (val_nil rfl rfl) ?_
  refine vl_val rfl (.some rfl) (by first | exact val_fieldAddr Try.runUnderlying91 rfl Try.sizeOf3 rfl | exact val_fieldAddrR Try.runUnderlying91 rfl Try.sizeOf3 rfl) ?_
  refine vl_val rfl (.some rfl) (val_load Try.isAgg3 rfl (by first | exact cell_cells (by repeat constructor) rfl | exact cell_rd (by first | exact rd_sl (by repeat constructor) | exact rd_old (by assumption) rfl) (by first | exact bcells_at (by omega) | exact ucells_at (by omega) | exact icells_at (by omega) | exact tcells_at (by omega) | exact bcells_get (by omega) | exact icells_get (by omega) | exact tcells_get (by omega) | exact ucells_get (by omega)) | exact cell_old (by assumption) (by simp [fps]))) ?_
  refine vl_val rfl (.some rfl) (val_gt rfl rfl) ?_
  refine vl_nil ?_
  refine vc_cond rfl (fun hc0 => ?_) (fun hc0 => False.elim (by (try replace hc0 := of_decide_eq_false hc0); revert hc0; decide))
  (try replace hc0 := of_decide_eq_true hc0)
  refine vc_seq ?_
  refine vc_region ?_
  refine vl_val rfl (.some rfl) (val_move rfl) ?_
  refine vl_val rfl (.some rfl) (val_nil rfl rfl) ?_
  refine vl_val rfl (.some rfl) (by first | exact val_fieldAddr Try.runUnderlying91 rfl Try.sizeOf3 rfl | exact val_fieldAddrR Try.runUnderlying91 rfl Try.sizeOf3 rfl) ?_
  refine vl_val rfl (.some rfl) (val_load Try.isAgg3 rfl (by first | exact cell_cells (by repeat constructor) rfl | exact cell_rd (by first | exact rd_sl (by repeat constructor) | exact rd_old (by assumption) rfl) (by first | exact bcells_at (by omega) | exact ucells_at (by omega) | exact icells_at (by omega) | exact tcells_at (by omega) | exact bcells_get (by omega) | exact icells_get (by omega) | exact tcells_get (by omega) | exact ucells_get (by omega)) | exact cell_old (by assumption) (by simp [fps]))) ?_
  refine vl_val rfl (.some rfl) (val_sub rfl rfl (by first | exact w_i64 (by omega) (by omega) | rfl)) ?_
  refine vl_val rfl (.some rfl) (val_nil rfl rfl) ?_
  refine vl_val rfl (.some rfl) (by first | exact val_fieldAddr Try.runUnderlying91 rfl Try.sizeOf3 rfl | exact val_fieldAddrR Try.runUnderlying91 rfl Try.sizeOf3 rfl) ?_
  first | refine vl_store rfl rfl .none rfl rfl Try.sizeOf3 rfl (by repeat constructor) (by first | decide | exact Nat.le_refl _ | exact Nat.le_of_ble_eq_true rfl | (simp; omega)) ?_ | refine vl_storeSl rfl rfl .none rfl rfl Try.sizeOf3 rfl (by simp [Value.cells]) (by repeat constructor) (by first | decide | (simp [Value.cells]; omega)) ?_
  refine vl_nil ?_
  refine vc_seq ?_
  refine vc_region ?_
  refine vl_val rfl (.some rfl) (val_move rfl) ?_
  refine vl_val rfl (.some rfl) (val_nil rfl rfl) ?_
  refine vl_val rfl (.some rfl) (by first | exact val_fieldAddr Try.runUnderlying91 rfl Try.sizeOf3 rfl | exact val_fieldAddrR Try.runUnderlying91 rfl Try.sizeOf3 rfl) ?_
  refine vl_val rfl (.some rfl) (val_load Try.isAgg3 rfl (by first | exact cell_cells (by repeat constructor) rfl | exact cell_rd (by first | exact rd_sl (by repeat constructor) | exact rd_old (by assumption) rfl) (by first | exact bcells_at (by omega) | exact ucells_at (by omega) | exact icells_at (by omega) | exact tcells_at (by omega) | exact bcells_get (by omega) | exact icells_get (by omega) | exact tcells_get (by omega) | exact ucells_get (by omega)) | exact cell_old (by assumption) (by simp [fps]))) ?_
  refine vl_val rfl (.some rfl) (val_eq rfl rfl) ?_
  refine vl_nil ?_
  refine vc_cond rfl (fun hc1 => ?_) (fun hc1 => False.elim (by (try replace hc1 := of_decide_eq_false hc1); revert hc1; decide))
  (try replace hc1 := of_decide_eq_true hc1)
  refine vc_seq ?_
  refine vc_region ?_
  refine vl_val rfl (.some rfl) (val_move rfl) ?_
  refine vl_call (C := [DK d a false 0 K 1 kc (ops + 1), mq kS a [name] [.pointer (some ⟨f, 0, none⟩)], FL f A (b).length c 3, BY A (b).length c (b), sl K 1 kc 3 1 [.int .i64 1]]) rfl rfl (.some rfl) Try.call116 rfl (by repeat constructor) (fun w hw => dFail d a K kc (ops + 1) name f A c b hb false 0 w) (fun v H' h => ?_)
  obtain ⟨rfl, A30, c30, rfl⟩ := h
  show VL _ _ _ _ _ (_ :: _)
  refine vl_val rfl (.some rfl) (val_assign rfl) ?_
  refine vl_nil ?_
  refine vc_ret ?_
  refine ⟨_, [DK d a true 0 K 1 kc (ops + 1), mq kS a [name] [.pointer (some ⟨f, 0, none⟩)], FL f A30 4 c30 4, BY A30 4 c30 (b.take 4), sl K 1 kc 3 1 [.int .i64 1]], _, res1 Try.results74 rfl, (by repeat constructor), ?_⟩
  exact ⟨rfl, A30, c30, rfl⟩




set_option maxRecDepth 20000 in
theorem dW1 (D : Chunk) (w : World) : Fn Try.prog 77 [] [D] (ret fun v H' => ∃ C', H' = D :: C' ∧ C' = []) w := by
  refine fn_enter Try.func77 rfl Try.ntmps77 rfl ?_
  refine vc_skip ?_
  exact ⟨_, [D], _, res0 Try.results77, sub_self _, [], rfl, rfl⟩
set_option maxRecDepth 20000 in
theorem dWrite0 (d a : Nat) (K : Option Addr) (kn kc : Nat) (ops : Int) (hops : 0 ≤ ops ∧ ops < 4611686018427387904) (name : List UInt8) (hnm : fnameP name) (f : Nat) (A : Option Addr) (c : Nat) (b : List UInt8) (sy : Int) (B : Option Addr) (cb : Nat) (b2 : List UInt8) (hb : b.length + b2.length ≤ 1000) (w : World) : Fn Try.prog 35 [.pointer (some ⟨d, 0, none⟩), .string (sL name), .slice B b2.length cb] [DK d a false 0 K kn kc ops, mq kS a [name] [.pointer (some ⟨f, 0, none⟩)], FL f A (b).length c sy, BY A (b).length c (b), slq B b2.length cb 5 (bcells b2)] (ret fun v H' => v = .int .i64 0 ∧ ∃ A' c', H' = [DK d a false 0 K kn kc (ops + 1), mq kS a [name] [.pointer (some ⟨f, 0, none⟩)], FL f A' (b ++ b2).length c' sy, BY A' (b ++ b2).length c' (b ++ b2), slq B b2.length cb 5 (bcells b2)]) w := by
  refine fn_enter Try.func35 rfl Try.ntmps35 rfl ?_
  refine vc_seq ?_
  refine vc_region ?_
  refine vl_val rfl (.some rfl) (val_assign rfl) ?_
  refine vl_nil ?_
  refine vc_seq ?_
  refine vc_region ?_
  refine vl_val rfl (.some rfl) (val_move rfl) ?_
  refine vl_val rfl (.some rfl) (val_move rfl) ?_
  refine vl_callR [DK d a false 0 K kn kc ops, mq kS a [name] [.pointer (some ⟨f, 0, none⟩)]] rfl rfl (.some rfl) Try.call76 rfl (by repeat constructor) (fun w hw => dOf d a 0 K kn kc ops name hnm [name] [.pointer (some ⟨f, 0, none⟩)] 0 f kf1 w) ?_
  refine vl_val rfl (.some rfl) (val_move rfl) ?_
  refine vl_val rfl (.some rfl) (val_extract rfl rfl) ?_
  refine vl_val rfl (.some rfl) (val_extract rfl rfl) ?_
  refine vl_val rfl (.some rfl) (val_assign rfl) ?_
  refine vl_val rfl (.some rfl) (val_assign rfl) ?_
  refine vl_nil ?_
  refine vc_seq ?_
  refine vc_block ?_
  refine vc_seq ?_
  refine vc_region ?_
  refine vl_val rfl (.some rfl) (val_move rfl) ?_
  refine vl_val rfl (.some rfl) (val_ne rfl rfl) ?_
  refine vl_val rfl (.some rfl) (val_assign rfl) ?_
  refine vl_nil ?_
  refine vc_cond rfl (fun hc0 => False.elim (by (try replace hc0 := of_decide_eq_true hc0); exact hc0 rfl)) (fun hc0 => ?_)
  (try replace hc0 := of_decide_eq_false hc0)
  refine vc_seq ?_
  refine vc_region ?_
  refine vl_val rfl (.some rfl) (val_move rfl) ?_
  refine vl_val rfl (.some rfl) (val_lenSl Try.runUnderlying22 rfl) ?_
  refine vl_val rfl (.some rfl) (val_move rfl) ?_
  refine vl_val rfl (.some rfl) (val_nil rfl rfl) ?_
  refine vl_val rfl (.some rfl) (by first | exact val_fieldAddr Try.runUnderlying139 rfl Try.sizeOf22 rfl | exact val_fieldAddrR Try.runUnderlying139 rfl Try.sizeOf22 rfl) ?_
  refine vl_val rfl (.some rfl) (val_load Try.isAgg22 rfl (by first | exact cell_cells (by repeat constructor) rfl | exact cell_rd (by first | exact rd_sl (by repeat constructor) | exact rd_old (by assumption) rfl) (by first | exact bcells_at (by omega) | exact ucells_at (by omega) | exact icells_at (by omega) | exact tcells_at (by omega) | exact bcells_get (by omega) | exact icells_get (by omega) | exact tcells_get (by omega) | exact ucells_get (by omega)) | exact cell_old (by assumption) (by simp [fps]))) ?_
  refine vl_val rfl (.some rfl) (val_lenSl Try.runUnderlying22 rfl) ?_
  refine vl_val rfl (.some rfl) (val_sub rfl rfl (by first | exact w_i64 (by omega) (by omega) | rfl)) ?_
  refine vl_val rfl (.some rfl) (val_gt rfl rfl) ?_
  refine vl_val rfl (.some rfl) (val_assign rfl) ?_
  refine vl_nil ?_
  refine vc_cond rfl (fun hc1 => False.elim (by (try replace hc1 := of_decide_eq_true hc1); omega)) (fun hc1 => ?_)
  (try replace hc1 := of_decide_eq_false hc1)
  refine vc_skip ?_
  refine vc_seq ?_
  refine vc_region ?_
  refine vl_val rfl (.some rfl) (val_move rfl) ?_
  refine vl_val rfl (.some rfl) (val_move rfl) ?_
  refine vl_val rfl (.some rfl) (val_nil rfl rfl) ?_
  refine vl_val rfl (.some rfl) (by first | exact val_fieldAddr Try.runUnderlying139 rfl Try.sizeOf22 rfl | exact val_fieldAddrR Try.runUnderlying139 rfl Try.sizeOf22 rfl) ?_
  refine vl_val rfl (.some rfl) (val_load Try.isAgg22 rfl (by first | exact cell_cells (by repeat constructor) rfl | exact cell_rd (by first | exact rd_sl (by repeat constructor) | exact rd_old (by assumption) rfl) (by first | exact bcells_at (by omega) | exact ucells_at (by omega) | exact icells_at (by omega) | exact tcells_at (by omega) | exact bcells_get (by omega) | exact icells_get (by omega) | exact tcells_get (by omega) | exact ucells_get (by omega)) | exact cell_old (by assumption) (by simp [fps]))) ?_
  refine vl_val rfl (.some rfl) (val_move rfl) ?_
  refine vl_append (vs := bcells b) (us := bcells b2) sT22 rfl rfl (.some rfl) rfl rfl (rd_slq (vs := bcells b2) (by repeat constructor)) (by rw [bcells_length, Nat.mul_one]) (one_b _) (by omega) (by omega) (by repeat constructor) (fun A35 k35 => ?_)
  rw [bappV, ← List.length_append]
  refine vl_val rfl (.some rfl) (val_nil rfl rfl) ?_
  refine vl_val rfl (.some rfl) (by first | exact val_fieldAddr Try.runUnderlying139 rfl Try.sizeOf22 rfl | exact val_fieldAddrR Try.runUnderlying139 rfl Try.sizeOf22 rfl) ?_
  first | refine vl_store rfl rfl .none rfl rfl Try.sizeOf22 rfl (by repeat constructor) (by first | decide | exact Nat.le_refl _ | exact Nat.le_of_ble_eq_true rfl | (simp; omega)) ?_ | refine vl_storeSl rfl rfl .none rfl rfl Try.sizeOf22 rfl (by simp [Value.cells]) (by repeat constructor) (by first | decide | (simp [Value.cells]; omega)) ?_
  refine vl_nil ?_
  refine vc_seq ?_
  refine vc_region ?_
  refine vl_val rfl (.some rfl) (val_move rfl) ?_
  refine vl_call (C := DK d a false 0 K kn kc ops :: []) rfl rfl (.some rfl) Try.call74 rfl (by repeat constructor) (fun w hw => dOp0 d a false K kn kc ops hops 77 [] [] [] (fun C' => C' = []) Try.call77 (fun w => by
    have h := dW1 (DK d a false 0 K kn kc (ops + 1)) w
    exact h) w) (fun v H' h => ?_)
  obtain ⟨rfl, C', rfl, rfl⟩ := h
  show VL _ _ _ _ _ (_ :: _)
  refine vl_val rfl (.some rfl) (val_assign rfl) ?_
  refine vl_nil ?_
  refine vc_ret ?_
  refine ⟨_, [DK d a false 0 K kn kc (ops + 1), mq kS a [name] [.pointer (some ⟨f, 0, none⟩)], FL f A35 (b ++ b2).length k35 sy, BY A35 (b ++ b2).length k35 (b ++ b2), slq B b2.length cb 5 (bcells b2)], _, res1 Try.results35 rfl, (by repeat constructor), ?_⟩
  exact ⟨rfl, A35, k35, rfl⟩
set_option maxRecDepth 20000 in
theorem dWriteF (d a : Nat) (K : Option Addr) (kc : Nat) (ops : Int) (hops : 0 ≤ ops ∧ ops < 4611686018427387904) (name : List UInt8) (hnm : fnameP name) (f : Nat) (A : Option Addr) (c : Nat) (b : List UInt8) (B : Option Addr) (cb : Nat) (b2 : List UInt8) (hb : (b ++ b2).length = 6) (w : World) : Fn Try.prog 35 [.pointer (some ⟨d, 0, none⟩), .string (sL name), .slice B b2.length cb] [DK d a false 1 K 1 kc ops, mq kS a [name] [.pointer (some ⟨f, 0, none⟩)], FL f A (b).length c 3, BY A (b).length c (b), sl K 1 kc 3 1 [.int .i64 1], slq B b2.length cb 5 (bcells b2)] (ret fun v H' => v = .int .i64 9 ∧ ∃ A' c', H' = [DK d a true 0 K 1 kc (ops + 1), mq kS a [name] [.pointer (some ⟨f, 0, none⟩)], FL f A' 4 c' 4, BY A' 4 c' ((b ++ b2).take 4), sl K 1 kc 3 1 [.int .i64 1], slq B b2.length cb 5 (bcells b2)]) w := by
  have hb2 : b.length + b2.length = 6 := by rw [← List.length_append]; exact hb
  refine fn_enter Try.func35 rfl Try.ntmps35 rfl ?_
  refine vc_seq ?_
  refine vc_region ?_
  refine vl_val rfl (.some rfl) (val_assign rfl) ?_
  refine vl_nil ?_
  refine vc_seq ?_
  refine vc_region ?_
  refine vl_val rfl (.some rfl) (val_move rfl) ?_
  refine vl_val rfl (.some rfl) (val_move rfl) ?_
  refine vl_callR [DK d a false 1 K 1 kc ops, mq kS a [name] [.pointer (some ⟨f, 0, none⟩)]] rfl rfl (.some rfl) Try.call76 rfl (by repeat constructor) (fun w hw => dOf d a 1 K 1 kc ops name hnm [name] [.pointer (some ⟨f, 0, none⟩)] 0 f kf1 w) ?_
  refine vl_val rfl (.some rfl) (val_move rfl) ?_
  refine vl_val rfl (.some rfl) (val_extract rfl rfl) ?_
  refine vl_val rfl (.some rfl) (val_extract rfl rfl) ?_
  refine vl_val rfl (.some rfl) (val_assign rfl) ?_
  refine vl_val rfl (.some rfl) (val_assign rfl) ?_
  refine vl_nil ?_
  refine vc_seq ?_
  refine vc_block ?_
  refine vc_seq ?_
  refine vc_region ?_
  refine vl_val rfl (.some rfl) (val_move rfl) ?_
  refine vl_val rfl (.some rfl) (val_ne rfl rfl) ?_
  refine vl_val rfl (.some rfl) (val_assign rfl) ?_
  refine vl_nil ?_
  refine vc_cond rfl (fun hc0 => False.elim (by (try replace hc0 := of_decide_eq_true hc0); exact hc0 rfl)) (fun hc0 => ?_)
  (try replace hc0 := of_decide_eq_false hc0)
  refine vc_seq ?_
  refine vc_region ?_
  refine vl_val rfl (.some rfl) (val_move rfl) ?_
  refine vl_val rfl (.some rfl) (val_lenSl Try.runUnderlying22 rfl) ?_
  refine vl_val rfl (.some rfl) (val_move rfl) ?_
  refine vl_val rfl (.some rfl) (val_nil rfl rfl) ?_
  refine vl_val rfl (.some rfl) (by first | exact val_fieldAddr Try.runUnderlying139 rfl Try.sizeOf22 rfl | exact val_fieldAddrR Try.runUnderlying139 rfl Try.sizeOf22 rfl) ?_
  refine vl_val rfl (.some rfl) (val_load Try.isAgg22 rfl (by first | exact cell_cells (by repeat constructor) rfl | exact cell_rd (by first | exact rd_sl (by repeat constructor) | exact rd_old (by assumption) rfl) (by first | exact bcells_at (by omega) | exact ucells_at (by omega) | exact icells_at (by omega) | exact tcells_at (by omega) | exact bcells_get (by omega) | exact icells_get (by omega) | exact tcells_get (by omega) | exact ucells_get (by omega)) | exact cell_old (by assumption) (by simp [fps]))) ?_
  refine vl_val rfl (.some rfl) (val_lenSl Try.runUnderlying22 rfl) ?_
  refine vl_val rfl (.some rfl) (val_sub rfl rfl (by first | exact w_i64 (by omega) (by omega) | rfl)) ?_
  refine vl_val rfl (.some rfl) (val_gt rfl rfl) ?_
  refine vl_val rfl (.some rfl) (val_assign rfl) ?_
  refine vl_nil ?_
  refine vc_cond rfl (fun hc1 => False.elim (by (try replace hc1 := of_decide_eq_true hc1); omega)) (fun hc1 => ?_)
  (try replace hc1 := of_decide_eq_false hc1)
  refine vc_skip ?_
  refine vc_seq ?_
  refine vc_region ?_
  refine vl_val rfl (.some rfl) (val_move rfl) ?_
  refine vl_val rfl (.some rfl) (val_move rfl) ?_
  refine vl_val rfl (.some rfl) (val_nil rfl rfl) ?_
  refine vl_val rfl (.some rfl) (by first | exact val_fieldAddr Try.runUnderlying139 rfl Try.sizeOf22 rfl | exact val_fieldAddrR Try.runUnderlying139 rfl Try.sizeOf22 rfl) ?_
  refine vl_val rfl (.some rfl) (val_load Try.isAgg22 rfl (by first | exact cell_cells (by repeat constructor) rfl | exact cell_rd (by first | exact rd_sl (by repeat constructor) | exact rd_old (by assumption) rfl) (by first | exact bcells_at (by omega) | exact ucells_at (by omega) | exact icells_at (by omega) | exact tcells_at (by omega) | exact bcells_get (by omega) | exact icells_get (by omega) | exact tcells_get (by omega) | exact ucells_get (by omega)) | exact cell_old (by assumption) (by simp [fps]))) ?_
  refine vl_val rfl (.some rfl) (val_move rfl) ?_
  refine vl_append (vs := bcells b) (us := bcells b2) sT22 rfl rfl (.some rfl) rfl rfl (rd_slq (vs := bcells b2) (by repeat constructor)) (by rw [bcells_length, Nat.mul_one]) (one_b _) (by omega) (by omega) (by repeat constructor) (fun A35 k35 => ?_)
  rw [bappV, ← List.length_append]
  refine vl_val rfl (.some rfl) (val_nil rfl rfl) ?_
  refine vl_val rfl (.some rfl) (by first | exact val_fieldAddr Try.runUnderlying139 rfl Try.sizeOf22 rfl | exact val_fieldAddrR Try.runUnderlying139 rfl Try.sizeOf22 rfl) ?_
  first | refine vl_store rfl rfl .none rfl rfl Try.sizeOf22 rfl (by repeat constructor) (by first | decide | exact Nat.le_refl _ | exact Nat.le_of_ble_eq_true rfl | (simp; omega)) ?_ | refine vl_storeSl rfl rfl .none rfl rfl Try.sizeOf22 rfl (by simp [Value.cells]) (by repeat constructor) (by first | decide | (simp [Value.cells]; omega)) ?_
  refine vl_nil ?_
  refine vc_seq ?_
  refine vc_region ?_
  refine vl_val rfl (.some rfl) (val_move rfl) ?_
  refine vl_call (C := [DK d a false 1 K 1 kc ops, mq kS a [name] [.pointer (some ⟨f, 0, none⟩)], FL f A35 (b ++ b2).length k35 3, BY A35 (b ++ b2).length k35 (b ++ b2), sl K 1 kc 3 1 [.int .i64 1]]) rfl rfl (.some rfl) Try.call74 rfl (by repeat constructor) (fun w hw => dOp1 d a K kc ops name f A35 k35 (b ++ b2) hb hops _ w) (fun v H' h => ?_)
  obtain ⟨rfl, A39, c39, rfl⟩ := h
  show VL _ _ _ _ _ (_ :: _)
  refine vl_val rfl (.some rfl) (val_assign rfl) ?_
  refine vl_nil ?_
  refine vc_ret ?_
  refine ⟨_, [DK d a true 0 K 1 kc (ops + 1), mq kS a [name] [.pointer (some ⟨f, 0, none⟩)], FL f A39 4 c39 4, BY A39 4 c39 ((b ++ b2).take 4), sl K 1 kc 3 1 [.int .i64 1], slq B b2.length cb 5 (bcells b2)], _, res1 Try.results35 rfl, (by repeat constructor), ?_⟩
  exact ⟨rfl, A39, c39, rfl⟩
set_option maxRecDepth 20000 in
theorem dSync1 (D : Chunk) (b1 f : Nat) (A : Option Addr) (n c : Nat) (sy : Int) (w : World) : Fn Try.prog 78 [.pointer (some ⟨b1, 0, none⟩)] (D :: [cells b1 [.pointer (some ⟨f, 0, none⟩)] 136, FL f A n c sy]) (ret fun v H' => ∃ C', H' = D :: C' ∧ C' = [cells b1 [.pointer (some ⟨f, 0, none⟩)] 136, FL f A n c (n : Nat)]) w := by
  refine fn_enter Try.func78 rfl Try.ntmps78 rfl ?_
  refine vc_drawsS [0, 1, 2, 3, 4, 5, 7] [8] [0, 1, 2, 3, 4, 5, 6, 7, 8] [cells b1 [.pointer (some ⟨f, 0, none⟩)] 136, FL f A n c sy] (by repeat constructor) rfl (by kernel_rfl) (fun _ _ _ h => h) ?_
  refine vd_val rfl rfl rfl (.some rfl) (val_load Try.isAgg136 rfl (by first | exact cell_cells (by repeat constructor) rfl | exact cell_rd (by first | exact rd_sl (by repeat constructor) | exact rd_old (by assumption) rfl) (by first | exact bcells_at (by omega) | exact ucells_at (by omega) | exact icells_at (by omega) | exact tcells_at (by omega) | exact bcells_get (by omega) | exact icells_get (by omega) | exact tcells_get (by omega) | exact ucells_get (by omega)) | exact cell_old (by assumption) (by simp [fps]))) ?_
  refine vd_val rfl rfl rfl (.some rfl) (val_load Try.isAgg136 rfl (by first | exact cell_cells (by repeat constructor) rfl | exact cell_rd (by first | exact rd_sl (by repeat constructor) | exact rd_old (by assumption) rfl) (by first | exact bcells_at (by omega) | exact ucells_at (by omega) | exact icells_at (by omega) | exact tcells_at (by omega) | exact bcells_get (by omega) | exact icells_get (by omega) | exact tcells_get (by omega) | exact ucells_get (by omega)) | exact cell_old (by assumption) (by simp [fps]))) ?_
  refine vd_val rfl rfl rfl (.some rfl) (val_nil rfl rfl) ?_
  refine vd_val rfl rfl rfl (.some rfl) (by first | exact val_fieldAddr Try.runUnderlying139 rfl Try.sizeOf22 rfl | exact val_fieldAddrR Try.runUnderlying139 rfl Try.sizeOf22 rfl) ?_
  refine vd_val rfl rfl rfl (.some rfl) (val_load Try.isAgg22 rfl (by first | exact cell_cells (by repeat constructor) rfl | exact cell_rd (by first | exact rd_sl (by repeat constructor) | exact rd_old (by assumption) rfl) (by first | exact bcells_at (by omega) | exact ucells_at (by omega) | exact icells_at (by omega) | exact tcells_at (by omega) | exact bcells_get (by omega) | exact icells_get (by omega) | exact tcells_get (by omega) | exact ucells_get (by omega)) | exact cell_old (by assumption) (by simp [fps]))) ?_
  refine vd_val rfl rfl rfl (.some rfl) (val_lenSl Try.runUnderlying22 rfl) ?_
  refine vd_op rfl rfl ?_
  refine vl_val rfl (.some rfl) (val_nil rfl rfl) ?_
  refine vl_nil ?_
  refine ⟨fun _ => ⟨_, (by repeat (first | exact .nil | exact sub_self _ | exact sub_skip (sub_self _) | exact sub_skip (sub_skip (sub_self _)) | exact sub_skip (sub_skip (sub_skip (sub_self _))) | (apply Sub.cons; · repeat (first | exact .head | apply Take.tail))))⟩, ?_⟩
  refine vd_val rfl rfl rfl (.some rfl) (by first | exact val_fieldAddr Try.runUnderlying139 rfl Try.sizeOf3 rfl | exact val_fieldAddrR Try.runUnderlying139 rfl Try.sizeOf3 rfl) ?_
  refine vd_op rfl rfl ?_
  first | refine vl_store rfl rfl .none rfl rfl Try.sizeOf3 rfl (by repeat constructor) (by first | decide | exact Nat.le_refl _ | exact Nat.le_of_ble_eq_true rfl | (simp; omega)) ?_ | refine vl_storeSl rfl rfl .none rfl rfl Try.sizeOf3 rfl (by simp [Value.cells]) (by repeat constructor) (by first | decide | (simp [Value.cells]; omega)) ?_
  refine vl_nil ?_
  refine ⟨fun h => (by cases h), ?_⟩
  refine vd_nil ?_
  refine ⟨_, [D, cells b1 [.pointer (some ⟨f, 0, none⟩)] 136, FL f A n c (n : Nat)], _, res0 Try.results78, (by repeat constructor), ?_⟩
  exact ⟨_, rfl, rfl⟩
set_option maxRecDepth 20000 in
theorem dSync (d a : Nat) (K : Option Addr) (kn kc : Nat) (ops : Int) (hops : 0 ≤ ops ∧ ops < 4611686018427387904) (name : List UInt8) (hnm : fnameP name) (f : Nat) (A : Option Addr) (c : Nat) (b : List UInt8) (sy : Int) (w : World) : Fn Try.prog 36 [.pointer (some ⟨d, 0, none⟩), .string (sL name)] [DK d a false 0 K kn kc ops, mq kS a [name] [.pointer (some ⟨f, 0, none⟩)], FL f A (b).length c sy, BY A (b).length c (b)] (ret fun v H' => v = .int .i64 0 ∧ H' = [DK d a false 0 K kn kc (ops + 1), mq kS a [name] [.pointer (some ⟨f, 0, none⟩)], FL f A (b).length c (b.length : Nat), BY A (b).length c (b)]) w := by
  refine fn_enter Try.func36 rfl Try.ntmps36 rfl ?_
  refine vc_seq ?_
  refine vc_region ?_
  refine vl_val rfl (.some rfl) (val_assign rfl) ?_
  refine vl_nil ?_
  refine vc_seq ?_
  refine vc_region ?_
  refine vl_val rfl (.some rfl) (val_move rfl) ?_
  refine vl_val rfl (.some rfl) (val_move rfl) ?_
  refine vl_callR [DK d a false 0 K kn kc ops, mq kS a [name] [.pointer (some ⟨f, 0, none⟩)]] rfl rfl (.some rfl) Try.call76 rfl (by repeat constructor) (fun w hw => dOf d a 0 K kn kc ops name hnm [name] [.pointer (some ⟨f, 0, none⟩)] 0 f kf1 w) ?_
  refine vl_val rfl (.some rfl) (val_move rfl) ?_
  refine vl_val rfl (.some rfl) (val_extract rfl rfl) ?_
  refine vl_val rfl (.some rfl) (val_extract rfl rfl) ?_
  refine vl_alloc rfl rfl (.some rfl) Try.zeroValue136 (fun r5 => ?_)
  first | refine vl_store rfl rfl .none rfl rfl Try.sizeOf136 rfl (by repeat constructor) (by first | decide | exact Nat.le_refl _ | exact Nat.le_of_ble_eq_true rfl | (simp; omega)) ?_ | refine vl_storeSl rfl rfl .none rfl rfl Try.sizeOf136 rfl (by simp [Value.cells]) (by repeat constructor) (by first | decide | (simp [Value.cells]; omega)) ?_
  refine vl_val rfl (.some rfl) (val_assign rfl) ?_
  refine vl_nil ?_
  refine vc_seq ?_
  refine vc_seq ?_
  refine vc_region ?_
  refine vl_val rfl (.some rfl) (val_move rfl) ?_
  refine vl_val rfl (.some rfl) (val_ne rfl rfl) ?_
  refine vl_nil ?_
  refine vc_cond rfl (fun hc0 => False.elim (by (try replace hc0 := of_decide_eq_true hc0); exact hc0 rfl)) (fun hc0 => ?_)
  (try replace hc0 := of_decide_eq_false hc0)
  refine vc_skip ?_
  refine vc_seq ?_
  refine vc_region ?_
  refine vl_val rfl (.some rfl) (val_move rfl) ?_
  refine vl_val rfl (.some rfl) (val_mkFunc (us := []) (vs := [.pointer (some ⟨r5, 0, none⟩)]) rfl rfl) ?_
  refine vl_call (C := DK d a false 0 K kn kc ops :: [cells r5 [.pointer (some ⟨f, 0, none⟩)] 136, FL f A b.length c sy]) rfl rfl (.some rfl) Try.call74 rfl (by repeat constructor) (fun w hw => dOp0 d a false K kn kc ops hops 78 [] [.pointer (some ⟨r5, 0, none⟩)] [cells r5 [.pointer (some ⟨f, 0, none⟩)] 136, FL f A b.length c sy] (fun C' => C' = [cells r5 [.pointer (some ⟨f, 0, none⟩)] 136, FL f A b.length c (b.length : Nat)]) Try.call78 (fun w => by
    have h := dSync1 (DK d a false 0 K kn kc (ops + 1)) r5 f A b.length c sy w
    exact h) w) (fun v H' h => ?_)
  obtain ⟨rfl, C', rfl, rfl⟩ := h
  show VL _ _ _ _ _ (_ :: _)
  refine vl_val rfl (.some rfl) (val_assign rfl) ?_
  refine vl_nil ?_
  refine vc_ret ?_
  refine ⟨_, [DK d a false 0 K kn kc (ops + 1), mq kS a [name] [.pointer (some ⟨f, 0, none⟩)], FL f A (b).length c (b.length : Nat), BY A (b).length c (b)], _, res1 Try.results36 rfl, (by repeat constructor), ?_⟩
  exact ⟨rfl, rfl⟩
set_option maxRecDepth 20000 in
theorem dCut (d a : Nat) (K : Option Addr) (kn kc : Nat) (ops : Int) (B : Option Addr) (cb : Nat) (w : World) : Fn Try.prog 37 [.pointer (some ⟨d, 0, none⟩), .int .i64 1, .slice B 1 cb] [DK d a false 0 K kn kc ops, sl B 1 cb 3 1 [.int .i64 1]] (ret fun v H' => ∃ A' c', v = .int .i64 0 ∧ H' = [DK d a false 1 A' 1 c' ops, sl A' 1 c' 3 1 [.int .i64 1]]) w := by
  refine fn_enter Try.func37 rfl Try.ntmps37 rfl ?_
  refine vc_seq ?_
  refine vc_region ?_
  refine vl_val rfl (.some rfl) (val_assign rfl) ?_
  refine vl_nil ?_
  refine vc_seq ?_
  refine vc_seq ?_
  refine vc_region ?_
  refine vl_val rfl (.some rfl) (val_move rfl) ?_
  refine vl_nilSl 9 1 ?_
  refine vl_callR [DK d a false 0 K kn kc ops, sl none 0 0 9 1 (tcS [])] rfl rfl (.some rfl) Try.call73 rfl (by repeat constructor) (fun w hw => dMay d a false 0 K kn kc ops none 0 [] (fun x hx => by cases hx) (by simp) w) ?_
  refine vl_val rfl (.some rfl) (val_assign rfl) ?_
  refine vl_nil ?_
  refine vc_seq ?_
  refine vc_region ?_
  refine vl_val rfl (.some rfl) (val_move rfl) ?_
  refine vl_val rfl (.some rfl) (val_ne rfl rfl) ?_
  refine vl_nil ?_
  refine vc_cond rfl (fun hc0 => False.elim (by (try replace hc0 := of_decide_eq_true hc0); exact hc0 rfl)) (fun hc0 => ?_)
  (try replace hc0 := of_decide_eq_false hc0)
  refine vc_skip ?_
  refine vc_seq ?_
  refine vc_seq ?_
  refine vc_region ?_
  refine vl_val rfl (.some rfl) (val_move rfl) ?_
  refine vl_val rfl (.some rfl) (val_lt rfl rfl) ?_
  refine vl_nil ?_
  refine vc_cond rfl (fun hc1 => False.elim (by (try replace hc1 := of_decide_eq_true hc1); revert hc1; decide)) (fun hc1 => ?_)
  (try replace hc1 := of_decide_eq_false hc1)
  refine vc_skip ?_
  refine vc_seq ?_
  refine vc_region ?_
  refine vl_val rfl (.some rfl) (val_move rfl) ?_
  refine vl_val rfl (.some rfl) (val_move rfl) ?_
  refine vl_val rfl (.some rfl) (val_move rfl) ?_
  refine vl_val rfl (.some rfl) (val_move rfl) ?_
  refine vl_call (C := []) rfl rfl (.some rfl) Try.call79 rfl .nil (fun w hw => dCloneI B cb [1] (by simp) w (rdw (rd_sl (vs := icells .i64 [1]) (by repeat constructor)) hw)) (fun v H' h => ?_)
  obtain ⟨A19, c19, rfl, rfl⟩ := h
  show VL _ _ _ _ _ (_ :: _)
  refine vl_val rfl (.some rfl) (val_nil rfl rfl) ?_
  refine vl_val rfl (.some rfl) (by first | exact val_fieldAddr Try.runUnderlying91 rfl Try.sizeOf3 rfl | exact val_fieldAddrR Try.runUnderlying91 rfl Try.sizeOf3 rfl) ?_
  first | refine vl_store rfl rfl .none rfl rfl Try.sizeOf3 rfl (by repeat constructor) (by first | decide | exact Nat.le_refl _ | exact Nat.le_of_ble_eq_true rfl | (simp; omega)) ?_ | refine vl_storeSl rfl rfl .none rfl rfl Try.sizeOf3 rfl (by simp [Value.cells]) (by repeat constructor) (by first | decide | (simp [Value.cells]; omega)) ?_
  refine vl_val rfl (.some rfl) (val_nil rfl rfl) ?_
  refine vl_val rfl (.some rfl) (by first | exact val_fieldAddr Try.runUnderlying91 rfl Try.sizeOf69 rfl | exact val_fieldAddrR Try.runUnderlying91 rfl Try.sizeOf69 rfl) ?_
  first | refine vl_store rfl rfl .none rfl rfl Try.sizeOf69 rfl (by repeat constructor) (by first | decide | exact Nat.le_refl _ | exact Nat.le_of_ble_eq_true rfl | (simp; omega)) ?_ | refine vl_storeSl rfl rfl .none rfl rfl Try.sizeOf69 rfl (by simp [Value.cells]) (by repeat constructor) (by first | decide | (simp [Value.cells]; omega)) ?_
  refine vl_nil ?_
  refine vc_seq ?_
  refine vc_region ?_
  refine vl_val rfl (.some rfl) (val_assign rfl) ?_
  refine vl_nil ?_
  refine vc_ret ?_
  refine ⟨_, [DK d a false 1 A19 1 c19 ops, sl A19 1 c19 3 1 [.int .i64 1]], _, res1 Try.results37 rfl, (by repeat constructor), ?_⟩
  exact ⟨A19, c19, rfl, rfl⟩
set_option maxRecDepth 20000 in
theorem dRead (d a : Nat) (K : Option Addr) (kn kc : Nat) (ops : Int) (hops : 0 ≤ ops ∧ ops < 4611686018427387904) (name : List UInt8) (hnm : fnameP name) (f : Nat) (A : Option Addr) (c : Nat) (b : List UInt8) (cut sy : Int) (hb : b.length ≤ 1000) (w : World) : Fn Try.prog 40 [.pointer (some ⟨d, 0, none⟩), .string (sL name)] [DK d a false cut K kn kc ops, mq kS a [name] [.pointer (some ⟨f, 0, none⟩)], FL f A (b).length c sy, BY A (b).length c (b)] (ret fun v H' => ∃ A' c', v = .tuple #[.slice A' b.length c', .int .i64 0] ∧ H' = [DK d a false cut K kn kc ops, BY A' b.length c' b]) w := by
  refine fn_enter Try.func40 rfl Try.ntmps40 rfl ?_
  refine vc_seq ?_
  refine vc_region ?_
  refine vl_val rfl (.some rfl) (val_assign rfl) ?_
  refine vl_val rfl (.some rfl) (val_assign rfl) ?_
  refine vl_nil ?_
  refine vc_seq ?_
  refine vc_region ?_
  refine vl_val rfl (.some rfl) (val_move rfl) ?_
  refine vl_val rfl (.some rfl) (val_move rfl) ?_
  refine vl_callR [DK d a false cut K kn kc ops, mq kS a [name] [.pointer (some ⟨f, 0, none⟩)]] rfl rfl (.some rfl) Try.call76 rfl (by repeat constructor) (fun w hw => dOf d a cut K kn kc ops name hnm [name] [.pointer (some ⟨f, 0, none⟩)] 0 f kf1 w) ?_
  refine vl_val rfl (.some rfl) (val_move rfl) ?_
  refine vl_val rfl (.some rfl) (val_extract rfl rfl) ?_
  refine vl_val rfl (.some rfl) (val_extract rfl rfl) ?_
  refine vl_val rfl (.some rfl) (val_assign rfl) ?_
  refine vl_val rfl (.some rfl) (val_assign rfl) ?_
  refine vl_nil ?_
  refine vc_seq ?_
  refine vc_seq ?_
  refine vc_region ?_
  refine vl_val rfl (.some rfl) (val_move rfl) ?_
  refine vl_val rfl (.some rfl) (val_ne rfl rfl) ?_
  refine vl_nil ?_
  refine vc_cond rfl (fun hc0 => False.elim (by (try replace hc0 := of_decide_eq_true hc0); exact hc0 rfl)) (fun hc0 => ?_)
  (try replace hc0 := of_decide_eq_false hc0)
  refine vc_skip ?_
  refine vc_seq ?_
  refine vc_region ?_
  refine vl_val rfl (.some rfl) (val_move rfl) ?_
  refine vl_val rfl (.some rfl) (val_nil rfl rfl) ?_
  refine vl_val rfl (.some rfl) (by first | exact val_fieldAddr Try.runUnderlying139 rfl Try.sizeOf22 rfl | exact val_fieldAddrR Try.runUnderlying139 rfl Try.sizeOf22 rfl) ?_
  refine vl_val rfl (.some rfl) (val_load Try.isAgg22 rfl (by first | exact cell_cells (by repeat constructor) rfl | exact cell_rd (by first | exact rd_sl (by repeat constructor) | exact rd_old (by assumption) rfl) (by first | exact bcells_at (by omega) | exact ucells_at (by omega) | exact icells_at (by omega) | exact tcells_at (by omega) | exact bcells_get (by omega) | exact icells_get (by omega) | exact tcells_get (by omega) | exact ucells_get (by omega)) | exact cell_old (by assumption) (by simp [fps]))) ?_
  refine vl_call (C := []) rfl rfl (.some rfl) Try.call81 rfl .nil (fun w hw => dCloneB A c b (by omega) w (rdw (rd_sl (vs := bcells b) (by repeat constructor)) hw)) (fun v H' h => ?_)
  obtain ⟨A21, c21, rfl, rfl⟩ := h
  show VL _ _ _ _ _ (_ :: _)
  refine vl_val rfl (.some rfl) (val_assign rfl) ?_
  refine vl_val rfl (.some rfl) (val_assign rfl) ?_
  refine vl_nil ?_
  refine vc_ret ?_
  refine ⟨_, [DK d a false cut K kn kc ops, BY A21 b.length c21 b], _, res2 Try.results40 rfl rfl, (by repeat constructor), ?_⟩
  exact ⟨A21, c21, rfl, rfl⟩
set_option maxRecDepth 20000 in
theorem dNew (w : World) : Fn Try.prog 33 [] [] (ret fun v H' => ∃ d a, v = .pointer (some ⟨d, 0, none⟩) ∧ H' = [DK d a false 0 none 0 0 0, mq kS a [] []]) w := by
  refine fn_enter Try.func33 rfl Try.ntmps33 rfl ?_
  refine vc_seq ?_
  refine vc_region ?_
  refine vl_val rfl (.some rfl) (val_assign rfl) ?_
  refine vl_nil ?_
  refine vc_seq ?_
  refine vc_region ?_
  refine vl_makeMapQ kS rfl rfl (.some rfl) (fun r1 => ?_)
  refine vl_val rfl (.some rfl) (val_buildSt (pl := #[(0, 1), (1, 1), (2, 1), (3, 1), (4, 1)]) (cs := #[.map (some r1), .bool false, .int .i64 0, .slice none 0 0, .int .i64 0]) Try.runUnderlying91 Try.zeroValue91 (fun w => by kernel_rfl) rfl rfl) ?_
  refine vl_box rfl rfl (.some rfl) rfl (fun r3 => ?_)
  refine vl_val rfl (.some rfl) (val_assign rfl) ?_
  refine vl_nil ?_
  refine vc_ret ?_
  refine ⟨_, [DK r3 r1 false 0 none 0 0 0, mq kS r1 [] []], _, res1 Try.results33 rfl, (by repeat constructor), ?_⟩
  exact ⟨r3, r1, rfl, rfl⟩


end Go.Proofs.Ytclnhfdgiaamhaa.K
