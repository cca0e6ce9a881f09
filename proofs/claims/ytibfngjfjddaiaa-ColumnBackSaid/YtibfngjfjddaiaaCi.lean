/- A framework of our own for walks over the model: Ci. -/
import Derived.Test.YtibfngjfjddaiaaCg
import Derived.Test.YtibfngjfjddaiaaKz
namespace Go.Proofs.Ytibfngjfjddaiaa.K
open Go Go.RowKit
set_option linter.unusedVariables false
set_option linter.unusedSimpArgs false
/-! ### Vectors one behind the other -/
abbrev Vt := Sl Bool × Sl Int × Unit
def vtN (v : Vt) : List Bool := v.1.l
def vtI (v : Vt) : List Int := v.2.1.l
def vtC (v : Vt) : List Value := [.slice v.1.A v.1.l.length v.1.c] ++ ([.slice v.2.1.A v.2.1.l.length v.2.1.c] ++ [])
def dV : Vt := (⟨none, 0, []⟩, ⟨none, 0, []⟩, ())
theorem vtC_len (v : Vt) : (vtC v).length = 2 := rfl
theorem flat_at {α : Type} {f : α → List Value} {m : Nat} (hm : ∀ a, (f a).length = m) (d : α) : ∀ (l : List α) (i : Nat), i < l.length → ((l.flatMap f).drop (i * m)).take m = f (l.getD i d)
  | [], i, h => by simp at h
  | a :: t, 0, h => by
    rw [List.flatMap_cons, Nat.zero_mul, List.drop_zero, List.take_append_of_le_length (by rw [hm]; exact Nat.le_refl _), List.take_of_length_le (by rw [hm]; exact Nat.le_refl _)]; rfl
  | a :: t, i + 1, h => by
    have := flat_at hm d t i (by simpa using h)
    rw [List.flatMap_cons, Nat.add_mul, Nat.one_mul, Nat.add_comm, ← List.drop_drop, List.drop_append_of_le_length (by rw [hm]; exact Nat.le_refl _), List.drop_of_length_le (l := f a) (by rw [hm]; exact Nat.le_refl _), List.nil_append, this]
    rfl
theorem flatV_at {l : List Vt} {i : Nat} {q : Int} (hq : q = (i : Int)) (h : i < l.length) : ((l.flatMap vtC).drop (Int.toNat q * 2)).take 2 = vtC (l.getD i dV) := by
  rw [hq, Int.toNat_natCast]; exact flat_at vtC_len dV l i h
theorem flatV_len (l : List Vt) : (l.flatMap vtC).length = l.length * 2 := flat_length vtC_len l
theorem flatV_push {l : List Vt} {i : Nat} (h : i < l.length) : (l.take i).flatMap vtC ++ vtC (l.getD i dV) = (l.take (i + 1)).flatMap vtC := by
  rw [take_push dV h, List.flatMap_append]; simp
def VtF (w : World) (v : Vt) : Prop := Reads w v.1.A (tcells (vtN v)) ∧ (vtN v).length < 9223372036854775808 ∧ Reads w v.2.1.A (icells .i64 (vtI v)) ∧ (vtI v).length < 9223372036854775808
def jN (l : List Vt) : List Bool := l.flatMap vtN
def jI (l : List Vt) : List Int := l.flatMap vtI
theorem jN_push {l : List Vt} {i : Nat} (h : i < l.length) : tcells (jN (l.take i)) ++ tcells (vtN (l.getD i dV)) = tcells (jN (l.take (i + 1))) := by
  rw [tapp, take_push dV h]; unfold jN; rw [List.flatMap_append]; simp
theorem jI_push {l : List Vt} {i : Nat} (h : i < l.length) : icells .i64 (jI (l.take i)) ++ icells .i64 (vtI (l.getD i dV)) = icells .i64 (jI (l.take (i + 1))) := by
  rw [iapp, take_push dV h]; unfold jI; rw [List.flatMap_append]; simp
theorem jN_step {l : List Vt} {i : Nat} (h : i < l.length) : (jN (l.take (i + 1))).length = (jN (l.take i)).length + (vtN (l.getD i dV)).length := by
  rw [take_push dV h]; unfold jN; rw [List.flatMap_append, List.length_append]; simp
theorem jI_step {l : List Vt} {i : Nat} (h : i < l.length) : (jI (l.take (i + 1))).length = (jI (l.take i)).length + (vtI (l.getD i dV)).length := by
  rw [take_push dV h]; unfold jI; rw [List.flatMap_append, List.length_append]; simp
theorem jI_le {l : List Vt} {i : Nat} : (jI (l.take i)).length ≤ (jI l).length := by
  have : jI l = jI (l.take i) ++ jI (l.drop i) := by unfold jI; rw [← List.flatMap_append, List.take_append_drop]
  rw [this, List.length_append]; omega
def allOk (l : List Vt) : Prop := ∀ i, i < l.length → okV (vtN (l.getD i dV)) (vtI (l.getD i dV))
instance (l : List Vt) : Decidable (allOk l) := by unfold allOk; infer_instance
theorem jlen {l : List Vt} (h : allOk l) : ∀ i, i ≤ l.length → (jN (l.take i)).length = (jI (l.take i)).length := by
  intro i
  induction i with
  | zero => intro _; rfl
  | succ i ih =>
    intro hi
    rw [jN_step (by omega), jI_step (by omega), ih (by omega), (h i (by omega)).1]
def joinK (l : List Vt) : Prop := allOk l ∧ (jI l).length ≤ 1000
instance (l : List Vt) : Decidable (joinK l) := by unfold joinK; infer_instance
def joinN (l : List Vt) : List Bool := if joinK l then jN l else []
def joinI (l : List Vt) : List Int := if joinK l then jI l else []
def joinE (l : List Vt) : Int := if allOk l then (if (jI l).length ≤ 1000 then 0 else 7) else 2
theorem join_bad {l : List Vt} (h : ¬ allOk l) : joinN l = [] ∧ joinI l = [] ∧ joinE l = 2 := ⟨if_neg fun hk => h hk.1, if_neg fun hk => h hk.1, if_neg h⟩
theorem join_full {l : List Vt} (h : allOk l) (h2 : 1000 < (jI l).length) : joinN l = [] ∧ joinI l = [] ∧ joinE l = 7 :=
  ⟨if_neg fun hk => by have := hk.2; omega, if_neg fun hk => by have := hk.2; omega, by unfold joinE; rw [if_pos h, if_neg (by omega)]⟩
theorem join_ok {l : List Vt} (h : allOk l) (h2 : (jI l).length ≤ 1000) : joinN l = jN l ∧ joinI l = jI l ∧ joinE l = 0 :=
  ⟨if_pos ⟨h, h2⟩, if_pos ⟨h, h2⟩, by unfold joinE; rw [if_pos h, if_pos h2]⟩
theorem join_len (l : List Vt) : (joinN l).length = (joinI l).length ∧ (joinI l).length ≤ 1000 := by
  by_cases h : joinK l
  · have e := jlen h.1 l.length (Nat.le_refl _)
    rw [List.take_length] at e
    rw [joinN, joinI, if_pos h, if_pos h]
    exact ⟨e, h.2⟩
  · rw [joinN, joinI, if_neg h, if_neg h]; simp
/-! ### Bytes lead back -/
theorem words_back {nl : List Bool} {il : List Int} (h : okV nl il) : (wordsV il).map capI = il := by
  unfold wordsV
  rw [List.map_map]
  conv => rhs; rw [← List.map_id il]
  apply List.map_congr_left
  intro n hn
  have := h.mem n hn
  show capI n.toNat = n
  unfold capI; omega
theorem flags_back (nl : List Bool) : (flagsV nl).map nulF = nl := by
  unfold flagsV
  rw [List.map_map]
  conv => rhs; rw [← List.map_id nl]
  apply List.map_congr_left
  intro b _
  cases b <;> rfl
theorem read_best {nl : List Bool} {il : List Int} (h : okV nl il) : readO il.length (bestV il) = some il := by
  have hl := wordsV_len il
  have hle := h.2.1
  have h0 : readO il.length (way0 il) = some il := by
    have hw := wid_ok h
    have e : (UInt8.ofNat (wid il)).toNat = wid il := u8_ofNat (by omega)
    rw [readO_0 (by simp [way0]) rfl]
    show (unpO ((UInt8.ofNat (wid il)).toNat : Nat) il.length (packS (wid il) (wordsV il))).map _ = _
    have hu := unpack_pack (wordsV_lt h)
    rw [hl] at hu
    rw [e]
    unfold unpO
    rw [if_pos (by omega), Int.toNat_natCast, Int.toNat_natCast, hu]
    show some ((wordsV il).map capI) = _
    rw [words_back h]
  have h1 : readO il.length (way1 il) = some il := by
    rw [readO_1 (by simp [way1]) rfl]
    show (unrunsO (runsS (wordsV il))).map _ = _
    rw [unruns_runs (wordsV_u64 h) (by omega)]
    show some ((wordsV il).map capI) = _
    rw [words_back h]
  have h2 : readO il.length (way2 il) = some il := by
    rw [readO_2 (by simp [way2]) rfl]
    exact undelt_delt (fun n hn => by have := h.mem n hn; omega)
  have h3 : readO il.length (less (way0 il) (way1 il)) = some il := by
    unfold less
    split
    · exact h1
    · exact h0
  unfold bestV
  rw [less]
  split
  · exact h2
  · exact h3
theorem load_bytes {nl : List Bool} {il : List Int} (h : okV nl il) : loadO (bytesV nl il) = some (nl, il) := by
  have hle := h.2.1
  have hfl := flagsV_len nl
  have hg : getN (bytesV nl il) = (il.length, (putN il.length).length) := by
    unfold bytesV; rw [List.append_assoc]; exact get_put (by omega) _
  have hpl : (packS 1 (flagsV nl)).length = (il.length + 7) / 8 := by rw [packS_len, hfl, h.1, Nat.one_mul]
  have hd : (bytesV nl il).drop (putN il.length).length = packS 1 (flagsV nl) ++ bestV il := by
    unfold bytesV; rw [List.append_assoc, List.drop_left]
  have hde : (bytesV nl il).drop ((putN il.length).length + (il.length + 7) / 8) = bestV il := by
    rw [← List.drop_drop, hd, ← hpl, List.drop_left]
  have hu := unpack_pack (flagsV_lt nl)
  rw [hfl, h.1] at hu
  have hp := putN_pos il.length
  rw [loadO_go (f := flagsV nl) (l := il) (by rw [hg]; show ¬ ((putN il.length).length = 0 ∨ 1000 < il.length); omega) (by
    rw [hg]
    show ¬ (bytesV nl il).length < (putN il.length).length + (il.length + 7) / 8
    unfold bytesV
    rw [List.length_append, List.length_append, hpl]; omega)
    (by rw [hg]; show unpackS 1 il.length (((bytesV nl il).drop (putN il.length).length).take ((il.length + 7) / 8)) = _; rw [hd, ← hpl, List.take_left]; exact hu)
    (by rw [hg]; show readO il.length ((bytesV nl il).drop ((putN il.length).length + (il.length + 7) / 8)) = _; rw [hde]; exact read_best h), flags_back]
  exact if_pos ⟨h, rfl⟩
/-! ### All rows, cut in two -/
def rngI (n : Nat) : List Int := (List.range n).map natF
theorem rngI_len (n : Nat) : (rngI n).length = n := by simp [rngI]
theorem rngI_push (i : Nat) : icells .i64 (rngI i) ++ [Value.int .i64 (i : Int)] = icells .i64 (rngI (i + 1)) := by
  rw [ipush]; unfold rngI; rw [List.range_succ, List.map_append]; rfl
theorem icells_take {k : IntKind} (l : List Int) (n : Nat) : icells k (l.take n) = (icells k l).take n := by simp [icells, List.map_take]
theorem reads_cutI {w : World} {A : Option Addr} {l : List Int} {c n : Nat} (h : Reads w A (icells .i64 l)) (hc : l.length ≤ c) : Reads w (cutA A c n 1) (icells .i64 (l.drop n)) := by
  have := h.cut (c := c) (l := n) (sz := 1) (by rw [icells_length]; omega)
  rw [Nat.mul_one] at this
  simpa [icells, List.map_drop] using this
theorem rng_get {n i : Nat} (h : i < n) : (rngI n).getD i 0 = (i : Int) := by
  unfold rngI
  rw [List.getD_eq_getElem?_getD]
  simp [h, natF]
theorem pkN_rng {nl : List Bool} : pkN nl (rngI nl.length) = nl := by
  unfold pkN rngI
  rw [List.map_map]
  have := map_getD false nl (fun b => b)
  rw [List.map_id'] at this
  exact this
theorem pkI_rng {il : List Int} : pkI il (rngI il.length) = il := by
  unfold pkI rngI
  rw [List.map_map]
  have := map_getD 0 il (fun b => b)
  rw [List.map_id'] at this
  exact this
theorem pick_take {nl : List Bool} {il : List Int} (h : okV nl il) (m : Nat) (rl : List Int) (hr : rl = (rngI il.length).take m) : pickN nl il rl = nl.take m ∧ pickI nl il rl = il.take m ∧ pickE nl il rl = 0 := by
  subst hr
  have hl := rngI_len il.length
  have hle := h.2.1
  obtain ⟨e1, e2, e3⟩ := pick_ok (nl := nl) (il := il) (rl := (rngI il.length).take m) ⟨h, by rw [List.length_take]; omega, fun i hi => by
    rw [List.length_take] at hi
    rw [List.getD_eq_getElem?_getD, List.getElem?_take, if_pos (by omega), ← List.getD_eq_getElem?_getD, rng_get (by omega)]; omega⟩
  rw [e1, e2, e3]
  refine ⟨?_, ?_, rfl⟩
  · have : pkN nl ((rngI il.length).take m) = (pkN nl (rngI il.length)).take m := by unfold pkN; rw [List.map_take]
    rw [this, ← h.1, pkN_rng]
  · have : pkI il ((rngI il.length).take m) = (pkI il (rngI il.length)).take m := by unfold pkI; rw [List.map_take]
    rw [this, pkI_rng]
theorem pick_drop {nl : List Bool} {il : List Int} (h : okV nl il) (m : Nat) (rl : List Int) (hr : rl = (rngI il.length).drop m) : pickN nl il rl = nl.drop m ∧ pickI nl il rl = il.drop m ∧ pickE nl il rl = 0 := by
  subst hr
  have hl := rngI_len il.length
  have hle := h.2.1
  obtain ⟨e1, e2, e3⟩ := pick_ok (nl := nl) (il := il) (rl := (rngI il.length).drop m) ⟨h, by rw [List.length_drop]; omega, fun i hi => by
    rw [List.length_drop] at hi
    rw [List.getD_eq_getElem?_getD, List.getElem?_drop, ← List.getD_eq_getElem?_getD, rng_get (by omega)]; omega⟩
  rw [e1, e2, e3]
  refine ⟨?_, ?_, rfl⟩
  · have : pkN nl ((rngI il.length).drop m) = (pkN nl (rngI il.length)).drop m := by unfold pkN; rw [List.map_drop]
    rw [this, ← h.1, pkN_rng]
  · have : pkI il ((rngI il.length).drop m) = (pkI il (rngI il.length)).drop m := by unfold pkI; rw [List.map_drop]
    rw [this, pkI_rng]
theorem getD_take {α : Type} {d : α} {l : List α} {m i : Nat} (h : i < m) : (l.take m).getD i d = l.getD i d := by
  rw [List.getD_eq_getElem?_getD, List.getElem?_take, if_pos h, ← List.getD_eq_getElem?_getD]
theorem getD_drop {α : Type} {d : α} {l : List α} {m i : Nat} : (l.drop m).getD i d = l.getD (m + i) d := by
  rw [List.getD_eq_getElem?_getD, List.getElem?_drop, ← List.getD_eq_getElem?_getD]
theorem okV_take {nl : List Bool} {il : List Int} (h : okV nl il) (m : Nat) : okV (nl.take m) (il.take m) := by
  have h1 := h.1
  have h2 := h.2.1
  refine ⟨by rw [List.length_take, List.length_take]; omega, by rw [List.length_take]; omega, fun i hi => ?_⟩
  rw [List.length_take] at hi
  rw [getD_take (by omega), getD_take (by omega)]
  exact h.2.2 i (by omega)
theorem okV_drop {nl : List Bool} {il : List Int} (h : okV nl il) (m : Nat) : okV (nl.drop m) (il.drop m) := by
  have h1 := h.1
  have h2 := h.2.1
  refine ⟨by rw [List.length_drop, List.length_drop]; omega, by rw [List.length_drop]; omega, fun i hi => ?_⟩
  rw [List.length_drop] at hi
  rw [getD_drop, getD_drop]
  exact h.2.2 (m + i) (by omega)
theorem join_two {nl : List Bool} {il : List Int} (h : okV nl il) (m : Nat) (A1 A2 A3 A4 : Option Addr) (c1 c2 c3 c4 : Nat) (l : List Vt) (hl : l = [(⟨A1, c1, nl.take m⟩, ⟨A2, c2, il.take m⟩, ()), (⟨A3, c3, nl.drop m⟩, ⟨A4, c4, il.drop m⟩, ())]) :
    joinN l = nl ∧ joinI l = il ∧ joinE l = 0 := by
  subst hl
  have e1 : jN [((⟨A1, c1, nl.take m⟩, ⟨A2, c2, il.take m⟩, ()) : Vt), (⟨A3, c3, nl.drop m⟩, ⟨A4, c4, il.drop m⟩, ())] = nl := by
    show nl.take m ++ (nl.drop m ++ []) = nl
    rw [List.append_nil, List.take_append_drop]
  have e2 : jI [((⟨A1, c1, nl.take m⟩, ⟨A2, c2, il.take m⟩, ()) : Vt), (⟨A3, c3, nl.drop m⟩, ⟨A4, c4, il.drop m⟩, ())] = il := by
    show il.take m ++ (il.drop m ++ []) = il
    rw [List.append_nil, List.take_append_drop]
  have := join_ok (l := [((⟨A1, c1, nl.take m⟩, ⟨A2, c2, il.take m⟩, ()) : Vt), (⟨A3, c3, nl.drop m⟩, ⟨A4, c4, il.drop m⟩, ())]) (fun i hi => by
    match i, hi with
    | 0, _ => exact okV_take h m
    | 1, _ => exact okV_drop h m) (by rw [e2]; exact h.2.1)
  rw [e1, e2] at this
  exact this
theorem found_next {W : List Int} {x : Int} {j : Nat} {f : Bool} (hf : f = decide (x ∈ W.take j)) (h : j < W.length) : (f = true → true = decide (x ∈ W.take (j + 1))) ∧ (f = false → decide (W.getD j 0 = x) = decide (x ∈ W.take (j + 1))) := by
  rw [take_push 0 h]
  refine ⟨fun h1 => ?_, fun h1 => ?_⟩
  · rw [h1] at hf
    have := of_decide_eq_true hf.symm
    exact (decide_eq_true (List.mem_append_left _ this)).symm
  · rw [h1] at hf
    have := of_decide_eq_false hf.symm
    rw [decide_eq_decide, List.mem_append]
    constructor
    · intro e; right; rw [e]; simp
    · rintro (e | e)
      · exact absurd e this
      · simp at e; rw [e]; simp
theorem mem_where {nl : List Bool} {il : List Int} {i : Nat} (h : okV nl il) (hi : i < il.length) : decide ((i : Int) ∈ whereL nl il (il.getD i 0)) = !nl.getD i false := by
  unfold whereL
  rw [if_pos h]
  cases hn : nl.getD i false with
  | false => exact decide_eq_true (sel_mem.2 ⟨i, hi, whP_t rfl hn, rfl⟩)
  | true =>
    refine decide_eq_false fun hm => ?_
    obtain ⟨j, _, h2, h3⟩ := sel_mem.1 hm
    have h4 := (of_decide_eq_true h2).2
    obtain rfl : j = i := by unfold natF at h3; omega
    rw [hn] at h4; cases h4
end Go.Proofs.Ytibfngjfjddaiaa.K
