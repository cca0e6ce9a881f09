/- A framework of our own for walks over the model: Ce. -/
import Derived.Test.YtdehjgpdcdjhjaaCd
import Derived.Lib.MinMax
namespace Go.Proofs.Ytdehjgpdcdjhjaa.K
open Go Go.RowKit
set_option linter.unusedVariables false
set_option linter.unusedSimpArgs false
/-! ### Slices of arrays, least and greatest -/
section
variable {X : Cx} {E : Env} {H : List Chunk}
theorem val_cutArrFrom {T e ty : TypeId} {x l : Operand} {b o n sz : Nat} {k : IntKind} {p : Int} (hu : ∀ w, (underlying T).run X.P w = .ok (.array n e) w) (hs : ∀ w, (sizeOf e).run X.P w = .ok sz w) (hx : E.ev x = some (.pointer (some ⟨b, o, none⟩)))
    (hl : E.ev l = some (.int k p)) (h0 : 0 ≤ p) (h1 : p < n) : Val X E H (.slice T x (some l) none none) ty (.slice (some ⟨b, o + p.toNat * sz, none⟩) (n - p.toNat) (n - p.toNat)) := by
  intro ac w o' ho _ ha hw
  have e2 : 0 ≤ p ∧ p ≤ (n : Int) := ⟨h0, by omega⟩
  have e3 : ¬ n = p.toNat := by omega
  simp [execOp, ho, ha.ev hx, ha.ev hl, Instr.sliceAt, Instr.sureAddr, Instr.sliceBounds, Instr.sliceBound, asIntOf, hu, hs, e2, e3, Addr.add_lit]
theorem val_max {x y : Operand} {ts : Array TypeId} {ty : TypeId} {k : IntKind} {p q r : Int} (hx : E.ev x = some (.int k p)) (hy : E.ev y = some (.int k q)) (hr : (if q > p then q else p) = r) : Val X E H (.call { callee := .builtin .max, args := #[x, y], argTypes := ts }) ty (.int k r) := by
  subst hr
  intro ac w o ho _ ha hw
  simp [execOp, ho, ha.ev hx, ha.ev hy, resolve, invoke, builtin, Builtin.max_, Builtin.max2]
theorem rd_cells {b o : Nat} {vs : List Value} {T : TypeId} (h : In (cells b vs T) H) : Rd X H (some ⟨b, o, none⟩) (vs.drop o) := by
  intro w hw j u hu
  refine ⟨_, rfl, ?_⟩
  rw [Addr.add_lit]
  rw [List.getElem?_drop] at hu
  exact cell_cells h hu w hw
end
theorem vl_callv {X : Cx} {E : Env} {H : List Chunk} {ops : Array Oper} {rest : List Oper} {Q : Post} {fE : Value → Env} {o : Oper} {f : FuncId} {x : Operand} {xs : Array Operand} {ats : Array TypeId} {args fs cs : List Value} {C F : List Chunk} {φ : Value → List Chunk → Prop} (ho : o.op = .call { callee := .value x, args := xs, argTypes := ats })
    (hg : o.guard = none) (hd : DstF X E o.dst fE) (hfx : E.ev x = some (.func (.func f) fs.toArray cs.toArray)) (hc : ∀ args w, (callFunc f args).run X.P w = .ok (.enter f args) w) (hx : E.evs xs.toList = some args)
    (hs : Sub C H F) (hf : ∀ w, Holds X.w0 X.M H w → Fn X.P f (fs ++ args ++ cs) C (ret φ) w) (h : ∀ v H', φ v H' → VL X ops rest Q (fE v) (H' ++ F)) : VL X ops (o :: rest) Q E H :=
  vl_callA (run_callv ho hfx hc hx) hg hd hs hf h (fun _ _ h => h.elim) (fun _ h => h)
/-! ### A list that is written place by place -/
def fillG {α : Type} (d : α) (n : Nat) (f : Nat → α) (i : Nat) : List α := (List.range n).map fun j => if j < i then f j else d
theorem fillG_length {α : Type} {d : α} {n i : Nat} {f : Nat → α} : (fillG d n f i).length = n := by simp [fillG]
theorem fillG_zero {α : Type} {d : α} {n : Nat} {f : Nat → α} : List.replicate n d = fillG d n f 0 := by
  apply List.ext_getElem
  · simp [fillG]
  · intro i h1 h2; simp [fillG]
theorem fillG_all {α : Type} {d : α} {n : Nat} {f : Nat → α} : fillG d n f n = (List.range n).map f := by
  apply List.ext_getElem
  · simp [fillG]
  · intro i h1 h2
    simp only [fillG_length] at h1
    simp [fillG, h1]
theorem fillG_set {α : Type} {d : α} {n i : Nat} {f : Nat → α} (h : i < n) : (fillG d n f i).set i (f i) = fillG d n f (i + 1) := by
  apply List.ext_getElem
  · simp [fillG]
  · intro j h1 h2
    simp only [fillG, List.getElem_set, List.getElem_map, List.getElem_range]
    by_cases e : i = j
    · subst e; simp
    · rw [if_neg e]
      by_cases c : j < i
      · rw [if_pos c, if_pos (by omega)]
      · rw [if_neg c, if_neg (by omega)]
theorem fillG_skip {α : Type} {d : α} {n i : Nat} {f : Nat → α} (h : f i = d) : fillG d n f i = fillG d n f (i + 1) := by
  unfold fillG
  apply List.map_congr_left
  intro j _
  by_cases c : j < i
  · rw [if_pos c, if_pos (by omega)]
  · rw [if_neg c]
    by_cases e : j = i
    · subst e; rw [if_pos (by omega), h]
    · rw [if_neg (by omega)]
theorem map_getD {α β : Type} (d : α) (l : List α) (g : α → β) : (List.range l.length).map (fun i => g (l.getD i d)) = l.map g := by
  apply List.ext_getElem
  · simp
  · intro i h1 h2
    simp at h1
    simp [List.getD_eq_getElem?_getD, h1]
theorem laid_map {α : Type} {g : α → Value} {l : List α} {i j : Nat} {v : Value} {x : α} (hi : i = j) (h : j < l.length) (hv : v.cells.toList = [g x]) : laid (l.map g) i v.cells.toList = (l.set j x).map g := by
  subst hi
  rw [hv]
  unfold laid
  rw [List.set_eq_take_append_cons_drop, if_pos h]
  simp [List.map_take, List.map_drop]
theorem laid_u {l : List Nat} {i j x : Nat} (hi : i = j) (h : j < l.length) : laid (ucells l) i (Value.cells (.int .u64 (x : Int))).toList = ucells (l.set j x) := laid_map hi h rfl
theorem laid_u1 {l : List Nat} {i j : Nat} (hi : i = j) (h : j < l.length) : laid (ucells l) i (Value.cells (.int .u64 1)).toList = ucells (l.set j 1) := laid_map (x := 1) hi h rfl
theorem made_u (n : Nat) : (madeCells (Value.int .u64 0).cells (n * 1)).toList = ucells (List.replicate n 0) := by
  rw [made_one rfl]; simp [ucells]
def flagAt (nl : List Bool) (i : Nat) : Nat := (nl.getD i false).toNat
theorem fill_flag {nl : List Bool} {n i : Nat} (h : i < n) (hb : nl.getD i false = true) : (fillG 0 n (flagAt nl) i).set i 1 = fillG 0 n (flagAt nl) (i + 1) := by
  rw [← fillG_set h, show flagAt nl i = 1 by unfold flagAt; rw [hb]; rfl]
theorem fill_noflag {nl : List Bool} {n i : Nat} (hb : nl.getD i false = false) : fillG 0 n (flagAt nl) i = fillG 0 n (flagAt nl) (i + 1) := fillG_skip (by unfold flagAt; rw [hb]; rfl)
/-! ### Ids of many rows -/
/-- How many bits a number has. -/
def bl (u : Nat) : Nat := if u = 0 then 0 else u.log2 + 1
theorem bl_le {u w : Nat} : bl u ≤ w ↔ u < 2 ^ w := by
  unfold bl
  split
  · rename_i h; subst h; simp [Nat.pow_pos]
  · rename_i h; rw [← Nat.log2_lt h]; omega
theorem bl_small {u : Nat} (h : u < 512) : bl u ≤ 9 := bl_le.2 (by simpa using h)
def okV (nl : List Bool) (il : List Int) : Prop := nl.length = il.length ∧ il.length ≤ 1000 ∧ ∀ i, i < il.length → 0 ≤ il.getD i 0 ∧ il.getD i 0 < 512 ∧ (nl.getD i false = true → il.getD i 0 = 0)
instance (nl : List Bool) (il : List Int) : Decidable (okV nl il) := by unfold okV; infer_instance
theorem okV.mem {nl : List Bool} {il : List Int} (h : okV nl il) : ∀ n ∈ il, 0 ≤ n ∧ n < 512 := by
  intro n hn
  obtain ⟨i, hi, rfl⟩ := List.mem_iff_getElem.1 hn
  have := h.2.2 i hi
  rw [List.getD_eq_getElem?_getD, List.getElem?_eq_getElem hi] at this
  exact ⟨this.1, this.2.1⟩
def wid (il : List Int) : Nat := il.foldl (fun w n => max w (bl n.toNat)) 0
theorem wid_step {il : List Int} {i : Nat} (h : i < il.length) : wid (il.take (i + 1)) = max (wid (il.take i)) (bl (il.getD i 0).toNat) := by
  rw [take_push 0 h]; unfold wid; rw [List.foldl_append]; rfl
theorem wid_le : ∀ {il : List Int} {w : Nat}, wid il ≤ w ↔ ∀ n ∈ il, bl n.toNat ≤ w := by
  have go : ∀ (il : List Int) (a w : Nat), il.foldl (fun w n => max w (bl n.toNat)) a ≤ w ↔ a ≤ w ∧ ∀ n ∈ il, bl n.toNat ≤ w := by
    intro il
    induction il with
    | nil => intro a w; simp
    | cons x t ih =>
      intro a w
      rw [List.foldl_cons, ih, Nat.max_le]
      simp only [List.mem_cons, forall_eq_or_imp, and_assoc]
  intro il w
  unfold wid
  rw [go]; simp
theorem wid_ok {nl : List Bool} {il : List Int} (h : okV nl il) : wid il ≤ 9 := wid_le.2 fun n hn => bl_small (by have := h.mem n hn; omega)
def wordsV (il : List Int) : List Nat := il.map Int.toNat
theorem wordsV_lt {nl : List Bool} {il : List Int} (h : okV nl il) : ∀ u ∈ wordsV il, u < 2 ^ wid il := by
  intro u hu
  obtain ⟨n, hn, rfl⟩ := List.mem_map.1 hu
  exact bl_le.1 (wid_le.1 (Nat.le_refl _) n hn)
theorem wordsV_u64 {nl : List Bool} {il : List Int} (h : okV nl il) : ∀ u ∈ wordsV il, u < 18446744073709551616 := by
  intro u hu
  obtain ⟨n, hn, rfl⟩ := List.mem_map.1 hu
  have := h.mem n hn
  omega
theorem fits_of {w : Nat} {l : List Nat} (h : ∀ u ∈ l, u < 2 ^ w) : fitsW w l := fun _ u hu => Nat.div_eq_of_lt (h u hu)
def flagsV (nl : List Bool) : List Nat := nl.map Bool.toNat
theorem fill_flags {nl : List Bool} : fillG 0 nl.length (flagAt nl) nl.length = flagsV nl := by rw [fillG_all]; exact map_getD false nl Bool.toNat
theorem fill_words {il : List Int} : fillG 0 il.length (fun i => (il.getD i 0).toNat) il.length = wordsV il := by rw [fillG_all]; exact map_getD 0 il Int.toNat
theorem flagsV_lt (nl : List Bool) : ∀ u ∈ flagsV nl, u < 2 ^ 1 := by
  intro u hu
  obtain ⟨b, _, rfl⟩ := List.mem_map.1 hu
  cases b <;> decide
theorem packB_ok {w : Nat} {l : List Nat} (hw : w ≤ 64) (h : ∀ u ∈ l, u < 2 ^ w) : packB (w : Int) l = packS w l ∧ packE (w : Int) l = 0 := by
  unfold packB packE
  have hc : (0 : Int) ≤ (w : Int) ∧ (w : Int) ≤ 64 := by omega
  rw [if_pos hc, if_pos hc, Int.toNat_natCast, if_pos (fits_of h), if_pos (fits_of h)]
  exact ⟨rfl, rfl⟩
theorem bapp (a b : List UInt8) : bcells a ++ bcells b = bcells (a ++ b) := by simp [bcells]
theorem flagsV_len (nl : List Bool) : (flagsV nl).length = nl.length := by simp [flagsV]
theorem wordsV_len (il : List Int) : (wordsV il).length = il.length := by simp [wordsV]
def headV (nl : List Bool) (il : List Int) : List UInt8 := putN il.length ++ packS 1 (flagsV nl)
theorem headV_len {nl : List Bool} {il : List Int} (h : okV nl il) : (headV nl il).length ≤ 200 := by
  have h1 := putN_len il.length
  have h2 := h.1
  have h3 := h.2.1
  unfold headV
  rw [List.length_append, packS_len, flagsV_len]; omega
/-- The three ways, and the shortest: the first of them. -/
def way0 (il : List Int) : List UInt8 := 0 :: UInt8.ofNat (wid il) :: packS (wid il) (wordsV il)
def way1 (il : List Int) : List UInt8 := 1 :: runsS (wordsV il)
def way2 (il : List Int) : List UInt8 := 2 :: deltS il
def less (a b : List UInt8) : List UInt8 := if b.length < a.length then b else a
def bestV (il : List Int) : List UInt8 := less (less (way0 il) (way1 il)) (way2 il)
def bytesV (nl : List Bool) (il : List Int) : List UInt8 := putN il.length ++ packS 1 (flagsV nl) ++ bestV il
theorem way0_len {nl : List Bool} {il : List Int} (h : okV nl il) : (way0 il).length ≤ 1200 := by
  have h1 := wid_ok h
  have h2 := h.2.1
  have : wid il * il.length ≤ 9 * 1000 := Nat.mul_le_mul h1 h2
  unfold way0
  simp only [List.length_cons, packS_len, wordsV, List.length_map]
  omega
theorem less_len (a b : List UInt8) : (less a b).length ≤ a.length := by unfold less; split <;> omega
theorem bestV_len {nl : List Bool} {il : List Int} (h : okV nl il) : (bestV il).length ≤ 1200 := Nat.le_trans (less_len _ _) (Nat.le_trans (less_len _ _) (way0_len h))
def bytesL (nl : List Bool) (il : List Int) : List UInt8 := if okV nl il then bytesV nl il else []
def bytesE (nl : List Bool) (il : List Int) : Int := if okV nl il then 0 else 2
def wayJ (il : List Int) (j : Nat) : List UInt8 := if j = 0 then way1 il else way2 il
def bestJ (il : List Int) (j : Nat) : List UInt8 := if j = 0 then way0 il else if j = 1 then less (way0 il) (way1 il) else bestV il
theorem bestJ_step {il : List Int} {j : Nat} (h : j < 2) : bestJ il (j + 1) = less (bestJ il j) (wayJ il j) := by
  rcases (by omega : j = 0 ∨ j = 1) with rfl | rfl <;> rfl
end Go.Proofs.Ytdehjgpdcdjhjaa.K
