/- A framework of our own for walks over the model: Md. -/
import Derived.Test.YtdehjgpdcdjhjaaDoorMa
import Derived.Test.YtdehjgpdcdjhjaaDoorCe
namespace Go.Proofs.YtdehjgpdcdjhjaaDoor.K
/-! ### Lists by places; the middle of numbers; sorting by insertion -/
def mixG {α : Type} (f g : Nat → α) (n i : Nat) : List α := (List.range n).map fun j => if j < i then f j else g j
section
variable {α : Type} {f g : Nat → α} {n i : Nat} {d : α}
theorem mixG_len : (mixG f g n i).length = n := by simp [mixG]
theorem mixG_get {j : Nat} (h : j < n) : (mixG f g n i).getD j d = if j < i then f j else g j := by simp [mixG, List.getD, h]
theorem mixG_zero : mixG f g n 0 = (List.range n).map g := by simp [mixG]
theorem mixG_all : mixG f g n n = (List.range n).map f := List.map_congr_left fun j hj => by rw [if_pos (List.mem_range.1 hj)]
theorem mixG_set {x : α} (hx : x = f i) : (mixG f g n i).set i x = mixG f g n (i + 1) := by
  subst hx
  apply List.ext_getElem
  · simp [mixG]
  · intro j h1 h2
    simp only [mixG, List.getElem_set, List.getElem_map, List.getElem_range]
    by_cases e : i = j
    · subst e; simp
    · rw [if_neg e]
      by_cases c : j < i
      · rw [if_pos c, if_pos (by omega)]
      · rw [if_neg c, if_neg (by omega)]
theorem range_getD (l : List α) (d : α) : (List.range l.length).map (fun j => l.getD j d) = l := by
  have := map_getD d l id
  simpa using this
theorem ext_getD {a b : List α} (d : α) (hl : a.length = b.length) (h : ∀ j, j < a.length → a.getD j d = b.getD j d) : a = b := by
  apply List.ext_getElem hl
  intro j h1 h2
  have := h j h1
  simpa [List.getD, h1, h2] using this
theorem getD_set {l : List α} {i j : Nat} {x : α} (h : i < l.length) : (l.set i x).getD j d = if i = j then x else l.getD j d := by
  simp only [List.getD, List.getElem?_set]
  by_cases e : i = j
  · subst e; simp [h]
  · simp [e]
theorem mem_getD {l : List α} {x : α} (h : x ∈ l) : ∃ j, j < l.length ∧ l.getD j d = x := by
  obtain ⟨j, hj, e⟩ := List.mem_iff_getElem.1 h
  exact ⟨j, hj, by simp [List.getD, hj, e]⟩
end
/-! the middle -/
def midB (l : List Int) (v : Int) : Bool := decide (l.countP (· < v) ≤ l.length / 2) && decide (l.length / 2 < l.countP (· < v) + l.countP (· == v))
def midI (l : List Int) : Int := (l.find? (midB l)).getD 0
theorem count_le (l : List Int) (v : Int) : l.countP (· < v) + l.countP (· == v) = l.countP (· ≤ v) := by
  induction l with
  | nil => rfl
  | cons x l ih =>
    simp only [List.countP_cons]
    by_cases h1 : x < v
    · simp [h1, show ¬ x = v by omega, show x ≤ v by omega]; omega
    · by_cases h2 : x = v
      · simp [h2]; subst h2; omega
      · simp [h1, h2, show ¬ x ≤ v by omega]; omega
theorem mid_one {l : List Int} {u v : Int} (hu : midB l u = true) (hv : midB l v = true) : u = v := by
  have key : ∀ {u v : Int}, midB l u = true → midB l v = true → ¬ u < v := by
    intro u v hu hv hlt
    simp only [midB, Bool.and_eq_true, decide_eq_true_eq] at hu hv
    have : l.countP (· ≤ u) ≤ l.countP (· < v) := List.countP_mono_left fun x _ h => by simp at h ⊢; omega
    rw [← count_le] at this
    omega
  have h1 := key hu hv
  have h2 := key hv hu
  omega
theorem mid_is {l : List Int} {v : Int} (hm : v ∈ l) (hv : midB l v = true) : midI l = v := by
  unfold midI
  cases h : l.find? (midB l) with
  | none => exact absurd (List.find?_eq_none.1 h v hm) (by simp [hv])
  | some u => exact mid_one (List.find?_some h) hv
/-- Rising, by places. -/
def SrtG (l : List Int) (n : Nat) : Prop := ∀ p q, p < q → q < n → l.getD p 0 ≤ l.getD q 0
theorem take_getD {l : List Int} {m : Nat} {x : Int} (h : x ∈ l.take m) : ∃ p, p < m ∧ p < l.length ∧ l.getD p 0 = x := by
  obtain ⟨j, hj, e⟩ := mem_getD (d := 0) h
  rw [List.length_take] at hj
  exact ⟨j, by omega, by omega, by rw [← e]; simp [List.getD, show j < m by omega]⟩
theorem drop_getD {l : List Int} {m : Nat} {x : Int} (h : x ∈ l.drop m) : ∃ p, m ≤ p ∧ p < l.length ∧ l.getD p 0 = x := by
  obtain ⟨j, hj, e⟩ := mem_getD (d := 0) h
  rw [List.length_drop] at hj
  exact ⟨m + j, by omega, by omega, by rw [← e]; simp [List.getD]⟩
theorem mid_sorted {l : List Int} (hs : SrtG l l.length) (h0 : 0 < l.length) : midB l (l.getD (l.length / 2) 0) = true := by
  have hm : l.length / 2 < l.length := by omega
  simp only [midB, Bool.and_eq_true, decide_eq_true_eq, count_le]
  generalize hv : l.getD (l.length / 2) 0 = v
  generalize l.length / 2 = m at hm hv
  constructor
  · have e : l.countP (· < v) = (l.take m).countP (· < v) + (l.drop m).countP (· < v) := by rw [← List.countP_append, List.take_append_drop]
    have z : (l.drop m).countP (· < v) = 0 := List.countP_eq_zero.2 fun x hx => by
      obtain ⟨p, h1, h2, h3⟩ := drop_getD hx
      have : v ≤ x := by
        rcases Nat.lt_or_ge m p with c | c
        · rw [← h3, ← hv]; exact hs m p c h2
        · rw [← h3, ← hv, show p = m by omega]; omega
      simp; omega
    have := List.countP_le_length (p := (· < v)) (l := l.take m)
    rw [List.length_take] at this
    rw [e, z]
    omega
  · have e : l.countP (· ≤ v) = (l.take (m + 1)).countP (· ≤ v) + (l.drop (m + 1)).countP (· ≤ v) := by rw [← List.countP_append, List.take_append_drop]
    have f : (l.take (m + 1)).countP (· ≤ v) = (l.take (m + 1)).length := List.countP_eq_length.2 fun x hx => by
      obtain ⟨p, h1, h2, h3⟩ := take_getD hx
      have : x ≤ v := by
        rcases Nat.lt_or_ge p m with c | c
        · rw [← h3, ← hv]; exact hs p m c hm
        · rw [← h3, ← hv, show p = m by omega]; omega
      simpa using this
    rw [e, f, List.length_take]
    omega
theorem midB_perm {a b : List Int} (h : a.Perm b) (v : Int) : midB a v = midB b v := by
  simp only [midB, h.countP_eq, h.length_eq]
theorem midI_perm {a b : List Int} (h : a.Perm b) (hs : SrtG a a.length) (h0 : 0 < a.length) : midI b = a.getD (a.length / 2) 0 := by
  have hm := mid_sorted hs h0
  refine mid_is (h.mem_iff.1 ?_) (by rw [← midB_perm h]; exact hm)
  exact getD_mem 0 (by omega)
/-- While the number at place j moves down: all pairs up to i stand right, but those that end at j. -/
def InsG (l : List Int) (i j : Nat) : Prop := ∀ p q, p < q → q ≤ i → q ≠ j → l.getD p 0 ≤ l.getD q 0
theorem ins_start {l : List Int} {i : Nat} (h : SrtG l i) : InsG l i i := fun p q h1 h2 h3 => h p q h1 (by omega)
theorem ins_end0 {l : List Int} {i : Nat} (h : InsG l i 0) : SrtG l (i + 1) := fun p q h1 h2 => h p q h1 (by omega) (by omega)
theorem ins_end {l : List Int} {i j : Nat} (h : InsG l i j) (hj : j ≤ i) (hle : ¬ l.getD j 0 < l.getD (j - 1) 0) : SrtG l (i + 1) := fun p q h1 h2 => by
  by_cases e : q = j
  · subst e
    rcases Nat.lt_or_ge p (q - 1) with c | c
    · have := h p (q - 1) c (by omega) (by omega); omega
    · rw [show p = q - 1 by omega]; omega
  · exact h p q h1 (by omega) e
theorem ins_swap {l : List Int} {i j : Nat} (h : InsG l i j) (h0 : 0 < j) (hj : j ≤ i) (hi : i < l.length) (hlt : l.getD j 0 < l.getD (j - 1) 0) : InsG ((l.set j (l.getD (j - 1) 0)).set (j - 1) (l.getD j 0)) i (j - 1) := by
  have hg : ∀ p, ((l.set j (l.getD (j - 1) 0)).set (j - 1) (l.getD j 0)).getD p 0 = if j - 1 = p then l.getD j 0 else if j = p then l.getD (j - 1) 0 else l.getD p 0 := fun p => by
    rw [getD_set (by simp; omega), getD_set (by omega)]
  intro p q h1 h2 h3
  rw [hg, hg]
  by_cases c1 : j - 1 = p
  · rw [if_pos c1, if_neg (by omega)]
    by_cases c2 : j = q
    · rw [if_pos c2]; omega
    · rw [if_neg c2]; exact h j q (by omega) h2 (by omega)
  · rw [if_neg c1]
    by_cases c2 : j = p
    · rw [if_pos c2, if_neg (by omega), if_neg (by omega)]
      exact h (j - 1) q (by omega) h2 (by omega)
    · rw [if_neg c2, if_neg (by omega)]
      by_cases c3 : j = q
      · rw [if_pos c3]; exact h p (j - 1) (by omega) (by omega) (by omega)
      · rw [if_neg c3]; exact h p q h1 h2 (by omega)
theorem swap_perm {l : List Int} {j : Nat} (h0 : 0 < j) (hj : j < l.length) : ((l.set j (l.getD (j - 1) 0)).set (j - 1) (l.getD j 0)).Perm l := by
  obtain ⟨m, rfl⟩ : ∃ m, j = m + 1 := ⟨j - 1, by omega⟩
  have e : l = l.take m ++ l.getD m 0 :: l.getD (m + 1) 0 :: l.drop (m + 2) := by
    have e1 : l.drop m = l.getD m 0 :: l.drop (m + 1) := by rw [List.drop_eq_getElem_cons (by omega)]; simp [List.getD, show m < l.length by omega]
    have e2 : l.drop (m + 1) = l.getD (m + 1) 0 :: l.drop (m + 2) := by rw [List.drop_eq_getElem_cons hj]; simp [List.getD, hj]
    rw [← e2, ← e1, List.take_append_drop]
  have hl : (l.take m).length = m := by rw [List.length_take]; omega
  rw [Nat.add_sub_cancel]
  generalize l.getD m 0 = x at *
  generalize l.getD (m + 1) 0 = y at *
  generalize l.take m = a at *
  generalize l.drop (m + 2) = b at *
  subst e
  have : ((a ++ x :: y :: b).set (m + 1) x).set m y = a ++ y :: x :: b := by
    rw [List.set_append, if_neg (by omega), hl, show m + 1 - m = 1 by omega]
    rw [List.set_append, if_neg (by omega), hl, Nat.sub_self]
    rfl
  rw [this]
  exact (List.Perm.swap x y b).append_left a
end Go.Proofs.YtdehjgpdcdjhjaaDoor.K
