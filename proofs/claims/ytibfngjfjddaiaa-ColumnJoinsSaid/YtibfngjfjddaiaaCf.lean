/- A framework of our own for walks over the model: Cf. -/
import Derived.Test.YtibfngjfjddaiaaCe
namespace Go.Proofs.Ytibfngjfjddaiaa.K
open Go Go.RowKit
set_option linter.unusedVariables false
set_option linter.unusedSimpArgs false
theorem valEq {X : Cx} {E : Env} {H : List Chunk} {op : Op} {ty : TypeId} {v v' : Value} (h : v = v') (hv : Val X E H op ty v) : Val X E H op ty v' := h ▸ hv
/-! ### What is chosen of rows -/
def selG {β : Type} (p : Nat → Bool) (f : Nat → β) (n : Nat) : List β := ((List.range n).filter p).map f
theorem sel_hit {β : Type} {p : Nat → Bool} {f : Nat → β} {i : Nat} (h : p i = true) : selG p f i ++ [f i] = selG p f (i + 1) := by
  unfold selG; rw [List.range_succ, List.filter_append, List.map_append]; simp [h]
theorem sel_miss {β : Type} {p : Nat → Bool} {f : Nat → β} {i : Nat} (h : p i = false) : selG p f i = selG p f (i + 1) := by
  unfold selG; rw [List.range_succ, List.filter_append, List.map_append]; simp [h]
theorem sel_len {β : Type} (p : Nat → Bool) (f : Nat → β) (n : Nat) : (selG p f n).length ≤ n := by
  unfold selG
  rw [List.length_map]
  exact Nat.le_trans (List.length_filter_le _ _) (by simp)
theorem sel_mem {β : Type} {p : Nat → Bool} {f : Nat → β} {n : Nat} {x : β} : x ∈ selG p f n ↔ ∃ i, i < n ∧ p i = true ∧ f i = x := by
  unfold selG
  simp only [List.mem_map, List.mem_filter, List.mem_range]
  constructor
  · rintro ⟨i, ⟨h1, h2⟩, h3⟩; exact ⟨i, h1, h2, h3⟩
  · rintro ⟨i, h1, h2, h3⟩; exact ⟨i, ⟨h1, h2⟩, h3⟩
def whP (nl : List Bool) (il : List Int) (id : Int) (i : Nat) : Bool := decide (il.getD i 0 = id ∧ nl.getD i false = false)
def knP (nl : List Bool) (i : Nat) : Bool := decide (nl.getD i false = false)
def natF (i : Nat) : Int := (i : Int)
def idF (il : List Int) (i : Nat) : Int := il.getD i 0
def whereL (nl : List Bool) (il : List Int) (id : Int) : List Int := if okV nl il then selG (whP nl il id) natF il.length else []
def knownL (nl : List Bool) (il : List Int) : List Int := if okV nl il then selG (knP nl) (idF il) il.length else []
theorem whP_t {nl : List Bool} {il : List Int} {id : Int} {i : Nat} (h : il.getD i 0 = id) (h2 : nl.getD i false = false) : whP nl il id i = true := decide_eq_true ⟨h, h2⟩
theorem whP_f {nl : List Bool} {il : List Int} {id : Int} {i : Nat} (h : ¬ (il.getD i 0 = id ∧ nl.getD i false = false)) : whP nl il id i = false := decide_eq_false h
theorem knP_t {nl : List Bool} {i : Nat} (h : nl.getD i false = false) : knP nl i = true := decide_eq_true h
theorem knP_f {nl : List Bool} {i : Nat} (h : ¬ nl.getD i false = false) : knP nl i = false := decide_eq_false h
def mnL (l : List Int) : Int := l.foldl min (l.getD 0 0)
def mxL (l : List Int) : Int := l.foldl max (l.getD 0 0)
theorem getD_app0 {K : List Int} {x : Int} (h : K ≠ []) : (K ++ [x]).getD 0 0 = K.getD 0 0 := by cases K with | nil => exact absurd rfl h | cons a t => rfl
theorem mnL_snoc {K : List Int} {x : Int} (h : K ≠ []) : mnL (K ++ [x]) = min (mnL K) x := by unfold mnL; rw [List.foldl_append, getD_app0 h]; rfl
theorem mxL_snoc {K : List Int} {x : Int} (h : K ≠ []) : mxL (K ++ [x]) = max (mxL K) x := by unfold mxL; rw [List.foldl_append, getD_app0 h]; rfl
theorem mnL_one (x : Int) : mnL [x] = x := by show min x x = x; omega
theorem mxL_one (x : Int) : mxL [x] = x := by show max x x = x; omega
theorem rng_next {K : List Int} {x lo hi : Int} {any : Bool} (h1 : lo = mnL K) (h2 : hi = mxL K) (h3 : any = decide (0 < K.length)) :
    ((!any) = true → x = mnL (K ++ [x])) ∧ ((!any) = false → x < lo → x = mnL (K ++ [x])) ∧ ((!any) = false → ¬ x < lo → lo = mnL (K ++ [x])) ∧
    ((!any) = true → x = mxL (K ++ [x])) ∧ ((!any) = false → x > hi → x = mxL (K ++ [x])) ∧ ((!any) = false → ¬ x > hi → hi = mxL (K ++ [x])) := by
  have e0 : (!any) = true → K = [] := fun h => by
    rw [h3] at h
    cases K with
    | nil => rfl
    | cons a t => simp at h
  have e1 : (!any) = false → K ≠ [] := fun h hk => by
    rw [h3, hk] at h; simp at h
  refine ⟨fun h => ?_, fun h hx => ?_, fun h hx => ?_, fun h => ?_, fun h hx => ?_, fun h hx => ?_⟩
  · rw [e0 h]; exact (mnL_one x).symm
  · rw [mnL_snoc (e1 h), ← h1]; omega
  · rw [mnL_snoc (e1 h), ← h1]; omega
  · rw [e0 h]; exact (mxL_one x).symm
  · rw [mxL_snoc (e1 h), ← h2]; omega
  · rw [mxL_snoc (e1 h), ← h2]; omega
theorem any_next (K : List Int) (x : Int) : true = decide (0 < (K ++ [x]).length) := by simp
theorem snoc_ind {p : List Int → Prop} (h0 : p []) (hs : ∀ l x, p l → p (l ++ [x])) : ∀ l, p l := by
  intro l
  have : ∀ n, p (l.take n) := by
    intro n
    induction n with
    | zero => simpa using h0
    | succ n ih =>
      rcases Nat.lt_or_ge n l.length with h | h
      · rw [take_push 0 h]; exact hs _ _ ih
      · rw [List.take_of_length_le (by omega)]; rw [List.take_of_length_le h] at ih; exact ih
  have := this l.length
  rwa [List.take_length] at this
theorem mn_bd : ∀ l : List Int, (∀ x ∈ l, mnL l ≤ x ∧ x ≤ mxL l) ∧ (l ≠ [] → mnL l ∈ l ∧ mxL l ∈ l) := by
  refine snoc_ind ⟨fun x h => (by cases h), fun h => absurd rfl h⟩ (fun l x ih => ?_)
  by_cases hl : l = []
  · subst hl
    rw [List.nil_append, mnL_one, mxL_one]
    exact ⟨fun y hy => by simp at hy; omega, fun _ => by simp⟩
  · rw [mnL_snoc hl, mxL_snoc hl]
    refine ⟨fun y hy => ?_, fun _ => ⟨?_, ?_⟩⟩
    · rw [List.mem_append] at hy
      rcases hy with hy | hy
      · have := ih.1 y hy; omega
      · simp at hy; omega
    · rw [List.mem_append]
      rcases Int.le_total (mnL l) x with h | h
      · left; rw [Int.min_eq_left h]; exact (ih.2 hl).1
      · right; rw [Int.min_eq_right h]; simp
    · rw [List.mem_append]
      rcases Int.le_total (mxL l) x with h | h
      · right; rw [Int.max_eq_right h]; simp
      · left; rw [Int.max_eq_left h]; exact (ih.2 hl).2
theorem known_where {nl : List Bool} {il : List Int} {x : Int} (h : x ∈ knownL nl il) : 0 < (whereL nl il x).length := by
  unfold knownL at h
  split at h
  · rename_i hok
    obtain ⟨i, h1, h2, h3⟩ := sel_mem.1 h
    unfold whereL
    rw [if_pos hok]
    exact List.length_pos_of_mem (sel_mem.2 ⟨i, h1, whP_t h3 (of_decide_eq_true h2), rfl⟩)
  · cases h
/-! ### Rows by their numbers, rows one behind the other -/
def goodRows (il rl : List Int) : Prop := rl.length ≤ 1000 ∧ ∀ i, i < rl.length → 0 ≤ rl.getD i 0 ∧ rl.getD i 0 < il.length
instance (il rl : List Int) : Decidable (goodRows il rl) := by unfold goodRows; infer_instance
def pickO (nl : List Bool) (il rl : List Int) : Option (List Bool × List Int) := if okV nl il ∧ goodRows il rl then some (rl.map (fun r => nl.getD r.toNat false), rl.map (fun r => il.getD r.toNat 0)) else none
end Go.Proofs.Ytibfngjfjddaiaa.K
