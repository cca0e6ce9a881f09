/- A framework of our own for walks over the model: Mq. -/
import Derived.Test.YtdehjgpdcdjhjaaMc
import Derived.Test.YtdehjgpdcdjhjaaCe
/-! Lists of things, each with chunks of its own, as one chunk. -/
namespace Go.Proofs.Ytdehjgpdcdjhjaa.K
open Go Go.RowKit
set_option linter.unusedVariables false
set_option linter.unusedSimpArgs false
theorem Eqv.pre {H H' : List Chunk} (D : List Chunk) (e : Eqv H H') : Eqv (D ++ H) (D ++ H') := by
  induction D with
  | nil => exact e
  | cons d D ih => exact ih.cons d
theorem eqv_nil (F : List Chunk) : Eqv F (big [] :: F) := by
  refine ⟨.refl _, fun w h c hc => ?_, fun w h c hc => h c (by simp [hc])⟩
  rcases List.mem_cons.1 hc with rfl | hc
  · exact fun d hd => by cases hd
  · exact h c hc
theorem eqv_triv {l : List Chunk} (hf : fps l = []) (hA : ∀ c ∈ l, ∀ w, c.A w) (F : List Chunk) : Eqv F (big l :: F) := by
  refine ⟨by rw [fps_cons, show (big l).fp = [] from hf]; exact .refl _, fun w h c hc => ?_, fun w h c hc => h c (by simp [hc])⟩
  rcases List.mem_cons.1 hc with rfl | hc
  · exact fun d hd => hA d hd w
  · exact h c hc
theorem sl_none (e sz : Nat) (w : World) : (sl none 0 0 e sz []).A w := by simp [sl, World.ownsRow]
section
variable {α : Type} (f : α → List Chunk) (d : α)
theorem eqv_mid (a : List Chunk) (x : List Chunk) (b F : List Chunk) : Eqv (big (a ++ (x ++ b)) :: F) (x ++ (big (a ++ b) :: F)) := by
  have p : (a ++ (x ++ b)).Perm (x ++ (a ++ b)) := by
    rw [← List.append_assoc, ← List.append_assoc]
    exact List.perm_append_comm.append_right _
  refine (eqv_big _ F).trans (((Eqv.perm p).app F).trans ?_)
  rw [List.append_assoc]
  exact ((eqv_big _ F).symm).pre x
theorem split_at {l : List α} {i : Nat} (h : i < l.length) : l = l.take i ++ l.getD i d :: l.drop (i + 1) := by
  have e : l.getD i d = l[i] := by simp [List.getD, List.getElem?_eq_getElem h]
  rw [e, ← List.drop_eq_getElem_cons h, List.take_append_drop]
abbrev restL (l : List α) (i : Nat) : List Chunk := (l.take i ++ l.drop (i + 1)).flatMap f
theorem eqv_open {l : List α} {i : Nat} (h : i < l.length) (F : List Chunk) : Eqv (big (l.flatMap f) :: F) (f (l.getD i d) ++ (big (restL f l i) :: F)) := by
  have e : l.flatMap f = (l.take i).flatMap f ++ (f (l.getD i d) ++ (l.drop (i + 1)).flatMap f) := by
    conv => lhs; rw [split_at d h]
    rw [List.flatMap_append, List.flatMap_cons]
  rw [e, show restL f l i = (l.take i).flatMap f ++ (l.drop (i + 1)).flatMap f from List.flatMap_append]
  exact eqv_mid _ _ _ F
theorem eqv_close {l : List α} {i : Nat} (h : i < l.length) (x : α) (F : List Chunk) : Eqv (f x ++ (big (restL f l i) :: F)) (big ((l.set i x).flatMap f) :: F) := by
  have h2 : i < (l.set i x).length := by simpa using h
  have := eqv_open f x h2 F
  have e1 : (l.set i x).getD i x = x := by simp [List.getD, List.getElem?_set_self h]
  have e2 : restL f (l.set i x) i = restL f l i := by
    unfold restL
    rw [List.take_set_of_le (Nat.le_refl _), List.drop_set_of_lt (Nat.lt_succ_self _)]
  rw [e1, e2] at this
  exact this.symm
theorem eqv_push (l : List α) (x : α) (F : List Chunk) : Eqv (f x ++ (big (l.flatMap f) :: F)) (big ((l ++ [x]).flatMap f) :: F) := by
  have := (eqv_mid (l.flatMap f) (f x) [] F).symm
  rw [List.append_nil, List.append_nil] at this
  rwa [show (l ++ [x]).flatMap f = l.flatMap f ++ f x by simp]
theorem vl_push {X : Cx} {Q : Post} {E : Env} {H F : List Chunk} {ops : Array Oper} {rest : List Oper} {l : List α} {x : α} (hin : Take (big (l.flatMap f)) H F) (h : VL X ops rest Q E (big ((l ++ [x]).flatMap f) :: F)) : VL X ops rest Q E (f x ++ H) :=
  vl_eqv (((Eqv.perm hin.perm).pre (f x)).trans (eqv_push f l x F)) h
theorem Fn.inBig {P : Program} {fn : FuncId} {args : List Value} {l : List α} {i : Nat} (hi : i < l.length) {φ : Value → α → Prop} {w : World} (h : Fn P fn args (f (l.getD i d)) (ret fun v H' => ∃ x, φ v x ∧ H' = f x) w) : Fn P fn args [big (l.flatMap f)] (ret fun v H' => ∃ x, φ v x ∧ H' = [big ((l.set i x).flatMap f)]) w := by
  refine Fn.eqv ?_ (eqv_open f d hi [])
  refine (Fn.frame (F := [big (restL f l i)]) h).out fun v H ⟨H2, ⟨x, hx, e⟩, e2⟩ => ?_
  subst e e2
  exact ⟨[big ((l.set i x).flatMap f)], [], by rw [List.append_nil]; exact eqv_close f hi x [], x, hx, rfl⟩
theorem FnR.inBig {P : Program} {fn : FuncId} {args : List Value} {l : List α} {i : Nat} (hi : i < l.length) {C0 R0 : List Chunk} (hp : (f (l.getD i d)).Perm (C0 ++ R0)) {v : Value} {w : World} (h : FnR P fn args C0 v w) : FnR P fn args [big (l.flatMap f)] v w := by
  have e : Eqv [big (l.flatMap f)] (C0 ++ (R0 ++ [big (restL f l i)])) := by
    rw [← List.append_assoc]
    exact (eqv_open f d hi []).trans ((Eqv.perm hp).app _)
  refine Fn.eqv ?_ e
  refine (Fn.frame (F := R0 ++ [big (restL f l i)]) h).out fun u H ⟨H2, ⟨hu, e1⟩, e2⟩ => ?_
  subst e1 e2
  exact ⟨[big (l.flatMap f)], [], by rw [List.append_nil]; exact e.symm, hu, rfl⟩
end
section
variable {α : Type} {f : α → List Value} {m : Nat} (hm : ∀ a, (f a).length = m) (d : α)
include hm
theorem at_flat {l : List α} {i j : Nat} (hi : i < l.length) (hj : j < m) : (l.flatMap f)[i * m + j]? = (f (l.getD i d))[j]? := by
  have h := flat_atM hm d l i hi
  have h2 := congrArg (fun l : List Value => l[j]?) h
  simp only [List.getElem?_take, List.getElem?_drop] at h2
  rwa [if_pos hj] at h2
end
theorem made_flat {α : Type} {f : α → List Value} {m : Nat} (hm : ∀ a, (f a).length = m) (x : α) {z : Value} (hz : z.cells.toList = f x) (hp : 0 < m) (n : Nat) : (madeCells z.cells (n * m)).toList = (List.replicate n x).flatMap f := by
  have hs : z.cells.size = m := by rw [← Array.length_toList, hz, hm]
  have hl : ((List.replicate n x).flatMap f).length = n * m := by
    have : ∀ l : List α, (l.flatMap f).length = l.length * m := fun l => by
      induction l with
      | nil => simp
      | cons a l ih => rw [List.flatMap_cons, List.length_append, hm, ih, List.length_cons, Nat.add_mul]; omega
    rw [this, List.length_replicate]
  simp only [madeCells, Array.toList_map, Array.toList_range]
  apply List.ext_getElem
  · rw [hl]; simp
  · intro j h1 h2
    rw [hl] at h2
    have hi : j / m < n := Nat.div_lt_of_lt_mul (by rw [Nat.mul_comm]; exact h2)
    have hj := Nat.mod_lt j hp
    have e := at_flat hm x (l := List.replicate n x) (i := j / m) (j := j % m) (by rw [List.length_replicate]; exact hi) hj
    have e2 : j / m * m + j % m = j := by rw [Nat.mul_comm]; exact Nat.div_add_mod j m
    rw [e2] at e
    have e3 : (List.replicate n x).getD (j / m) x = x := by simp [List.getD, hi]
    rw [e3] at e
    have e4 : ((List.replicate n x).flatMap f)[j] = (f x)[j % m]'(by rw [hm]; exact hj) := by
      have a1 := List.getElem?_eq_getElem (l := (List.replicate n x).flatMap f) (i := j) (by rw [hl]; exact h2)
      have a2 := List.getElem?_eq_getElem (l := f x) (i := j % m) (by rw [hm]; exact hj)
      rw [a1, a2] at e
      exact Option.some.inj e
    rw [e4]
    have e5 : j % z.cells.size < z.cells.size := by rw [hs]; exact hj
    have e6 : z.cells[j % z.cells.size]! = z.cells.toList[j % z.cells.size]'(by simpa using e5) := by
      rw [getElem!_pos z.cells _ e5]; rfl
    simp only [List.getElem_map, List.getElem_range]
    rw [e6]
    simp only [hz, hs]
theorem at3 {P X Q : List Value} {k : Nat} {v : Value} (j : Nat) (hP : P.length = k) (hv : X[j]? = some v) : (P ++ (X ++ Q))[k + j]? = some v := by
  have hj : j < X.length := by
    rcases Nat.lt_or_ge j X.length with h | h
    · exact h
    · rw [List.getElem?_eq_none h] at hv; cases hv
  rw [List.getElem?_append_right (by omega), show k + j - P.length = j by omega, List.getElem?_append_left hj, hv]
theorem drop3 {P X Q us : List Value} {k : Nat} (j : Nat) (hP : P.length = k) (hj : j + us.length ≤ X.length) (hu : (X.drop j).take us.length = us) : ((P ++ (X ++ Q)).drop (k + j)).take us.length = us := by
  rw [List.drop_append, List.drop_of_length_le (by omega), show k + j - P.length = j by omega, List.nil_append, List.drop_append_of_le_length (by omega), List.take_append_of_le_length (by rw [List.length_drop]; omega), hu]
theorem laid3 {P X Q us : List Value} {k : Nat} (j : Nat) (hP : P.length = k) (hj : j + us.length ≤ X.length) : laid (P ++ (X ++ Q)) (k + j) us = P ++ (laid X j us ++ Q) := by
  unfold laid
  rw [List.take_append, List.take_of_length_le (by omega), show k + j - P.length = j by omega, List.take_append_of_le_length (by omega), List.drop_append, List.drop_of_length_le (by omega), show k + j + us.length - P.length = j + us.length by omega, List.drop_append_of_le_length (by omega)]
  simp
section
variable {X : Cx} {Q : Post} {E : Env} {H H' : List Chunk} {ops : Array Oper} {rest : List Oper}
theorem vl_storeX {fE : Value → Env} {o : Oper} {T e : TypeId} {x y : Operand} {A : Option Addr} {n c sz i : Nat} {vs vs' : List Value} {v : Value} (ho : o.op = .store T x y) (hg : o.guard = none) (hd : DstF X E o.dst fE)
    (hx : E.ev x = some (.pointer (some ((adr A).add i)))) (hy : E.ev y = some v) (hs : ∀ w, (sizeOf T).run X.P w = .ok v.cells.size w) (h1 : v.cells.toList.all (·.oneCell') = true) (hne : v.cells.toList ≠ [])
    (he : laid vs i v.cells.toList = vs') (hi : i + v.cells.toList.length ≤ vs.length) (hu : Upd (sl A n c e sz vs) (sl A n c e sz vs') H H') (h : VL X ops rest Q (fE undef) H') : VL X ops (o :: rest) Q E H :=
  vl_storeSl ho hg hd hx hy hs h1 hne (he ▸ hu) hi h
end
section
variable {X : Cx} {H : List Chunk}
end
end Go.Proofs.Ytdehjgpdcdjhjaa.K
