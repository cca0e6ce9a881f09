/- A framework of our own for walks over the model: Me. -/
import Derived.Test.YtdehjgpdcdjhjaaDoorMc
import Derived.Test.YtdehjgpdcdjhjaaDoorMd
import Derived.Test.YtdehjgpdcdjhjaaDoorCa
import Derived.LaidEqlPtr
namespace Go.Proofs.YtdehjgpdcdjhjaaDoor.K
open Go Go.RowKit
set_option linter.unusedVariables false
set_option linter.unusedSimpArgs false
theorem val_opW {X : Cx} {E : Env} {H : List Chunk} {op : BinOp} {T yT ty : TypeId} {x y : Operand} {vx vy v : Value} (hx : E.ev x = some vx) (hy : E.ev y = some vy) (hg : ∀ w, (eqGuard op T x y vx vy).run X.P w = .ok () w) (he : ∀ w, Holds X.w0 X.M H w → (binOp op T vx vy).run X.P w = .ok v w) :
    Val X E H (.binOp op T x y yT) ty v := by
  intro ac w o ho _ ha hw
  simp [execOp, ho, ha.ev hx, ha.ev hy, hg, he w hw]
/-- Pointers to two chunks are unlike. -/
theorem ptr_two {P : Program} {w0 : World} {M : List Nat} {H F : List Chunk} {b1 b2 : Nat} {vs us : List Value} {T1 T2 : TypeId} {tp te : TypeId} {j : TypeInfo} (hp : P.underlying tp = some (.pointer te)) (hte : P.info? te = some j) (hsz : j.size ≠ 0) (h1 : Take (cells b1 vs T1) H F) (h2 : In (cells b2 us T2) F) {w : World} (hw : Holds w0 M H w) :
    (binOp .eql tp (.pointer (some ⟨b1, 0, none⟩)) (.pointer (some ⟨b2, 0, none⟩))).run P w = .ok (.bool false) w := by
  have hh := hw.perm h1.perm
  have hnd := hh.nodup
  rw [fps_cons] at hnd
  have hne : b1 ≠ b2 := fun e => by
    subst e
    exact (List.nodup_append.1 hnd).2.2 b1 (by simp [cells]) b1 (List.mem_flatMap.2 ⟨_, h2.mem, by simp [cells]⟩) rfl
  exact run_eql_ptr_other w hp hte hsz (fun e => hne (by cases e; rfl)) (hh.chunk (cells b1 vs T1) (by simp)) (hh.chunk (cells b2 us T2) (by simp [h2.mem]))
theorem ptr_one {P : Program} {b : Nat} {tp te : TypeId} {j : TypeInfo} (hp : P.underlying tp = some (.pointer te)) (hte : P.info? te = some j) (w : World) :
    (binOp .eql tp (.pointer (some ⟨b, 0, none⟩)) (.pointer (some ⟨b, 0, none⟩))).run P w = .ok (.bool true) w := run_eql_ptr_same w _ hp hte
/-! numbers that rise, as what each is more than the one ahead -/
def deltaB : Nat → List Nat → List UInt8
  | _, [] => []
  | a, h :: t => putN (h - a) ++ deltaB h t
def rowB (l : List Nat) : List UInt8 := putN l.length ++ deltaB 0 l
def bytesK (V : List (List Nat)) : List UInt8 := V.flatMap rowB
theorem deltaB_snoc : ∀ (l : List Nat) (a x : Nat), deltaB a (l ++ [x]) = deltaB a l ++ putN (x - l.getLastD a)
  | [], a, x => by simp [deltaB]
  | h :: t, a, x => by
    have : (h :: t).getLastD a = t.getLastD h := by cases t <;> rfl
    rw [this, List.cons_append, deltaB, deltaB_snoc t h x, deltaB, List.append_assoc]
theorem deltaB_len : ∀ (l : List Nat) (a : Nat), (deltaB a l).length ≤ 10 * l.length
  | [], a => by simp [deltaB]
  | h :: t, a => by
    have := deltaB_len t h
    have := putN_len (h - a)
    simp only [deltaB, List.length_append, List.length_cons]; omega
theorem rowB_len (l : List Nat) : (rowB l).length ≤ 10 * (l.length + 1) := by
  have := deltaB_len l 0
  have := putN_len l.length
  simp only [rowB, List.length_append]; omega
theorem bytesK_len {t : Nat} : ∀ (V : List (List Nat)), (∀ l ∈ V, l.length ≤ t) → (bytesK V).length ≤ 10 * (t + 1) * V.length
  | [], _ => by simp [bytesK]
  | l :: V, h => by
    have h1 := bytesK_len V fun x hx => h x (by simp [hx])
    have h2 := rowB_len l
    have h3 := h l (by simp)
    have e : bytesK (l :: V) = rowB l ++ bytesK V := rfl
    rw [e, List.length_append, List.length_cons, Nat.mul_add, Nat.mul_one]
    have : 10 * (l.length + 1) ≤ 10 * (t + 1) := by omega
    omega
theorem bytesK_push {V : List (List Nat)} {i : Nat} {l : List Nat} (h : i < V.length) (hl : V.getD i [] = l) : bytesK (V.take i) ++ rowB l = bytesK (V.take (i + 1)) := by
  have : V[i]? = some l := by rw [← hl]; simp [List.getD, h]
  rw [List.take_add_one, this]
  simp [bytesK]
theorem rise_last {l : List Nat} {i : Nat} (hr : Rise l) (hi : i < l.length) : (l.take i).getLastD 0 ≤ l.getD i 0 := by
  rcases Nat.eq_zero_or_pos i with h0 | h0
  · subst h0; simp
  · have hne : l.take i ≠ [] := by intro e; have := congrArg List.length e; rw [List.length_take, List.length_nil] at this; omega
    have hm : (l.take i).getLastD 0 ∈ l.take i := by rw [List.getLastD_eq_getLast?, List.getLast?_eq_some_getLast hne]; exact List.getLast_mem hne
    obtain ⟨j, hj, e⟩ := List.mem_iff_getElem.1 hm
    rw [← e, List.getElem_take]
    have hj2 : j < i := by simpa using Nat.lt_of_lt_of_le hj (by simp; omega)
    have := List.pairwise_iff_getElem.1 hr j i (by omega) hi hj2
    simp [List.getD, hi]; omega
theorem last_take {l : List Nat} {i : Nat} (hi : i < l.length) : (l.take (i + 1)).getLastD 0 = l.getD i 0 := by
  rw [List.take_add_one, List.getElem?_eq_getElem hi, Option.toList_some, List.getLastD_eq_getLast?, List.getLast?_append]
  simp [List.getD, hi]
theorem delta_push {l : List Nat} {i : Nat} (hi : i < l.length) : deltaB 0 (l.take i) ++ putN (l.getD i 0 - (l.take i).getLastD 0) = deltaB 0 (l.take (i + 1)) := by
  rw [← deltaB_snoc, List.take_add_one, List.getElem?_eq_getElem hi]
  simp [List.getD, hi]
end Go.Proofs.YtdehjgpdcdjhjaaDoor.K
