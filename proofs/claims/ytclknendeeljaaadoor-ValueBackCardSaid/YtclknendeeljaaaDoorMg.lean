/- A framework of our own for walks over the model: Mg. -/
import Derived.Test.YtclknendeeljaaaDoorMf
import Derived.Test.YtclknendeeljaaaDoorCe
namespace Go.Proofs.YtclknendeeljaaaDoor.K
open Go Go.RowKit
set_option linter.unusedVariables false
set_option linter.unusedSimpArgs false
/-! ### Digits -/
abbrev sL (l : List UInt8) : ByteArray := ⟨l.toArray⟩
def dg (d : Nat) : UInt8 := UInt8.ofNat (48 + d)
def decF : Nat → Nat → List UInt8
  | 0, _ => []
  | k + 1, n => if n = 0 then [] else decF k (n / 10) ++ [dg (n % 10)]
def digs : Nat → Nat → List UInt8
  | 0, _ => []
  | k + 1, n => digs k (n / 10) ++ [dg (n % 10)]
def prN (n : Nat) : List UInt8 := if n = 0 then [48] else decF 40 n
def prL (x : Int) : List UInt8 := if x < 0 then 45 :: prN (-x).toNat else prN x.toNat
theorem dg_nat {d : Nat} (h : d < 10) : (dg d).toNat = 48 + d := by
  unfold dg; rw [UInt8.toNat_ofNat']; omega
theorem digs_len : ∀ (k n : Nat), (digs k n).length = k
  | 0, _ => rfl
  | k + 1, n => by rw [digs, List.length_append, digs_len k]; rfl
theorem digs_high : ∀ (k n : Nat), digs (k + 1) n = dg (n / 10 ^ k % 10) :: digs k n
  | 0, n => by simp [digs]
  | k + 1, n => by
    rw [digs, digs_high k (n / 10), digs, Nat.div_div_eq_div_mul, Nat.pow_succ, Nat.mul_comm 10]
    rfl
theorem drop_snoc (l : List UInt8) (x : UInt8) : (l ++ [x]).dropWhile (· == 48) = if l.dropWhile (· == 48) = [] then (if x = 48 then [] else [x]) else l.dropWhile (· == 48) ++ [x] := by
  induction l with
  | nil => by_cases h : x = 48 <;> simp [h]
  | cons y l ih =>
    by_cases h : y = 48
    · simp [h, ih]
    · simp [h]
theorem decF_zero : ∀ k, decF k 0 = []
  | 0 => rfl
  | k + 1 => by rw [decF, if_pos rfl]
theorem decF_some {k n : Nat} (h : n < 10 ^ k) (h0 : n ≠ 0) : decF k n ≠ [] := by
  cases k with
  | zero => simp at h; omega
  | succ k => rw [decF, if_neg h0]; simp
theorem trim_digs : ∀ {k n : Nat}, n < 10 ^ k → (digs k n).dropWhile (· == 48) = decF k n
  | 0, _, _ => rfl
  | k + 1, n, h => by
    have h1 : n / 10 < 10 ^ k := by rw [Nat.pow_succ] at h; omega
    rw [digs, drop_snoc, trim_digs h1, decF]
    by_cases z : n / 10 = 0
    · rw [z, decF_zero, if_pos rfl]
      by_cases z2 : n = 0
      · subst z2; rw [if_pos (by decide), if_pos rfl]
      · rw [if_neg (fun e => by have := congrArg UInt8.toNat e; rw [dg_nat (by omega)] at this; simp at this; omega), if_neg z2]; rfl
    · rw [if_neg (decF_some h1 z), if_neg (by omega)]
def dval (l : List UInt8) : Nat := l.foldl (fun a d => 10 * a + (d.toNat - 48)) 0
theorem dval_snoc (l : List UInt8) (d : UInt8) : dval (l ++ [d]) = 10 * dval l + (d.toNat - 48) := by simp [dval]
theorem dval_take {l : List UInt8} {i : Nat} (h : i < l.length) : dval (l.take (i + 1)) = 10 * dval (l.take i) + ((l.getD i 0).toNat - 48) := by
  rw [List.take_add_one, List.getElem?_eq_getElem h, Option.toList_some, dval_snoc]
  simp [List.getD, h]
theorem dval_decF : ∀ {k n : Nat}, n < 10 ^ k → dval (decF k n) = n
  | 0, n, h => by simp at h; subst h; rfl
  | k + 1, n, h => by
    have h1 : n / 10 < 10 ^ k := by rw [Nat.pow_succ] at h; omega
    rw [decF]
    by_cases z : n = 0
    · rw [if_pos z, z]; rfl
    · rw [if_neg z, dval_snoc, dval_decF h1, dg_nat (by omega)]; omega
theorem decF_len : ∀ {k m n : Nat}, n < 10 ^ m → (decF k n).length ≤ m
  | 0, _, _, _ => Nat.zero_le _
  | k + 1, m, n, h => by
    rw [decF]
    by_cases z : n = 0
    · rw [if_pos z]; exact Nat.zero_le _
    · rw [if_neg z, List.length_append]
      cases m with
      | zero => simp at h; omega
      | succ m =>
        have h1 : n / 10 < 10 ^ m := by rw [Nat.pow_succ] at h; omega
        have := decF_len (k := k) h1
        simp; omega
theorem decF_all : ∀ {k n : Nat}, ∀ d ∈ decF k n, 48 ≤ d.toNat ∧ d.toNat ≤ 57
  | 0, _, d, h => by cases h
  | k + 1, n, d, h => by
    rw [decF] at h
    by_cases z : n = 0
    · rw [if_pos z] at h; cases h
    · rw [if_neg z] at h
      rcases List.mem_append.1 h with h | h
      · exact decF_all d h
      · rw [List.mem_singleton.1 h, dg_nat (by omega)]; omega
theorem dval_prN {n : Nat} (h : n < 10 ^ 40) : dval (prN n) = n := by
  unfold prN
  by_cases z : n = 0
  · rw [if_pos z, z]; rfl
  · rw [if_neg z, dval_decF h]
theorem prN_len {n m : Nat} (h : n < 10 ^ m) (h1 : 1 ≤ m) (h2 : m ≤ 40) : (prN n).length ≤ m ∧ 1 ≤ (prN n).length := by
  unfold prN
  by_cases z : n = 0
  · rw [if_pos z]; exact ⟨h1, Nat.le_refl _⟩
  · rw [if_neg z]
    refine ⟨decF_len h, ?_⟩
    have := decF_some (k := 40) (Nat.lt_of_lt_of_le h (Nat.pow_le_pow_right (by decide) h2)) z
    cases hd : decF 40 n with
    | nil => exact absurd hd this
    | cons a b => simp
theorem prN_all {n : Nat} : ∀ d ∈ prN n, 48 ≤ d.toNat ∧ d.toNat ≤ 57 := by
  intro d h
  unfold prN at h
  by_cases z : n = 0
  · rw [if_pos z, List.mem_singleton] at h; subst h; decide
  · rw [if_neg z] at h; exact decF_all d h
/-- The number of a text with or without a sign. -/
def isNeg (l : List UInt8) : Bool := l.head? == some 45
def rest1 (l : List UInt8) : List UInt8 := if isNeg l = true then l.tail else l
def sval (l : List UInt8) : Int := if isNeg l = true then -(dval (rest1 l) : Int) else dval (rest1 l)
theorem prN_pos {n : Nat} : isNeg (prN n) = false := by
  have h := prN_all (n := n)
  unfold isNeg
  cases hl : prN n with
  | nil => rfl
  | cons a b =>
    have := h a (by simp [hl])
    simp only [List.head?_cons]
    rw [beq_eq_false_iff_ne]
    intro e
    have := Option.some.inj e
    subst this
    revert this; simp at *
theorem inW_nat {x : Int} (h : inW x) : (-x).toNat < 10 ^ 39 ∧ x.toNat < 10 ^ 39 := by
  unfold inW at h
  have : (10 : Nat) ^ 39 = 1000000000000000000000000000000000000000 := by decide
  rw [this]; omega
theorem prL_neg {x : Int} (h : x < 0) : prL x = 45 :: prN (-x).toNat := by unfold prL; rw [if_pos h]
theorem prL_pos {x : Int} (h : ¬ x < 0) : prL x = prN x.toNat := by unfold prL; rw [if_neg h]
theorem sval_prL {x : Int} (h : inW x) : sval (prL x) = x := by
  have hn := inW_nat h
  have h40 : (10 : Nat) ^ 39 ≤ 10 ^ 40 := by decide
  by_cases c : x < 0
  · rw [prL_neg c]
    unfold sval rest1
    rw [if_pos (by rfl), if_pos (by rfl), List.tail_cons, dval_prN (by omega)]; omega
  · rw [prL_pos c]
    unfold sval rest1
    rw [prN_pos, if_neg (by decide), if_neg (by decide), dval_prN (by omega)]; omega
theorem rest_prL {x : Int} (h : inW x) : (rest1 (prL x)).length ≤ 39 ∧ 1 ≤ (rest1 (prL x)).length ∧ ∀ d ∈ rest1 (prL x), 48 ≤ d.toNat ∧ d.toNat ≤ 57 := by
  have hn := inW_nat h
  by_cases c : x < 0
  · rw [prL_neg c]
    unfold rest1
    rw [if_pos (by rfl), List.tail_cons]
    have := prN_len hn.1 (by decide) (by decide)
    exact ⟨this.1, this.2, prN_all⟩
  · rw [prL_pos c]
    unfold rest1
    rw [prN_pos, if_neg (by decide)]
    have := prN_len hn.2 (by decide) (by decide)
    exact ⟨this.1, this.2, prN_all⟩
/-- What is read of a text. -/
def parO (l : List UInt8) : Option Int := if inW (sval l) ∧ prL (sval l) = l then some (sval l) else none
theorem parO_print {x : Int} (h : inW x) : parO (prL x) = some x := by
  unfold parO; rw [sval_prL h, if_pos ⟨h, rfl⟩]
theorem parO_none {l : List UInt8} (h : ∀ x, inW x → prL x ≠ l) : parO l = none := by
  unfold parO; exact if_neg fun hc => h _ hc.1 hc.2
def smW (x : Int) : Int := hW x * 18446744073709551616 + lW x
theorem smW_in (x : Int) : inW (smW x) := by unfold smW inW hW lW; omega
theorem smW_is (x : Int) : wV (smW x) = wV x := by
  have h1 : hW (smW x) = hW x := by unfold smW hW lW; omega
  have h2 : lW (smW x) = lW x := by unfold smW hW lW; omega
  unfold wV; rw [h1, h2]
theorem smW_id {x : Int} (h : inW x) : smW x = x := by unfold inW at h; unfold smW hW lW; omega
theorem par_yes {l : List UInt8} (h : prL (smW (sval l)) = l) : inW (sval l) ∧ parO l = some (sval l) := by
  have h1 := sval_prL (smW_in (sval l))
  rw [h] at h1
  have h2 : inW (sval l) := by rw [h1]; exact smW_in _
  exact ⟨h2, by unfold parO; rw [if_pos ⟨h2, by rw [smW_id h2] at h; exact h⟩]⟩
theorem par_no {l : List UInt8} (h : prL (smW (sval l)) ≠ l) : parO l = none := by
  unfold parO
  refine if_neg fun hc => h ?_
  rw [smW_id hc.1]; exact hc.2
theorem parO_in {l : List UInt8} {x : Int} (h : parO l = some x) : inW x ∧ prL x = l := by
  unfold parO at h
  by_cases c : inW (sval l) ∧ prL (sval l) = l
  · rw [if_pos c] at h; cases h; exact c
  · rw [if_neg c] at h; cases h
theorem parO_inD (l : List UInt8) : inW ((parO l).getD 0) := by
  cases h : parO l with
  | none => decide
  | some x => exact (parO_in h).1
/-! texts as lists -/
theorem sL_size (l : List UInt8) : (sL l).size = l.length := by simp [ByteArray.size]
theorem sL_eta (s : ByteArray) : sL s.data.toList = s := by simp [sL]
theorem bt_sL (l : List UInt8) (i : Nat) : bt (sL l) i = (l.getD i 0).toNat := by simp [bt]
theorem sL_inj {a b : List UInt8} : sL a = sL b ↔ a = b := ⟨fun h => by simpa [sL] using h, fun h => by rw [h]⟩
theorem sL_cat (a b : List UInt8) : sL a ++ sL b = sL (a ++ b) := by
  apply ByteArray.ext
  simp [sL, ByteArray.data_append]
theorem sL_cut (l : List UInt8) (p q : Nat) : (sL l).extract p q = sL ((l.take q).drop p) := by
  apply ByteArray.ext
  rw [ByteArray.data_extract]
  apply Array.toList_inj.1
  simp [sL, List.drop_take]
theorem set_rep {α : Type} {a d : α} {l : List α} : ∀ m, (List.replicate (m + 1) a ++ l).set m d = List.replicate m a ++ d :: l
  | 0 => by simp
  | m + 1 => by
    have := set_rep (a := a) (d := d) (l := l) m
    rw [List.replicate_succ, List.cons_append, List.set_cons_succ, this, List.replicate_succ, List.cons_append]
section
variable {X : Cx} {E : Env} {H : List Chunk}
theorem val_cutArrAll {T e ty : TypeId} {x : Operand} {b o n sz : Nat} (hu : ∀ w, (underlying T).run X.P w = .ok (.array n e) w) (hs : ∀ w, (sizeOf e).run X.P w = .ok sz w) (hx : E.ev x = some (.pointer (some ⟨b, o, none⟩))) (hn : 0 < n) :
    Val X E H (.slice T x none none none) ty (.slice (some ⟨b, o, none⟩) n n) := by
  intro ac w o' ho _ ha hw
  simp [execOp, ho, ha.ev hx, Instr.sliceAt, Instr.sureAddr, Instr.sliceBounds, hu, hs, Addr.add_lit]
end
end Go.Proofs.YtclknendeeljaaaDoor.K
