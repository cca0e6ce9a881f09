/- A framework of our own for walks over the model: Cg. -/
import Derived.Test.YtdehjgpdcdjhjaaDoorCe
import Derived.Test.YtdehjgpdcdjhjaaDoorKf
import Derived.Test.YtdehjgpdcdjhjaaDoorKo
namespace Go.Proofs.YtdehjgpdcdjhjaaDoor.K
open Go Go.RowKit
set_option linter.unusedVariables false
set_option linter.unusedSimpArgs false
theorem valEq {X : Cx} {E : Env} {H : List Chunk} {op : Op} {ty : TypeId} {v v' : Value} (h : v = v') (hv : Val X E H op ty v) : Val X E H op ty v' := h ▸ hv
/-! ### What is chosen of rows -/
def selG {β : Type} (p : Nat → Bool) (f : Nat → β) (n : Nat) : List β := ((List.range n).filter p).map f
theorem sel_hit {β : Type} {p : Nat → Bool} {f : Nat → β} {i : Nat} (h : p i = true) : selG p f i ++ [f i] = selG p f (i + 1) := by
  unfold selG; rw [List.range_succ, List.filter_append, List.map_append]; simp [h]
theorem sel_miss {β : Type} {p : Nat → Bool} {f : Nat → β} {i : Nat} (h : p i = false) : selG p f i = selG p f (i + 1) := by
  unfold selG; rw [List.range_succ, List.filter_append, List.map_append]; simp [h]
theorem sel_len {β : Type} (p : Nat → Bool) (f : Nat → β) (n : Nat) : (selG p f n).length ≤ n := by
  unfold selG
  rw [List.length_map]
  exact Nat.le_trans (List.length_filter_le _ _) (by simp)
theorem sel_mem {β : Type} {p : Nat → Bool} {f : Nat → β} {n : Nat} {x : β} : x ∈ selG p f n ↔ ∃ i, i < n ∧ p i = true ∧ f i = x := by
  unfold selG
  simp only [List.mem_map, List.mem_filter, List.mem_range]
  constructor
  · rintro ⟨i, ⟨h1, h2⟩, h3⟩; exact ⟨i, h1, h2, h3⟩
  · rintro ⟨i, h1, h2, h3⟩; exact ⟨i, ⟨h1, h2⟩, h3⟩
def whP (nl : List Bool) (il : List Int) (id : Int) (i : Nat) : Bool := decide (il.getD i 0 = id ∧ nl.getD i false = false)
def knP (nl : List Bool) (i : Nat) : Bool := decide (nl.getD i false = false)
def natF (i : Nat) : Int := (i : Int)
def idF (il : List Int) (i : Nat) : Int := il.getD i 0
def whereL (nl : List Bool) (il : List Int) (id : Int) : List Int := if okV nl il then selG (whP nl il id) natF il.length else []
def knownL (nl : List Bool) (il : List Int) : List Int := if okV nl il then selG (knP nl) (idF il) il.length else []
theorem whP_t {nl : List Bool} {il : List Int} {id : Int} {i : Nat} (h : il.getD i 0 = id) (h2 : nl.getD i false = false) : whP nl il id i = true := decide_eq_true ⟨h, h2⟩
theorem whP_f {nl : List Bool} {il : List Int} {id : Int} {i : Nat} (h : ¬ (il.getD i 0 = id ∧ nl.getD i false = false)) : whP nl il id i = false := decide_eq_false h
theorem knP_t {nl : List Bool} {i : Nat} (h : nl.getD i false = false) : knP nl i = true := decide_eq_true h
theorem knP_f {nl : List Bool} {i : Nat} (h : ¬ nl.getD i false = false) : knP nl i = false := decide_eq_false h
def mnL (l : List Int) : Int := l.foldl min (l.getD 0 0)
def mxL (l : List Int) : Int := l.foldl max (l.getD 0 0)
theorem getD_app0 {K : List Int} {x : Int} (h : K ≠ []) : (K ++ [x]).getD 0 0 = K.getD 0 0 := by cases K with | nil => exact absurd rfl h | cons a t => rfl
theorem mnL_snoc {K : List Int} {x : Int} (h : K ≠ []) : mnL (K ++ [x]) = min (mnL K) x := by unfold mnL; rw [List.foldl_append, getD_app0 h]; rfl
theorem mxL_snoc {K : List Int} {x : Int} (h : K ≠ []) : mxL (K ++ [x]) = max (mxL K) x := by unfold mxL; rw [List.foldl_append, getD_app0 h]; rfl
theorem mnL_one (x : Int) : mnL [x] = x := by show min x x = x; omega
theorem mxL_one (x : Int) : mxL [x] = x := by show max x x = x; omega
theorem rng_next {K : List Int} {x lo hi : Int} {any : Bool} (h1 : lo = mnL K) (h2 : hi = mxL K) (h3 : any = decide (0 < K.length)) :
    ((!any) = true → x = mnL (K ++ [x])) ∧ ((!any) = false → x < lo → x = mnL (K ++ [x])) ∧ ((!any) = false → ¬ x < lo → lo = mnL (K ++ [x])) ∧
    ((!any) = true → x = mxL (K ++ [x])) ∧ ((!any) = false → x > hi → x = mxL (K ++ [x])) ∧ ((!any) = false → ¬ x > hi → hi = mxL (K ++ [x])) := by
  have e0 : (!any) = true → K = [] := fun h => by
    rw [h3] at h
    cases K with
    | nil => rfl
    | cons a t => simp at h
  have e1 : (!any) = false → K ≠ [] := fun h hk => by
    rw [h3, hk] at h; simp at h
  refine ⟨fun h => ?_, fun h hx => ?_, fun h hx => ?_, fun h => ?_, fun h hx => ?_, fun h hx => ?_⟩
  · rw [e0 h]; exact (mnL_one x).symm
  · rw [mnL_snoc (e1 h), ← h1]; omega
  · rw [mnL_snoc (e1 h), ← h1]; omega
  · rw [e0 h]; exact (mxL_one x).symm
  · rw [mxL_snoc (e1 h), ← h2]; omega
  · rw [mxL_snoc (e1 h), ← h2]; omega
theorem any_next (K : List Int) (x : Int) : true = decide (0 < (K ++ [x]).length) := by simp
theorem snoc_ind {p : List Int → Prop} (h0 : p []) (hs : ∀ l x, p l → p (l ++ [x])) : ∀ l, p l := by
  intro l
  have : ∀ n, p (l.take n) := by
    intro n
    induction n with
    | zero => simpa using h0
    | succ n ih =>
      rcases Nat.lt_or_ge n l.length with h | h
      · rw [take_push 0 h]; exact hs _ _ ih
      · rw [List.take_of_length_le (by omega)]; rw [List.take_of_length_le h] at ih; exact ih
  have := this l.length
  rwa [List.take_length] at this
theorem mn_bd : ∀ l : List Int, (∀ x ∈ l, mnL l ≤ x ∧ x ≤ mxL l) ∧ (l ≠ [] → mnL l ∈ l ∧ mxL l ∈ l) := by
  refine snoc_ind ⟨fun x h => (by cases h), fun h => absurd rfl h⟩ (fun l x ih => ?_)
  by_cases hl : l = []
  · subst hl
    rw [List.nil_append, mnL_one, mxL_one]
    exact ⟨fun y hy => by simp at hy; omega, fun _ => by simp⟩
  · rw [mnL_snoc hl, mxL_snoc hl]
    refine ⟨fun y hy => ?_, fun _ => ⟨?_, ?_⟩⟩
    · rw [List.mem_append] at hy
      rcases hy with hy | hy
      · have := ih.1 y hy; omega
      · simp at hy; omega
    · rw [List.mem_append]
      rcases Int.le_total (mnL l) x with h | h
      · left; rw [Int.min_eq_left h]; exact (ih.2 hl).1
      · right; rw [Int.min_eq_right h]; simp
    · rw [List.mem_append]
      rcases Int.le_total (mxL l) x with h | h
      · right; rw [Int.max_eq_right h]; simp
      · left; rw [Int.max_eq_left h]; exact (ih.2 hl).2
theorem known_where {nl : List Bool} {il : List Int} {x : Int} (h : x ∈ knownL nl il) : 0 < (whereL nl il x).length := by
  unfold knownL at h
  split at h
  · rename_i hok
    obtain ⟨i, h1, h2, h3⟩ := sel_mem.1 h
    unfold whereL
    rw [if_pos hok]
    exact List.length_pos_of_mem (sel_mem.2 ⟨i, h1, whP_t h3 (of_decide_eq_true h2), rfl⟩)
  · cases h
/-! ### Rows by their numbers, rows one behind the other -/
def goodRows (il rl : List Int) : Prop := rl.length ≤ 1000 ∧ ∀ i, i < rl.length → 0 ≤ rl.getD i 0 ∧ rl.getD i 0 < il.length
instance (il rl : List Int) : Decidable (goodRows il rl) := by unfold goodRows; infer_instance
def pickO (nl : List Bool) (il rl : List Int) : Option (List Bool × List Int) := if okV nl il ∧ goodRows il rl then some (rl.map (fun r => nl.getD r.toNat false), rl.map (fun r => il.getD r.toNat 0)) else none
theorem val_indexAddrA {X : Cx} {E : Env} {H : List Chunk} {T e ty : TypeId} {x y : Operand} {a : Addr} {n c sz : Nat} {k : IntKind} {i : Int} (hu : ∀ w, (underlying T).run X.P w = .ok (.slice e) w) (hs : ∀ w, (sizeOf e).run X.P w = .ok sz w)
    (hx : E.ev x = some (.slice (some a) n c)) (hy : E.ev y = some (.int k i)) (h0 : 0 ≤ i) (h1 : i < n) :
    Val X E H (.indexAddr T x y) ty (.pointer (some ((adr (some a)).add (i.toNat * sz)))) := by
  intro ac w o ho _ ha hw
  simp [execOp, ho, ha.ev hx, ha.ev hy, Instr.indexAt, asIntOf, hu, hs, h0, h1, adr]
def inR (n : Nat) (rl : List Int) : Prop := ∀ i, i < rl.length → 0 ≤ rl.getD i 0 ∧ rl.getD i 0 < (n : Int)
instance (n : Nat) (rl : List Int) : Decidable (inR n rl) := by unfold inR; infer_instance
def pkN (nl : List Bool) (rl : List Int) : List Bool := rl.map fun r => nl.getD r.toNat false
def pkI (il rl : List Int) : List Int := rl.map fun r => il.getD r.toNat 0
theorem pkN_len (nl : List Bool) (rl : List Int) : (pkN nl rl).length = rl.length := by simp [pkN]
theorem pkI_len (il rl : List Int) : (pkI il rl).length = rl.length := by simp [pkI]
theorem fill_pkN {nl : List Bool} {rl : List Int} : fillG false rl.length (fun i => nl.getD (rl.getD i 0).toNat false) rl.length = pkN nl rl := by rw [fillG_all]; exact map_getD 0 rl (fun r => nl.getD r.toNat false)
theorem fill_pkI {il rl : List Int} : fillG 0 rl.length (fun i => il.getD (rl.getD i 0).toNat 0) rl.length = pkI il rl := by rw [fillG_all]; exact map_getD 0 rl (fun r => il.getD r.toNat 0)
theorem push_pkN {nl : List Bool} {rl : List Int} {i : Nat} (h : i < rl.length) : tcells (pkN nl (rl.take i)) ++ [Value.bool (nl.getD (rl.getD i 0).toNat false)] = tcells (pkN nl (rl.take (i + 1))) := by
  rw [tpush, take_push 0 h]; simp [pkN]
theorem push_pkI {il rl : List Int} {i : Nat} (h : i < rl.length) : icells .i64 (pkI il (rl.take i)) ++ [Value.int .i64 (il.getD (rl.getD i 0).toNat 0)] = icells .i64 (pkI il (rl.take (i + 1))) := by
  rw [ipush, take_push 0 h]; simp [pkI]
def okP (nl : List Bool) (il rl : List Int) : Prop := okV nl il ∧ rl.length ≤ 1000 ∧ inR il.length rl
instance (nl : List Bool) (il rl : List Int) : Decidable (okP nl il rl) := by unfold okP; infer_instance
def pickN (nl : List Bool) (il rl : List Int) : List Bool := if okP nl il rl then pkN nl rl else []
def pickI (nl : List Bool) (il rl : List Int) : List Int := if okP nl il rl then pkI il rl else []
def pickE (nl : List Bool) (il rl : List Int) : Int := if okP nl il rl then 0 else 2
theorem pick_no {nl : List Bool} {il rl : List Int} (h : ¬ okP nl il rl) : pickN nl il rl = [] ∧ pickI nl il rl = [] ∧ pickE nl il rl = 2 := ⟨if_neg h, if_neg h, if_neg h⟩
theorem pick_ok {nl : List Bool} {il rl : List Int} (h : okP nl il rl) : pickN nl il rl = pkN nl rl ∧ pickI nl il rl = pkI il rl ∧ pickE nl il rl = 0 := ⟨if_pos h, if_pos h, if_pos h⟩
theorem pick_len (nl : List Bool) (il rl : List Int) : (pickN nl il rl).length ≤ 1000 ∧ (pickI nl il rl).length ≤ 1000 := by
  by_cases h : okP nl il rl
  · obtain ⟨e1, e2, _⟩ := pick_ok h
    rw [e1, e2, pkN_len, pkI_len]; exact ⟨h.2.1, h.2.1⟩
  · obtain ⟨e1, e2, _⟩ := pick_no h
    rw [e1, e2]; simp
/-! ### Regions in which several loud operations may come in any order -/
section
/-- The walk by choices: a still operation that is free goes first; else each one that may come next is followed. H0: what the still ones look at, and is kept. -/
def VT (X : Cx) (ops : Array Oper) (S : List Nat) (Q : Post) (H0 : List Chunk) : Nat → Array Bool → Env → List Chunk → Prop
  | 0, listed, E, H => Region.ready .any ops listed = [] ∧ ∃ E0 : Env, (∀ t u, E0.get t = some u → E.get t = some u) ∧ Q .normal E0 H
  | n + 1, listed, E, H =>
    (∃ (i : Nat) (o : Oper) (v : Value) (fE : Value → Env), S.contains i = true ∧ ops[i]? = some o ∧ ((Region.ready .any ops listed).contains i && Region.free .any ops listed i) = true ∧ DstF X E o.dst fE ∧
      (∀ a, Ok X E a → YieldsC X.P ops (Holds X.w0 X.M H0) o v a) ∧ VT X ops S Q H0 n (listed.setIfInBounds i true) (fE v) H) ∨
    (Region.ready .any ops listed ≠ [] ∧ ∀ i ∈ Region.ready .any ops listed, ∃ o, ops[i]? = some o ∧
      VL X ops [o] (Post.seq (fun E' H' => (∃ F, Sub H0 H' F) ∧ VT X ops S Q H0 n (listed.setIfInBounds i true) E' H') Q) E H)
variable {X : Cx} {Q : Post} {E : Env} {H H0 : List Chunk} {ops : Array Oper} {S : List Nat}
theorem VT.sound (hsel : Region.noSelect ops = true) (hQ : ∀ ch E H, Q (.panic ch) E H → Q (.panic ch) [] H) : ∀ (n : Nat) (listed : Array Bool) (E : Env) (H : List Chunk), VT X ops S Q H0 n listed E H → ∀ (a : Act) (w : World), Ok X E a → Holds X.w0 X.M H w → Holds X.w0 X.M H0 w →
    wpAnyC X.P ops (lift X Q) (Holds X.w0 X.M H0) [] n listed a w
  | 0, listed, E, H, h, a, w, ha, hw, _ => by
    obtain ⟨h0, E0, h1, h2⟩ := h
    exact ⟨h0, E0, H, ha.sub h1, hw, h2⟩
  | n + 1, listed, E, H, h, a, w, ha, hw, hC0 => by
    rcases h with ⟨i, o, v, fE, hS, ho, hB, hd, hy, h⟩ | ⟨hne, h⟩
    · simp only [Bool.and_eq_true] at hB
      obtain ⟨hr, hf⟩ := hB
      refine wpAnyC_first ho (Region.noSelect_spec hsel) (fun ch a' w' hq => ?_) n listed a w hC0 (fun j oj hj hne hun hno => ⟨Region.free_spec ho hf j oj hj hne hun hno, by simp⟩) (by simpa using hr) (hy a ha)
        (VT.sound hsel hQ n _ _ _ h _ w (ha.setF hd) hw hC0)
      obtain ⟨E', H', h1, h2, h3⟩ := hq
      refine ⟨[], H', ⟨?_, ?_, by intro t v h; simp [Env.get] at h⟩, h2, hQ _ _ _ h3⟩
      · have := h1.size; cases hd' : o.dst <;> simp_all [Act.put]
      · have := h1.defers; cases hd' : o.dst <;> simp_all [Act.put]
    · refine ⟨fun h0 => absurd h0 hne, fun j hj => ?_⟩
      obtain ⟨o, ho, h1⟩ := h j hj
      replace h1 := h1 a w ha hw
      unfold wpOp
      simp only [ho]
      unfold wpList at h1
      have conv : ∀ a' w', wpList X.P ops (lift X (Post.seq (fun E' H' => (∃ F, Sub H0 H' F) ∧ VT X ops S Q H0 n (listed.setIfInBounds j true) E' H') Q)) [] a' w' →
          (([] : List Nat).contains j = false → Holds X.w0 X.M H0 w') ∧ wpAnyC X.P ops (lift X Q) (Holds X.w0 X.M H0) [] n (listed.setIfInBounds j true) a' w' := by
        intro a' w' hh
        obtain ⟨E', H', h1, h2, h3⟩ := hh
        obtain ⟨⟨F, hs⟩, h5⟩ := h3
        have h6 : Holds X.w0 X.M H0 w' := (h2.perm hs.perm).left
        exact ⟨fun _ => h6, VT.sound hsel hQ n _ _ _ h5 a' w' h1 h2 h6⟩
      split
      · rename_i hw'
        rw [if_pos hw'] at h1
        rcases h1 with h1 | ⟨h1, h2⟩
        · left
          exact wp_mono2 conv (fun ch a w hq => hq) (fun hq => hq) h1
        · exact .inr ⟨h1, h2⟩
      · rename_i hw'
        rw [if_neg hw'] at h1
        exact conv _ _ h1
theorem vc_drawsT {id : Nat} {l : List Oper} {F : List Chunk} (n : Nat) (S : List Nat) (H0 : List Chunk) (hs : Sub H0 H F) (hm : X.P.follows .mixedOrders = true) (hsel : Region.noSelect l.toArray = true) (hn : l.toArray.size = n) (hQ : ∀ ch E H, Q (.panic ch) E H → Q (.panic ch) [] H)
    (h : VT X l.toArray S Q H0 n (Array.replicate n false) E H) : VC X (.region id l.toArray true) Q E H := by
  intro a w ha hw
  subst hn
  have hw' : Holds X.w0 X.M H { w with drawn := w.drawn + 1 } := hw.drewn rfl rfl rfl rfl
  have h1 := VT.sound hsel hQ _ _ E H h a _ ha hw' (hw'.perm hs.perm).left
  exact wp_region_any hm (wpAny_of_C _ _ _ _ h1)
variable {n : Nat} {listed : Array Bool}
theorem vt_nil (hr : Region.ready .any ops listed = []) (h : Q .normal E H) : VT X ops S Q H0 0 listed E H := ⟨hr, E, fun _ _ h => h, h⟩
theorem vt_val {fE : Value → Env} {o : Oper} {v : Value} (i : Nat) (ho : ops[i]? = some o) (hS : S.contains i = true) (hB : ((Region.ready .any ops listed).contains i && Region.free .any ops listed i) = true) (hg : o.guard = none) (hd : DstF X E o.dst fE) (hv : Val X E H0 o.op o.type v)
    (h : VT X ops S Q H0 n (listed.setIfInBounds i true) (fE v) H) : VT X ops S Q H0 (n + 1) listed E H :=
  .inl ⟨i, o, v, fE, hS, ho, hB, hd, fun a ha => .inl ⟨by simp [Region.wanted, hg], fun w hw => hv a w o rfl rfl ha hw⟩, h⟩
/-- One operation of a fork. -/
def VF1 (X : Cx) (ops : Array Oper) (S : List Nat) (Q : Post) (H0 : List Chunk) (n : Nat) (listed : Array Bool) (E : Env) (H : List Chunk) (i : Nat) : Prop :=
  ∃ o, ops[i]? = some o ∧ VL X ops [o] (Post.seq (fun E' H' => (∃ F, Sub H0 H' F) ∧ VT X ops S Q H0 n (listed.setIfInBounds i true) E' H') Q) E H
theorem vt_op {i : Nat} {o : Oper} (ho : ops[i]? = some o) (h : VL X ops [o] (Post.seq (fun E' H' => (∃ F, Sub H0 H' F) ∧ VT X ops S Q H0 n (listed.setIfInBounds i true) E' H') Q) E H) : VF1 X ops S Q H0 n listed E H i := ⟨o, ho, h⟩
theorem vt_fork1 (i : Nat) (hr : Region.ready .any ops listed = [i]) (h : VF1 X ops S Q H0 n listed E H i) : VT X ops S Q H0 (n + 1) listed E H :=
  .inr ⟨by rw [hr]; simp, by rw [hr]; intro k hk; obtain rfl : k = i := by simpa using hk
                             exact h⟩
theorem vt_fork2 (i j : Nat) (hr : Region.ready .any ops listed = [i, j]) (h : VF1 X ops S Q H0 n listed E H i) (h2 : VF1 X ops S Q H0 n listed E H j) : VT X ops S Q H0 (n + 1) listed E H :=
  .inr ⟨by rw [hr]; simp, by
    rw [hr]; intro k hk
    rcases (by simpa using hk : k = i ∨ k = j) with rfl | rfl
    · exact h
    · exact h2⟩
theorem vt_fork3 (i j m : Nat) (hr : Region.ready .any ops listed = [i, j, m]) (h : VF1 X ops S Q H0 n listed E H i) (h2 : VF1 X ops S Q H0 n listed E H j) (h3 : VF1 X ops S Q H0 n listed E H m) : VT X ops S Q H0 (n + 1) listed E H :=
  .inr ⟨by rw [hr]; simp, by
    rw [hr]; intro k hk
    rcases (by simpa using hk : k = i ∨ k = j ∨ k = m) with rfl | rfl | rfl
    · exact h
    · exact h2
    · exact h3⟩
end
end Go.Proofs.YtdehjgpdcdjhjaaDoor.K
