/- A framework of our own for walks over the model: Ke. -/
import Derived.Test.YtdehjgpdcdjhjaaKd
import Derived.Still
namespace Go.Proofs.Ytdehjgpdcdjhjaa.K
open Go Go.RowKit
set_option linter.unusedVariables false
set_option linter.unusedSimpArgs false

/-! ### Regions that draw their order -/
section any
variable {P : Program} {ops : Array Oper} {Q : Exit → Act → World → Prop} {C : World → Prop} {T : List Nat}
def wpAnyC (P : Program) (ops : Array Oper) (Q : Exit → Act → World → Prop) (C : World → Prop) (T : List Nat) : Nat → Array Bool → Act → World → Prop
  | 0, listed, a, w => Region.ready .any ops listed = [] ∧ Q .normal a w
  | fuel + 1, listed, a, w =>
    (Region.ready .any ops listed = [] → Q .normal a w) ∧
    ∀ i ∈ Region.ready .any ops listed, wpOp P ops Q i (fun a' w' => (T.contains i = false → C w') ∧ wpAnyC P ops Q C T fuel (listed.setIfInBounds i true) a' w') a w
theorem wpAny_of_C : ∀ (fuel : Nat) (listed : Array Bool) (a : Act) (w : World), wpAnyC P ops Q C T fuel listed a w → wpAny P .any ops Q fuel listed a w
  | 0, _, _, _, h => h
  | fuel + 1, _, _, _, h => ⟨h.1, fun i hi => wpOp_mono (fun a' w' h' => wpAny_of_C fuel _ a' w' h'.2) (h.2 i hi)⟩
/-- In every world of the class the operation yields v and leaves the world alone (or it is not wanted, and v is undef). -/
def YieldsC (P : Program) (ops : Array Oper) (C : World → Prop) (o : Oper) (v : Value) (a : Act) : Prop :=
  (Region.wanted o (yielded ops a.tmps) = true ∧ ∀ w, C w → (execOp a.eval o).run P w = .ok (.value v) w) ∨
  (Region.wanted o (yielded ops a.tmps) = false ∧ v = undef)
theorem YieldsC.op {i : Nat} {o : Oper} {v : Value} {a : Act} {w : World} {K : Act → World → Prop} (hi : ops[i]? = some o) (hy : YieldsC P ops C o v a) (hC : C w) (h : K (a.put o.dst v) w) : wpOp P ops Q i K a w := by
  unfold wpOp
  simp only [hi]
  rcases hy with ⟨hw, hv⟩ | ⟨hw, rfl⟩
  · simp only [hw, if_true]
    left
    unfold Oper.wp
    rw [hv w hC]
    exact h
  · simp only [hw, Bool.false_eq_true, if_false]; exact h
theorem YieldsC.keep {oi oj : Oper} {v : Value} {a : Act} (hsi : ∀ cs b, oi.op ≠ .select cs b) (h3 : ∀ d, oj.dst = some d → d ∉ oi.looksAt ops) (hy : YieldsC P ops C oi v a) (u : Value) : YieldsC P ops C oi v (a.put oj.dst u) := by
  unfold YieldsC at *
  rw [execOp_put oi hsi a oj.dst u h3, wanted_put oi a oj.dst u h3]
  exact hy
theorem YieldsC.defers {oi : Oper} {v : Value} {a : Act} {ds : List Deferred} (hy : YieldsC P ops C oi v a) : YieldsC P ops C oi v { a with defers := ds } := by
  have he : (({ a with defers := ds } : Act)).eval = a.eval := funext fun x => by cases x <;> rfl
  unfold YieldsC at *
  rw [he]
  exact hy
theorem wpOp_put {j : Nat} {oi oj : Oper} {v : Value} (hj : ops[j]? = some oj) (hap : oi.apart ops oj = true) (hsi : ∀ cs b, oi.op ≠ .select cs b) (hsj : ∀ cs b, oj.op ≠ .select cs b)
    (hQ : ∀ ch a w, Q (.panic ch) (a.put oi.dst v) w → Q (.panic ch) a w) {K : Act → World → Prop} {a : Act} {w : World} (hy : YieldsC P ops C oi v a) (h : wpOp P ops Q j K (a.put oi.dst v) w) :
    wpOp P ops Q j (fun a' w' => YieldsC P ops C oi v a' ∧ K (a'.put oi.dst v) w') a w := by
  obtain ⟨h1, h2, h3⟩ := Oper.apart_spec hap
  unfold wpOp at *
  simp only [hj] at *
  rw [wanted_put oj a oi.dst v h1] at h
  split
  · rename_i hw
    simp only [hw, if_true] at h
    have hex := execOp_put oj hsj a oi.dst v h1
    rcases h with h | ⟨has, hlet⟩
    · left
      unfold Oper.wp at *
      rw [hex] at h
      generalize (execOp a.eval oj).run P w = r at *
      have fin : ∀ u w', K ((a.put oi.dst v).put oj.dst u) w' → YieldsC P ops C oi v (a.put oj.dst u) ∧ K ((a.put oj.dst u).put oi.dst v) w' := fun u w' hk =>
        ⟨hy.keep hsi h3 u, by rw [← Act.put_comm a v u h2]; exact hk⟩
      cases r with
      | ok n w' =>
        cases n <;> simp only [Oper.upon] at h ⊢
        case value u => exact fin _ _ h
        case skip => exact fin _ _ h
        case defer d =>
          refine ⟨(hy.defers (ds := d :: a.defers)).keep hsi h3 undef, ?_⟩
          rw [Act.put_defers, Act.put_comm _ v undef h2] at h
          exact h
        case enter f args =>
          refine h.mono fun e w'' he => ?_
          cases e with
          | returned u => exact fin _ _ he
          | panicked ch => exact hQ _ _ _ he
          | outgrown => exact he
        case row row args => exact Rows.mono h fun u w'' he => fin _ _ he
      | halt x w' => cases x <;> simp only [Oper.upon] at h ⊢ <;> first | exact hQ _ _ _ h | exact h
    · right
      refine ⟨?_, hlet⟩
      unfold Oper.asks at *
      rw [hex] at has
      exact has
  · rename_i hw
    simp only [hw] at h
    exact ⟨hy.keep hsi h3 undef, by rw [← Act.put_comm a v undef h2]; simpa using h⟩
theorem wpAnyC_first {i : Nat} {oi : Oper} {v : Value} (hi : ops[i]? = some oi) (hsel : ∀ (j : Nat) (o : Oper) cs b, ops[j]? = some o → o.op ≠ .select cs b) (hQ : ∀ ch a w, Q (.panic ch) (a.put oi.dst v) w → Q (.panic ch) a w) :
    ∀ (fuel : Nat) (listed : Array Bool) (a : Act) (w : World), C w →
      (∀ j oj, ops[j]? = some oj → j ≠ i → listed.getD j true = false → (∀ e ∈ oj.after, Region.binds .any e = true → e.on ≠ i) → oi.apart ops oj = true ∧ T.contains j = false) →
      i ∈ Region.ready .any ops listed → YieldsC P ops C oi v a →
      wpAnyC P ops Q C T fuel (listed.setIfInBounds i true) (a.put oi.dst v) w → wpAnyC P ops Q C T (fuel + 1) listed a w := by
  intro fuel
  induction fuel with
  | zero =>
    intro listed a w hC _ hr hy H
    refine ⟨fun h => (by rw [h] at hr; cases hr), fun j hj => ?_⟩
    by_cases hji : j = i
    · subst hji; exact hy.op hi hC ⟨fun _ => hC, H⟩
    · have := ready_mono hj hji
      rw [H.1] at this
      cases this
  | succ fuel ih =>
    intro listed a w hC hfree hr hy H
    refine ⟨fun h => (by rw [h] at hr; cases hr), fun j hj => ?_⟩
    by_cases hji : j = i
    · subst hji; exact hy.op hi hC ⟨fun _ => hC, H⟩
    · have h1 := H.2 j (ready_mono hj hji)
      obtain ⟨hjun, oj, hoj, hall⟩ := mem_ready.1 hj
      have hnot : ∀ e ∈ oj.after, Region.binds .any e = true → e.on ≠ i := fun e he hb heq => by
        have h1 := hall e he hb
        have h0 := (mem_ready.1 hr).1
        rw [heq] at h1
        rcases Nat.lt_or_ge i listed.size with h' | h'
        · simp [h'] at h0 h1; rw [h0] at h1; cases h1
        · simp [Array.getElem?_eq_none h'] at h1
      obtain ⟨hap, hT⟩ := hfree j oj hoj hji hjun hnot
      have h2 := wpOp_put hoj hap (fun cs b => hsel i oi cs b hi) (fun cs b => hsel j oj cs b hoj) hQ hy h1
      have hfree' : ∀ k ok, ops[k]? = some ok → k ≠ i → (listed.setIfInBounds j true).getD k true = false →
          (∀ e ∈ ok.after, Region.binds .any e = true → e.on ≠ i) → oi.apart ops ok = true ∧ T.contains k = false := fun k ok hk hki hun hno => by
        refine hfree k ok hk hki ?_ hno
        by_cases hjk : j = k
        · subst hjk; exact hjun
        · rw [getD_set_ne true hjk] at hun; exact hun
      refine wpOp_mono (fun a' w' h3 => ?_) h2
      obtain ⟨hy', hC', h4⟩ := h3
      refine ⟨hC', ih (listed.setIfInBounds j true) a' w' (hC' hT) hfree' (ready_mono hr (Ne.symm hji)) hy' ?_⟩
      rw [Array.setIfInBounds_comm _ _ hji]
      exact h4
end any

/-- May the order 'ord' stand for all orders? S: the operations that leave the world alone; T: the tail, in which nothing is moved. -/
def canB (ops : Array Oper) (S T : List Nat) : List Nat → Array Bool → Bool
  | [], listed => (Region.ready .any ops listed).isEmpty
  | i :: rest, listed =>
    (if S.contains i then (Region.ready .any ops listed).contains i && Region.free .any ops listed i &&
        (List.range ops.size).all (fun j => j == i || listed.getD j true || !T.contains j || match ops[j]? with | some oj => oj.after.any (fun e => Region.binds .any e && e.on == i) | none => true)
      else decide (Region.ready .any ops listed = [i]) && (!T.contains i || rest.all (fun k => !S.contains k))) && canB ops S T rest (listed.setIfInBounds i true)
def orderB (ops : Array Oper) (S T ord : List Nat) : Bool := Region.noSelect ops && decide (ord.length = ops.size) && canB ops S T ord (Array.replicate ops.size false)

/-- The walk in that order. H0: what holds all along, till the tail. -/
def VD (X : Cx) (ops : Array Oper) (S T : List Nat) (Q : Post) (H0 : List Chunk) : List Nat → Env → List Chunk → Prop
  | [], E, H => ∃ E0 : Env, (∀ t u, E0.get t = some u → E.get t = some u) ∧ Q .normal E0 H
  | i :: rest, E, H => ∃ o, ops[i]? = some o ∧
    if S.contains i then ∃ v fE, DstF X E o.dst fE ∧ (∀ a, Ok X E a → YieldsC X.P ops (Holds X.w0 X.M H0) o v a) ∧ VD X ops S T Q H0 rest (fE v) H
    else VL X ops [o] (Post.seq (fun E' H' => (T.contains i = false → ∃ F, Sub H0 H' F) ∧ VD X ops S T Q H0 rest E' H') Q) E H
section
variable {X : Cx} {Q : Post} {E : Env} {H H0 : List Chunk} {ops : Array Oper} {S T : List Nat}
theorem wp_mono2 {P : Program} {o : Oper} {a : Act} {w : World} {K K' : Act → World → Prop} {Q Q' : Exit → Act → World → Prop} (h : ∀ a w, K a w → K' a w) (hp : ∀ ch a w, Q (.panic ch) a w → Q' (.panic ch) a w) (hl : LetsOut Q → LetsOut Q')
    (hh : o.wp P a w K Q) : o.wp P a w K' Q' := by
  unfold Oper.wp at *
  generalize (execOp a.eval o).run P w = r at *
  cases r with
  | ok n w' =>
    cases n <;> simp only [Oper.upon] at hh ⊢ <;>
      first
        | exact h _ _ hh
        | exact Calls.mono hh (fun e w'' he => by cases e <;> first | exact h _ _ he | exact hp _ _ _ he | exact hl he)
        | exact Rows.mono hh (fun _ _ he => h _ _ he)
  | halt x w' => cases x <;> simp only [Oper.upon] at hh ⊢ <;> first | exact hp _ _ _ hh | exact hh
theorem VD.sound (hsel : Region.noSelect ops = true) (hQ : ∀ ch E H, Q (.panic ch) E H → Q (.panic ch) [] H) : ∀ (ord : List Nat) (listed : Array Bool) (E : Env) (H : List Chunk), VD X ops S T Q H0 ord E H → canB ops S T ord listed = true →
    ∀ a w, Ok X E a → Holds X.w0 X.M H w → (Holds X.w0 X.M H0 w ∨ ord.all (fun i => !S.contains i) = true) → wpAnyC X.P ops (lift X Q) (Holds X.w0 X.M H0) T ord.length listed a w
  | [], listed, E, H, h, hB, a, w, ha, hw, _ => by
    obtain ⟨E0, h1, h2⟩ := h
    exact ⟨by simpa [canB] using hB, E0, H, ha.sub h1, hw, h2⟩
  | i :: rest, listed, E, H, h, hB, a, w, ha, hw, hC => by
    obtain ⟨o, ho, h⟩ := h
    simp only [canB, Bool.and_eq_true] at hB
    obtain ⟨hB1, hB2⟩ := hB
    by_cases hS : S.contains i = true
    · rw [if_pos hS] at h hB1
      obtain ⟨v, fE, hd, hy, h⟩ := h
      have hC0 : Holds X.w0 X.M H0 w := by
        rcases hC with h | h
        · exact h
        · simp [hS] at h; simp [h] at hS
      simp only [Bool.and_eq_true] at hB1
      obtain ⟨⟨hr, hf⟩, hT⟩ := hB1
      refine wpAnyC_first ho (Region.noSelect_spec hsel) (fun ch a' w' hq => ?_) rest.length listed a w hC0 (fun j oj hj hne hun hno => ⟨Region.free_spec ho hf j oj hj hne hun hno, ?_⟩) (by simpa using hr) (hy a ha)
        (VD.sound hsel hQ rest _ _ _ h hB2 _ w (ha.setF hd) hw (.inl hC0))
      · obtain ⟨E', H', h1, h2, h3⟩ := hq
        refine ⟨[], H', ⟨?_, ?_, by intro t v h; simp [Env.get] at h⟩, h2, hQ _ _ _ h3⟩
        · have := h1.size; cases hd' : o.dst <;> simp_all [Act.put]
        · have := h1.defers; cases hd' : o.dst <;> simp_all [Act.put]
      · have h1 := (List.all_eq_true.1 hT) j (List.mem_range.2 (Array.getElem?_eq_some_iff.1 hj).1)
        simp only [Bool.or_eq_true, beq_iff_eq, hj] at h1
        rcases h1 with ((h1 | h1) | h1) | h1
        · exact absurd h1 hne
        · rw [hun] at h1; cases h1
        · simpa using h1
        · obtain ⟨e, he, hb⟩ := Array.any_eq_true'.1 h1
          simp only [Bool.and_eq_true, beq_iff_eq] at hb
          exact absurd hb.2 (hno e he hb.1)
    · rw [if_neg hS] at h hB1
      simp only [Bool.and_eq_true, Bool.or_eq_true, decide_eq_true_eq] at hB1
      obtain ⟨hr, hTr⟩ := hB1
      refine ⟨fun h0 => (by rw [hr] at h0; cases h0), fun j hj => ?_⟩
      rw [hr] at hj
      obtain rfl : j = i := by simpa using hj
      have h1 := h a w ha hw
      have hall : rest.all (fun i => !S.contains i) = true ∨ T.contains j = false := by
        by_cases hTj : T.contains j = true
        · left
          rcases hTr with h | h
          · rw [hTj] at h; simp at h
          · exact h
        · exact .inr (by simpa using hTj)
      unfold wpOp
      simp only [ho]
      unfold wpList at h1
      have conv : ∀ a' w', wpList X.P ops (lift X (Post.seq (fun E' H' => (T.contains j = false → ∃ F, Sub H0 H' F) ∧ VD X ops S T Q H0 rest E' H') Q)) [] a' w' →
          (T.contains j = false → Holds X.w0 X.M H0 w') ∧ wpAnyC X.P ops (lift X Q) (Holds X.w0 X.M H0) T rest.length (listed.setIfInBounds j true) a' w' := by
        intro a' w' hh
        obtain ⟨E', H', h1, h2, h3⟩ := hh
        obtain ⟨h4, h5⟩ := h3
        have h6 : T.contains j = false → Holds X.w0 X.M H0 w' := fun hT => by obtain ⟨F, hs⟩ := h4 hT; exact (h2.perm hs.perm).left
        refine ⟨h6, VD.sound hsel hQ rest _ _ _ h5 hB2 a' w' h1 h2 ?_⟩
        rcases hall with h | h
        · exact .inr h
        · exact .inl (h6 h)
      split
      · rename_i hw'
        rw [if_pos hw'] at h1
        rcases h1 with h1 | ⟨h1, h2⟩
        · left
          exact wp_mono2 conv (fun ch a w hq => hq) (fun hq => hq) h1
        · exact .inr ⟨h1, h2⟩
      · rename_i hw'
        rw [if_neg hw'] at h1
        exact conv _ _ h1
theorem vc_draws {id : Nat} {l : List Oper} (S T ord : List Nat) (hm : X.P.follows .mixedOrders = true) (hB : orderB l.toArray S T ord = true) (hQ : ∀ ch E H, Q (.panic ch) E H → Q (.panic ch) [] H)
    (h : VD X l.toArray S T Q H ord E H) : VC X (.region id l.toArray true) Q E H := by
  intro a w ha hw
  simp only [orderB, Bool.and_eq_true, decide_eq_true_eq] at hB
  have hw' : Holds X.w0 X.M H { w with drawn := w.drawn + 1 } := hw.drewn rfl rfl rfl rfl
  have h1 := VD.sound hB.1.1 hQ ord _ E H h hB.2 a _ ha hw' (.inl hw')
  rw [hB.1.2] at h1
  exact wp_region_any hm (wpAny_of_C _ _ _ _ h1)
theorem vd_nil (h : Q .normal E H) : VD X ops S T Q H0 [] E H := ⟨E, fun _ _ h => h, h⟩
theorem vd_env : ∀ (l : List Nat) (E : Env) (E' : Env) (H : List Chunk), (∀ t, E'.get t = E.get t) → VD X ops S T Q H0 l E' H → VD X ops S T Q H0 l E H
  | [], E, E', H, he, ⟨E0, h1, h2⟩ => ⟨E0, fun t u h => by rw [← he]; exact h1 t u h, h2⟩
  | i :: rest, E, E', H, he, ⟨o, ho, h⟩ => by
    refine ⟨o, ho, ?_⟩
    have hok : ∀ a, Ok X E a → Ok X E' a := fun a ha => ha.sub fun t u h => by rw [← he]; exact h
    split
    · rename_i hS
      rw [if_pos hS] at h
      obtain ⟨v, f', hd, hy, h⟩ := h
      generalize o.dst = dd at hd
      cases hd with
      | none => exact ⟨v, _, .none, fun a ha => hy a (hok a ha), vd_env rest _ _ _ he h⟩
      | some hn =>
        refine ⟨v, _, .some hn, fun a ha => hy a (hok a ha), vd_env rest _ _ _ (fun t => ?_) h⟩
        simp only [Env.get]
        rw [he t]
    · rename_i hS
      rw [if_neg hS] at h
      exact fun a w ha hw => h a w (hok a ha) hw
theorem vd_val {fE : Value → Env} {o : Oper} {i : Nat} {rest : List Nat} {v : Value} (ho : ops[i]? = some o) (hS : S.contains i = true) (hg : o.guard = none) (hd : DstF X E o.dst fE) (hv : Val X E H0 o.op o.type v) (h : VD X ops S T Q H0 rest (fE v) H) : VD X ops S T Q H0 (i :: rest) E H :=
  ⟨o, ho, by rw [if_pos hS]; exact ⟨v, fE, hd, fun a ha => .inl ⟨by simp [Region.wanted, hg], fun w hw => hv a w o rfl rfl ha hw⟩, h⟩⟩
theorem yielded_ok {a : Act} (ha : Ok X E a) {j t : Nat} {b : Bool} (hj : (ops[j]?).bind (·.dst) = some t) (ht : E.get t = some (.bool b)) (hn : Nat.blt t X.n = true) : yielded ops a.tmps j = some b := by
  have h1 := ha.vals t _ ht
  have hlt : t < a.tmps.size := by rw [ha.size]; simpa [Nat.blt_eq] using hn
  have h2 : a.tmps[t] = .bool b := by simpa [hlt] using h1
  simp [yielded, hj, hlt, h2]
theorem vd_on {fE : Value → Env} {o : Oper} {i j t : Nat} {b : Bool} {rest : List Nat} {v : Value} (ho : ops[i]? = some o) (hS : S.contains i = true) (hg : o.guard = some (j, b)) (hj : (ops[j]?).bind (·.dst) = some t) (ht : E.get t = some (.bool b)) (hn : Nat.blt t X.n = true) (hd : DstF X E o.dst fE) (hv : Val X E H0 o.op o.type v)
    (h : VD X ops S T Q H0 rest (fE v) H) : VD X ops S T Q H0 (i :: rest) E H :=
  ⟨o, ho, by rw [if_pos hS]; exact ⟨v, fE, hd, fun a ha => .inl ⟨by simp [Region.wanted, hg, yielded_ok ha hj ht hn], fun w hw => hv a w o rfl rfl ha hw⟩, h⟩⟩
theorem vd_off {fE : Value → Env} {o : Oper} {i j t : Nat} {b : Bool} {rest : List Nat} (ho : ops[i]? = some o) (hS : S.contains i = true) (hg : o.guard = some (j, b)) (hj : (ops[j]?).bind (·.dst) = some t) (ht : E.get t = some (.bool (!b))) (hn : Nat.blt t X.n = true) (hd : DstF X E o.dst fE)
    (h : VD X ops S T Q H0 rest (fE undef) H) : VD X ops S T Q H0 (i :: rest) E H :=
  ⟨o, ho, by rw [if_pos hS]; exact ⟨undef, fE, hd, fun a ha => .inr ⟨by cases b <;> simp [Region.wanted, hg, yielded_ok ha hj ht hn], rfl⟩, h⟩⟩
theorem vd_op {o : Oper} {i : Nat} {rest : List Nat} (ho : ops[i]? = some o) (hS : S.contains i = false) (h : VL X ops [o] (Post.seq (fun E' H' => (T.contains i = false → ∃ F, Sub H0 H' F) ∧ VD X ops S T Q H0 rest E' H') Q) E H) : VD X ops S T Q H0 (i :: rest) E H :=
  ⟨o, ho, by rw [if_neg (by simp only [hS]; decide)]; exact h⟩
/-! Guards in a region that does not draw -/
variable {rest : List Oper}
theorem vl_on {o : Oper} {j t : Nat} {b : Bool} (hg : o.guard = some (j, b)) (hj : (ops[j]?).bind (·.dst) = some t) (ht : E.get t = some (.bool b)) (hn : Nat.blt t X.n = true) (h : VL X ops ({ o with guard := none } :: rest) Q E H) : VL X ops (o :: rest) Q E H := by
  intro a w ha hw
  have h1 := h a w ha hw
  unfold wpList at *
  rw [if_pos (by simp [Region.wanted])] at h1
  rw [if_pos (by simp [Region.wanted, hg, yielded_ok ha hj ht hn])]
  exact h1
theorem vl_off {fE : Value → Env} {o : Oper} {j t : Nat} {b : Bool} (hg : o.guard = some (j, b)) (hj : (ops[j]?).bind (·.dst) = some t) (ht : E.get t = some (.bool (!b))) (hn : Nat.blt t X.n = true) (hd : DstF X E o.dst fE) (h : VL X ops rest Q (fE undef) H) : VL X ops (o :: rest) Q E H := by
  intro a w ha hw
  have h1 := h _ w (ha.setF (v := undef) hd) hw
  unfold wpList
  rw [if_neg (by cases b <;> simp [Region.wanted, hg, yielded_ok ha hj ht hn])]
  exact h1
end
end Go.Proofs.Ytdehjgpdcdjhjaa.K
