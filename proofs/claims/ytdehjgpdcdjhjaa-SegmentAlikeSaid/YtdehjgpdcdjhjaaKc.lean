/- A framework of our own for walks over the model: Kc. -/
import Derived.Test.YtdehjgpdcdjhjaaKb
namespace Go.Proofs.Ytdehjgpdcdjhjaa.K
open Go Go.RowKit
set_option linter.unusedVariables false
set_option linter.unusedSimpArgs false

/-! ### Changes of the heap, as Holds sees them -/
section change
variable {w0 w : World} {M : List Nat} {H H' : List Chunk}
theorem Holds.alloc {C : Chunk} (h : Holds w0 M H w) (o : Obj) (hC : C.A (w.alloc o)) (hf : C.fp = [w.heap.size]) : Holds w0 M (C :: H) (w.alloc o) := by
  have := Holds.change (w := w) (C := []) (C' := [C]) (F := H) (w' := w.alloc o) (by simpa using h) (by simp) rfl rfl rfl (fun b hb _ => heap_alloc_old w o b hb)
    (by simpa using hC) (by simp [fps, hf]) (by simp [fps, hf])
  simpa using this
theorem Holds.grown {C C' : Chunk} {w' : World} {b : Option Nat} (h : Holds w0 M H w) (hu : Upd C C' H H') (hg : w.grownBy w' b) (hb : ∀ k, b = some k → k ∈ C.fp) (hC : C'.A w')
    (hn : C'.fp.Nodup) (hm : ∀ b ∈ C'.fp, b < w'.heap.size ∧ (b ∈ C.fp ∨ w.heap.size ≤ b)) : Holds w0 M H' w' := by
  obtain ⟨F, h1, h2⟩ := hu.perm
  have := Holds.change (w := w) (C := [C]) (C' := [C']) (F := F) (w' := w') (by simpa using h.perm h1) hg.size hg.os hg.tape hg.output (fun k hk hkC => hg.block k hk (fun e => hkC (by simpa [fps] using hb k e.symm)))
    (by simpa using hC) (by simpa [fps] using hn) (by simpa [fps] using hm)
  exact (by simpa using this : Holds w0 M (C' :: F) w').perm h2.symm
theorem Holds.grownNew {C' : Chunk} {w' : World} (h : Holds w0 M H w) (hg : w.grownBy w' none) (hC : C'.A w')
    (hn : C'.fp.Nodup) (hm : ∀ b ∈ C'.fp, b < w'.heap.size ∧ w.heap.size ≤ b) : Holds w0 M (C' :: H) w' := by
  have := Holds.change (w := w) (C := []) (C' := [C']) (F := H) (w' := w') (by simpa using h) hg.size hg.os hg.tape hg.output (fun k hk _ => hg.block k hk (by simp))
    (by simpa using hC) (by simpa [fps] using hn) (by simpa [fps] using hm)
  simpa using this
theorem Holds.setRow {b : Nat} {vs us : List Value} {T : TypeId} (h : Holds w0 M H w) (hu : Upd (cells b vs T) (cells b us T) H H') : Holds w0 M H' (w.setRow b us.toArray) := by
  obtain ⟨F, h1, h2⟩ := hu.perm
  have hp := h.perm h1
  have hb : w.heap[b]? = some (.cells vs.toArray T (0, 0)) := hp.chunk (cells b vs T) (by simp)
  refine h.grown (b := some b) hu ⟨rfl, rfl, rfl, by simp, fun k _ hk => setRow_other w b k _ (fun e => hk (by rw [e]))⟩ (by simp [cells]) ?_ (by simp [cells]) ?_
  · exact setRow_heap w b _ _ T (0, 0) hb
  · intro k hk
    simp [cells] at hk
    subst hk
    have := (Array.getElem?_eq_some_iff.1 hb).1
    simp [cells]
    exact this
end change

section eff
variable {X : Cx} {Q : Post} {E : Env} {H H' : List Chunk} {ops : Array Oper} {rest : List Oper}
theorem vl_alloc {fE : Value → Env} {o : Oper} {T : TypeId} {z : Value} (ho : o.op = .alloc T) (hg : o.guard = none) (hd : DstF X E o.dst fE) (hz : ∀ w, (zeroValue T).run X.P w = .ok z w)
    (h : ∀ r, VL X ops rest Q (fE (.pointer (some ⟨r, 0, none⟩))) (cells r z.cells.toList T :: H)) : VL X ops (o :: rest) Q E H := by
  intro a w ha hw
  refine wpList_plain hg fun K hK => ?_
  unfold Oper.wp
  have : (execOp a.eval o).run X.P w = .ok (.value (.pointer (some ⟨w.heap.size, 0, none⟩))) (w.alloc (.cells z.cells T)) := by
    simp [execOp, ho, Instr.alloc, hz, newVar, newRow]
  rw [this]
  exact hK _ _ (h w.heap.size _ _ (ha.setF hd) (hw.alloc _ (by simp only [cells, Array.toArray_toList]; exact heap_alloc_new w _) rfl))
theorem vl_box {fE : Value → Env} {o : Oper} {T : TypeId} {x : Operand} {v : Value} (ho : o.op = .box T x) (hg : o.guard = none) (hd : DstF X E o.dst fE) (hx : E.ev x = some v)
    (h : ∀ r, VL X ops rest Q (fE (.pointer (some ⟨r, 0, none⟩))) (cells r v.cells.toList T :: H)) : VL X ops (o :: rest) Q E H := by
  intro a w ha hw
  refine wpList_plain hg fun K hK => ?_
  unfold Oper.wp
  have : (execOp a.eval o).run X.P w = .ok (.value (.pointer (some ⟨w.heap.size, 0, none⟩))) (w.alloc (.cells v.cells T)) := by
    simp [execOp, ho, ha.ev hx, Instr.box, newVar, newRow]
  rw [this]
  exact hK _ _ (h w.heap.size _ _ (ha.setF hd) (hw.alloc _ (by simp only [cells, Array.toArray_toList]; exact heap_alloc_new w _) rfl))
/-- The cells vs with us laid from place i on. -/
def laid (vs : List Value) (i : Nat) (us : List Value) : List Value := vs.take i ++ us ++ vs.drop (i + us.length)
theorem vl_store {fE : Value → Env} {o : Oper} {T U : TypeId} {x y : Operand} {b i : Nat} {vs : List Value} {v : Value} (ho : o.op = .store T x y) (hg : o.guard = none) (hd : DstF X E o.dst fE)
    (hx : E.ev x = some (.pointer (some ⟨b, i, none⟩))) (hy : E.ev y = some v) (hs : ∀ w, (sizeOf T).run X.P w = .ok v.cells.size w) (h1 : v.cells.toList.all (·.oneCell') = true)
    (hu : Upd (cells b vs U) (cells b (laid vs i v.cells.toList) U) H H') (hi : i + v.cells.toList.length ≤ vs.length) (h : VL X ops rest Q (fE undef) H') : VL X ops (o :: rest) Q E H := by
  intro a w ha hw
  refine wpList_plain hg fun K hK => ?_
  unfold Oper.wp
  obtain ⟨F, p1, p2⟩ := hu.perm
  have hb : w.heap[b]? = some (.cells vs.toArray U (0, 0)) := (hw.perm p1).chunk (cells b vs U) (by simp)
  have hst := run_storeCells_at X.P b i U v.cells.toList 0 vs.toArray w hb (by simpa using hi) (fun u hu => List.all_eq_true.1 h1 u hu)
  have : (execOp a.eval o).run X.P w = .ok .skip (w.setRow b (laid vs i v.cells.toList).toArray) := by
    simp only [Nat.add_zero] at hst
    simp [execOp, ho, ha.ev hx, ha.ev hy, Instr.storeAt, Instr.sureAddr, storeVar, hs, hst, laid]
  rw [this]
  exact hK _ _ (h _ _ (ha.setF hd) (hw.setRow hu))
theorem take_laid (l us : List Value) (i N : Nat) (h : i + us.length ≤ N) (hN : N ≤ l.length) : (l.take i ++ us ++ l.drop (i + us.length)).take N = laid (l.take N) i us := by
  unfold laid
  apply List.ext_getElem?
  intro j
  simp only [List.getElem?_take, List.getElem?_append, List.getElem?_drop, List.length_take, List.length_append]
  have e1 : min i l.length = i := by omega
  have e2 : min i (min N l.length) = i := by omega
  rw [e1, e2]
  by_cases c1 : j < i
  · simp only [if_pos (show j < i + us.length by omega), if_pos c1, if_pos (show j < N by omega)]
  · by_cases c2 : j < i + us.length
    · simp only [if_pos c2, if_neg c1, if_pos (show j < N by omega)]
    · simp only [if_neg c2]
      by_cases c3 : j < N
      · simp only [if_pos c3, if_pos (show i + us.length + (j - (i + us.length)) < N by omega)]
      · simp only [if_neg c3, if_neg (show ¬ i + us.length + (j - (i + us.length)) < N by omega)]
theorem own_store {w : World} {A : Option Addr} {n c : Nat} {e : TypeId} {sz i : Nat} {vs us : List Value} {P : Program} (h : w.ownsRow 0 e sz (.slice A n c) n vs) (hi : i + us.length ≤ vs.length) (h1 : us.all (·.oneCell') = true) (hne : us ≠ []) :
    ∃ w', (storeCells ((adr A).add i) us).run P w = .ok () w' ∧ w'.ownsRow 0 e sz (.slice A n c) n (laid vs i us) ∧ w.grownBy w' (Value.slice A n c).ownBlock := by
  rcases h.2 with ⟨he, h0⟩ | ⟨g, cap, cur, he, hb, hg, hnc, hcm, hcs, ht⟩
  · have hv : vs.length = 0 := by rw [h.1, h0]; simp
    have hu : us.length = 0 := by omega
    exact absurd (List.eq_nil_of_length_eq_zero hu) hne
  · simp only [Value.slice.injEq] at he
    obtain ⟨rfl, _, rfl⟩ := he
    have hlen : vs.length = n * sz := h.1
    have hle : n * sz ≤ cur.size := by rw [hcs]; exact Nat.mul_le_mul_right _ hnc
    have hfit : i + us.length ≤ cur.size := by omega
    have hst := run_storeCells_at P g i e us 0 cur w hg (by simpa using hfit) (fun u hu => List.all_eq_true.1 h1 u hu)
    simp only [Nat.add_zero] at hst
    refine ⟨w.setRow g (cur.toList.take i ++ us ++ cur.toList.drop (i + us.length)).toArray, ?_, ⟨?_, .inr ⟨g, c, _, rfl, hb, setRow_heap w g cur _ e _ hg, hnc, hcm, ?_, ?_⟩⟩, ⟨rfl, rfl, rfl, by simp, fun k _ hk => setRow_other w g k _ (fun e => hk (by simp [Value.ownBlock, e]))⟩⟩
    · simpa [adr, Addr.add_lit] using hst
    · simp only [laid, List.length_append, List.length_take, List.length_drop]; omega
    · simp only [List.size_toArray, List.length_append, List.length_take, List.length_drop, Array.length_toList]; omega
    · rw [← ht]
      exact take_laid cur.toList us i (n * sz) (by omega) (by simpa using hle)
theorem vl_storeSl {fE : Value → Env} {o : Oper} {T e : TypeId} {x y : Operand} {A : Option Addr} {n c sz i : Nat} {vs : List Value} {v : Value} (ho : o.op = .store T x y) (hg : o.guard = none) (hd : DstF X E o.dst fE)
    (hx : E.ev x = some (.pointer (some ((adr A).add i)))) (hy : E.ev y = some v) (hs : ∀ w, (sizeOf T).run X.P w = .ok v.cells.size w) (h1 : v.cells.toList.all (·.oneCell') = true) (hne : v.cells.toList ≠ [])
    (hu : Upd (sl A n c e sz vs) (sl A n c e sz (laid vs i v.cells.toList)) H H') (hi : i + v.cells.toList.length ≤ vs.length) (h : VL X ops rest Q (fE undef) H') : VL X ops (o :: rest) Q E H := by
  intro a w ha hw
  refine wpList_plain hg fun K hK => ?_
  unfold Oper.wp
  obtain ⟨F, p1, p2⟩ := hu.perm
  have hb : w.ownsRow 0 e sz (.slice A n c) n vs := (hw.perm p1).chunk (sl A n c e sz vs) (by simp)
  obtain ⟨w', hr, ho', hgr⟩ := own_store (P := X.P) hb hi h1 hne
  have : (execOp a.eval o).run X.P w = .ok .skip w' := by
    simp [execOp, ho, ha.ev hx, ha.ev hy, Instr.storeAt, Instr.sureAddr, storeVar, hs, hr]
  rw [this]
  refine hK _ _ (h _ _ (ha.setF hd) (hw.grown hu hgr ?_ ho' ?_ ?_))
  · intro k hk; cases A <;> simp_all [Value.ownBlock, sl, ownFp]
  · cases A <;> simp [sl, ownFp]
  · intro b hb'
    refine ⟨?_, .inl hb'⟩
    have := (hw.perm p1).mine b (by simp [fps]; exact .inl hb')
    exact Nat.lt_of_lt_of_le this.1 hgr.size
/-- What is known of a slice type: elements e of sz cells and by bytes, zero z. -/
structure SlT (P : Program) (T e : TypeId) (sz by_ : Nat) (z : Value) : Prop where
  u : P.underlying T = some (.slice e)
  i : ∃ i, P.info? e = some i ∧ i.zero = some z ∧ i.size = sz ∧ i.bytes = by_
  zs : z.cells.size = sz
  pos : 0 < sz
theorem vl_append {F : List Chunk} {fE : Value → Env} {o : Oper} {T e : TypeId} {x y : Operand} {A B : Option Addr} {n c m c' sz by_ : Nat} {z : Value} {vs us : List Value} (ht : SlT X.P T e sz by_ z)
    (ho : o.op = .call { callee := .builtin .append, args := #[x, y], argTypes := #[T, T] }) (hg : o.guard = none) (hd : DstF X E o.dst fE)
    (hx : E.ev x = some (.slice A n c)) (hy : E.ev y = some (.slice B m c')) (hr : Rd X H B us) (hl : us.length = m * sz) (h1 : us.all (·.oneCell') = true)
    (hb : (n + m) * by_ ≤ 140737488355328) (hb2 : n + m < 9223372036854775808)
    (hin : Take (sl A n c e sz vs) H F) (h : ∀ A' k, VL X ops rest Q (fE (.slice A' (n + m) k)) (sl A' (n + m) k e sz (vs ++ us) :: F)) : VL X ops (o :: rest) Q E H := by
  intro a w ha hw
  refine wpList_plain hg fun K hK => ?_
  have hp := hw.perm hin.perm
  have hown : w.ownsRow 0 e sz (.slice A n c) n vs := hp.chunk (sl A n c e sz vs) (by simp)
  obtain ⟨i, hi, hz, hsz, hby⟩ := ht.i
  have finish : ∀ v' w', (Builtin.append_ #[T, T] o.type #[.slice A n c, .slice B m c']).run X.P w = .ok v' w' → w'.ownsRow 0 e sz v' (n + m) (vs ++ us) → w.grownBy w' (Value.slice A n c).ownBlock →
      (∀ k, v'.ownBlock = some k → (Value.slice A n c).ownBlock = some k ∨ w.heap.size ≤ k) → o.wp X.P a w K (lift X Q) := by
    intro v' w' hrun hown' hgr hfresh
    unfold Oper.wp execOp
    simp only [ho, resolve, invoke, builtin, Sem.run_bind, Sem.run_pure, Result.andThen_ok, List.map_toArray, List.map_cons, List.map_nil, ha.ev hx, ha.ev hy, hrun]
    obtain ⟨A', k, rfl⟩ : ∃ A' k, v' = .slice A' (n + m) k := by
      rcases hown'.2 with ⟨he, h0⟩ | ⟨g, cap, cur, he, _⟩
      · exact ⟨none, 0, by rw [he, h0]⟩
      · exact ⟨_, cap, he⟩
    refine hK _ _ (h A' k _ _ (ha.setF hd) (hp.grown (.head (c' := sl A' (n + m) k e sz (vs ++ us))) hgr ?_ hown' ?_ ?_))
    · intro k hk; cases A <;> simp_all [Value.ownBlock, sl, ownFp]
    · cases A' <;> simp [sl, ownFp]
    · intro b hb'
      cases A' with
      | none => simp [sl, ownFp] at hb'
      | some x =>
        simp [sl, ownFp] at hb'
        subst hb'
        refine ⟨(hown'.lt x.block (by simp [Value.ownBlock])).2, ?_⟩
        rcases hfresh x.block (by simp [Value.ownBlock]) with h | h
        · left; cases A <;> simp_all [Value.ownBlock, sl, ownFp]
        · exact .inr h
  cases B with
  | none =>
    have hu0 : us = [] := by
      rcases us with _ | ⟨u, us⟩
      · rfl
      · obtain ⟨x, hx', _⟩ := hr w hw 0 u (by simp); cases hx'
    subst hu0
    have hm0 : m = 0 := by
      have hp := ht.pos
      have hl' : m * sz = 0 := by simpa using hl.symm
      rcases Nat.mul_eq_zero.1 hl' with h | h
      · exact h
      · omega
    subst hm0
    have hrun : (Builtin.append_ #[T, T] o.type #[.slice A n c, .slice none 0 c']).run X.P w = .ok (.slice A n c) w := by
      rcases hown.2 with ⟨he, h0⟩ | ⟨g, cap, cur, he, _, _, hnc, _⟩
      · simp only [Value.slice.injEq] at he
        obtain ⟨rfl, rfl, rfl⟩ := he
        simp [Builtin.append_, run_underlying ht.u, sizeOf, typeInfo, hi, Builtin.lenOf, Builtin.firstCells]
      · simp only [Value.slice.injEq] at he
        obtain ⟨rfl, _, rfl⟩ := he
        simp [Builtin.append_, run_underlying ht.u, sizeOf, typeInfo, hi, Builtin.lenOf, Builtin.firstCells, hnc, storeCells]
    exact finish _ _ hrun (by simpa using hown) ⟨rfl, rfl, rfl, Nat.le_refl _, fun _ _ _ => rfl⟩ (fun k hk => .inl hk)
  | some bb =>
    have hnews : ∀ j u, us[j]? = some u → w.cell? (bb.add j) = some u := fun j u hu => by
      obtain ⟨x, hx', hc⟩ := hr w hw j u hu
      cases hx'; exact hc
    obtain ⟨v', w', hrun, hown', hgr, hnil⟩ := run_append_own (P := X.P) w 0 T o.type e i z sz by_ ht.u hi hz hsz hby ht.zs ht.pos (.slice A n c) n vs hown bb m c' us hl hnews (fun u hu => List.all_eq_true.1 h1 u hu)
      (by unfold maxLen; omega) hb (Nat.zero_le _)
    refine finish v' w' hrun hown' hgr (fun k hk => ?_)
    -- the block of the result: the old one, or a new one
    rcases hown.2 with ⟨he, h0⟩ | ⟨g, cap, cur, he, hbg, hgg, hnc, hcm, hcs, htk⟩
    · right
      simp only [Value.slice.injEq] at he
      obtain ⟨rfl, rfl, rfl⟩ := he
      have hlt := hown'.lt k hk
      rcases Nat.lt_or_ge k w.heap.size with hlt' | hge
      · exfalso
        rcases Nat.eq_zero_or_pos m with hm | hm
        · subst hm
          have := (hnil.2 ⟨rfl, rfl⟩)
          rw [this] at hk
          simp [Value.ownBlock] at hk
        · have hx0 : vs = [] := List.eq_nil_of_length_eq_zero (by simpa using hown.1)
          subst hx0
          have hr0 := run_append_nil (P := X.P) w T o.type e i z ht.u hi hz bb m c' us (by rw [hsz]; exact hl) hnews (by omega) (by omega) (by rw [hby]; rw [Nat.zero_add] at hb; omega)
          rw [hr0] at hrun
          simp only [Result.ok.injEq] at hrun
          rw [← hrun.1] at hk
          simp [Value.ownBlock] at hk
          omega
      · exact hge
    · simp only [Value.slice.injEq] at he
      obtain ⟨rfl, _, rfl⟩ := he
      by_cases hroom : n + m ≤ c
      · have hfit : n * i.size + us.length ≤ cur.size := by rw [hl, hcs, hsz, ← Nat.add_mul]; exact Nat.mul_le_mul_right _ hroom
        have hr0 := run_append_room (P := X.P) w T o.type e i ht.u hi g n c cur hgg bb m c' us (by rw [hsz]; exact hl) hnews (fun u hu => List.all_eq_true.1 h1 u hu) hroom hfit
        rw [hr0] at hrun
        simp only [Result.ok.injEq] at hrun
        rw [← hrun.1] at hk
        left
        simpa [Value.ownBlock] using hk
      · have holds : ∀ j u, vs[j]? = some u → w.cell? ((⟨g, 0, none⟩ : Addr).add j) = some u := hown.cells (g := g) rfl
        have hr0 := run_append_grow (P := X.P) w T o.type e i z ht.u hi hz ⟨g, 0, none⟩ n c vs (by rw [hsz]; exact hown.1) holds bb m c' us (by rw [hsz]; exact hl) hnews (by omega) (by omega) (growslice_fits (by omega) (by rw [hby]; exact hb))
        rw [hr0] at hrun
        simp only [Result.ok.injEq] at hrun
        rw [← hrun.1] at hk
        right
        simp [Value.ownBlock] at hk
        omega
end eff
end Go.Proofs.Ytdehjgpdcdjhjaa.K
