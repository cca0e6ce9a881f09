/- A framework of our own for walks over the model: Kq. -/
import Derived.Test.YtdehjgpdcdjhjaaKo
namespace Go.Proofs.Ytdehjgpdcdjhjaa.K
open Go Go.RowKit
set_option linter.unusedVariables false
set_option linter.unusedSimpArgs false
/-- The walk in that order. H0: what holds all along, till the tail. -/
def VD2 (X : Cx) (ops : Array Oper) (S T : List Nat) (Q : Post) (C0 : World → Prop) : List Nat → Env → List Chunk → Prop
  | [], E, H => ∃ E0 : Env, (∀ t u, E0.get t = some u → E.get t = some u) ∧ Q .normal E0 H
  | i :: rest, E, H => ∃ o, ops[i]? = some o ∧
    if S.contains i then ∃ v fE, DstF X E o.dst fE ∧ (∀ a, Ok X E a → YieldsC X.P ops C0 o v a) ∧ VD2 X ops S T Q C0 rest (fE v) H
    else VL X ops [o] (Post.seq (fun E' H' => (T.contains i = false → ∀ w', Holds X.w0 X.M H' w' → C0 w') ∧ VD2 X ops S T Q C0 rest E' H') Q) E H
section
variable {X : Cx} {Q : Post} {E : Env} {H : List Chunk} {C0 : World → Prop} {ops : Array Oper} {S T : List Nat}
theorem VD2.sound (hsel : Region.noSelect ops = true) (hQ : ∀ ch E H, Q (.panic ch) E H → Q (.panic ch) [] H) : ∀ (ord : List Nat) (listed : Array Bool) (E : Env) (H : List Chunk), VD2 X ops S T Q C0 ord E H → canB ops S T ord listed = true →
    ∀ a w, Ok X E a → Holds X.w0 X.M H w → (C0 w ∨ ord.all (fun i => !S.contains i) = true) → wpAnyC X.P ops (lift X Q) C0 T ord.length listed a w
  | [], listed, E, H, h, hB, a, w, ha, hw, _ => by
    obtain ⟨E0, h1, h2⟩ := h
    exact ⟨by simpa [canB] using hB, E0, H, ha.sub h1, hw, h2⟩
  | i :: rest, listed, E, H, h, hB, a, w, ha, hw, hC => by
    obtain ⟨o, ho, h⟩ := h
    simp only [canB, Bool.and_eq_true] at hB
    obtain ⟨hB1, hB2⟩ := hB
    by_cases hS : S.contains i = true
    · rw [if_pos hS] at h hB1
      obtain ⟨v, fE, hd, hy, h⟩ := h
      have hC0 : C0 w := by
        rcases hC with h | h
        · exact h
        · simp [hS] at h; simp [h] at hS
      simp only [Bool.and_eq_true] at hB1
      obtain ⟨⟨hr, hf⟩, hT⟩ := hB1
      refine wpAnyC_first ho (Region.noSelect_spec hsel) (fun ch a' w' hq => ?_) rest.length listed a w hC0 (fun j oj hj hne hun hno => ⟨Region.free_spec ho hf j oj hj hne hun hno, ?_⟩) (by simpa using hr) (hy a ha)
        (VD2.sound hsel hQ rest _ _ _ h hB2 _ w (ha.setF hd) hw (.inl hC0))
      · obtain ⟨E', H', h1, h2, h3⟩ := hq
        refine ⟨[], H', ⟨?_, ?_, by intro t v h; simp [Env.get] at h⟩, h2, hQ _ _ _ h3⟩
        · have := h1.size; cases hd' : o.dst <;> simp_all [Act.put]
        · have := h1.defers; cases hd' : o.dst <;> simp_all [Act.put]
      · have h1 := (List.all_eq_true.1 hT) j (List.mem_range.2 (Array.getElem?_eq_some_iff.1 hj).1)
        simp only [Bool.or_eq_true, beq_iff_eq, hj] at h1
        rcases h1 with ((h1 | h1) | h1) | h1
        · exact absurd h1 hne
        · rw [hun] at h1; cases h1
        · simpa using h1
        · obtain ⟨e, he, hb⟩ := Array.any_eq_true'.1 h1
          simp only [Bool.and_eq_true, beq_iff_eq] at hb
          exact absurd hb.2 (hno e he hb.1)
    · rw [if_neg hS] at h hB1
      simp only [Bool.and_eq_true, Bool.or_eq_true, decide_eq_true_eq] at hB1
      obtain ⟨hr, hTr⟩ := hB1
      refine ⟨fun h0 => (by rw [hr] at h0; cases h0), fun j hj => ?_⟩
      rw [hr] at hj
      obtain rfl : j = i := by simpa using hj
      have h1 := h a w ha hw
      have hall : rest.all (fun i => !S.contains i) = true ∨ T.contains j = false := by
        by_cases hTj : T.contains j = true
        · left
          rcases hTr with h | h
          · rw [hTj] at h; simp at h
          · exact h
        · exact .inr (by simpa using hTj)
      unfold wpOp
      simp only [ho]
      unfold wpList at h1
      have conv : ∀ a' w', wpList X.P ops (lift X (Post.seq (fun E' H' => (T.contains j = false → ∀ w', Holds X.w0 X.M H' w' → C0 w') ∧ VD2 X ops S T Q C0 rest E' H') Q)) [] a' w' →
          (T.contains j = false → C0 w') ∧ wpAnyC X.P ops (lift X Q) C0 T rest.length (listed.setIfInBounds j true) a' w' := by
        intro a' w' hh
        obtain ⟨E', H', h1, h2, h3⟩ := hh
        obtain ⟨h4, h5⟩ := h3
        have h6 : T.contains j = false → C0 w' := fun hT => by exact h4 hT _ h2
        refine ⟨h6, VD2.sound hsel hQ rest _ _ _ h5 hB2 a' w' h1 h2 ?_⟩
        rcases hall with h | h
        · exact .inr h
        · exact .inl (h6 h)
      split
      · rename_i hw'
        rw [if_pos hw'] at h1
        rcases h1 with h1 | ⟨h1, h2⟩
        · left
          exact wp_mono2 conv (fun ch a w hq => hq) (fun hq => hq) h1
        · exact .inr ⟨h1, h2⟩
      · rename_i hw'
        rw [if_neg hw'] at h1
        exact conv _ _ h1
theorem vc_draws2 {id : Nat} {l : List Oper} (S T ord : List Nat) (C0 : World → Prop) (hc : ∀ w, Holds X.w0 X.M H w → C0 w) (hm : X.P.follows .mixedOrders = true) (hB : orderB l.toArray S T ord = true) (hQ : ∀ ch E H, Q (.panic ch) E H → Q (.panic ch) [] H)
    (h : VD2 X l.toArray S T Q C0 ord E H) : VC X (.region id l.toArray true) Q E H := by
  intro a w ha hw
  simp only [orderB, Bool.and_eq_true, decide_eq_true_eq] at hB
  have hw' : Holds X.w0 X.M H { w with drawn := w.drawn + 1 } := hw.drewn rfl rfl rfl rfl
  have h1 := VD2.sound hB.1.1 hQ ord _ E H h hB.2 a _ ha hw' (.inl (hc _ hw'))
  rw [hB.1.2] at h1
  exact wp_region_any hm (wpAny_of_C _ _ _ _ h1)
theorem vd2_nil (h : Q .normal E H) : VD2 X ops S T Q C0 [] E H := ⟨E, fun _ _ h => h, h⟩
/-- Two states between which the region goes: what is read is alike in both. -/
theorem vd2_val {H1 H2 : List Chunk} {fE : Value → Env} {o : Oper} {i : Nat} {rest : List Nat} {v : Value} (ho : ops[i]? = some o) (hS : S.contains i = true) (hg : o.guard = none) (hd : DstF X E o.dst fE) (hv : Val X E H1 o.op o.type v) (hv2 : Val X E H2 o.op o.type v)
    (h : VD2 X ops S T Q (fun w => Holds X.w0 X.M H1 w ∨ Holds X.w0 X.M H2 w) rest (fE v) H) : VD2 X ops S T Q (fun w => Holds X.w0 X.M H1 w ∨ Holds X.w0 X.M H2 w) (i :: rest) E H :=
  ⟨o, ho, by rw [if_pos hS]; exact ⟨v, fE, hd, fun a ha => .inl ⟨by simp [Region.wanted, hg], fun w hw => by rcases hw with hw | hw; exact hv a w o rfl rfl ha hw; exact hv2 a w o rfl rfl ha hw⟩, h⟩⟩
theorem vd2_op {o : Oper} {i : Nat} {rest : List Nat} (ho : ops[i]? = some o) (hS : S.contains i = false) (h : VL X ops [o] (Post.seq (fun E' H' => (T.contains i = false → ∀ w', Holds X.w0 X.M H' w' → C0 w') ∧ VD2 X ops S T Q C0 rest E' H') Q) E H) : VD2 X ops S T Q C0 (i :: rest) E H :=
  ⟨o, ho, by rw [if_neg (by simp only [hS]; decide)]; exact h⟩
end

/-! An entry of a map, asked for and then written -/
section entry
variable {κ : Type} [DecidableEq κ] {P : Program} {mt kt et : TypeId} {key : κ → Value} {z : Value}
variable {X : Cx} {E : Env} {H H' : List Chunk} {Q : Post} {ops : Array Oper} {rest : List Oper}
theorem modify_same {es : Array MapEntry} {i : Nat} {k : Value} (h : ∀ e, es[i]? = some e → e.key = k) : (es.modify i fun e => { e with key := k }) = es := by
  apply Array.ext
  · simp
  · intro j h1 h2
    rw [Array.getElem_modify]
    split
    · rename_i e
      subst e
      have hh := h es[i] (Array.getElem?_eq_getElem h2)
      generalize es[i] = e at hh ⊢
      cases e
      simp only at hh
      rw [hh]
    · rfl
/-- Where a key is found, there it stands. -/
theorem kfind_at {x : κ} : ∀ (ks : List κ) (vs : List Value) (i : Nat) (p : Nat × Value), kfind x ks vs i = some p → i ≤ p.1 ∧ ks[p.1 - i]? = some x ∧ vs[p.1 - i]? = some p.2
  | [], _, _, _, h => by simp [kfind] at h
  | _ :: _, [], _, _, h => by simp [kfind] at h
  | k :: ks, v :: vs, i, p, h => by
    unfold kfind at h
    split at h
    · rename_i e
      cases h
      simp [e]
    · obtain ⟨h1, h2, h3⟩ := kfind_at ks vs (i + 1) p h
      have e : p.1 - i = (p.1 - (i + 1)) + 1 := by omega
      exact ⟨by omega, by rw [e]; simpa using h2, by rw [e]; simpa using h3⟩
/-- The map with an entry for x. -/
def kmore (x : κ) (ks : List κ) (vs : List Value) : List κ := if (kfind x ks vs 0).isSome then ks else ks ++ [x]
def vmore (x : κ) (ks : List κ) (vs : List Value) (z : Value) : List Value := if (kfind x ks vs 0).isSome then vs else vs ++ [z]
def kpos (x : κ) (ks : List κ) (vs : List Value) : Nat := match kfind x ks vs 0 with | some p => p.1 | none => ks.length
theorem vl_mapEntry {fE : Value → Env} {o : Oper} {a : Nat} {x y : Operand} {k : κ} {ks : List κ} {vs : List Value} (K : KeyT X.P mt kt et key z) (ho : o.op = .mapEntry mt x y) (hg : o.guard = none) (hd : DstF X E o.dst fE)
    (hx : E.ev x = some (.map (some a))) (hy : E.ev y = some (key k)) (hm : Upd (mp key a ks vs) (mp key a (kmore k ks vs) (vmore k ks vs z)) H H')
    (h : VL X ops rest Q (fE (.tuple #[kval k ks vs z, .int .i64 (kpos k ks vs : Nat)])) H') : VL X ops (o :: rest) Q E H := by
  intro ac w ha hw
  refine wpList_plain hg fun K' hK => ?_
  unfold Oper.wp
  obtain ⟨F, p1, p2⟩ := hm.perm
  obtain ⟨es, h1, h2, h3, h4⟩ := (hw.perm p1).chunk (mp key a ks vs) (by simp)
  have hf := findKey_run K k w es.toList ks h2
  rw [h3] at hf
  cases hk : kfind k ks vs 0 with
  | none =>
    rw [hk] at hf
    have hsz : es.size = ks.length := by have := congrArg List.length h2; simpa using this
    have : (execOp ac.eval o).run X.P w = .ok (.value (.tuple #[kval k ks vs z, .int .i64 (kpos k ks vs : Nat)])) { w with heap := w.heap.setIfInBounds a (.map (es.push { key := key k, val := z, born := es.size }) (es.push { key := key k, val := z, born := es.size }).size) } := by
      simp [execOp, ho, ha.ev hx, ha.ev hy, Instr.mapEntry, K.u, K.z, MapKept.run_getObj_map h1, K.chk, hf, MapKept.run_setObj_map _ h1, kval, kpos, hk, goInt, hsz]
    rw [this]
    refine hK _ _ (h _ _ (ha.setF hd) (hw.setMap hm ?_ ?_ ?_))
    · simp [kmore, hk, h2]
    · simp [vmore, hk, h3]
    · simp [h4, List.range_succ]
  | some p =>
    rw [hk] at hf
    obtain ⟨_, q2, q3⟩ := kfind_at ks vs 0 p hk
    simp only [Nat.sub_zero] at q2 q3
    have hb : ∃ e, es[p.1]? = some e ∧ e.key = key k ∧ e.born = p.1 := by
      have hlt : p.1 < es.size := by
        have := congrArg List.length h3
        have h5 := (List.getElem?_eq_some_iff.1 q3).1
        simp at this
        omega
      refine ⟨es[p.1], Array.getElem?_eq_getElem hlt, ?_, ?_⟩
      · have := congrArg (·[p.1]?) h2
        simp [q2, hlt] at this
        exact this
      · have := congrArg (·[p.1]?) h4
        simp [hlt] at this
        exact this
    obtain ⟨e, e1, e2, e3⟩ := hb
    have hmod : (es.modify p.1 fun e => { e with key := key k }) = es := modify_same fun e' he' => by rw [e1] at he'; cases he'; exact e2
    have hkk : (Instr.keyThatStays (key k) (key k)).run X.P w = .ok (key k) w := by simp [Instr.keyThatStays, K.same]
    have : (execOp ac.eval o).run X.P w = .ok (.value (.tuple #[kval k ks vs z, .int .i64 (kpos k ks vs : Nat)])) { w with heap := w.heap.setIfInBounds a (.map es es.size) } := by
      simp [execOp, ho, ha.ev hx, ha.ev hy, Instr.mapEntry, K.u, MapKept.run_getObj_map h1, K.chk, hf, MapKept.run_setObj_map _ h1, kval, kpos, hk, goInt, e1, e2, e3, hkk, hmod]
    rw [this]
    refine hK _ _ (h _ _ (ha.setF hd) (hw.setMap hm ?_ ?_ h4))
    · simp [kmore, hk, h2]
    · simp [vmore, hk, h3]
omit [DecidableEq κ] in
theorem vl_entryStore {fE : Value → Env} {o : Oper} {a : Nat} {x y v : Operand} {ks : List κ} {vs : List Value} {i : Nat} {u : Value} (ho : o.op = .entryStore mt x y v) (hg : o.guard = none) (hd : DstF X E o.dst fE)
    (hx : E.ev x = some (.map (some a))) (hy : E.ev y = some (.int .i64 (i : Int))) (hv : E.ev v = some u) (hi : i < vs.length) (hm : Upd (mp key a ks vs) (mp key a ks (vs.set i u)) H H')
    (h : VL X ops rest Q (fE undef) H') : VL X ops (o :: rest) Q E H := by
  intro ac w ha hw
  refine wpList_plain hg fun K' hK => ?_
  unfold Oper.wp
  obtain ⟨F, p1, p2⟩ := hm.perm
  obtain ⟨es, h1, h2, h3, h4⟩ := (hw.perm p1).chunk (mp key a ks vs) (by simp)
  have hsz : i < es.size := by have := congrArg List.length h3; simp at this; omega
  have hfi : es.findIdx? (fun e => (e.born : Int) == (i : Int)) = some i := by
    rw [Array.findIdx?_eq_some_iff_getElem]
    refine ⟨hsz, ?_, fun j hj => ?_⟩
    · have := congrArg (·[i]?) h4
      simp [hsz] at this
      simp [this]
    · have hj' : j < es.size := by omega
      have := congrArg (·[j]?) h4
      simp [hj'] at this
      simp [this]
      omega
  have : (execOp ac.eval o).run X.P w = .ok .skip { w with heap := w.heap.setIfInBounds a (.map (es.modify i fun e => { e with val := u }) (es.modify i fun e => { e with val := u }).size) } := by
    simp [execOp, ho, ha.ev hx, ha.ev hy, ha.ev hv, Instr.entryStore, MapKept.run_getObj_map h1, hfi, MapKept.run_setObj_map _ h1, asInt, asIntOf]
  rw [this]
  refine hK _ _ (h _ _ (ha.setF hd) (hw.setMap hm ?_ ?_ ?_))
  · rw [← h2]
    apply List.ext_getElem
    · simp
    · intro j h5 h6
      simp only [List.getElem_map, Array.getElem_toList, Array.getElem_modify]
      split <;> rfl
  · rw [← h3]
    apply List.ext_getElem
    · simp
    · intro j h5 h6
      simp only [List.getElem_map, Array.getElem_toList, Array.getElem_modify, List.getElem_set]
      split <;> rfl
  · rw [Array.size_modify, ← h4]
    apply List.ext_getElem
    · simp
    · intro j h5 h6
      simp only [List.getElem_map, Array.getElem_toList, Array.getElem_modify]
      split <;> rfl
end entry
end Go.Proofs.Ytdehjgpdcdjhjaa.K
