/- A framework of our own for walks over the model: Mo. -/
import Derived.Test.YtdehjgpdcdjhjaaKz
import Derived.Test.YtdehjgpdcdjhjaaMj
namespace Go.Proofs.Ytdehjgpdcdjhjaa.K
open Go Go.RowKit
set_option linter.unusedVariables false
set_option linter.unusedSimpArgs false
/-! ### What a law's input bears, with its weight -/
structure OpensW (P : Program) (t : TypeId) {α : Type} (cells : α → List Value) (good : World → α → Prop) : Prop where
  opn : ∀ {H : Type} {enc : TypeId × Value → H} {w : World} {base : Nat} {sp : Nat → Bool} {held : Bool} {fuel : Nat} {cs : List Value} {x : DataW H × List MemPlace}, DataW.trod enc P w base sp held fuel t cs = some x → (∀ n ∈ x.1.weights P t, n ≤ reachBytes) → ∃ a, cs = cells a ∧ good w a
  len : ∀ a, (cells a).length = P.cellsOf t
section
variable {P : Program} {t e : TypeId}
theorem openw_i64 (hu : P.underlying t = some (.int .i64)) (hc : P.cellsOf t = 1) : OpensW P t (fun n : Int => [.int .i64 n]) (fun _ n => -9223372036854775808 ≤ n ∧ n < 9223372036854775808) :=
  ⟨fun h hwt => by
    obtain ⟨n, rfl, _, hw⟩ := DataW.trod_int hu h
    refine ⟨n, rfl, ?_⟩
    simp [Lit.wf, IntKind.min, IntKind.max, IntKind.signed, IntKind.bits] at hw; omega, fun _ => hc.symm⟩
theorem openw_str (hu : P.underlying t = some .string) (hc : P.cellsOf t = 1) : OpensW P t (fun s : ByteArray => [.string s]) (fun _ s => s.size ≤ 140737488351232) :=
  ⟨fun h hwt => by obtain ⟨s, rfl, rfl, _⟩ := DataW.trod_string hu h; exact ⟨s, rfl, by have := hwt s.data.toList.length (by simp [DataW.weights]); rw [Array.length_toList] at this; exact this⟩, fun _ => hc.symm⟩
theorem weights_all {H : Type} {P : Program} {e : TypeId} {d : DataW H} {n : Nat} (hn : n ∈ d.weights P e) : ∀ {l : List (DataW H)}, d ∈ l → n ∈ DataW.weightsAll P e l
  | x :: l, h => by
    simp only [DataW.weightsAll, List.mem_append]
    rcases List.mem_cons.1 h with rfl | h
    · exact .inl hn
    · exact .inr (weights_all hn h)
theorem openw_slice {α : Type} {B : Nat} {cells : α → List Value} {good : World → α → Prop} (hu : P.underlying t = some (.slice e)) (hB : P.bytesOf e = B) (hc : P.cellsOf t = 1) (h : OpensW P e cells good) :
    OpensW P t (fun s : Sl α => [.slice s.A s.l.length s.c]) (fun w s => Reads w s.A (s.l.flatMap cells) ∧ s.l.length ≤ s.c ∧ s.l.length * B ≤ 140737488351232 ∧ ∀ a ∈ s.l, good w a) := by
  refine ⟨fun {H enc w base sp held fuel cs x} ht hwt => ?_, fun _ => hc.symm⟩
  rcases DataW.trod_slice hu ht with ⟨rfl, _⟩ | ⟨a, len, cap, elems, rest, m, rfl, rfl, rfl, _, hlc, hcm, hlen, hel, _⟩
  · exact ⟨⟨none, 0, []⟩, rfl, fun j u hj => by simp at hj, by simp, by simp, by simp⟩
  · have key : ∀ i, i < len → ∃ p : α, (∀ j u, (cells p)[j]? = some u → w.cell? (a.add (i * P.cellsOf e + j)) = some u) ∧ good w p := by
      intro i hi
      have hE := hel i hi
      have : elems[i]? = some (elems[i]'(by rw [hlen]; exact hi)) := List.getElem?_eq_getElem _
      rw [this, Option.bind_eq_some_iff] at hE
      obtain ⟨c1, hc1, hy1⟩ := hE
      obtain ⟨p, rfl, hg⟩ := h.opn hy1 (fun n hn => hwt n (by
        simp only [DataW.weights, hu, List.mem_cons, List.mem_append]
        exact .inr (.inl (weights_all hn (List.mem_map.2 ⟨_, List.getElem_mem _, rfl⟩)))))
      refine ⟨p, fun j u hj => ?_, hg⟩
      have hjm : j < P.cellsOf e := by rw [← h.len p]; exact (List.getElem?_eq_some_iff.1 hj).1
      rw [← Addr.add_add, cells_at hc1 j hjm]
      exact hj
    have build : ∀ n, n ≤ len → ∃ l : List α, l.length = n ∧ Reads w (some a) (l.flatMap cells) ∧ ∀ p ∈ l, good w p := by
      intro n
      induction n with
      | zero => exact fun _ => ⟨[], rfl, fun j u hj => by simp at hj, by simp⟩
      | succ n ih =>
        intro hn
        obtain ⟨l, h1, h2, h3⟩ := ih (by omega)
        obtain ⟨p, hp, hw⟩ := key n (by omega)
        have hfl := flat_length h.len l
        refine ⟨l ++ [p], by simp [h1], fun j u hj => ?_, fun q hq => ?_⟩
        · rw [List.flatMap_append, List.flatMap_cons, List.flatMap_nil, List.append_nil] at hj
          by_cases hlt : j < l.length * P.cellsOf e
          · rw [List.getElem?_append_left (by rw [hfl]; exact hlt)] at hj
            exact h2 j u hj
          · rw [List.getElem?_append_right (by rw [hfl]; omega), hfl] at hj
            refine ⟨a, rfl, ?_⟩
            have := hp _ u hj
            rw [h1] at this hlt
            rw [show n * P.cellsOf e + (j - n * P.cellsOf e) = j by omega] at this
            exact this
        · rcases List.mem_append.1 hq with hq | hq
          · exact h3 q hq
          · rw [List.mem_singleton.1 hq]; exact hw
    obtain ⟨l, h1, h2, h3⟩ := build len (Nat.le_refl _)
    exact ⟨⟨some a, cap, l⟩, by rw [h1], h2, by rw [h1]; exact hlc, by
      have hz := hwt ((elems.length + rest.length) * P.bytesOf e) (by simp [DataW.weights, hu])
      rw [hB] at hz
      show l.length * B ≤ reachBytes
      rw [h1, ← hlen]
      exact Nat.le_trans (Nat.mul_le_mul_right _ (Nat.le_add_right _ _)) hz, h3⟩
/-- The fields of a struct, from place o on. -/
structure OpensFW (P : Program) (fs : List Field) (o tot : Nat) {α : Type} (cells : α → List Value) (good : World → α → Prop) : Prop where
  opn : ∀ {H : Type} {enc : TypeId × Value → H} {w : World} {base : Nat} {sp : Nat → Bool} {held : Bool} {fuel : Nat} {cs : List Value}, cs.length = tot → (∀ f ∈ fs, ∃ y, DataW.trod enc P w base sp held fuel f.type ((cs.drop f.offset).take (P.cellsOf f.type)) = some y ∧ ∀ n ∈ y.1.weights P f.type, n ≤ reachBytes) → ∃ a, cs.drop o = cells a ∧ good w a
  len : ∀ a, o + (cells a).length = tot
theorem openwF_nil {o : Nat} : OpensFW P [] o o (fun _ : Unit => []) (fun _ _ => True) := ⟨fun h _ => ⟨(), List.drop_of_length_le (by omega), trivial⟩, fun _ => rfl⟩
theorem openwF_cons {α β : Type} {f : Field} {fs : List Field} {o tot : Nat} {c1 : α → List Value} {g1 : World → α → Prop} {c2 : β → List Value} {g2 : World → β → Prop} (ho : f.offset = o) (h1 : OpensW P f.type c1 g1) (h2 : OpensFW P fs (o + P.cellsOf f.type) tot c2 g2) :
    OpensFW P (f :: fs) o tot (fun p : α × β => c1 p.1 ++ c2 p.2) (fun w p => g1 w p.1 ∧ g2 w p.2) := by
  refine ⟨fun {H enc w base sp held fuel cs} hl hf => ?_, fun p => ?_⟩
  · obtain ⟨y, hy, hwy⟩ := hf f (by simp)
    obtain ⟨a, ha, hg⟩ := h1.opn hy hwy
    obtain ⟨b, hb, hgb⟩ := h2.opn hl (fun f' hf' => hf f' (by simp [hf']))
    refine ⟨(a, b), ?_, hg, hgb⟩
    rw [ho] at ha
    show _ = c1 a ++ c2 b
    rw [← ha, ← hb, ← List.drop_drop, List.take_append_drop]
  · have e1 := h1.len p.1
    have e2 := h2.len p.2
    simp only [List.length_append]; omega
theorem openw_struct {α : Type} {fs : Array Field} {cells : α → List Value} {good : World → α → Prop} (hu : P.underlying t = some (.struct fs)) (h : OpensFW P fs.toList 0 (P.cellsOf t) cells good) : OpensW P t cells good := by
  refine ⟨fun {H enc w base sp held fuel cs x} ht hwt => ?_, fun a => by have := h.len a; omega⟩
  obtain ⟨xs, m, rfl, rfl, hl, hxl, hx⟩ := DataW.trod_struct hu ht
  obtain ⟨a, ha, hg⟩ := h.opn (fuel := m) (sp := sp) (held := held) (enc := enc) (base := base) hl (fun f hf => by
    obtain ⟨i, hi, rfl⟩ := List.getElem_of_mem hf
    have hi' : i < fs.size := by simpa using hi
    refine ⟨xs[i]'(by rw [hxl]; exact hi'), ?_⟩
    have hq : xs[i]? = some (xs[i]'(by rw [hxl]; exact hi')) := List.getElem?_eq_getElem _
    refine ⟨by rw [hx i _ (by simp [hi'])]; exact hq, fun n hn => hwt n ?_⟩
    rw [show (DataW.agg (xs.map (·.1)) : DataW H).weights P t = DataW.weightsEach P (fs.toList.map (·.type)) (xs.map (·.1)) by simp [DataW.weights, hu]]
    exact weights_field (f := fs.toList[i]) (k := i) (by simp [hi']) (by rw [List.getElem?_map, hq]; rfl) n hn)
  exact ⟨a, by simpa using ha, hg⟩
theorem OpensW.imp {α : Type} {cells : α → List Value} {good good' : World → α → Prop} (h : OpensW P t cells good) (hi : ∀ w a, good w a → good' w a) : OpensW P t cells good' :=
  ⟨fun ht hwt => let ⟨a, h1, h2⟩ := h.opn ht hwt; ⟨a, h1, hi _ _ h2⟩, h.len⟩
theorem openw_ints {B : Nat} (hu : P.underlying t = some (.slice e)) (hB : P.bytesOf e = B) (hc : P.cellsOf t = 1) (he : P.underlying e = some (.int .i64)) (hce : P.cellsOf e = 1) :
    OpensW P t (fun s : Sl Int => [.slice s.A s.l.length s.c]) (fun w s => Reads w s.A (icells .i64 s.l) ∧ s.l.length ≤ s.c ∧ s.l.length * B ≤ 140737488351232 ∧ ∀ n ∈ s.l, -9223372036854775808 ≤ n ∧ n < 9223372036854775808) :=
  (openw_slice hu hB hc (openw_i64 he hce)).imp fun w s h => ⟨by have := h.1; rwa [flat_map (fun n : Int => Value.int .i64 n)] at this, h.2⟩
end
end Go.Proofs.Ytdehjgpdcdjhjaa.K
