/- A framework of our own for walks over the model: Mp. -/
import Derived.Test.YtclnhfdgiaamhaaKz
import Derived.Test.YtclnhfdgiaamhaaRows
namespace Go.Proofs.Ytclnhfdgiaamhaa.K
open Go Go.RowKit
set_option linter.unusedVariables false
set_option linter.unusedSimpArgs false
open Go.Proofs.Ytclnhfdgiaamhaa.Rows (uptoBulk uptoBulkAll)
/-! ### What a law's input bears, with its bulk -/
theorem one_leB {H : Type} (d : DataW H) : 1 ≤ uptoBulk d := by
  cases d with
  | lit l => cases l <;> simp [uptoBulk]
  | nil => simp [uptoBulk]
  | ptr d => simp [uptoBulk]
  | slice elems spare => simp [uptoBulk]
  | agg parts => simp [uptoBulk]
  | iface t d => simp [uptoBulk]
  | map entries => simp [uptoBulk]
  | held h => simp [uptoBulk]
theorem part_leB {H : Type} {d : DataW H} {l : List (DataW H)} (h : d ∈ l) : uptoBulk d ≤ uptoBulkAll l := by
  induction l with
  | nil => cases h
  | cons x r ih =>
    simp only [uptoBulkAll]
    rcases List.mem_cons.1 h with rfl | h
    · omega
    · have := ih h; omega
theorem length_leB {H : Type} (l : List (DataW H)) : l.length ≤ uptoBulkAll l := by
  induction l with
  | nil => simp [uptoBulkAll]
  | cons x r ih => have := one_leB x; simp only [uptoBulkAll, List.length_cons]; omega
structure OpensB (P : Program) (t : TypeId) {α : Type} (cells : α → List Value) (good : World → α → Prop) : Prop where
  opn : ∀ {H : Type} {enc : TypeId × Value → H} {w : World} {base : Nat} {sp : Nat → Bool} {held : Bool} {fuel : Nat} {cs : List Value} {x : DataW H × List MemPlace}, DataW.trod enc P w base sp held fuel t cs = some x → uptoBulk x.1 ≤ 1048576 → ∃ a, cs = cells a ∧ good w a
  len : ∀ a, (cells a).length = P.cellsOf t
section
variable {P : Program} {t e : TypeId}
theorem openb_i64 (hu : P.underlying t = some (.int .i64)) (hc : P.cellsOf t = 1) : OpensB P t (fun n : Int => [.int .i64 n]) (fun _ n => -9223372036854775808 ≤ n ∧ n < 9223372036854775808) :=
  ⟨fun h hwt => by
    obtain ⟨n, rfl, _, hw⟩ := DataW.trod_int hu h
    refine ⟨n, rfl, ?_⟩
    simp [Lit.wf, IntKind.min, IntKind.max, IntKind.signed, IntKind.bits] at hw; omega, fun _ => hc.symm⟩
theorem openb_str (hu : P.underlying t = some .string) (hc : P.cellsOf t = 1) : OpensB P t (fun s : ByteArray => [.string s]) (fun _ s => s.size ≤ 1048576) :=
  ⟨fun h hwt => by obtain ⟨s, rfl, rfl, _⟩ := DataW.trod_string hu h; exact ⟨s, rfl, by
    have := hwt
    simp only [uptoBulk] at this
    have e : s.data.toList.length = s.size := Array.length_toList
    omega⟩, fun _ => hc.symm⟩
theorem openb_slice {α : Type} {cells : α → List Value} {good : World → α → Prop} (hu : P.underlying t = some (.slice e)) (hc : P.cellsOf t = 1) (h : OpensB P e cells good) :
    OpensB P t (fun s : Sl α => [.slice s.A s.l.length s.c]) (fun w s => Reads w s.A (s.l.flatMap cells) ∧ s.l.length ≤ s.c ∧ s.l.length ≤ 1048576 ∧ ∀ a ∈ s.l, good w a) := by
  refine ⟨fun {H enc w base sp held fuel cs x} ht hwt => ?_, fun _ => hc.symm⟩
  rcases DataW.trod_slice hu ht with ⟨rfl, _⟩ | ⟨a, len, cap, elems, rest, m, rfl, rfl, rfl, _, hlc, hcm, hlen, hel, _⟩
  · exact ⟨⟨none, 0, []⟩, rfl, fun j u hj => by simp at hj, by simp, by simp, by simp⟩
  · have key : ∀ i, i < len → ∃ p : α, (∀ j u, (cells p)[j]? = some u → w.cell? (a.add (i * P.cellsOf e + j)) = some u) ∧ good w p := by
      intro i hi
      have hE := hel i hi
      have : elems[i]? = some (elems[i]'(by rw [hlen]; exact hi)) := List.getElem?_eq_getElem _
      rw [this, Option.bind_eq_some_iff] at hE
      obtain ⟨c1, hc1, hy1⟩ := hE
      obtain ⟨p, rfl, hg⟩ := h.opn hy1 (by
        have h5 := part_leB (List.mem_map.2 ⟨_, List.getElem_mem (l := elems) (n := i) (by rw [hlen]; exact hi), rfl⟩ : (elems[i]'(by rw [hlen]; exact hi)).1 ∈ elems.map (·.1))
        simp only [uptoBulk] at hwt
        omega)
      refine ⟨p, fun j u hj => ?_, hg⟩
      have hjm : j < P.cellsOf e := by rw [← h.len p]; exact (List.getElem?_eq_some_iff.1 hj).1
      rw [← Addr.add_add, cells_at hc1 j hjm]
      exact hj
    have build : ∀ n, n ≤ len → ∃ l : List α, l.length = n ∧ Reads w (some a) (l.flatMap cells) ∧ ∀ p ∈ l, good w p := by
      intro n
      induction n with
      | zero => exact fun _ => ⟨[], rfl, fun j u hj => by simp at hj, by simp⟩
      | succ n ih =>
        intro hn
        obtain ⟨l, h1, h2, h3⟩ := ih (by omega)
        obtain ⟨p, hp, hw⟩ := key n (by omega)
        have hfl := flat_length h.len l
        refine ⟨l ++ [p], by simp [h1], fun j u hj => ?_, fun q hq => ?_⟩
        · rw [List.flatMap_append, List.flatMap_cons, List.flatMap_nil, List.append_nil] at hj
          by_cases hlt : j < l.length * P.cellsOf e
          · rw [List.getElem?_append_left (by rw [hfl]; exact hlt)] at hj
            exact h2 j u hj
          · rw [List.getElem?_append_right (by rw [hfl]; omega), hfl] at hj
            refine ⟨a, rfl, ?_⟩
            have := hp _ u hj
            rw [h1] at this hlt
            rw [show n * P.cellsOf e + (j - n * P.cellsOf e) = j by omega] at this
            exact this
        · rcases List.mem_append.1 hq with hq | hq
          · exact h3 q hq
          · rw [List.mem_singleton.1 hq]; exact hw
    obtain ⟨l, h1, h2, h3⟩ := build len (Nat.le_refl _)
    exact ⟨⟨some a, cap, l⟩, by rw [h1], h2, by rw [h1]; exact hlc, by
      have h6 := length_leB (elems.map (·.1))
      rw [List.length_map] at h6
      simp only [uptoBulk] at hwt
      show l.length ≤ 1048576
      omega, h3⟩
/-- The fields of a struct, from place o on. -/
structure OpensFB (P : Program) (fs : List Field) (o tot : Nat) {α : Type} (cells : α → List Value) (good : World → α → Prop) : Prop where
  opn : ∀ {H : Type} {enc : TypeId × Value → H} {w : World} {base : Nat} {sp : Nat → Bool} {held : Bool} {fuel : Nat} {cs : List Value}, cs.length = tot → (∀ f ∈ fs, ∃ y, DataW.trod enc P w base sp held fuel f.type ((cs.drop f.offset).take (P.cellsOf f.type)) = some y ∧ uptoBulk y.1 ≤ 1048576) → ∃ a, cs.drop o = cells a ∧ good w a
  len : ∀ a, o + (cells a).length = tot
theorem openbF_nil {o : Nat} : OpensFB P [] o o (fun _ : Unit => []) (fun _ _ => True) := ⟨fun h _ => ⟨(), List.drop_of_length_le (by omega), trivial⟩, fun _ => rfl⟩
theorem openbF_cons {α β : Type} {f : Field} {fs : List Field} {o tot : Nat} {c1 : α → List Value} {g1 : World → α → Prop} {c2 : β → List Value} {g2 : World → β → Prop} (ho : f.offset = o) (h1 : OpensB P f.type c1 g1) (h2 : OpensFB P fs (o + P.cellsOf f.type) tot c2 g2) :
    OpensFB P (f :: fs) o tot (fun p : α × β => c1 p.1 ++ c2 p.2) (fun w p => g1 w p.1 ∧ g2 w p.2) := by
  refine ⟨fun {H enc w base sp held fuel cs} hl hf => ?_, fun p => ?_⟩
  · obtain ⟨y, hy, hwy⟩ := hf f (by simp)
    obtain ⟨a, ha, hg⟩ := h1.opn hy hwy
    obtain ⟨b, hb, hgb⟩ := h2.opn hl (fun f' hf' => hf f' (by simp [hf']))
    refine ⟨(a, b), ?_, hg, hgb⟩
    rw [ho] at ha
    show _ = c1 a ++ c2 b
    rw [← ha, ← hb, ← List.drop_drop, List.take_append_drop]
  · have e1 := h1.len p.1
    have e2 := h2.len p.2
    simp only [List.length_append]; omega
theorem openb_struct {α : Type} {fs : Array Field} {cells : α → List Value} {good : World → α → Prop} (hu : P.underlying t = some (.struct fs)) (h : OpensFB P fs.toList 0 (P.cellsOf t) cells good) : OpensB P t cells good := by
  refine ⟨fun {H enc w base sp held fuel cs x} ht hwt => ?_, fun a => by have := h.len a; omega⟩
  obtain ⟨xs, m, rfl, rfl, hl, hxl, hx⟩ := DataW.trod_struct hu ht
  obtain ⟨a, ha, hg⟩ := h.opn (fuel := m) (sp := sp) (held := held) (enc := enc) (base := base) hl (fun f hf => by
    obtain ⟨i, hi, rfl⟩ := List.getElem_of_mem hf
    have hi' : i < fs.size := by simpa using hi
    refine ⟨xs[i]'(by rw [hxl]; exact hi'), ?_⟩
    have hq : xs[i]? = some (xs[i]'(by rw [hxl]; exact hi')) := List.getElem?_eq_getElem _
    refine ⟨by rw [hx i _ (by simp [hi'])]; exact hq, ?_⟩
    have h5 := part_leB (List.mem_map.2 ⟨_, List.getElem_mem (l := xs) (n := i) (by rw [hxl]; exact hi'), rfl⟩ : (xs[i]'(by rw [hxl]; exact hi')).1 ∈ xs.map (·.1))
    simp only [uptoBulk] at hwt
    omega)
  exact ⟨a, by simpa using ha, hg⟩
theorem OpensB.imp {α : Type} {cells : α → List Value} {good good' : World → α → Prop} (h : OpensB P t cells good) (hi : ∀ w a, good w a → good' w a) : OpensB P t cells good' :=
  ⟨fun ht hwt => let ⟨a, h1, h2⟩ := h.opn ht hwt; ⟨a, h1, hi _ _ h2⟩, h.len⟩
theorem openb_texts (hu : P.underlying t = some (.slice e)) (hc : P.cellsOf t = 1) (he : P.underlying e = some .string) (hce : P.cellsOf e = 1) :
    OpensB P t (fun s : Sl ByteArray => [.slice s.A s.l.length s.c]) (fun w s => Reads w s.A (scells s.l) ∧ s.l.length ≤ s.c ∧ s.l.length ≤ 1048576 ∧ ∀ n ∈ s.l, n.size ≤ 1048576) :=
  (openb_slice hu hc (openb_str he hce)).imp fun w s h => ⟨by have := h.1; rwa [flat_map (fun b : ByteArray => Value.string b)] at this, h.2⟩
end
end Go.Proofs.Ytclnhfdgiaamhaa.K
