/- A framework of our own for walks over the model: Mh. -/
import Derived.Test.YtclnhfdgiaamhaaMg
import Derived.Laws.RangeAny
namespace Go.Proofs.Ytclnhfdgiaamhaa.K
open Go Go.RowKit
set_option linter.unusedVariables false
set_option linter.unusedSimpArgs false
/-! ### Ranging over a string -/
/-- An iterator over s that stands at pos. -/
def itS (k : Nat) (s : ByteArray) (pos : Nat) : Chunk := ⟨[k], fun w => w.heap[k]? = some (.stringIter s pos), fun w w' h hw => by rw [h k (by simp)]; exact hw⟩
section
variable {X : Cx} {Q : Post} {E : Env} {H H' : List Chunk} {ops : Array Oper} {rest : List Oper}
theorem vl_rangeStr {fE : Value → Env} {o : Oper} {T : TypeId} {x : Operand} {s : ByteArray} (ho : o.op = .range T x) (hg : o.guard = none) (hd : DstF X E o.dst fE) (hu : X.P.underlying T = some .string) (hx : E.ev x = some (.string s))
    (h : ∀ r, VL X ops rest Q (fE (.pointer (some ⟨r, 0, none⟩))) (itS r s 0 :: H)) : VL X ops (o :: rest) Q E H := by
  intro a w ha hw
  refine wpList_plain hg fun K hK => ?_
  unfold Oper.wp
  have : (execOp a.eval o).run X.P w = .ok (.value (.pointer (some ⟨w.heap.size, 0, none⟩))) (w.alloc (.stringIter s 0)) := by
    simp [execOp, ho, ha.ev hx, run_range_string w T s hu, World.iter]
  rw [this]
  exact hK _ _ (h w.heap.size _ _ (ha.setF hd) (hw.alloc _ (by show (w.alloc (.stringIter s 0)).heap[w.heap.size]? = _; exact heap_alloc_new w _) rfl))
theorem vl_nextStr {fE : Value → Env} {o : Oper} {x : Operand} {k pos : Nat} {s : ByteArray} (ho : o.op = .next x true) (hg : o.guard = none) (hd : DstF X E o.dst fE) (hx : E.ev x = some (.pointer (some ⟨k, 0, none⟩)))
    (hu : Upd (itS k s pos) (itS k s (pos + (Utf8.decode s pos).2)) H H')
    (h1 : pos < s.size → VL X ops rest Q (fE (.tuple #[.bool true, .int .i64 pos, .int .i32 (Utf8.decode s pos).1])) H')
    (h2 : ¬ pos < s.size → VL X ops rest Q (fE (.tuple #[.bool false])) H) : VL X ops (o :: rest) Q E H := by
  intro a w ha hw
  refine wpList_plain hg fun K hK => ?_
  unfold Oper.wp
  obtain ⟨F, p1, p2⟩ := hu.perm
  have hp := hw.perm p1
  have hk : w.heap[k]? = some (.stringIter s pos) := hp.chunk (itS k s pos) (by simp)
  have hlt : k < w.heap.size := (Array.getElem?_eq_some_iff.1 hk).1
  by_cases hn : pos < s.size
  · have : (execOp a.eval o).run X.P w = .ok (.value (.tuple #[.bool true, .int .i64 pos, .int .i32 (Utf8.decode s pos).1])) { w with heap := w.heap.setIfInBounds k (.stringIter s (pos + (Utf8.decode s pos).2)) } := by
      simp [execOp, ho, ha.ev hx, Instr.next, getObj, setObj, Sem.run_bind, Sem.run, hk, Result.andThen, hn, goInt]
    rw [this]
    refine hK _ _ (h1 hn _ _ (ha.setF hd) ?_)
    refine (Holds.change (w := w) (w' := { w with heap := w.heap.setIfInBounds k (.stringIter s (pos + (Utf8.decode s pos).2)) }) (C := [itS k s pos]) (C' := [itS k s (pos + (Utf8.decode s pos).2)]) (F := F) (by simpa using hp) (by simp) rfl rfl rfl (fun b hb hc => ?_) (fun c hc => by rw [List.mem_singleton.1 hc]; show (w.heap.setIfInBounds k (.stringIter s (pos + (Utf8.decode s pos).2)))[k]? = _; simp [hlt]) (by simp [fps, itS]) ?_).perm (by simpa using p2.symm)
    · have hbk : ¬ k = b := fun e => hc (by simp [fps, itS, e])
      simp [hbk]
    · intro b hb
      simp [fps, itS] at hb
      subst hb
      exact ⟨by simpa using hlt, .inl (by simp [fps, itS])⟩
  · have : (execOp a.eval o).run X.P w = .ok (.value (.tuple #[.bool false])) w := by
      simp [execOp, ho, ha.ev hx, Instr.next, getObj, Sem.run, hk, hn]
    rw [this]
    exact hK _ _ (h2 hn _ _ (ha.setF hd) hw)
end
/-- What a rune of a text says of the bytes: one byte, or no letter of those below 128. -/
theorem decode_sL {l : List UInt8} {i : Nat} (h : i < l.length) : ((l.getD i 0).toNat < 128 ∧ Utf8.decode (sL l) i = ((l.getD i 0).toNat, 1)) ∨ (128 ≤ (l.getD i 0).toNat ∧ 128 ≤ (Utf8.decode (sL l) i).1 ∧ 1 ≤ (Utf8.decode (sL l) i).2 ∧ (Utf8.decode (sL l) i).1 ≤ 2147483647) := by
  have hs : i < (sL l).size := by rw [sL_size]; exact h
  have e : ((sL l)[i]'hs) = l.getD i 0 := by
    have h2 : l.getD i 0 = l[i] := by simp [List.getD, h]
    rw [h2]
    show (l.toArray)[i]'_ = _
    simp
  rcases Nat.lt_or_ge (l.getD i 0).toNat 128 with c | c
  · exact .inl ⟨c, by rw [decode_ascii (sL l) i hs (by rw [e]; exact c), e]⟩
  · have hh := decode_high (sL l) i hs (by rw [e]; exact c)
    exact .inr ⟨c, hh.1, hh.2, decode_le _ _⟩
end Go.Proofs.Ytclnhfdgiaamhaa.K
