/- A framework of our own for walks over the model: Kj. -/
import Derived.Test.YtclnhfdgiaamhaaKi
namespace Go.Proofs.Ytclnhfdgiaamhaa.K
open Go Go.RowKit
set_option linter.unusedVariables false
set_option linter.unusedSimpArgs false
section eqt
variable {X : Cx} {E : Env} {H : List Chunk} {T yT ty : TypeId} {x y : Operand} {k : IntKind} {p q : Int}
theorem val_eqt (hx : E.ev x = some (.int k p)) (hy : E.ev y = some (.int k q)) (h : p = q) : Val X E H (.binOp .eql T x y yT) ty (.bool true) := by
  have := val_eq (X := X) (H := H) (T := T) (yT := yT) (ty := ty) hx hy
  rwa [decide_eq_true h] at this
theorem val_net (hx : E.ev x = some (.int k p)) (hy : E.ev y = some (.int k q)) (h : p = q) : Val X E H (.binOp .neq T x y yT) ty (.bool false) := by
  have := val_ne (X := X) (H := H) (T := T) (yT := yT) (ty := ty) hx hy
  rwa [decide_eq_false (by simpa using h)] at this
theorem val_seqt {s t : ByteArray} (hx : E.ev x = some (.string s)) (hy : E.ev y = some (.string t)) (h : s = t) : Val X E H (.binOp .eql T x y yT) ty (.bool true) := by
  have := val_seq (X := X) (H := H) (T := T) (yT := yT) (ty := ty) hx hy
  rwa [decide_eq_true h] at this
end eqt
/-! Rows marked behind their end ([]byte("..")) -/
def slq (A : Option Addr) (n c : Nat) (e : TypeId) (vs : List Value) : Chunk :=
  ⟨ownFp A, fun w => w.ownsRow 0 e 1 (.slice A n c) n vs ∨ ∃ g, A = some ⟨g, 0, none⟩ ∧ c = n ∧ vs.length = n ∧ ∃ fr, w.heap[g]? = some (.cells vs.toArray e fr), fun w w' h hA => by
    rcases hA with hA | ⟨g, rfl, hc, hl, fr, hg⟩
    · left; exact (sl A n c e 1 vs).loc w w' h hA
    · right; exact ⟨g, rfl, hc, hl, fr, by rw [h g (by simp [ownFp])]; exact hg⟩⟩
theorem Holds.swap {w0 w : World} {M : List Nat} {H F : List Chunk} {C C' : Chunk} (h : Holds w0 M H w) (ht : Take C H F) (hf : C'.fp = C.fp) (hA : C.A w → C'.A w) : Holds w0 M (C' :: F) w := by
  have hp := h.perm ht.perm
  refine ⟨fun c hc => ?_, ?_, fun b hb => ?_, hp.size, hp.old, hp.os, hp.tape, hp.output⟩
  · rcases List.mem_cons.1 hc with rfl | hc
    · exact hA (hp.chunk C (by simp))
    · exact hp.chunk c (by simp [hc])
  · have := hp.nodup; rw [fps_cons] at this ⊢; rw [hf]; exact this
  · have := hp.mine b; rw [fps_cons] at this hb; rw [hf] at hb; exact this hb
section
variable {X : Cx} {Q : Post} {E : Env} {H F : List Chunk} {ops : Array Oper} {rest : List Oper}
theorem rd_slq {A : Option Addr} {n c : Nat} {e : TypeId} {vs : List Value} (h : In (slq A n c e vs) H) : Rd X H A vs := by
  intro w hw
  rcases hw.chunk _ h.mem with h | ⟨g, rfl, hc, hl, fr, hg⟩
  · exact reads_own h
  · intro j u hu
    refine ⟨_, rfl, ?_⟩
    rw [Addr.add_lit, Nat.zero_add, cell_of_row w g j _ e fr hg]
    simpa using hu
/-- []byte("..") of a constant: the literal is marked. -/
theorem vl_mark {fE : Value → Env} {o : Oper} {T e : TypeId} {x : Operand} {b n : Nat} {vs : List Value} (ho : o.op = .convert T T x) (hg : o.guard = none) (hd : DstF X E o.dst fE) (hu : ∀ w, (underlying T).run X.P w = .ok (.slice e) w)
    (he : ∀ w, (underlying e).run X.P w = .ok (.int .u8) w) (hx : E.ev x = some (.slice (some ⟨b, 0, none⟩) n n)) (ht : Take (sl (some ⟨b, 0, none⟩) n n e 1 vs) H F)
    (h : VL X ops rest Q (fE (.slice (some ⟨b, 0, none⟩) n n)) (slq (some ⟨b, 0, none⟩) n n e vs :: F)) : VL X ops (o :: rest) Q E H := by
  intro a w ha hw
  refine wpList_plain hg fun K hK => ?_
  have hp := hw.perm ht.perm
  have hown : w.ownsRow 0 e 1 (.slice (some ⟨b, 0, none⟩) n n) n vs := hp.chunk (sl (some ⟨b, 0, none⟩) n n e 1 vs) (by simp)
  obtain ⟨hl, hn | ⟨g, cap, cur, hv, _, hgg, hnc, hcm, hcs, htk⟩⟩ := hown
  · cases hn.1
  · simp only [Value.slice.injEq, Option.some.injEq, Addr.mk.injEq, and_true, true_and] at hv
    obtain ⟨rfl, rfl⟩ := hv
    have hcur : cur = vs.toArray := by
      rw [← htk, hcs.symm, ← Array.length_toList, List.take_length]
    subst hcur
    have hsh : w.shape? b = some (e, vs.length) := by simp [World.shape?, hgg]
    have hfr : (execOp a.eval o).run X.P w = .ok (.value (.slice (some ⟨b, 0, none⟩) n n)) (w.freeze ⟨b, vs.length, none⟩ 1) := by
      simp [execOp, ho, ha.ev hx, convert, hu, he, markStringish, hsh]
    unfold Oper.wp
    rw [hfr]
    have hb : ∀ k, k ≠ b → (w.freeze ⟨b, vs.length, none⟩ 1).heap[k]? = w.heap[k]? := fun k hk => by
      simp only [World.freeze, Nat.one_ne_zero, if_false, Array.getElem?_modify]
      rw [if_neg (by omega)]
    have hnew : ∃ fr, (w.freeze ⟨b, vs.length, none⟩ 1).heap[b]? = some (.cells vs.toArray e fr) := by
      simp only [World.freeze, Nat.one_ne_zero, if_false, Array.getElem?_modify, if_true, hgg, Option.map_some]
      exact ⟨_, rfl⟩
    refine hK _ _ (h _ _ (ha.setF hd) ?_)
    have hsz : (w.freeze ⟨b, vs.length, none⟩ 1).heap.size = w.heap.size := by simp [World.freeze]
    have hlt := (Array.getElem?_eq_some_iff.1 hgg).1
    have := Holds.change (w := w) (C := [sl (some ⟨b, 0, none⟩) n n e 1 vs]) (C' := [slq (some ⟨b, 0, none⟩) n n e vs]) (F := F) (w' := w.freeze ⟨b, vs.length, none⟩ 1) (by simpa using hp) (by omega) rfl rfl rfl
      (fun k hk hkC => hb k (fun e => hkC (by simp [fps, sl, ownFp, e])))
      (by
        intro c hc
        simp only [List.mem_singleton] at hc
        subst hc
        obtain ⟨fr, hfr⟩ := hnew
        exact .inr ⟨b, rfl, rfl, by simpa using hl, fr, hfr⟩)
      (by simp [fps, slq, ownFp]) (by intro k hk; simp [fps, slq, ownFp] at hk; subst hk; exact ⟨by rw [hsz]; exact hlt, .inl (by simp [fps, sl, ownFp])⟩)
    simpa using this
end
end Go.Proofs.Ytclnhfdgiaamhaa.K
