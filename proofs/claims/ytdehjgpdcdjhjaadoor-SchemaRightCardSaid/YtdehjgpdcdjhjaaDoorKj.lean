/- A framework of our own for walks over the model: Kj. -/
import Derived.Test.YtdehjgpdcdjhjaaDoorKi
namespace Go.Proofs.YtdehjgpdcdjhjaaDoor.K
open Go Go.RowKit
set_option linter.unusedVariables false
set_option linter.unusedSimpArgs false
section eqt
variable {X : Cx} {E : Env} {H : List Chunk} {T yT ty : TypeId} {x y : Operand} {k : IntKind} {p q : Int}
theorem val_eqt (hx : E.ev x = some (.int k p)) (hy : E.ev y = some (.int k q)) (h : p = q) : Val X E H (.binOp .eql T x y yT) ty (.bool true) := by
  have := val_eq (X := X) (H := H) (T := T) (yT := yT) (ty := ty) hx hy
  rwa [decide_eq_true h] at this
theorem val_net (hx : E.ev x = some (.int k p)) (hy : E.ev y = some (.int k q)) (h : p = q) : Val X E H (.binOp .neq T x y yT) ty (.bool false) := by
  have := val_ne (X := X) (H := H) (T := T) (yT := yT) (ty := ty) hx hy
  rwa [decide_eq_false (by simpa using h)] at this
theorem val_beqt {b c : Bool} (hT : X.P.underlying T = some .bool) (hx : E.ev x = some (.bool b)) (hy : E.ev y = some (.bool c)) (h : b = c) : Val X E H (.binOp .eql T x y yT) ty (.bool true) := by
  have := val_beq (X := X) (H := H) (yT := yT) (ty := ty) hT hx hy
  rwa [show (b == c) = true by simpa using h] at this
theorem val_bnet {b c : Bool} (hT : X.P.underlying T = some .bool) (hx : E.ev x = some (.bool b)) (hy : E.ev y = some (.bool c)) (h : b = c) : Val X E H (.binOp .neq T x y yT) ty (.bool false) := by
  have := val_bne (X := X) (H := H) (yT := yT) (ty := ty) hT hx hy
  rwa [show (b != c) = false by simpa using h] at this
theorem val_seqt {s t : ByteArray} (hx : E.ev x = some (.string s)) (hy : E.ev y = some (.string t)) (h : s = t) : Val X E H (.binOp .eql T x y yT) ty (.bool true) := by
  have := val_seq (X := X) (H := H) (T := T) (yT := yT) (ty := ty) hx hy
  rwa [decide_eq_true h] at this
end eqt
/-! Rows marked behind their end ([]byte("..")) -/
def slq (A : Option Addr) (n c : Nat) (e : TypeId) (vs : List Value) : Chunk :=
  ⟨ownFp A, fun w => w.ownsRow 0 e 1 (.slice A n c) n vs ∨ ∃ g, A = some ⟨g, 0, none⟩ ∧ c = n ∧ vs.length = n ∧ ∃ fr, w.heap[g]? = some (.cells vs.toArray e fr), fun w w' h hA => by
    rcases hA with hA | ⟨g, rfl, hc, hl, fr, hg⟩
    · left; exact (sl A n c e 1 vs).loc w w' h hA
    · right; exact ⟨g, rfl, hc, hl, fr, by rw [h g (by simp [ownFp])]; exact hg⟩⟩
theorem Holds.swap {w0 w : World} {M : List Nat} {H F : List Chunk} {C C' : Chunk} (h : Holds w0 M H w) (ht : Take C H F) (hf : C'.fp = C.fp) (hA : C.A w → C'.A w) : Holds w0 M (C' :: F) w := by
  have hp := h.perm ht.perm
  refine ⟨fun c hc => ?_, ?_, fun b hb => ?_, hp.size, hp.old, hp.os, hp.tape, hp.output⟩
  · rcases List.mem_cons.1 hc with rfl | hc
    · exact hA (hp.chunk C (by simp))
    · exact hp.chunk c (by simp [hc])
  · have := hp.nodup; rw [fps_cons] at this ⊢; rw [hf]; exact this
  · have := hp.mine b; rw [fps_cons] at this hb; rw [hf] at hb; exact this hb
section
variable {X : Cx} {Q : Post} {E : Env} {H F : List Chunk} {ops : Array Oper} {rest : List Oper}
theorem vl_swap {l : List Oper} {C C' : Chunk} (ht : Take C H F) (hf : C'.fp = C.fp) (hA : ∀ w, C.A w → C'.A w) (h : VL X ops l Q E (C' :: F)) : VL X ops l Q E H :=
  fun a w ha hw => h a w ha (hw.swap ht hf (hA w))
theorem vl_toq {l : List Oper} {A : Option Addr} {n c : Nat} {e : TypeId} {vs : List Value} (ht : Take (sl A n c e 1 vs) H F) (h : VL X ops l Q E (slq A n c e vs :: F)) : VL X ops l Q E H :=
  vl_swap (C := sl A n c e 1 vs) (C' := slq A n c e vs) ht rfl (fun w (h : w.ownsRow 0 e 1 (.slice A n c) n vs) => Or.inl h) h
theorem rd_slq {A : Option Addr} {n c : Nat} {e : TypeId} {vs : List Value} (h : In (slq A n c e vs) H) : Rd X H A vs := by
  intro w hw
  rcases hw.chunk _ h.mem with h | ⟨g, rfl, hc, hl, fr, hg⟩
  · exact reads_own h
  · intro j u hu
    refine ⟨_, rfl, ?_⟩
    rw [Addr.add_lit, Nat.zero_add, cell_of_row w g j _ e fr hg]
    simpa using hu
/-- []byte("..") of a constant: the literal is marked. -/
theorem vl_mark {fE : Value → Env} {o : Oper} {T e : TypeId} {x : Operand} {b n : Nat} {vs : List Value} (ho : o.op = .convert T T x) (hg : o.guard = none) (hd : DstF X E o.dst fE) (hu : ∀ w, (underlying T).run X.P w = .ok (.slice e) w)
    (he : ∀ w, (underlying e).run X.P w = .ok (.int .u8) w) (hx : E.ev x = some (.slice (some ⟨b, 0, none⟩) n n)) (ht : Take (sl (some ⟨b, 0, none⟩) n n e 1 vs) H F)
    (h : VL X ops rest Q (fE (.slice (some ⟨b, 0, none⟩) n n)) (slq (some ⟨b, 0, none⟩) n n e vs :: F)) : VL X ops (o :: rest) Q E H := by
  intro a w ha hw
  refine wpList_plain hg fun K hK => ?_
  have hp := hw.perm ht.perm
  have hown : w.ownsRow 0 e 1 (.slice (some ⟨b, 0, none⟩) n n) n vs := hp.chunk (sl (some ⟨b, 0, none⟩) n n e 1 vs) (by simp)
  obtain ⟨hl, hn | ⟨g, cap, cur, hv, _, hgg, hnc, hcm, hcs, htk⟩⟩ := hown
  · cases hn.1
  · simp only [Value.slice.injEq, Option.some.injEq, Addr.mk.injEq, and_true, true_and] at hv
    obtain ⟨rfl, rfl⟩ := hv
    have hcur : cur = vs.toArray := by
      rw [← htk, hcs.symm, ← Array.length_toList, List.take_length]
    subst hcur
    have hsh : w.shape? b = some (e, vs.length) := by simp [World.shape?, hgg]
    have hfr : (execOp a.eval o).run X.P w = .ok (.value (.slice (some ⟨b, 0, none⟩) n n)) (w.freeze ⟨b, vs.length, none⟩ 1) := by
      simp [execOp, ho, ha.ev hx, convert, hu, he, markStringish, hsh]
    unfold Oper.wp
    rw [hfr]
    have hb : ∀ k, k ≠ b → (w.freeze ⟨b, vs.length, none⟩ 1).heap[k]? = w.heap[k]? := fun k hk => by
      simp only [World.freeze, Nat.one_ne_zero, if_false, Array.getElem?_modify]
      rw [if_neg (by omega)]
    have hnew : ∃ fr, (w.freeze ⟨b, vs.length, none⟩ 1).heap[b]? = some (.cells vs.toArray e fr) := by
      simp only [World.freeze, Nat.one_ne_zero, if_false, Array.getElem?_modify, if_true, hgg, Option.map_some]
      exact ⟨_, rfl⟩
    refine hK _ _ (h _ _ (ha.setF hd) ?_)
    have hsz : (w.freeze ⟨b, vs.length, none⟩ 1).heap.size = w.heap.size := by simp [World.freeze]
    have hlt := (Array.getElem?_eq_some_iff.1 hgg).1
    have := Holds.change (w := w) (C := [sl (some ⟨b, 0, none⟩) n n e 1 vs]) (C' := [slq (some ⟨b, 0, none⟩) n n e vs]) (F := F) (w' := w.freeze ⟨b, vs.length, none⟩ 1) (by simpa using hp) (by omega) rfl rfl rfl
      (fun k hk hkC => hb k (fun e => hkC (by simp [fps, sl, ownFp, e])))
      (by
        intro c hc
        simp only [List.mem_singleton] at hc
        subst hc
        obtain ⟨fr, hfr⟩ := hnew
        exact .inr ⟨b, rfl, rfl, by simpa using hl, fr, hfr⟩)
      (by simp [fps, slq, ownFp]) (by intro k hk; simp [fps, slq, ownFp] at hk; subst hk; exact ⟨by rw [hsz]; exact hlt, .inl (by simp [fps, sl, ownFp])⟩)
    simpa using this
theorem vl_appendq {fE : Value → Env} {o : Oper} {T e : TypeId} {x y : Operand} {A B : Option Addr} {n c m c' by_ : Nat} {z : Value} {vs us : List Value} (ht : SlT X.P T e 1 by_ z)
    (ho : o.op = .call { callee := .builtin .append, args := #[x, y], argTypes := #[T, T] }) (hg : o.guard = none) (hd : DstF X E o.dst fE)
    (hx : E.ev x = some (.slice A n c)) (hy : E.ev y = some (.slice B m c')) (hr : Rd X H B us) (hl : us.length = m) (hm : 0 < m) (h1 : us.all (·.oneCell') = true)
    (hb : (n + m) * by_ ≤ 140737488355328) (hb2 : n + m < 9223372036854775808)
    (hin : Take (slq A n c e vs) H F) (h : ∀ A' k, VL X ops rest Q (fE (.slice A' (n + m) k)) (sl A' (n + m) k e 1 (vs ++ us) :: F)) : VL X ops (o :: rest) Q E H := by
  intro a w ha hw
  have hp := hw.perm hin.perm
  have hsq := hp.chunk (slq A n c e vs) (by simp)
  rcases hsq with hown | ⟨g, rfl, hc, hvl, fr, hgg⟩
  · have hw' : Holds X.w0 X.M (sl A n c e 1 vs :: F) w := hw.swap (C' := sl A n c e 1 vs) hin rfl (fun _ => hown)
    have hrd : Rd X (sl A n c e 1 vs :: F) B us := fun w hw => hr w ((hw.swap (C' := slq A n c e vs) .head rfl (fun (h : w.ownsRow 0 e 1 (.slice A n c) n vs) => Or.inl h)).perm hin.perm.symm)
    exact vl_append ht ho hg hd hx hy hrd (by omega) h1 hb hb2 .head h a w ha hw'
  · refine wpList_plain hg fun K hK => ?_
    subst hc
    obtain ⟨i, hi, hz, hsz, hby⟩ := ht.i
    have hnews : ∃ bb, B = some bb ∧ ∀ j u, us[j]? = some u → w.cell? (bb.add j) = some u := by
      obtain ⟨x, hx', _⟩ := hr w hw 0 _ (List.getElem?_eq_getElem (by omega))
      exact ⟨x, hx', fun j u hu => by obtain ⟨y, hy', hc⟩ := hr w hw j u hu; rw [hx'] at hy'; cases hy'; exact hc⟩
    obtain ⟨bb, rfl, hnews⟩ := hnews
    have holds : ∀ j u, vs[j]? = some u → w.cell? ((⟨g, 0, none⟩ : Addr).add j) = some u := fun j u hu => by
      rw [Addr.add_lit, Nat.zero_add, cell_of_row w g j _ e fr hgg]
      simpa using hu
    have hrun := run_append_grow (P := X.P) w T o.type e i z ht.u hi hz ⟨g, 0, none⟩ c c vs (by rw [hsz, Nat.mul_one]; exact hvl) holds bb m c' us (by rw [hsz]; omega) hnews (by omega) (by omega) (growslice_fits (by omega) (by rw [hby]; exact hb))
    unfold Oper.wp execOp
    simp only [ho, resolve, invoke, builtin, Sem.run_bind, Sem.run_pure, Result.andThen_ok, List.map_toArray, List.map_cons, List.map_nil, ha.ev hx, ha.ev hy, hrun]
    have hge := grownCap_ge w (c + m) c e
    have hcm : grownCap w (c + m) c e ≤ maxLen := grownCap_le_maxLen w (c + m) c e (by unfold maxLen; omega)
    have hzs : z.cells.size = 1 := ht.zs
    refine hK _ _ (h _ _ _ _ (ha.setF hd) ?_)
    have hd' : Holds X.w0 X.M (slq (some ⟨g, 0, none⟩) c c e vs :: F) w.drew := hp.drewn rfl rfl rfl rfl
    have := Holds.change (w := w.drew) (C := [slq (some ⟨g, 0, none⟩) c c e vs]) (C' := [sl (some ⟨w.heap.size, 0, none⟩) (c + m) (grownCap w (c + m) c e) e 1 (vs ++ us)]) (F := F)
      (w' := w.drew.alloc (.cells (vs.toArray ++ us.toArray ++ Builtin.zeroCells z.cells (grownCap w (c + m) c e - (c + m))) e)) (by simpa using hd') (by simp) rfl rfl rfl
      (fun k hk _ => heap_alloc_old w.drew _ k hk)
      (by
        intro C hC
        simp only [List.mem_singleton] at hC
        subst hC
        refine ⟨by simp only [List.length_append]; omega, .inr ⟨w.heap.size, _, _, rfl, Nat.zero_le _, heap_alloc_new w.drew _, hge, hcm, ?_, ?_⟩⟩
        · simp only [Array.size_append, List.size_toArray, size_zeroCells, hzs]; omega
        · simp only [Array.toList_append, Nat.mul_one]
          rw [List.take_append_of_le_length (by simp; omega), List.take_of_length_le (by simp; omega)])
      (by simp [fps, sl, ownFp]) (by intro k hk; simp [fps, sl, ownFp] at hk; subst hk; exact ⟨by simp, .inr (Nat.le_refl _)⟩)
    simpa using this
end
end Go.Proofs.YtdehjgpdcdjhjaaDoor.K
