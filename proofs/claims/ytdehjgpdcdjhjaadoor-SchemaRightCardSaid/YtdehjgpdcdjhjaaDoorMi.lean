/- A framework of our own for walks over the model: Mi. -/
import Derived.Test.YtdehjgpdcdjhjaaDoorMh
import Derived.Test.YtdehjgpdcdjhjaaDoorCe
import Derived.Test.YtdehjgpdcdjhjaaDoorMc
import Derived.Test.YtdehjgpdcdjhjaaDoorKy
import Derived.Test.YtdehjgpdcdjhjaaDoorMb
namespace Go.Proofs.YtdehjgpdcdjhjaaDoor.K
open Go Go.RowKit
set_option linter.unusedVariables false
set_option linter.unusedSimpArgs false
/-! ### Function values that are handed on: what each answers, on chunks that stay -/
/-- All that was there in w0 is as it was. -/
def Old (w0 w : World) : Prop := w0.heap.size ≤ w.heap.size ∧ ∀ b, b < w0.heap.size → w.heap[b]? = w0.heap[b]?
theorem Old.refl (w : World) : Old w w := ⟨Nat.le_refl _, fun _ _ => rfl⟩
theorem Old.reads {w0 w : World} {A : Option Addr} {cs : List Value} (h : Old w0 w) (hr : Reads w0 A cs) : Reads w A cs := by
  intro j u hj
  obtain ⟨a, ha, hc⟩ := hr j u hj
  refine ⟨a, ha, ?_⟩
  unfold World.cell? at hc ⊢
  cases hb : w0.heap[(a.add j).block]? with
  | none => rw [hb] at hc; cases hc
  | some o =>
    have hlt : (a.add j).block < w0.heap.size := (Array.getElem?_eq_some_iff.1 hb).1
    rw [h.2 _ hlt]
    exact hc
theorem old_here {X : Cx} {w0 w : World} {H : List Chunk} (h0 : Old w0 X.w0) (hM : ∀ b ∈ X.M, w0.heap.size ≤ b) (hw : Holds X.w0 X.M H w) : Old w0 w := by
  refine ⟨Nat.le_trans h0.1 hw.size, fun b hb => ?_⟩
  rw [hw.old b (Nat.lt_of_lt_of_le hb h0.1) (fun h => by have := hM b h; omega), h0.2 b hb]
/-- The function value q, called with args while C stands, answers v and leaves all as it was. -/
def Ans (P : Program) (w0 : World) (C : List Chunk) (q : Value) (args : List Value) (v : Value) : Prop :=
  ∃ (f : FuncId) (fs cs : List Value), q = .func (.func f) fs.toArray cs.toArray ∧ (∀ args w, (callFunc f args).run P w = .ok (.enter f args) w) ∧ ∀ w, Old w0 w → FnR P f (fs ++ args ++ cs) C v w
theorem Ans.frame {P : Program} {w0 : World} {C : List Chunk} {q : Value} {args : List Value} {v : Value} (h : Ans P w0 C q args v) (F : List Chunk) : Ans P w0 (C ++ F) q args v := by
  obtain ⟨f, fs, cs, e, hc, hf⟩ := h
  refine ⟨f, fs, cs, e, hc, fun w hw => ?_⟩
  refine (Fn.frame (F := F) (hf w hw)).mono fun en H hh => ?_
  cases en <;> simp only [ret] at hh ⊢
  obtain ⟨H2, ⟨rfl, rfl⟩, rfl⟩ := hh
  exact ⟨rfl, rfl⟩
theorem vl_callAns {X : Cx} {E : Env} {H F : List Chunk} {ops : Array Oper} {rest : List Oper} {Q : Post} {fE : Value → Env} {o : Oper} {x : Operand} {xs : Array Operand} {ats : Array TypeId} {args : List Value} {q v : Value} {w0 : World} {C : List Chunk}
    (ho : o.op = .call { callee := .value x, args := xs, argTypes := ats }) (hg : o.guard = none) (hd : DstF X E o.dst fE) (hfx : E.ev x = some q) (hx : E.evs xs.toList = some args)
    (hs : Sub C H F) (h0 : Old w0 X.w0) (hM : ∀ b ∈ X.M, w0.heap.size ≤ b) (ha : Ans X.P w0 C q args v) (h : VL X ops rest Q (fE v) H) : VL X ops (o :: rest) Q E H := by
  obtain ⟨f, fs, cs, rfl, hc, hf⟩ := ha
  refine vl_callv ho hg hd hfx hc hx hs (fun w hw => hf w (old_here h0 hM hw)) fun u H' hu => ?_
  obtain ⟨rfl, rfl⟩ := hu
  exact fun a w ha hw => h a w ha (hw.perm hs.perm.symm)
theorem rd_ans {X : Cx} {w0 : World} {C H : List Chunk} {A : Option Addr} {xs : List Value} (hR : ∀ w, Old w0 w → (∀ k ∈ C, k.A w) → Reads w A xs) (h0 : Old w0 X.w0) (hM : ∀ b ∈ X.M, w0.heap.size ≤ b) (hs : ∀ k ∈ C, k ∈ H) : Rd X H A xs :=
  fun w hw => hR w (old_here h0 hM hw) fun k hk => hw.chunk k (hs k hk)
theorem Ans.perm {P : Program} {w0 : World} {C C' : List Chunk} {q : Value} {args : List Value} {v : Value} (p : C.Perm C') (h : Ans P w0 C q args v) : Ans P w0 C' q args v := by
  obtain ⟨f, fs, cs, e, hc, hf⟩ := h
  exact ⟨f, fs, cs, e, hc, fun w hw => Fn.out (Fn.perm p (hf w hw)) fun u H hu => ⟨C', [], by rw [List.append_nil, hu.2]; exact Eqv.perm p, hu.1, rfl⟩⟩
theorem Ans.sub {P : Program} {w0 : World} {C C' F : List Chunk} {q : Value} {args : List Value} {v : Value} (hs : Sub C' C F) (h : Ans P w0 C' q args v) : Ans P w0 C q args v := (h.frame F).perm hs.perm.symm
theorem Ans.ofV {P : Program} {w0 : World} {f : FuncId} {args : List Value} {v : Value} (hc : ∀ args w, (callFunc f args).run P w = .ok (.enter f args) w) (C : List Chunk) (h : ∀ w, Old w0 w → FnV P f args v w) : Ans P w0 C (.func (.func f) #[] #[]) args v := by
  refine ⟨f, [], [], rfl, hc, fun w hw => ?_⟩
  rw [List.nil_append, List.append_nil]
  refine Fn.out (Fn.frame (F := C) (h w hw)) fun u H hu => ?_
  obtain ⟨H2, e, rfl⟩ := hu
  exact ⟨C, H2, Eqv.perm List.perm_append_comm, e, rfl⟩
theorem sub_fps {w0 : World} {C C' F : List Chunk} (hs : Sub C' C F) (hC : ∀ k ∈ fps C, w0.heap.size ≤ k) : ∀ k ∈ fps C', w0.heap.size ≤ k := fun k hk =>
  hC k ((fps_perm hs.perm).mem_iff.2 (by rw [fps_append]; exact List.mem_append_left _ hk))
/-- Where the chunks lie. -/
theorem vl_mine {X : Cx} {E : Env} {H : List Chunk} {ops : Array Oper} {rest : List Oper} {Q : Post} (h : (∀ b ∈ fps H, b ∈ X.M ∨ X.w0.heap.size ≤ b) → VL X ops rest Q E H) : VL X ops rest Q E H :=
  fun a w ha hw => h (fun b hb => (hw.mine b hb).2) a w ha hw
/-- The first answer that is no 0. -/
def firstE : List Int → Int
  | [] => 0
  | e :: l => if e = 0 then firstE l else e
theorem firstE_step {es : List Int} {i : Nat} (hi : i < es.length) (h : ∀ j, j < i → es.getD j 0 = 0) (he : es.getD i 0 ≠ 0) : firstE es = es.getD i 0 := by
  induction es generalizing i with
  | nil => simp at hi
  | cons e es ih =>
    cases i with
    | zero => have : e ≠ 0 := by simpa using he
              rw [firstE, if_neg this]; simp
    | succ i =>
      have h0 : e = 0 := by simpa using h 0 (by omega)
      rw [firstE, if_pos h0, ih (by simpa using hi) (fun j hj => by simpa using h (j + 1) (by omega)) (by simpa using he)]
      simp
theorem firstE_zero {es : List Int} (h : ∀ j, j < es.length → es.getD j 0 = 0) : firstE es = 0 := by
  induction es with
  | nil => rfl
  | cons e es ih =>
    have h0 : e = 0 := by simpa using h 0 (by simp)
    rw [firstE, if_pos h0, ih (fun j hj => by simpa using h (j + 1) (by simp; omega))]
end Go.Proofs.YtdehjgpdcdjhjaaDoor.K
