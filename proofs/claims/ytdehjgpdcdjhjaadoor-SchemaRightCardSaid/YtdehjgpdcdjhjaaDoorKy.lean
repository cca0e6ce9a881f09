/- A framework of our own for walks over the model: Ky. -/
import Derived.Test.YtdehjgpdcdjhjaaDoorKx
import Derived.OrdersIn
namespace Go.Proofs.YtdehjgpdcdjhjaaDoor.K
open Go Go.RowKit
set_option linter.unusedVariables false
set_option linter.unusedSimpArgs false
theorem Holds.reM {w0 w : World} {M M' : List Nat} {H : List Chunk} (h : Holds w0 M H w) (hm : ∀ b, b ∈ M ↔ b ∈ M') : Holds w0 M' H w :=
  ⟨h.chunk, h.nodup, fun b hb => by rw [← hm]; exact h.mine b hb, h.size, fun b hb hn => h.old b hb (fun hh => hn ((hm b).1 hh)), h.os, h.tape, h.output⟩
theorem Fn.perm {P : Program} {f : FuncId} {args : List Value} {C C' : List Chunk} {R : Ending → List Chunk → Prop} {w : World} (p : C.Perm C') (h : Fn P f args C R w) : Fn P f args C' R w := fun hw => by
  have hm : ∀ b, b ∈ fps C ↔ b ∈ fps C' := fun b => (fps_perm p).mem_iff
  exact (h ((hw.perm p.symm).reM (fun b => (hm b).symm))).mono fun e w' ⟨H', h1, h2⟩ => ⟨H', h1, h2.reM hm⟩
theorem ReadsM.cut {w : World} {M : List Nat} {A : Option Addr} {vs : List Value} {c l sz : Nat} (h : ReadsM w M A vs) (hc : vs.length ≤ c * sz) : ReadsM w M (cutA A c l sz) (vs.drop (l * sz)) := by
  intro j u hu
  unfold cutA
  split
  · rename_i e
    subst e
    have : vs.drop (c * sz) = [] := by simp; exact hc
    simp [this] at hu
  · rw [List.getElem?_drop] at hu
    obtain ⟨x, rfl, hm, hx⟩ := h _ u hu
    exact ⟨x.add (l * sz), rfl, by rw [Addr.add_add]; exact hm, by rw [Addr.add_add]; exact hx⟩
section
variable {X : Cx} {Q : Post} {E : Env} {H : List Chunk} {ops : Array Oper} {rest : List Oper}
theorem vli_perm {l : List Oper} {H' : List Chunk} (p : H.Perm H') (h : VLI X ops l Q E H') : VLI X ops l Q E H := fun a w ha hw => h a w ha (hw.perm p)
/-- A call of yield; what it was given comes back behind the rest. -/
theorem vli_yieldF {fE : Value → Env} {o : Oper} {l : Nat} {x : Operand} {xs : Array Operand} {ats : Array TypeId} {args : List Value} {C F : List Chunk} {R : Ending → List Chunk → Prop} (ho : o.op = .call { callee := .value x, args := xs, argTypes := ats })
    (hg : o.guard = none) (hd : DstF X E o.dst fE) (hx : E.ev x = some (.func (.yield l) #[] #[])) (hxs : E.evs xs.toList = some args) (hs : Sub C H F) (hf : ∀ w, YFn X.P l args C R w)
    (hR : ∀ v H', R (.returned v) H' → VLI X ops rest Q (fE v) (F ++ H')) (hp : ∀ ch H', R (.panicked ch) H' → ∀ a w, Ok X E a → Holds X.w0 X.M (F ++ H') w → lift X Q (.panic ch) a w) (hout : ∀ H', ¬ R .outgrown H') : VLI X ops (o :: rest) Q E H := by
  intro a w ha hw
  have h1 : xs.map a.eval = args.toArray := by rw [← evs_map ha _ _ hxs, ← Array.toList_map]
  have hw' := hw.perm hs.perm
  obtain ⟨fn, tmps, assign, body, hy, hround⟩ := hf w hw'.sub
  unfold wpListIn
  rw [if_pos (by simp [Region.wanted, hg])]
  refine ⟨fun _ _ => trivial, ?_⟩
  have hrun : (o.semAt Fence.wide.round a.eval).run X.P w = .ok (.round l fn tmps assign body) w := by
    rw [Oper.semAt_eq _ _ _ (fun c h => by rw [ho] at h; cases h)]
    simp [execOp, ho, resolve, h1, ha.ev hx, Deferred.ofValue, invoke, hy]
  rw [hrun]
  refine ⟨fun h => by simp [Fence.wide] at h, hround.mono fun e w'' ⟨H', h2, h3⟩ => ?_⟩
  have h4 := (hw'.called h3).perm List.perm_append_comm
  cases e with
  | returned v => exact hR v H' h2 _ _ (ha.setF hd) h4
  | panicked ch => exact hp ch H' h2 a w'' ha h4
  | outgrown => exact (hout _ h2).elim
end
/-! Drawn regions in a round -/
theorem Free.op {F : Fence} (h : Free F) {n : Nat} {P : Program} {ops : Array Oper} {Q : Exit → Act → World → Prop} (hno : ¬ LetsOut Q) (hd : ∀ (i : Nat) (o : Oper), ops[i]? = some o → noDefer o = true) {i : Nat} {K : Act → World → Prop} {a : Act} {w : World} (hq : wpOp P ops Q i K a w) : wpOpIn F n P ops Q i K a w := by
  unfold wpOp at hq
  unfold wpOpIn
  cases ho : ops[i]? with
  | none => simpa [ho] using hq
  | some o =>
    simp only [ho] at hq ⊢
    split
    · rename_i hw
      rw [if_pos hw] at hq
      rcases hq with hq | ⟨_, hq⟩
      · refine ⟨fun f _ => h.fn f, ?_⟩
        rw [Oper.semAt_eq _ _ _ (noDefer_ne (hd i o ho))]
        exact h.upon hq
      · exact absurd hq hno
    · rename_i hw
      rw [if_neg hw] at hq
      exact ⟨fun f _ => h.fn f, hq⟩
theorem Free.any {F : Fence} (h : Free F) {n : Nat} {P : Program} {md : Region.Mode} {ops : Array Oper} {Q : Exit → Act → World → Prop} (hno : ¬ LetsOut Q) (hd : ∀ (i : Nat) (o : Oper), ops[i]? = some o → noDefer o = true) :
    ∀ (fuel : Nat) (listed : Array Bool) (a : Act) (w : World), wpAny P md ops Q fuel listed a w → wpAnyIn F n P md ops Q fuel listed a w
  | 0, _, _, _, hq => hq
  | fuel + 1, _, _, _, hq => ⟨hq.1, fun i hi => h.op hno hd (wpOp_mono (fun a' w' h' => Free.any h hno hd fuel _ a' w' h') (hq.2 i hi))⟩
theorem vr_draws {X : Cx} {Q : Post} {E : Env} {H : List Chunk} {r id : Nat} {l : List Oper} (S T ord : List Nat) (hno : noOut Q) (hdf : l.all noDefer = true) (hm : X.P.follows .mixedOrders = true) (hB : orderB l.toArray S T ord = true) (hQ : ∀ ch E H, Q (.panic ch) E H → Q (.panic ch) [] H)
    (h : VD X l.toArray S T Q H ord E H) : VR X r (.region id l.toArray true) Q E H := by
  intro a w ha hw
  simp only [orderB, Bool.and_eq_true, decide_eq_true_eq] at hB
  have hw' : Holds X.w0 X.M H { w with drawn := w.drawn + 1 } := hw.drewn rfl rfl rfl rfl
  have h1 := VD.sound hB.1.1 hQ ord _ E H h hB.2 a _ ha hw' (.inl hw')
  rw [hB.1.2] at h1
  refine wpIn_region_any hm ((Free.round r).any hno.lets (fun i o ho => ?_) _ _ _ _ (wpAny_of_C _ _ _ _ h1))
  have : o ∈ l := by
    have := List.getElem?_toArray (xs := l) (i := i)
    rw [this] at ho
    exact List.mem_of_getElem? ho
  exact List.all_eq_true.1 hdf o this
/-! The frames of one function: more rules -/
section
variable {X : Cx} {f : FuncId} {B : Exit → Act → World → Prop} {E : Env} {H : List Chunk}
theorem vf_seqG {c d : Code} (h : VF X f c (Exit.then (wpF X.P f d B) B) E H) : VF X f (.seq c d) B E H := fun a w ha hw => wpF_seq (h a w ha hw)
theorem vf_blockP {id : Nat} {c : Code} (h : VF X f c (fun e a w => (∀ id, e ≠ .exit id) ∧ B e a w) E H) : VF X f (.block id c) B E H := fun a w ha hw => wpF_block (h a w ha hw)
end
/-- The frame of a round, of a loop with one variable. -/
theorem ok_round {X : Cx} {P : Program} {w : World} {M : List Nat} {E : Env} {tmps : Array Value} {D : List Deferred} {n t : Nat} {v : Value} (h : Ok X E { tmps := tmps, defers := D }) (hn : X.n = n) (ht : Nat.blt t n = true) :
    Ok ⟨P, w, M, n, []⟩ ((t, v) :: E) { tmps := ((#[t] : Array Tmp).zip ([v] : List Value).toArray).foldl (fun q (p : Tmp × Value) => q.setIfInBounds p.1 p.2) tmps, defers := [] } := by
  have h0 : Ok ⟨P, w, M, n, []⟩ E { tmps := tmps, defers := [] } := ⟨by rw [← hn]; exact h.size, rfl, h.vals⟩
  have := h0.put (d := t) (v := v) (by simpa [Nat.blt_eq] using ht)
  simpa [Act.put] using this
end Go.Proofs.YtdehjgpdcdjhjaaDoor.K
