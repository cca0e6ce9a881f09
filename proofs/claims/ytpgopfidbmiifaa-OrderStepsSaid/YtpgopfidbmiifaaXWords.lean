/-
  Words of this session beside the printer's: laws of single operations that the printer lacks. No program in sight.
-/
import Derived.Test.YtpgopfidbmiifaaWMore
import Derived.Test.YtpgopfidbmiifaaWGuard
import Derived.Lib.UnsafeStr
import Derived.Laws.Externs
import Derived.Laws.Cover2
import Derived.Laws.FloatArith
namespace Go.Proofs.Ytpgopfidbmiifaa.Xw
open Go.RowKit Go.Proofs.YtpgopfidbmiifaaW.PrintWords Go.Proofs.YtpgopfidbmiifaaW.PrintLast Go.Proofs.YtpgopfidbmiifaaW.PrintMore

theorem cell_freeze (w : World) (p : Addr) (n : Nat) (a : Addr) : (w.freeze p n).cell? a = w.cell? a := by
  unfold World.freeze
  by_cases hn : n = 0
  · rw [if_pos hn]
  · rw [if_neg hn]
    unfold World.cell?
    simp only [Array.getElem?_modify]
    by_cases hb : p.block = a.block
    · rw [if_pos hb]
      cases w.heap[a.block]? with
      | none => rfl
      | some o => cases o <;> rfl
    · rw [if_neg hb]

theorem b_true (b : Bool) : (b == true) = b := by cases b <;> rfl
theorem b_false (b : Bool) : (b == false) = !b := by cases b <;> rfl
@[go_sem] theorem unary_neg_float (k : FloatKind) (b : Nat) : Op.unary .neg (.float k b) = pure (.float k (Op.negFloat k b)) := rfl

section
variable {P : Program} {ops : Array Oper} {o : Oper} {rest : List Oper} {a : Act} {Q : Exit → Act → World → Prop}
/-- '[]byte("abc")' of a constant: the row is marked behind its last cell; it reads as it did. -/
theorem mark_bytes {T e : TypeId} (hT : P.underlying T = some (.slice e)) (he : P.underlying e = some (.int .u8)) {N : Tmp} (hd : o.dst = some N) (hg : o.guard = none) {x : Operand} (hop : o.op = .convert T T x)
    {A : Option Addr} {n c : Nat} (hv : a.eval x = .slice A n c) {w0 W : World} {base : Nat} {ok : Nat → Prop} {xs : List Int} (hpos : 0 < n)
    (hR : (Kd.int .u8).R e W base ok (.slice A n c) xs) (HB : Below base w0 W)
    (h : ∀ w1, (Kd.int .u8).C w1 A n xs → n ≤ c → Below base w0 w1 → wpList P ops Q rest (a.put (some N) (.slice A n c)) w1) : wpList P ops Q (o :: rest) a W := by
  have hr := Kd.R_reads' hR
  obtain ⟨_, inner, ⟨hin, hcase⟩, hreps⟩ := hR
  rcases hcase with ⟨hx, h0⟩ | ⟨g, cap, cur, hx, hbase, hheap, hle, hmax, hsz, htake⟩
  · exfalso
    injection hx with h1 h2 h3
    omega
  · injection hx with h1 h2 h3
    subst h1 h2 h3
    have hsh : W.shape? g = some (e, cur.size) := by unfold World.shape?; rw [hheap]
    have hrun : (execOp a.eval o).run P W = .ok (.value (.slice (some ⟨g, 0, none⟩) xs.length c)) (W.freeze ⟨g, cur.size, none⟩ 1) := by
      unfold execOp
      simp [hop, hv, convert, run_underlying hT, run_underlying he, markStringish, hsh]
    refine Kd.event_run hg hrun ?_
    rw [hd]
    refine h _ ?_ hle (Go.Lib.below_freeze HB hbase 1)
    obtain ⟨c1, c2, c3⟩ := hr.2.2
    refine ⟨c1, c2, fun hp => ?_⟩
    obtain ⟨ad, e1, hc⟩ := c3 hp
    refine ⟨ad, e1, fun j p hj => ?_⟩
    obtain ⟨cs, l1, l2, l3⟩ := hc j p hj
    exact ⟨cs, l1, l2, fun i u hi => by rw [cell_freeze]; exact l3 i u hi⟩
/-- The operation calls what lies in slot t. -/
theorem gate_calleeT {W : World} {t : Tmp} {as : Array Operand} {ts : Array TypeId} (_ho : o.op = .call { callee := .value (.tmp t), args := as, argTypes := ts }) (h : wpList P ops Q (o :: rest) a W) : wpList P ops Q (o :: rest) a W := h
/-- A call of a known function through a slot that holds it, without captures. -/
theorem goesLT_ {t : Tmp} {oi : Oper} {w : World} (N : Option Tmp) (hd : oi.dst = N) (hg : oi.guard = none) {f : FuncId} {fn : Func} {as : Array Operand} {ts : Array TypeId} (hf : P.funcs[f]? = some fn) (hname : (fn.name == "runtime.NumGoroutine") = false) (hb : fn.body.isSome = true) (args : Array Value)
    (hop : oi.op = .call { callee := .value (.tmp t), args := as, argTypes := ts }) (hargs : as.map a.eval = args)
    (h : Calls P f args w fun e w' => ∃ v, e = .returned v ∧ wpList P ops Q rest (a.put N v) w') (hv : a.eval (.tmp t) = .func (.func f) #[] #[] := by rfl) : wpList P ops Q (oi :: rest) a w := by
  refine wpList_plain hg fun K hK => ?_
  have he := enters_ hf hname hb args w
  have hrun : (execOp a.eval oi).run P w = .ok (.enter f args) w := by
    unfold execOp
    simp [hop, resolve, hv, Deferred.ofValue, invoke, hargs, he]
  unfold Oper.wp
  rw [hrun, Oper.upon_enter]
  refine h.mono fun e w'' hh => ?_
  obtain ⟨v, rfl, hk⟩ := hh
  subst hd
  exact hK _ _ hk
end
end Go.Proofs.Ytpgopfidbmiifaa.Xw
