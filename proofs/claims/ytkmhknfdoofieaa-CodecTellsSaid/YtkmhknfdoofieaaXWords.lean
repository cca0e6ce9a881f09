/-
  Words of this session beside the printer's: laws of single operations that the printer lacks. No program in sight.
-/
import Derived.Test.YtkmhknfdoofieaaWMore
import Derived.Test.YtkmhknfdoofieaaWGuard
import Derived.Lib.UnsafeStr
import Derived.Laws.Externs
import Derived.Laws.Cover2
import Derived.Laws.FloatArith
namespace Go.Proofs.Ytkmhknfdoofieaa.Xw
open Go.RowKit Go.Proofs.YtkmhknfdoofieaaW.PrintWords Go.Proofs.YtkmhknfdoofieaaW.PrintLast Go.Proofs.YtkmhknfdoofieaaW.PrintMore
set_option linter.unusedVariables false

theorem cell_freeze (w : World) (p : Addr) (n : Nat) (a : Addr) : (w.freeze p n).cell? a = w.cell? a := by
  unfold World.freeze
  by_cases hn : n = 0
  · rw [if_pos hn]
  · rw [if_neg hn]
    unfold World.cell?
    simp only [Array.getElem?_modify]
    by_cases hb : p.block = a.block
    · rw [if_pos hb]
      cases w.heap[a.block]? with
      | none => rfl
      | some o => cases o <;> rfl
    · rw [if_neg hb]

theorem b_true (b : Bool) : (b == true) = b := by cases b <;> rfl
theorem b_false (b : Bool) : (b == false) = !b := by cases b <;> rfl
@[go_sem] theorem unary_neg_float (k : FloatKind) (b : Nat) : Op.unary .neg (.float k b) = pure (.float k (Op.negFloat k b)) := rfl

/-- A slice cut at both ends, as a value. -/
def cutv (v : Value) (lo hi : Int) (size : Nat) : Value := match v with
  | .slice A _ c => .slice (if c = lo.toNat then A else A.map (·.add (lo.toNat * size))) (hi.toNat - lo.toNat) (c - lo.toNat)
  | v => v
theorem cutv_mid (A : Option Addr) (n c : Nat) (lo hi : Int) (size : Nat) : cutv (.slice A n c) lo hi size = .slice (if c = lo.toNat then A else A.map (·.add (lo.toNat * size))) (hi.toNat - lo.toNat) (c - lo.toNat) := rfl

section
variable {P : Program} {ops : Array Oper} {o : Oper} {rest : List Oper} {a : Act} {Q : Exit → Act → World → Prop}
/-- '[]byte("abc")' of a constant: the row is marked behind its last cell; it reads as it did. -/
theorem mark_bytes {T e : TypeId} (hT : P.underlying T = some (.slice e)) (he : P.underlying e = some (.int .u8)) {N : Tmp} (hd : o.dst = some N) (hg : o.guard = none) {x : Operand} (hop : o.op = .convert T T x)
    {A : Option Addr} {n c : Nat} (hv : a.eval x = .slice A n c) {w0 W : World} {base : Nat} {ok : Nat → Prop} {xs : List Int} (hpos : 0 < n)
    (hR : (Kd.int .u8).R e W base ok (.slice A n c) xs) (HB : Below base w0 W)
    (h : ∀ w1, (Kd.int .u8).C w1 A n xs → n ≤ c → Below base w0 w1 → wpList P ops Q rest (a.put (some N) (.slice A n c)) w1) : wpList P ops Q (o :: rest) a W := by
  have hr := Kd.R_reads' hR
  obtain ⟨_, inner, ⟨hin, hcase⟩, hreps⟩ := hR
  rcases hcase with ⟨hx, h0⟩ | ⟨g, cap, cur, hx, hbase, hheap, hle, hmax, hsz, htake⟩
  · exfalso
    injection hx with h1 h2 h3
    omega
  · injection hx with h1 h2 h3
    subst h1 h2 h3
    have hsh : W.shape? g = some (e, cur.size) := by unfold World.shape?; rw [hheap]
    have hrun : (execOp a.eval o).run P W = .ok (.value (.slice (some ⟨g, 0, none⟩) xs.length c)) (W.freeze ⟨g, cur.size, none⟩ 1) := by
      unfold execOp
      simp [hop, hv, convert, run_underlying hT, run_underlying he, markStringish, hsh]
    refine Kd.event_run hg hrun ?_
    rw [hd]
    refine h _ ?_ hle (Go.Lib.below_freeze HB hbase 1)
    obtain ⟨c1, c2, c3⟩ := hr.2.2
    refine ⟨c1, c2, fun hp => ?_⟩
    obtain ⟨ad, e1, hc⟩ := c3 hp
    refine ⟨ad, e1, fun j p hj => ?_⟩
    obtain ⟨cs, l1, l2, l3⟩ := hc j p hj
    exact ⟨cs, l1, l2, fun i u hi => by rw [cell_freeze]; exact l3 i u hi⟩
/-- The operation calls what lies in slot t. -/
theorem gate_calleeT {W : World} {t : Tmp} {as : Array Operand} {ts : Array TypeId} (_ho : o.op = .call { callee := .value (.tmp t), args := as, argTypes := ts }) (h : wpList P ops Q (o :: rest) a W) : wpList P ops Q (o :: rest) a W := h
/-- A call of a known function through a slot that holds it, without captures. -/
theorem goesLT_ {t : Tmp} {oi : Oper} {w : World} (N : Option Tmp) (hd : oi.dst = N) (hg : oi.guard = none) {f : FuncId} {fn : Func} {as : Array Operand} {ts : Array TypeId} (hf : P.funcs[f]? = some fn) (hname : (fn.name == "runtime.NumGoroutine") = false) (hb : fn.body.isSome = true) (args : Array Value)
    (hop : oi.op = .call { callee := .value (.tmp t), args := as, argTypes := ts }) (hargs : as.map a.eval = args)
    (h : Calls P f args w fun e w' => ∃ v, e = .returned v ∧ wpList P ops Q rest (a.put N v) w') (hv : a.eval (.tmp t) = .func (.func f) #[] #[] := by rfl) : wpList P ops Q (oi :: rest) a w := by
  refine wpList_plain hg fun K hK => ?_
  have he := enters_ hf hname hb args w
  have hrun : (execOp a.eval oi).run P w = .ok (.enter f args) w := by
    unfold execOp
    simp [hop, resolve, hv, Deferred.ofValue, invoke, hargs, he]
  unfold Oper.wp
  rw [hrun, Oper.upon_enter]
  refine h.mono fun e w'' hh => ?_
  obtain ⟨v, rfl, hk⟩ := hh
  subst hd
  exact hK _ _ hk
/-- 'make([]T, 0, n)': an empty row with room. -/
theorem R_make0 {α : Type} (d : Kd α) {w0 W : World} (base e : Nat) (hgd : o.guard = none) {N : Tmp} (_hd : o.dst = some N) (t : TypeId) (x y : Operand) (ho : o.op = .makeSlice t x y) (n : Int) (hx : a.eval x = .int .i64 0) (hy : a.eval y = .int .i64 n)
    (ht : P.underlying t = some (.slice e)) (z : Value) (bytes : Nat) (hinfo : (P.info? e).map (fun i => (i.zero, i.size, i.bytes)) = some (some z, d.sz, bytes)) (_hz : z.cells.size = d.sz) (_hs0 : 0 < d.sz) (hb0 : 0 < bytes)
    (z0 : α) {ok okp : Nat → Prop} (_hzero : d.M W base okp z0 z.cells.toList) (_hok : ∀ k, okp k → ok k) (hfresh : ok W.heap.size) (h0 : 0 ≤ n) (hl : n.toNat * bytes ≤ 281474976710656) (HB : Below base w0 W) (hbase : base ≤ W.heap.size)
    (h : ∀ v1 w1, d.R e w1 base ok v1 ([] : List α) → Below base w0 w1 → W.grownBy w1 none → (∃ b, v1.ownBlock = some b ∧ W.heap.size ≤ b) → wpList P ops Q rest (a.put o.dst v1) w1) : wpList P ops Q (o :: rest) a W := by
  obtain ⟨m, rfl⟩ := Int.eq_ofNat_of_zero_le h0
  simp only [Int.toNat_natCast] at hl
  obtain ⟨i0, hi, hzz⟩ := Option.map_eq_some_iff.1 hinfo
  simp only [Prod.mk.injEq] at hzz
  obtain ⟨hz0, hz1, hz2⟩ := hzz
  have hm : m ≤ 281474976710656 := Nat.le_trans (Nat.le_mul_of_pos_right _ hb0) hl
  have hr := run_make (P := P) W t e i0 z ht hi hz0 .i64 .i64 0 (m : Int) (by omega) (by omega)
    (by
      have h3 : ((i0.bytes * m : Nat) : Int) ≤ 281474976710656 := by rw [hz2, Nat.mul_comm]; omega
      rwa [Int.natCast_mul] at h3) (by omega)
  simp only [Int.toNat_natCast, Int.toNat_zero] at hr
  rw [hz1] at hr
  have hrun : (execOp a.eval o).run P W = .ok (.value (.slice (some ⟨W.heap.size, 0, none⟩) 0 m)) (W.alloc (.cells (madeCells z.cells (m * d.sz)) e)) := by simp [execOp, ho, hx, hy, hr]
  refine Kd.event_run hgd hrun (h _ _ ⟨fun k hk => ?_, [], ⟨by simp, .inr ⟨W.heap.size, m, madeCells z.cells (m * d.sz), rfl, hbase, heap_alloc_new W _, Nat.zero_le _, by unfold maxLen; omega, by simp [size_madeCells], by simp⟩⟩, Reps.none _ _⟩ (HB.alloc hbase _) (World.grownBy_alloc W _ none) ⟨W.heap.size, by simp [Value.ownBlock], Nat.le_refl _⟩)
  have : W.heap.size = k := by simpa [Value.ownBlock] using hk
  subst this
  exact hfresh
end
end Go.Proofs.Ytkmhknfdoofieaa.Xw
