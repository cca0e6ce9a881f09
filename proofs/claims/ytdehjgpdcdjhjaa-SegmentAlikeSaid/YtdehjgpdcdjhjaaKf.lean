/- A framework of our own for walks over the model: Kf. -/
import Derived.Test.YtdehjgpdcdjhjaaKe
import Derived.Laws.Externs
namespace Go.Proofs.Ytdehjgpdcdjhjaa.K
open Go Go.RowKit
set_option linter.unusedVariables false
set_option linter.unusedSimpArgs false
theorem w_i64 {x : Int} (h : -9223372036854775808 ≤ x) (h2 : x < 9223372036854775808) : IntKind.i64.wrap x = x := by unfold IntKind.wrap; simp [IntKind.signed, IntKind.bits]; omega
theorem w_u64 {x : Int} (h : 0 ≤ x) (h2 : x < 18446744073709551616) : IntKind.u64.wrap x = x := by unfold IntKind.wrap; simp [IntKind.signed, IntKind.bits]; omega
theorem w_u8 {x : Int} (h : 0 ≤ x) (h2 : x < 256) : IntKind.u8.wrap x = x := by unfold IntKind.wrap; simp [IntKind.signed, IntKind.bits]; omega
theorem w_u32 {x : Int} (h : 0 ≤ x) (h2 : x < 4294967296) : IntKind.u32.wrap x = x := by unfold IntKind.wrap; simp [IntKind.signed, IntKind.bits]; omega
theorem wu64_mod (x : Int) : IntKind.u64.wrap x = x % 18446744073709551616 := by unfold IntKind.wrap; simp [IntKind.signed, IntKind.bits]
theorem wu8_mod (x : Int) : IntKind.u8.wrap x = x % 256 := by unfold IntKind.wrap; simp [IntKind.signed, IntKind.bits]
/-- x >> c by a constant. -/
theorem shr_lit {x : Int} {q : Int} {b : Nat} (d : Int) (h : (2 : Int) ^ (min q.toNat b) = d) (hd : 0 < d) : x.fdiv (2 ^ (min q.toNat b)) = x / d := by
  rw [h, Int.fdiv_eq_ediv_of_nonneg _ (Int.le_of_lt hd)]
theorem shl_lit {k : IntKind} {x q r : Int} {b : Nat} (d : Int) (h : (2 : Int) ^ (min q.toNat b) = d) (hr : k.wrap (x * d) = r) : k.wrap (x * 2 ^ (min q.toNat b)) = r := by
  rw [h, hr]
theorem quo_nn {k : IntKind} {x y : Int} (h : 0 ≤ x) (hr : k.wrap (x / y) = x / y) : k.wrap (x.tdiv y) = x / y := by
  rw [Int.tdiv_eq_ediv_of_nonneg h, hr]
theorem rem_nn {x y : Int} (h : 0 ≤ x) : x.tmod y = x % y := Int.tmod_eq_emod_of_nonneg h
theorem le_item {E : Env} {t : Nat} {u v : Value} (h : E.get t = some u) (e : u = v) : E.get t = some v := e ▸ h
theorem cells_get {α : Type} (f : α → Value) (l : List α) (d : α) {i : Nat} (h : i < l.length) : (l.map f)[i]? = some (f (l.getD i d)) := by
  simp [List.getD, h]
def icells (k : IntKind) (l : List Int) : List Value := l.map (Value.int k)
def tcells (l : List Bool) : List Value := l.map Value.bool
theorem icells_get {k : IntKind} {l : List Int} {i : Nat} (h : i < l.length) : (icells k l)[i]? = some (.int k (l.getD i 0)) := cells_get _ _ _ h
theorem bcells_get {l : List UInt8} {i : Nat} (h : i < l.length) : (bcells l)[i]? = some (.int .u8 (l.getD i 0).toNat) := cells_get (fun b : UInt8 => Value.int .u8 b.toNat) l 0 h
theorem tcells_get {l : List Bool} {i : Nat} (h : i < l.length) : (tcells l)[i]? = some (.bool (l.getD i false)) := cells_get Value.bool l false h
theorem bcells_length (l : List UInt8) : (bcells l).length = l.length := by simp [bcells]
theorem icells_length (k : IntKind) (l : List Int) : (icells k l).length = l.length := by simp [icells]
section
variable {X : Cx} {Q : Post} {E E0 : Env} {H H0 F : List Chunk} {ops : Array Oper} {rest : List Oper}
theorem vc_loopw {c : Code} (I : Nat → Env → List Chunk → Prop) (k : Nat) (h0 : ∃ E0 H0 F, I k E0 H0 ∧ Env.le E0 E ∧ Sub H0 H F)
    (round : ∀ k E H, I k E H → VC X c (Post.seq (fun E' H' => ∃ k' E2 H2 F, k' < k ∧ Env.le E2 E' ∧ Sub H2 H' F ∧ I k' E2 H2) Q) E H) : VC X (.loop c) Q E H := by
  obtain ⟨E0, H0, F, h, hE, hH⟩ := h0
  exact vc_weak hE hH (vc_loop I k h round)
/-- A call of a function without a body. -/
theorem vl_ext {fE : Value → Env} {o : Oper} {f : FuncId} {xs : Array Operand} {ats : Array TypeId} {args : List Value} {v : Value} (ho : o.op = .call { callee := .value (.func f), args := xs, argTypes := ats })
    (hg : o.guard = none) (hd : DstF X E o.dst fE) (hx : E.evs xs.toList = some args) (hc : ∀ w, (callFunc f args.toArray).run X.P w = .ok (.value v) w) (h : VL X ops rest Q (fE v) H) : VL X ops (o :: rest) Q E H := by
  intro a w ha hw
  refine wpList_plain hg fun K hK => ?_
  unfold Oper.wp
  have h1 : xs.map a.eval = args.toArray := by rw [← evs_map ha _ _ hx, ← Array.toList_map]
  have : (execOp a.eval o).run X.P w = .ok (.value v) w := by simp [execOp, ho, resolve, h1, Act.eval, Deferred.ofValue, invoke, hc]
  rw [this]
  exact hK _ _ (h _ _ (ha.setF hd) hw)
/-! Floats: their bits -/
section flt
variable {T yT ty : TypeId} {x y : Operand} {p q : Nat}
theorem val_flt (hx : E.ev x = some (.float .f64 p)) (hy : E.ev y = some (.float .f64 q)) : Val X E H (.binOp .lss T x y yT) ty (.bool (FloatKind.f64.format.order p q == some .lt)) := by
  intro a w o ho _ ha _
  simp [execOp, ho, ha.ev hx, ha.ev hy, eqGuard, binOp, Op.floatCmp]
theorem val_fgt (hx : E.ev x = some (.float .f64 p)) (hy : E.ev y = some (.float .f64 q)) : Val X E H (.binOp .gtr T x y yT) ty (.bool (FloatKind.f64.format.order p q == some .gt)) := by
  intro a w o ho _ ha _
  simp [execOp, ho, ha.ev hx, ha.ev hy, eqGuard, binOp, Op.floatCmp]
theorem val_feq (hx : E.ev x = some (.float .f64 p)) (hy : E.ev y = some (.float .f64 q)) : Val X E H (.binOp .eql T x y yT) ty (.bool (FloatKind.f64.format.order p q == some .eq)) := by
  intro a w o ho _ ha _
  simp [execOp, ho, ha.ev hx, ha.ev hy, eqGuard, binOp, Op.floatCmp]
theorem val_fne (hx : E.ev x = some (.float .f64 p)) (hy : E.ev y = some (.float .f64 q)) : Val X E H (.binOp .neq T x y yT) ty (.bool (FloatKind.f64.format.order p q != some .eq)) := by
  intro a w o ho _ ha _
  simp [execOp, ho, ha.ev hx, ha.ev hy, eqGuard, binOp, Op.floatCmp]
end flt
/-- A bool that is known is put in its place. -/
theorem vl_split {l : List Oper} {t : Nat} {b : Bool} (ht : E.get t = some (.bool b)) (h1 : b = true → VL X ops l Q ((t, .bool true) :: E) H) (h2 : b = false → VL X ops l Q ((t, .bool false) :: E) H) : VL X ops l Q E H := by
  have key : ∀ (c : Bool), b = c → ∀ a, Ok X E a → Ok X ((t, .bool c) :: E) a := fun c hc a ha => ha.sub fun u v hv => by
    simp only [Env.get] at hv
    by_cases e : t = u
    · subst e
      simp at hv
      rw [ht, ← hv, hc]
    · rw [beq_ne e] at hv
      exact hv
  cases hb : b with
  | true => exact fun a w ha hw => h1 hb a w (key true hb a ha) hw
  | false => exact fun a w ha hw => h2 hb a w (key false hb a ha) hw
theorem vd_split {S T : List Nat} {H1 : List Chunk} {l : List Nat} {t : Nat} {b : Bool} (ht : E.get t = some (.bool b)) (h1 : b = true → VD X ops S T Q H1 l ((t, .bool true) :: E) H) (h2 : b = false → VD X ops S T Q H1 l ((t, .bool false) :: E) H) : VD X ops S T Q H1 l E H := by
  have key : ∀ (c : Bool), b = c → ∀ u, Env.get ((t, .bool c) :: E) u = E.get u := fun c hc u => by
    simp only [Env.get]
    by_cases e : t = u
    · subst e
      rw [ht, hc]
      simp
    · rw [beq_ne e]
      simp
  cases hb : b with
  | true => exact vd_env _ _ _ _ (key true hb) (h1 hb)
  | false => exact vd_env _ _ _ _ (key false hb) (h2 hb)
end
end Go.Proofs.Ytdehjgpdcdjhjaa.K
