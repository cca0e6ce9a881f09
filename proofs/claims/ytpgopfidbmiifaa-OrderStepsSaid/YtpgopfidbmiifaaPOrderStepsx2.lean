/- Printed for this claim by a program of this session (the kit's printer with additions, wip/xp); Lean checks it. -/
import Derived.Test.YtpgopfidbmiifaaPOrderStepsx0
import Derived.Test.YtpgopfidbmiifaaPOrderStepsx1
namespace Go.Proofs.Ytpgopfidbmiifaa.POrderSteps
open Go.RowKit Go.Proofs.YtpgopfidbmiifaaW.PrintWords Go.Proofs.YtpgopfidbmiifaaW.PrintLast Go.Proofs.YtpgopfidbmiifaaW.PrintMore
attribute [local go_sem] max2_int min2_int max_two min_two max_three min_three max_four min_four   -- for this text's walks alone
set_option linter.unusedVariables false
set_option linter.unusedSimpArgs false

/-! ### order_Canon: function 11 -/
def order_Canon.f (a0 : Int) : Option (Int) := (order_float.f a0).bind fun t103 => (if (FloatKind.f64.format.order t103 t103 != some Ordering.eq) = true then (some 9221120237041090560) else (if (FloatKind.f64.format.order t103 0 == some Ordering.eq) = true then (some 0) else (some a0)))
set_option maxHeartbeats 8000000 in
set_option maxRecDepth 100000 in
theorem order_Canon.calls (a0 : Int) (r : Int) (w : World) (h : order_Canon.f a0 = some r) :
    Calls Try.prog 11 #[.int .i64 a0] w fun e w' => e = .returned (.int .i64 r) ∧ Drawn0 w w' := by
  have H : ((order_float.f a0).bind fun t103 => (if (FloatKind.f64.format.order t103 t103 != some Ordering.eq) = true then (some 9221120237041090560) else (if (FloatKind.f64.format.order t103 0 == some Ordering.eq) = true then (some 0) else (some a0)))) = some r := h
  clear h
  replace H := Option.bind_eq_some_iff.mp H
  obtain ⟨t103, A20, H⟩ := H
  replace H : (if (FloatKind.f64.format.order t103 t103 != some Ordering.eq) = true then (some 9221120237041090560) else (if (FloatKind.f64.format.order t103 0 == some Ordering.eq) = true then (some 0) else (some a0))) = some r := H
  have A2 := Aside0.mk A20
  clear A20
  by_cases c3 : (FloatKind.f64.format.order t103 t103 != some Ordering.eq) = true
  · rw [if_pos c3] at H
    have c3b0 : (FloatKind.f64.format.order t103 t103 != some Ordering.eq) = true := c3
    (try (have c3b1 : decide (FloatKind.f64.format.order t103 t103 = some Ordering.eq) = false := by simpa using c3))
    (try (have c3b2 : (FloatKind.f64.format.order t103 t103 == some Ordering.eq) = false := by simpa using c3))
    (try (have c3b3 : ¬ (FloatKind.f64.format.order t103 t103 = some Ordering.eq) := by simpa using c3))
    clear c3
    obtain rfl := Option.some.inj H
    go_enter Try.func11, Try.ntmps11
    go_wp2_with (first | ((with_reducible refine gate_callee (f := 30) rfl ?_); refine goesL_ (some 5) rfl rfl Try.func30 (by kernel_rfl) rfl #[.int .i64 a0] rfl (by (try simp only [List.map_toArray, List.map_cons, List.map_nil]); first | done | rfl | (simp only [List.length_drop, List.length_take]; rfl)) ?_; (with_reducible refine (order_float.calls a0 t103 _ A2.out).mono ?_); rintro e w' ⟨rfl, ⟨nd, rfl⟩⟩; refine ⟨_, rfl, ?_⟩))
    go_ret
    exact ⟨by first | rfl | (simp; done) | (simp [*]; done), by repeat (first | exact Drawn0.refl _ | apply Drawn0.step)⟩
  · rw [if_neg c3] at H
    have c3b0 : (FloatKind.f64.format.order t103 t103 != some Ordering.eq) = false := by simpa using c3
    (try (have c3b1 : decide (FloatKind.f64.format.order t103 t103 = some Ordering.eq) = true := by simpa using c3))
    (try (have c3b2 : (FloatKind.f64.format.order t103 t103 == some Ordering.eq) = true := by simpa using c3))
    clear c3
    by_cases c4 : (FloatKind.f64.format.order t103 0 == some Ordering.eq) = true
    · rw [if_pos c4] at H
      have c4b0 : (FloatKind.f64.format.order t103 0 == some Ordering.eq) = true := c4
      (try (have c4b1 : decide (FloatKind.f64.format.order t103 0 = some Ordering.eq) = true := by simpa using c4))
      (try (have c4b2 : (FloatKind.f64.format.order t103 0 == some Ordering.eq) = true := by simpa using c4))
      clear c4
      obtain rfl := Option.some.inj H
      go_enter Try.func11, Try.ntmps11
      go_wp2_with (first | ((with_reducible refine gate_callee (f := 30) rfl ?_); refine goesL_ (some 5) rfl rfl Try.func30 (by kernel_rfl) rfl #[.int .i64 a0] rfl (by (try simp only [List.map_toArray, List.map_cons, List.map_nil]); first | done | rfl | (simp only [List.length_drop, List.length_take]; rfl)) ?_; (with_reducible refine (order_float.calls a0 t103 _ A2.out).mono ?_); rintro e w' ⟨rfl, ⟨nd, rfl⟩⟩; refine ⟨_, rfl, ?_⟩))
      go_ret
      exact ⟨by first | rfl | (simp; done) | (simp [*]; done), by repeat (first | exact Drawn0.refl _ | apply Drawn0.step)⟩
    · rw [if_neg c4] at H
      have c4b0 : (FloatKind.f64.format.order t103 0 == some Ordering.eq) = false := by simpa using c4
      (try (have c4b1 : decide (FloatKind.f64.format.order t103 0 = some Ordering.eq) = false := by simpa using c4))
      (try (have c4b2 : (FloatKind.f64.format.order t103 0 == some Ordering.eq) = false := by simpa using c4))
      (try (have c4b3 : ¬ (FloatKind.f64.format.order t103 0 = some Ordering.eq) := by simpa using c4))
      clear c4
      obtain rfl := Option.some.inj H
      go_enter Try.func11, Try.ntmps11
      go_wp2_with (first | ((with_reducible refine gate_callee (f := 30) rfl ?_); refine goesL_ (some 5) rfl rfl Try.func30 (by kernel_rfl) rfl #[.int .i64 a0] rfl (by (try simp only [List.map_toArray, List.map_cons, List.map_nil]); first | done | rfl | (simp only [List.length_drop, List.length_take]; rfl)) ?_; (with_reducible refine (order_float.calls a0 t103 _ A2.out).mono ?_); rintro e w' ⟨rfl, ⟨nd, rfl⟩⟩; refine ⟨_, rfl, ?_⟩))
      go_ret
      exact ⟨by first | rfl | (simp; done) | (simp [*]; done), by repeat (first | exact Drawn0.refl _ | apply Drawn0.step)⟩

-- NOT PRINTED: function 31 (math_Float64bits)

/-! ### order_Key: function 17 -/
def order_Key.f (a0 : Int) : Option (Int) := (order_Canon.f a0).bind fun t104 => ((order_float.f t104).bind fun t105 => (if (FloatKind.f64.format.order t105 t105 != some Ordering.eq) = true then (some 18446744073709551615) else (if (FloatKind.f64.format.order t105 0 == some Ordering.lt) = true then (some (Go.bits .xor .u64 18446744073709551615 (t105 : Int))) else (some (Go.bits .or .u64 (t105 : Int) 9223372036854775808)))))
set_option maxHeartbeats 8000000 in
set_option maxRecDepth 100000 in
theorem order_Key.calls (a0 : Int) (r : Int) (w : World) (h : order_Key.f a0 = some r) :
    Calls Try.prog 17 #[.int .i64 a0] w fun e w' => e = .returned (.int .u64 r) ∧ Drawn0 w w' := by
  have hx31 : ∀ (x : Nat) (w : World), (callFunc 31 #[.float .f64 x]).run Try.prog w = .ok (.value (.int .u64 (x : Int))) w := fun x w => by rw [run_callFunc_extern (e := Extern.MathFloatBits.float64bits) Try.func31 (by kernel_rfl) (by kernel_rfl) (by kernel_rfl) (by kernel_rfl)]; rfl
  have H : ((order_Canon.f a0).bind fun t104 => ((order_float.f t104).bind fun t105 => (if (FloatKind.f64.format.order t105 t105 != some Ordering.eq) = true then (some 18446744073709551615) else (if (FloatKind.f64.format.order t105 0 == some Ordering.lt) = true then (some (Go.bits .xor .u64 18446744073709551615 (t105 : Int))) else (some (Go.bits .or .u64 (t105 : Int) 9223372036854775808)))))) = some r := h
  clear h
  replace H := Option.bind_eq_some_iff.mp H
  obtain ⟨t104, A20, H⟩ := H
  replace H : ((order_float.f t104).bind fun t105 => (if (FloatKind.f64.format.order t105 t105 != some Ordering.eq) = true then (some 18446744073709551615) else (if (FloatKind.f64.format.order t105 0 == some Ordering.lt) = true then (some (Go.bits .xor .u64 18446744073709551615 (t105 : Int))) else (some (Go.bits .or .u64 (t105 : Int) 9223372036854775808))))) = some r := H
  have A2 := Aside0.mk A20
  clear A20
  replace H := Option.bind_eq_some_iff.mp H
  obtain ⟨t105, A30, H⟩ := H
  replace H : (if (FloatKind.f64.format.order t105 t105 != some Ordering.eq) = true then (some 18446744073709551615) else (if (FloatKind.f64.format.order t105 0 == some Ordering.lt) = true then (some (Go.bits .xor .u64 18446744073709551615 (t105 : Int))) else (some (Go.bits .or .u64 (t105 : Int) 9223372036854775808)))) = some r := H
  have A3 := Aside0.mk A30
  clear A30
  by_cases c4 : (FloatKind.f64.format.order t105 t105 != some Ordering.eq) = true
  · rw [if_pos c4] at H
    have c4b0 : (FloatKind.f64.format.order t105 t105 != some Ordering.eq) = true := c4
    (try (have c4b1 : decide (FloatKind.f64.format.order t105 t105 = some Ordering.eq) = false := by simpa using c4))
    (try (have c4b2 : (FloatKind.f64.format.order t105 t105 == some Ordering.eq) = false := by simpa using c4))
    (try (have c4b3 : ¬ (FloatKind.f64.format.order t105 t105 = some Ordering.eq) := by simpa using c4))
    clear c4
    obtain rfl := Option.some.inj H
    go_enter Try.func17, Try.ntmps17
    go_wp2_with (first | ((with_reducible refine gate_callee (f := 11) rfl ?_); refine goesL_ (some 6) rfl rfl Try.func11 (by kernel_rfl) rfl #[.int .i64 a0] rfl (by (try simp only [List.map_toArray, List.map_cons, List.map_nil]); first | done | rfl | (simp only [List.length_drop, List.length_take]; rfl)) ?_; (with_reducible refine (order_Canon.calls a0 t104 _ A2.out).mono ?_); rintro e w' ⟨rfl, ⟨nd, rfl⟩⟩; refine ⟨_, rfl, ?_⟩) | ((with_reducible refine gate_callee (f := 30) rfl ?_); refine goesL_ (some 7) rfl rfl Try.func30 (by kernel_rfl) rfl #[.int .i64 t104] rfl (by (try simp only [List.map_toArray, List.map_cons, List.map_nil]); first | done | rfl | (simp only [List.length_drop, List.length_take]; rfl)) ?_; (with_reducible refine (order_float.calls t104 t105 _ A3.out).mono ?_); rintro e w' ⟨rfl, ⟨nd, rfl⟩⟩; refine ⟨_, rfl, ?_⟩))
    go_ret
    exact ⟨by first | rfl | (simp; done) | (simp [*]; done), by repeat (first | exact Drawn0.refl _ | apply Drawn0.step)⟩
  · rw [if_neg c4] at H
    have c4b0 : (FloatKind.f64.format.order t105 t105 != some Ordering.eq) = false := by simpa using c4
    (try (have c4b1 : decide (FloatKind.f64.format.order t105 t105 = some Ordering.eq) = true := by simpa using c4))
    (try (have c4b2 : (FloatKind.f64.format.order t105 t105 == some Ordering.eq) = true := by simpa using c4))
    clear c4
    by_cases c5 : (FloatKind.f64.format.order t105 0 == some Ordering.lt) = true
    · rw [if_pos c5] at H
      have c5b0 : (FloatKind.f64.format.order t105 0 == some Ordering.lt) = true := c5
      (try (have c5b1 : decide (FloatKind.f64.format.order t105 0 = some Ordering.lt) = true := by simpa using c5))
      (try (have c5b2 : (FloatKind.f64.format.order t105 0 == some Ordering.lt) = true := by simpa using c5))
      clear c5
      obtain rfl := Option.some.inj H
      go_enter Try.func17, Try.ntmps17
      go_wp2_with (first | ((with_reducible refine gate_callee (f := 11) rfl ?_); refine goesL_ (some 6) rfl rfl Try.func11 (by kernel_rfl) rfl #[.int .i64 a0] rfl (by (try simp only [List.map_toArray, List.map_cons, List.map_nil]); first | done | rfl | (simp only [List.length_drop, List.length_take]; rfl)) ?_; (with_reducible refine (order_Canon.calls a0 t104 _ A2.out).mono ?_); rintro e w' ⟨rfl, ⟨nd, rfl⟩⟩; refine ⟨_, rfl, ?_⟩) | ((with_reducible refine gate_callee (f := 30) rfl ?_); refine goesL_ (some 7) rfl rfl Try.func30 (by kernel_rfl) rfl #[.int .i64 t104] rfl (by (try simp only [List.map_toArray, List.map_cons, List.map_nil]); first | done | rfl | (simp only [List.length_drop, List.length_take]; rfl)) ?_; (with_reducible refine (order_float.calls t104 t105 _ A3.out).mono ?_); rintro e w' ⟨rfl, ⟨nd, rfl⟩⟩; refine ⟨_, rfl, ?_⟩))
      go_ret
      exact ⟨by first | rfl | (simp; done) | (simp [*]; done), by repeat (first | exact Drawn0.refl _ | apply Drawn0.step)⟩
    · rw [if_neg c5] at H
      have c5b0 : (FloatKind.f64.format.order t105 0 == some Ordering.lt) = false := by simpa using c5
      (try (have c5b1 : decide (FloatKind.f64.format.order t105 0 = some Ordering.lt) = false := by simpa using c5))
      (try (have c5b2 : (FloatKind.f64.format.order t105 0 == some Ordering.lt) = false := by simpa using c5))
      (try (have c5b3 : ¬ (FloatKind.f64.format.order t105 0 = some Ordering.lt) := by simpa using c5))
      clear c5
      obtain rfl := Option.some.inj H
      go_enter Try.func17, Try.ntmps17
      go_wp2_with (first | ((with_reducible refine gate_callee (f := 11) rfl ?_); refine goesL_ (some 6) rfl rfl Try.func11 (by kernel_rfl) rfl #[.int .i64 a0] rfl (by (try simp only [List.map_toArray, List.map_cons, List.map_nil]); first | done | rfl | (simp only [List.length_drop, List.length_take]; rfl)) ?_; (with_reducible refine (order_Canon.calls a0 t104 _ A2.out).mono ?_); rintro e w' ⟨rfl, ⟨nd, rfl⟩⟩; refine ⟨_, rfl, ?_⟩) | ((with_reducible refine gate_callee (f := 30) rfl ?_); refine goesL_ (some 7) rfl rfl Try.func30 (by kernel_rfl) rfl #[.int .i64 t104] rfl (by (try simp only [List.map_toArray, List.map_cons, List.map_nil]); first | done | rfl | (simp only [List.length_drop, List.length_take]; rfl)) ?_; (with_reducible refine (order_float.calls t104 t105 _ A3.out).mono ?_); rintro e w' ⟨rfl, ⟨nd, rfl⟩⟩; refine ⟨_, rfl, ?_⟩))
      go_ret
      exact ⟨by first | rfl | (simp; done) | (simp [*]; done), by repeat (first | exact Drawn0.refl _ | apply Drawn0.step)⟩

/-! ### math_Abs: function 37 -/
def math_Abs.f (a0 : Nat) : Option (Nat) := some ((Go.bits .andNot .u64 (a0 : Int) 9223372036854775808).toNat)
set_option maxHeartbeats 8000000 in
set_option maxRecDepth 100000 in
theorem math_Abs.calls (a0 : Nat) (r : Nat) (w : World) (h : math_Abs.f a0 = some r) :
    Calls Try.prog 37 #[.float .f64 a0] w fun e w' => e = .returned (.float .f64 r) ∧ Drawn0 w w' := by
  have hx8 : ∀ (x : Int) (w : World), (callFunc 8 #[.int .u64 x]).run Try.prog w = .ok (.value (.float .f64 x.toNat)) w := fun x w => by rw [run_callFunc_extern (e := Extern.MathFloatBits.float64frombits) Try.func8 (by kernel_rfl) (by kernel_rfl) (by kernel_rfl) (by kernel_rfl)]; rfl
  have hx31 : ∀ (x : Nat) (w : World), (callFunc 31 #[.float .f64 x]).run Try.prog w = .ok (.value (.int .u64 (x : Int))) w := fun x w => by rw [run_callFunc_extern (e := Extern.MathFloatBits.float64bits) Try.func31 (by kernel_rfl) (by kernel_rfl) (by kernel_rfl) (by kernel_rfl)]; rfl
  have H : (some ((Go.bits .andNot .u64 (a0 : Int) 9223372036854775808).toNat)) = some r := h
  clear h
  obtain rfl := Option.some.inj H
  go_enter Try.func37, Try.ntmps37
  go_wp2
  go_ret
  exact ⟨by first | rfl | (simp; done) | (simp [*]; done), by repeat (first | exact Drawn0.refl _ | apply Drawn0.step)⟩

/-! ### math_IsInf: function 32 -/
def math_IsInf.f (a0 : Nat) (a1 : Int) : Option (Bool) := if a1 = 0 then ((math_Abs.f a0).bind fun t106 => (some (FloatKind.f64.format.order t106 9218868437227405311 == some Ordering.gt))) else (if a1 < 0 then (some (FloatKind.f64.format.order (Go.Op.negFloat .f64 a0) 9218868437227405311 == some Ordering.gt)) else (some (FloatKind.f64.format.order a0 9218868437227405311 == some Ordering.gt)))
set_option maxHeartbeats 8000000 in
set_option maxRecDepth 100000 in
theorem math_IsInf.calls (a0 : Nat) (a1 : Int) (r : Bool) (w : World) (h : math_IsInf.f a0 a1 = some r) :
    Calls Try.prog 32 #[.float .f64 a0, .int .i64 a1] w fun e w' => e = .returned (.bool r) ∧ Drawn0 w w' := by
  have H : (if a1 = 0 then ((math_Abs.f a0).bind fun t106 => (some (FloatKind.f64.format.order t106 9218868437227405311 == some Ordering.gt))) else (if a1 < 0 then (some (FloatKind.f64.format.order (Go.Op.negFloat .f64 a0) 9218868437227405311 == some Ordering.gt)) else (some (FloatKind.f64.format.order a0 9218868437227405311 == some Ordering.gt)))) = some r := h
  clear h
  by_cases c3 : a1 = 0
  · rw [if_pos c3] at H
    have c3b0 : (a1 == 0) = true := beq_iff_eq.mpr c3
    have c3b1 : (a1 != 0) = false := bne_eq_false_iff_eq.mpr c3
    clear c3
    replace H := Option.bind_eq_some_iff.mp H
    obtain ⟨t106, A40, H⟩ := H
    replace H : (some (FloatKind.f64.format.order t106 9218868437227405311 == some Ordering.gt)) = some r := H
    have A4 := Aside0.mk A40
    clear A40
    obtain rfl := Option.some.inj H
    go_enter Try.func32, Try.ntmps32
    go_wp2_with (first | ((with_reducible refine gate_callee (f := 37) rfl ?_); refine goesL_ (some 8) rfl rfl Try.func37 (by kernel_rfl) rfl #[.float .f64 a0] rfl (by (try simp only [List.map_toArray, List.map_cons, List.map_nil]); first | done | rfl | (simp only [List.length_drop, List.length_take]; rfl)) ?_; (with_reducible refine (math_Abs.calls a0 t106 _ A4.out).mono ?_); rintro e w' ⟨rfl, ⟨nd, rfl⟩⟩; refine ⟨_, rfl, ?_⟩))
    go_ret
    exact ⟨by first | rfl | (simp; done) | (simp [*]; done), by repeat (first | exact Drawn0.refl _ | apply Drawn0.step)⟩
  · rw [if_neg c3] at H
    have c3b0 : (a1 == 0) = false := beq_eq_false_iff_ne.mpr c3
    have c3b1 : (a1 != 0) = true := bne_iff_ne.mpr c3
    by_cases c5 : a1 < 0
    · rw [if_pos c5] at H
      have c5b0 : decide (a1 < 0) = true := decide_eq_true c5
      clear c5
      obtain rfl := Option.some.inj H
      go_enter Try.func32, Try.ntmps32
      go_wp2
      go_ret
      exact ⟨by first | rfl | (simp; done) | (simp [*]; done), by repeat (first | exact Drawn0.refl _ | apply Drawn0.step)⟩
    · rw [if_neg c5] at H
      have c5b0 : decide (a1 < 0) = false := decide_eq_false c5
      clear c5
      obtain rfl := Option.some.inj H
      go_enter Try.func32, Try.ntmps32
      go_wp2
      go_ret
      exact ⟨by first | rfl | (simp; done) | (simp [*]; done), by repeat (first | exact Drawn0.refl _ | apply Drawn0.step)⟩

end Go.Proofs.Ytpgopfidbmiifaa.POrderSteps
