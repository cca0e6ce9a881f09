/- Printed for this claim by a program of this session (the kit's printer with additions, wip/xp); Lean checks it. -/
import Derived.Test.YtpgopfidbmiifaaPOrderStepsx0
namespace Go.Proofs.Ytpgopfidbmiifaa.POrderSteps
open Go.RowKit Go.Proofs.YtpgopfidbmiifaaW.PrintWords Go.Proofs.YtpgopfidbmiifaaW.PrintLast Go.Proofs.YtpgopfidbmiifaaW.PrintMore
attribute [local go_sem] max2_int min2_int max_two min_two max_three min_three max_four min_four   -- for this text's walks alone
set_option linter.unusedVariables false
set_option linter.unusedSimpArgs false

-- NOT PRINTED: function 8 (math_Float64frombits)

/-! ### order_float: function 30 -/
def order_float.f (a0 : Int) : Option (Nat) := some ((IntKind.u64.wrap (a0)).toNat)
set_option maxHeartbeats 8000000 in
set_option maxRecDepth 100000 in
theorem order_float.calls (a0 : Int) (r : Nat) (w : World) (h : order_float.f a0 = some r) :
    Calls Try.prog 30 #[.int .i64 a0] w fun e w' => e = .returned (.float .f64 r) ∧ Drawn0 w w' := by
  have hx8 : ∀ (x : Int) (w : World), (callFunc 8 #[.int .u64 x]).run Try.prog w = .ok (.value (.float .f64 x.toNat)) w := fun x w => by rw [run_callFunc_extern (e := Extern.MathFloatBits.float64frombits) Try.func8 (by kernel_rfl) (by kernel_rfl) (by kernel_rfl) (by kernel_rfl)]; rfl
  have H : (some ((IntKind.u64.wrap (a0)).toNat)) = some r := h
  clear h
  obtain rfl := Option.some.inj H
  go_enter Try.func30, Try.ntmps30
  go_wp2
  go_ret
  exact ⟨by first | rfl | (simp; done) | (simp [*]; done), by repeat (first | exact Drawn0.refl _ | apply Drawn0.step)⟩

/-! ### order_Cmp: function 9 -/
def order_Cmp.j0 : Nat → Nat → Bool → Option (Int)
  | 0, _, _ => none
  | k + 1, x5, x23 => if x23 = true then (some 0) else (if (FloatKind.f64.format.order x5 x5 != some Ordering.eq) = true then (some 1) else (some (-1)))
def order_Cmp.f (k : Nat) (a0 : Int) (a1 : Int) : Option (Int) := (order_float.f a0).bind fun t101 => ((order_float.f a1).bind fun t102 => (if (FloatKind.f64.format.order t101 t102 == some Ordering.lt) = true then (some (-1)) else (if (FloatKind.f64.format.order t101 t102 == some Ordering.gt) = true then (some 1) else (if (FloatKind.f64.format.order t101 t102 == some Ordering.eq) = true then (some 0) else (if (FloatKind.f64.format.order t101 t101 != some Ordering.eq) = true then (order_Cmp.j0 k t101 (FloatKind.f64.format.order t102 t102 != some Ordering.eq)) else (order_Cmp.j0 k t101 false))))))
theorem order_Cmp.mono_l : ∀ k, (∀ y0 y1, LeO (order_Cmp.j0 k y0 y1) (order_Cmp.j0 (k + 1) y0 y1))
  | 0 => fun _ _ r h => by simp [order_Cmp.j0] at h
  | k + 1 => by
    have ih0 := order_Cmp.mono_l k
    · intro y0 y1
      unfold order_Cmp.j0
      repeat' first
      | (with_reducible exact ih0 _ _)
      | (with_reducible exact LeO.refl _)
      | (with_reducible exact LeO.none _)
      | (with_reducible refine LeO.ite ?_ ?_)
      | (with_reducible refine LeO.bind ?_ (fun _ => ?_))
      | exact ih0 _ _
      | exact LeO.none _
      | refine LeO.ite ?_ ?_
      | refine LeO.bind ?_ (fun _ => ?_)
theorem order_Cmp.mono : ∀ a0 a1 k, LeO (order_Cmp.f k a0 a1) (order_Cmp.f (k + 1) a0 a1) := by
  intro a0 a1 k
  have ih0 := order_Cmp.mono_l k
  unfold order_Cmp.f
  repeat' first
      | (with_reducible exact ih0 _ _)
      | (with_reducible exact LeO.refl _)
      | (with_reducible exact LeO.none _)
      | (with_reducible refine LeO.ite ?_ ?_)
      | (with_reducible refine LeO.bind ?_ (fun _ => ?_))
      | exact ih0 _ _
      | exact LeO.none _
      | refine LeO.ite ?_ ?_
      | refine LeO.bind ?_ (fun _ => ?_)
set_option maxHeartbeats 8000000 in
set_option maxRecDepth 100000 in
theorem order_Cmp.calls (k : Nat) (a0 : Int) (a1 : Int) (r : Int) (w : World) (h : order_Cmp.f k a0 a1 = some r) :
    Calls Try.prog 9 #[.int .i64 a0, .int .i64 a1] w fun e w' => e = .returned (.int .i64 r) ∧ Drawn0 w w' := by
  have H : ((order_float.f a0).bind fun t101 => ((order_float.f a1).bind fun t102 => (if (FloatKind.f64.format.order t101 t102 == some Ordering.lt) = true then (some (-1)) else (if (FloatKind.f64.format.order t101 t102 == some Ordering.gt) = true then (some 1) else (if (FloatKind.f64.format.order t101 t102 == some Ordering.eq) = true then (some 0) else (if (FloatKind.f64.format.order t101 t101 != some Ordering.eq) = true then (order_Cmp.j0 k t101 (FloatKind.f64.format.order t102 t102 != some Ordering.eq)) else (order_Cmp.j0 k t101 false))))))) = some r := h
  clear h
  replace H := Option.bind_eq_some_iff.mp H
  obtain ⟨t101, A30, H⟩ := H
  replace H : ((order_float.f a1).bind fun t102 => (if (FloatKind.f64.format.order t101 t102 == some Ordering.lt) = true then (some (-1)) else (if (FloatKind.f64.format.order t101 t102 == some Ordering.gt) = true then (some 1) else (if (FloatKind.f64.format.order t101 t102 == some Ordering.eq) = true then (some 0) else (if (FloatKind.f64.format.order t101 t101 != some Ordering.eq) = true then (order_Cmp.j0 k t101 (FloatKind.f64.format.order t102 t102 != some Ordering.eq)) else (order_Cmp.j0 k t101 false)))))) = some r := H
  have A3 := Aside0.mk A30
  clear A30
  replace H := Option.bind_eq_some_iff.mp H
  obtain ⟨t102, A40, H⟩ := H
  replace H : (if (FloatKind.f64.format.order t101 t102 == some Ordering.lt) = true then (some (-1)) else (if (FloatKind.f64.format.order t101 t102 == some Ordering.gt) = true then (some 1) else (if (FloatKind.f64.format.order t101 t102 == some Ordering.eq) = true then (some 0) else (if (FloatKind.f64.format.order t101 t101 != some Ordering.eq) = true then (order_Cmp.j0 k t101 (FloatKind.f64.format.order t102 t102 != some Ordering.eq)) else (order_Cmp.j0 k t101 false))))) = some r := H
  have A4 := Aside0.mk A40
  clear A40
  by_cases c5 : (FloatKind.f64.format.order t101 t102 == some Ordering.lt) = true
  · rw [if_pos c5] at H
    have c5b0 : (FloatKind.f64.format.order t101 t102 == some Ordering.lt) = true := c5
    (try (have c5b1 : decide (FloatKind.f64.format.order t101 t102 = some Ordering.lt) = true := by simpa using c5))
    (try (have c5b2 : (FloatKind.f64.format.order t101 t102 == some Ordering.lt) = true := by simpa using c5))
    clear c5
    obtain rfl := Option.some.inj H
    go_enter Try.func9, Try.ntmps9
    go_wp2_with (first | ((with_reducible refine gate_callee (f := 30) rfl ?_); refine goesL_ (some 8) rfl rfl Try.func30 (by kernel_rfl) rfl #[.int .i64 a0] rfl (by (try simp only [List.map_toArray, List.map_cons, List.map_nil]); first | done | rfl | (simp only [List.length_drop, List.length_take]; rfl)) ?_; (with_reducible refine (order_float.calls a0 t101 _ A3.out).mono ?_); rintro e w' ⟨rfl, ⟨nd, rfl⟩⟩; refine ⟨_, rfl, ?_⟩) | ((with_reducible refine gate_callee (f := 30) rfl ?_); refine goesL_ (some 10) rfl rfl Try.func30 (by kernel_rfl) rfl #[.int .i64 a1] rfl (by (try simp only [List.map_toArray, List.map_cons, List.map_nil]); first | done | rfl | (simp only [List.length_drop, List.length_take]; rfl)) ?_; (with_reducible refine (order_float.calls a1 t102 _ A4.out).mono ?_); rintro e w' ⟨rfl, ⟨nd, rfl⟩⟩; refine ⟨_, rfl, ?_⟩))
    go_ret
    exact ⟨by first | rfl | (simp; done) | (simp [*]; done), by repeat (first | exact Drawn0.refl _ | apply Drawn0.step)⟩
  · rw [if_neg c5] at H
    have c5b0 : (FloatKind.f64.format.order t101 t102 == some Ordering.lt) = false := by simpa using c5
    (try (have c5b1 : decide (FloatKind.f64.format.order t101 t102 = some Ordering.lt) = false := by simpa using c5))
    (try (have c5b2 : (FloatKind.f64.format.order t101 t102 == some Ordering.lt) = false := by simpa using c5))
    (try (have c5b3 : ¬ (FloatKind.f64.format.order t101 t102 = some Ordering.lt) := by simpa using c5))
    clear c5
    by_cases c6 : (FloatKind.f64.format.order t101 t102 == some Ordering.gt) = true
    · rw [if_pos c6] at H
      have c6b0 : (FloatKind.f64.format.order t101 t102 == some Ordering.gt) = true := c6
      (try (have c6b1 : decide (FloatKind.f64.format.order t101 t102 = some Ordering.gt) = true := by simpa using c6))
      (try (have c6b2 : (FloatKind.f64.format.order t101 t102 == some Ordering.gt) = true := by simpa using c6))
      clear c6
      obtain rfl := Option.some.inj H
      go_enter Try.func9, Try.ntmps9
      go_wp2_with (first | ((with_reducible refine gate_callee (f := 30) rfl ?_); refine goesL_ (some 8) rfl rfl Try.func30 (by kernel_rfl) rfl #[.int .i64 a0] rfl (by (try simp only [List.map_toArray, List.map_cons, List.map_nil]); first | done | rfl | (simp only [List.length_drop, List.length_take]; rfl)) ?_; (with_reducible refine (order_float.calls a0 t101 _ A3.out).mono ?_); rintro e w' ⟨rfl, ⟨nd, rfl⟩⟩; refine ⟨_, rfl, ?_⟩) | ((with_reducible refine gate_callee (f := 30) rfl ?_); refine goesL_ (some 10) rfl rfl Try.func30 (by kernel_rfl) rfl #[.int .i64 a1] rfl (by (try simp only [List.map_toArray, List.map_cons, List.map_nil]); first | done | rfl | (simp only [List.length_drop, List.length_take]; rfl)) ?_; (with_reducible refine (order_float.calls a1 t102 _ A4.out).mono ?_); rintro e w' ⟨rfl, ⟨nd, rfl⟩⟩; refine ⟨_, rfl, ?_⟩))
      go_ret
      exact ⟨by first | rfl | (simp; done) | (simp [*]; done), by repeat (first | exact Drawn0.refl _ | apply Drawn0.step)⟩
    · rw [if_neg c6] at H
      have c6b0 : (FloatKind.f64.format.order t101 t102 == some Ordering.gt) = false := by simpa using c6
      (try (have c6b1 : decide (FloatKind.f64.format.order t101 t102 = some Ordering.gt) = false := by simpa using c6))
      (try (have c6b2 : (FloatKind.f64.format.order t101 t102 == some Ordering.gt) = false := by simpa using c6))
      (try (have c6b3 : ¬ (FloatKind.f64.format.order t101 t102 = some Ordering.gt) := by simpa using c6))
      clear c6
      by_cases c7 : (FloatKind.f64.format.order t101 t102 == some Ordering.eq) = true
      · rw [if_pos c7] at H
        have c7b0 : (FloatKind.f64.format.order t101 t102 == some Ordering.eq) = true := c7
        (try (have c7b1 : decide (FloatKind.f64.format.order t101 t102 = some Ordering.eq) = true := by simpa using c7))
        (try (have c7b2 : (FloatKind.f64.format.order t101 t102 == some Ordering.eq) = true := by simpa using c7))
        clear c7
        obtain rfl := Option.some.inj H
        go_enter Try.func9, Try.ntmps9
        go_wp2_with (first | ((with_reducible refine gate_callee (f := 30) rfl ?_); refine goesL_ (some 8) rfl rfl Try.func30 (by kernel_rfl) rfl #[.int .i64 a0] rfl (by (try simp only [List.map_toArray, List.map_cons, List.map_nil]); first | done | rfl | (simp only [List.length_drop, List.length_take]; rfl)) ?_; (with_reducible refine (order_float.calls a0 t101 _ A3.out).mono ?_); rintro e w' ⟨rfl, ⟨nd, rfl⟩⟩; refine ⟨_, rfl, ?_⟩) | ((with_reducible refine gate_callee (f := 30) rfl ?_); refine goesL_ (some 10) rfl rfl Try.func30 (by kernel_rfl) rfl #[.int .i64 a1] rfl (by (try simp only [List.map_toArray, List.map_cons, List.map_nil]); first | done | rfl | (simp only [List.length_drop, List.length_take]; rfl)) ?_; (with_reducible refine (order_float.calls a1 t102 _ A4.out).mono ?_); rintro e w' ⟨rfl, ⟨nd, rfl⟩⟩; refine ⟨_, rfl, ?_⟩))
        go_ret
        exact ⟨by first | rfl | (simp; done) | (simp [*]; done), by repeat (first | exact Drawn0.refl _ | apply Drawn0.step)⟩
      · rw [if_neg c7] at H
        have c7b0 : (FloatKind.f64.format.order t101 t102 == some Ordering.eq) = false := by simpa using c7
        (try (have c7b1 : decide (FloatKind.f64.format.order t101 t102 = some Ordering.eq) = false := by simpa using c7))
        (try (have c7b2 : (FloatKind.f64.format.order t101 t102 == some Ordering.eq) = false := by simpa using c7))
        (try (have c7b3 : ¬ (FloatKind.f64.format.order t101 t102 = some Ordering.eq) := by simpa using c7))
        clear c7
        have HC8 := Aside0.mk H
        clear H
        go_enter Try.func9, Try.ntmps9
        go_upto_region 8 with (first | ((with_reducible refine gate_callee (f := 30) rfl ?_); refine goesL_ (some 8) rfl rfl Try.func30 (by kernel_rfl) rfl #[.int .i64 a0] rfl (by (try simp only [List.map_toArray, List.map_cons, List.map_nil]); first | done | rfl | (simp only [List.length_drop, List.length_take]; rfl)) ?_; (with_reducible refine (order_float.calls a0 t101 _ A3.out).mono ?_); rintro e w' ⟨rfl, ⟨nd, rfl⟩⟩; refine ⟨_, rfl, ?_⟩) | ((with_reducible refine gate_callee (f := 30) rfl ?_); refine goesL_ (some 10) rfl rfl Try.func30 (by kernel_rfl) rfl #[.int .i64 a1] rfl (by (try simp only [List.map_toArray, List.map_cons, List.map_nil]); first | done | rfl | (simp only [List.length_drop, List.length_take]; rfl)) ?_; (with_reducible refine (order_float.calls a1 t102 _ A4.out).mono ?_); rintro e w' ⟨rfl, ⟨nd, rfl⟩⟩; refine ⟨_, rfl, ?_⟩))
        (try simp only [Act.put, List.setIfInBounds_toArray, List.set_cons_zero, List.set_cons_succ])
        go_cut [23] (fun v23 wc => ∃ (kq : Nat) (x23_7 : Bool), v23 = .bool x23_7 ∧ Aside0 (order_Cmp.j0 kq t101 x23_7 = some r) ∧ Aside0 (kq ≤ k) ∧ Drawn0 w wc)
        case first =>
          have H := HC8.out
          clear HC8
          by_cases c9 : (FloatKind.f64.format.order t101 t101 != some Ordering.eq) = true
          · rw [if_pos c9] at H
            have c9b0 : (FloatKind.f64.format.order t101 t101 != some Ordering.eq) = true := c9
            (try (have c9b1 : decide (FloatKind.f64.format.order t101 t101 = some Ordering.eq) = false := by simpa using c9))
            (try (have c9b2 : (FloatKind.f64.format.order t101 t101 == some Ordering.eq) = false := by simpa using c9))
            (try (have c9b3 : ¬ (FloatKind.f64.format.order t101 t101 = some Ordering.eq) := by simpa using c9))
            clear c9
            (first | rw [c9b0] | (simp only [i64_w, i32_w]; rw [c9b0]) | skip)
            have H' := Aside0.mk H
            clear H
            go_wp2
            go_meet
            case rel => exact ⟨_, ((FloatKind.f64.format.order t102 t102 != some Ordering.eq)), (by first | rfl | (simp; done) | (simp [*]; done)), H', ⟨by first | omega | exact Nat.le_refl _⟩, by repeat (first | exact Drawn0.refl _ | apply Drawn0.step)⟩
          · rw [if_neg c9] at H
            have c9b0 : (FloatKind.f64.format.order t101 t101 != some Ordering.eq) = false := by simpa using c9
            (try (have c9b1 : decide (FloatKind.f64.format.order t101 t101 = some Ordering.eq) = true := by simpa using c9))
            (try (have c9b2 : (FloatKind.f64.format.order t101 t101 == some Ordering.eq) = true := by simpa using c9))
            clear c9
            (first | rw [c9b0] | (simp only [i64_w, i32_w]; rw [c9b0]) | skip)
            have H' := Aside0.mk H
            clear H
            go_wp2
            go_meet
            case rel => exact ⟨_, (false), (by first | rfl | (simp; done) | (simp [*]; done)), H', ⟨by first | omega | exact Nat.le_refl _⟩, by repeat (first | exact Drawn0.refl _ | apply Drawn0.step)⟩
        case rest =>
          clear HC8
          try clear p2
          try clear c3
          try clear c5
          try clear c5b0
          try clear c5b1
          try clear c5b2
          try clear c6
          try clear c6b0
          try clear c6b1
          try clear c6b2
          try clear c7
          try clear c7b0
          try clear c7b1
          try clear c7b2
          try clear c9
          try clear c9b0
          try clear c9b1
          try clear c9b2
          obtain ⟨kq, x23_7, rfl, HA, HJ7, ⟨mc7, rfl⟩⟩ := hcut
          cases kq with
          | zero => exact absurd HA.out (by simp [order_Cmp.j0])
          | succ kj7 =>
            have H := HA.out
            clear HA
            simp only [order_Cmp.j0] at H
            by_cases c10 : x23_7 = true
            · subst c10
              have H1 : (some 0) = some r := by rw [if_pos rfl] at H; exact H
              clear H
              have H := H1
              clear H1
              obtain rfl := Option.some.inj H
              go_wp2
              go_ret
              exact ⟨by first | rfl | (simp; done) | (simp [*]; done), by repeat (first | exact Drawn0.refl _ | apply Drawn0.step)⟩
            · replace c10 := Bool.eq_false_iff.mpr c10
              subst c10
              have H1 : (if (FloatKind.f64.format.order t101 t101 != some Ordering.eq) = true then (some 1) else (some (-1))) = some r := by rw [if_neg (show ¬ (false = true) by decide)] at H; exact H
              clear H
              have H := H1
              clear H1
              by_cases c11 : (FloatKind.f64.format.order t101 t101 != some Ordering.eq) = true
              · rw [if_pos c11] at H
                have c11b0 : (FloatKind.f64.format.order t101 t101 != some Ordering.eq) = true := c11
                (try (have c11b1 : decide (FloatKind.f64.format.order t101 t101 = some Ordering.eq) = false := by simpa using c11))
                (try (have c11b2 : (FloatKind.f64.format.order t101 t101 == some Ordering.eq) = false := by simpa using c11))
                (try (have c11b3 : ¬ (FloatKind.f64.format.order t101 t101 = some Ordering.eq) := by simpa using c11))
                clear c11
                obtain rfl := Option.some.inj H
                go_wp2
                go_ret
                exact ⟨by first | rfl | (simp; done) | (simp [*]; done), by repeat (first | exact Drawn0.refl _ | apply Drawn0.step)⟩
              · rw [if_neg c11] at H
                have c11b0 : (FloatKind.f64.format.order t101 t101 != some Ordering.eq) = false := by simpa using c11
                (try (have c11b1 : decide (FloatKind.f64.format.order t101 t101 = some Ordering.eq) = true := by simpa using c11))
                (try (have c11b2 : (FloatKind.f64.format.order t101 t101 == some Ordering.eq) = true := by simpa using c11))
                clear c11
                obtain rfl := Option.some.inj H
                go_wp2
                go_ret
                exact ⟨by first | rfl | (simp; done) | (simp [*]; done), by repeat (first | exact Drawn0.refl _ | apply Drawn0.step)⟩

end Go.Proofs.Ytpgopfidbmiifaa.POrderSteps
