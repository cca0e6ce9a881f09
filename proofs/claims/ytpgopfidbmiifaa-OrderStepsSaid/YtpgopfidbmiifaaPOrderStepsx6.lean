/- Printed for this claim by a program of this session (the kit's printer with additions, wip/xp); Lean checks it. -/
import Derived.Test.YtpgopfidbmiifaaPOrderStepsx0
import Derived.Test.YtpgopfidbmiifaaPOrderStepsx1
import Derived.Test.YtpgopfidbmiifaaPOrderStepsx2
import Derived.Test.YtpgopfidbmiifaaPOrderStepsx4
import Derived.Test.YtpgopfidbmiifaaPOrderStepsx5
namespace Go.Proofs.Ytpgopfidbmiifaa.POrderSteps
open Go.RowKit Go.Proofs.YtpgopfidbmiifaaW.PrintWords Go.Proofs.YtpgopfidbmiifaaW.PrintLast Go.Proofs.YtpgopfidbmiifaaW.PrintMore
attribute [local go_sem] max2_int min2_int max_two min_two max_three min_three max_four min_four   -- for this text's walks alone
set_option linter.unusedVariables false
set_option linter.unusedSimpArgs false

/-! ### taluslaw05_OrderSteps: function 5 -/
def taluslaw05_OrderSteps.j0 : Nat → Int → Int → Bool → Option (Bool)
  | 0, _, _, _ => none
  | k + 1, x0, x3, x19 => if x19 = true then ((taluslaw05_lives.f k).bind fun t126 => (some t126)) else ((order_Back.f k (IntKind.u64.wrap (x3 + 1))).bind fun t127 => ((order_Good.f t127).bind fun t128 => (if t128 = true then ((order_Canon.f x0).bind fun t129 => ((order_Key.f t127).bind fun t130 => (if t130 = (IntKind.u64.wrap (x3 + 1)) then (if (FloatKind.f64.format.order ((IntKind.u64.wrap (t129)).toNat) ((IntKind.u64.wrap (t127)).toNat) == some Ordering.lt) = true then ((order_Cmp.f k x0 t127).bind fun t131 => (if t131 < 0 then ((taluslaw05_lives.f k).bind fun t132 => (some t132)) else (some false))) else (some false)) else (if t127 = 0 then ((taluslaw05_lives.f k).bind fun t133 => (some t133)) else (some false))))) else (some false))))
def taluslaw05_OrderSteps.f (k : Nat) (a0 : Int) : Option (Bool) := (order_Key.f a0).bind fun t123 => ((order_Nan.f a0).bind fun t124 => (if t124 = true then (taluslaw05_OrderSteps.j0 k a0 t123 true) else (if a0 = 9218868437227405312 then (taluslaw05_OrderSteps.j0 k a0 t123 true) else ((order_Canon.f a0).bind fun t125 => (taluslaw05_OrderSteps.j0 k a0 t123 (t125 == (-1)))))))
theorem taluslaw05_OrderSteps.mono_l : ∀ k, (∀ y0 y1 y2, LeO (taluslaw05_OrderSteps.j0 k y0 y1 y2) (taluslaw05_OrderSteps.j0 (k + 1) y0 y1 y2))
  | 0 => fun _ _ _ r h => by simp [taluslaw05_OrderSteps.j0] at h
  | k + 1 => by
    have ih0 := taluslaw05_OrderSteps.mono_l k
    · intro y0 y1 y2
      unfold taluslaw05_OrderSteps.j0
      repeat' first
      | (with_reducible exact ih0 _ _ _)
      | (with_reducible exact order_Back.mono _ _)
      | (with_reducible exact order_Cmp.mono _ _ _)
      | (with_reducible exact taluslaw05_lives.mono _)
      | (with_reducible exact LeO.refl _)
      | (with_reducible exact LeO.none _)
      | (with_reducible refine LeO.ite ?_ ?_)
      | (with_reducible refine LeO.bind ?_ (fun _ => ?_))
      | exact ih0 _ _ _
      | exact order_Back.mono _ _
      | exact order_Cmp.mono _ _ _
      | exact taluslaw05_lives.mono _
      | exact LeO.none _
      | refine LeO.ite ?_ ?_
      | refine LeO.bind ?_ (fun _ => ?_)
theorem taluslaw05_OrderSteps.mono : ∀ a0 k, LeO (taluslaw05_OrderSteps.f k a0) (taluslaw05_OrderSteps.f (k + 1) a0) := by
  intro a0 k
  have ih0 := taluslaw05_OrderSteps.mono_l k
  unfold taluslaw05_OrderSteps.f
  repeat' first
      | (with_reducible exact ih0 _ _ _)
      | (with_reducible exact order_Back.mono _ _)
      | (with_reducible exact order_Cmp.mono _ _ _)
      | (with_reducible exact taluslaw05_lives.mono _)
      | (with_reducible exact LeO.refl _)
      | (with_reducible exact LeO.none _)
      | (with_reducible refine LeO.ite ?_ ?_)
      | (with_reducible refine LeO.bind ?_ (fun _ => ?_))
      | exact ih0 _ _ _
      | exact order_Back.mono _ _
      | exact order_Cmp.mono _ _ _
      | exact taluslaw05_lives.mono _
      | exact LeO.none _
      | refine LeO.ite ?_ ?_
      | refine LeO.bind ?_ (fun _ => ?_)
set_option maxHeartbeats 8000000 in
set_option maxRecDepth 100000 in
theorem taluslaw05_OrderSteps.calls (k : Nat) (a0 : Int) (r : Bool) (w : World) (h : taluslaw05_OrderSteps.f k a0 = some r) :
    Calls Try.prog 5 #[.int .i64 a0] w fun e w' => e = .returned (.bool r) ∧ Below w.heap.size w w' := by
  have hx8 : ∀ (x : Int) (w : World), (callFunc 8 #[.int .u64 x]).run Try.prog w = .ok (.value (.float .f64 x.toNat)) w := fun x w => by rw [run_callFunc_extern (e := Extern.MathFloatBits.float64frombits) Try.func8 (by kernel_rfl) (by kernel_rfl) (by kernel_rfl) (by kernel_rfl)]; rfl
  have HB := Aside0.mk (Below.refl w.heap.size w)
  have H : ((order_Key.f a0).bind fun t123 => ((order_Nan.f a0).bind fun t124 => (if t124 = true then (taluslaw05_OrderSteps.j0 k a0 t123 true) else (if a0 = 9218868437227405312 then (taluslaw05_OrderSteps.j0 k a0 t123 true) else ((order_Canon.f a0).bind fun t125 => (taluslaw05_OrderSteps.j0 k a0 t123 (t125 == (-1)))))))) = some r := h
  clear h
  replace H := Option.bind_eq_some_iff.mp H
  obtain ⟨t123, A20, H⟩ := H
  replace H : ((order_Nan.f a0).bind fun t124 => (if t124 = true then (taluslaw05_OrderSteps.j0 k a0 t123 true) else (if a0 = 9218868437227405312 then (taluslaw05_OrderSteps.j0 k a0 t123 true) else ((order_Canon.f a0).bind fun t125 => (taluslaw05_OrderSteps.j0 k a0 t123 (t125 == (-1))))))) = some r := H
  have A2 := Aside0.mk A20
  clear A20
  have HC3 := Aside0.mk H
  clear H
  go_enter Try.func5, Try.ntmps5
  go_upto_region 2 with (first | ((with_reducible refine gate_callee (f := 17) rfl ?_); refine goesL_ (some 8) rfl rfl Try.func17 (by kernel_rfl) rfl #[.int .i64 a0] rfl (by (try simp only [List.map_toArray, List.map_cons, List.map_nil]); first | done | rfl | (simp only [List.length_drop, List.length_take]; rfl)) ?_; (with_reducible refine (order_Key.calls a0 t123 _ A2.out).mono ?_); rintro e w' ⟨rfl, ⟨nd, rfl⟩⟩; refine ⟨_, rfl, ?_⟩))
  (try simp only [Act.put, List.setIfInBounds_toArray, List.set_cons_zero, List.set_cons_succ])
  go_cut [19] (fun v19 wc => ∃ (kq : Nat) (x19_2 : Bool), v19 = .bool x19_2 ∧ Aside0 (taluslaw05_OrderSteps.j0 kq a0 t123 x19_2 = some r) ∧ Aside0 (kq ≤ k) ∧ Aside0 (Below w.heap.size w wc))
  case first =>
    have H := HC3.out
    clear HC3
    replace H := Option.bind_eq_some_iff.mp H
    obtain ⟨t124, A40, H⟩ := H
    replace H : (if t124 = true then (taluslaw05_OrderSteps.j0 k a0 t123 true) else (if a0 = 9218868437227405312 then (taluslaw05_OrderSteps.j0 k a0 t123 true) else ((order_Canon.f a0).bind fun t125 => (taluslaw05_OrderSteps.j0 k a0 t123 (t125 == (-1)))))) = some r := H
    have A4 := Aside0.mk A40
    clear A40
    by_cases c5 : t124 = true
    · subst c5
      have H1 : (taluslaw05_OrderSteps.j0 k a0 t123 true) = some r := by rw [if_pos rfl] at H; exact H
      clear H
      have H := H1
      clear H1
      have H' := Aside0.mk H
      clear H
      go_wp2_with (first | ((with_reducible refine gate_callee (f := 15) rfl ?_); refine goesL_ (some 10) rfl rfl Try.func15 (by kernel_rfl) rfl #[.int .i64 a0] rfl (by (try simp only [List.map_toArray, List.map_cons, List.map_nil]); first | done | rfl | (simp only [List.length_drop, List.length_take]; rfl)) ?_; (with_reducible refine (order_Nan.calls a0 true _ A4.out).mono ?_); rintro e w' ⟨rfl, ⟨nd, rfl⟩⟩; refine ⟨_, rfl, ?_⟩))
      go_meet
      case rel => exact ⟨_, (true), (by first | rfl | (simp; done) | (simp [*]; done)), H', ⟨by first | omega | exact Nat.le_refl _⟩, ⟨by repeat (first | (with_reducible first | exact HB.out | apply below_alloc | apply pw_below_drewN | apply below_drew1) | exact HB.out)⟩⟩
    · replace c5 := Bool.eq_false_iff.mpr c5
      subst c5
      have H1 : (if a0 = 9218868437227405312 then (taluslaw05_OrderSteps.j0 k a0 t123 true) else ((order_Canon.f a0).bind fun t125 => (taluslaw05_OrderSteps.j0 k a0 t123 (t125 == (-1))))) = some r := by rw [if_neg (show ¬ (false = true) by decide)] at H; exact H
      clear H
      have H := H1
      clear H1
      by_cases c6 : a0 = 9218868437227405312
      · rw [if_pos c6] at H
        have c6b0 : (a0 == 9218868437227405312) = true := beq_iff_eq.mpr c6
        have c6b1 : (a0 != 9218868437227405312) = false := bne_eq_false_iff_eq.mpr c6
        clear c6
        (first | rw [c6b0] | (simp only [i64_w, i32_w]; rw [c6b0]) | skip)
        have H' := Aside0.mk H
        clear H
        go_wp2_with (first | ((with_reducible refine gate_callee (f := 15) rfl ?_); refine goesL_ (some 10) rfl rfl Try.func15 (by kernel_rfl) rfl #[.int .i64 a0] rfl (by (try simp only [List.map_toArray, List.map_cons, List.map_nil]); first | done | rfl | (simp only [List.length_drop, List.length_take]; rfl)) ?_; (with_reducible refine (order_Nan.calls a0 false _ A4.out).mono ?_); rintro e w' ⟨rfl, ⟨nd, rfl⟩⟩; refine ⟨_, rfl, ?_⟩))
        go_meet
        case rel => exact ⟨_, (true), (by first | rfl | (simp; done) | (simp [*]; done)), H', ⟨by first | omega | exact Nat.le_refl _⟩, ⟨by repeat (first | (with_reducible first | exact HB.out | apply below_alloc | apply pw_below_drewN | apply below_drew1) | exact HB.out)⟩⟩
      · rw [if_neg c6] at H
        have c6b0 : (a0 == 9218868437227405312) = false := beq_eq_false_iff_ne.mpr c6
        have c6b1 : (a0 != 9218868437227405312) = true := bne_iff_ne.mpr c6
        (first | rw [c6b0] | (simp only [i64_w, i32_w]; rw [c6b0]) | skip)
        replace H := Option.bind_eq_some_iff.mp H
        obtain ⟨t125, A70, H⟩ := H
        replace H : (taluslaw05_OrderSteps.j0 k a0 t123 (t125 == (-1))) = some r := H
        have A7 := Aside0.mk A70
        clear A70
        have H' := Aside0.mk H
        clear H
        go_wp2_with (first | ((with_reducible refine gate_callee (f := 15) rfl ?_); refine goesL_ (some 10) rfl rfl Try.func15 (by kernel_rfl) rfl #[.int .i64 a0] rfl (by (try simp only [List.map_toArray, List.map_cons, List.map_nil]); first | done | rfl | (simp only [List.length_drop, List.length_take]; rfl)) ?_; (with_reducible refine (order_Nan.calls a0 false _ A4.out).mono ?_); rintro e w' ⟨rfl, ⟨nd, rfl⟩⟩; refine ⟨_, rfl, ?_⟩) | (go_at_call 11; (with_reducible refine (order_Canon.calls a0 t125 _ A7.out).mono ?_); rintro e w' ⟨rfl, ⟨nd, rfl⟩⟩))
        go_meet
        case rel => exact ⟨_, ((t125 == (-1))), (by first | rfl | (simp; done) | (simp [*]; done)), H', ⟨by first | omega | exact Nat.le_refl _⟩, ⟨by repeat (first | (with_reducible first | exact HB.out | apply below_alloc | apply pw_below_drewN | apply below_drew1) | exact HB.out)⟩⟩
  case rest =>
    clear HC3
    try clear c1
    try clear p2
    try clear c5
    try clear c6
    try clear c6b0
    try clear c6b1
    obtain ⟨kq, x19_2, rfl, HA, HJ2, HB⟩ := hcut
    cases kq with
    | zero => exact absurd HA.out (by simp [taluslaw05_OrderSteps.j0])
    | succ kj2 =>
      have H := HA.out
      clear HA
      simp only [taluslaw05_OrderSteps.j0] at H
      by_cases c8 : x19_2 = true
      · subst c8
        have H1 : ((taluslaw05_lives.f kj2).bind fun t126 => (some t126)) = some r := by rw [if_pos rfl] at H; exact H
        clear H
        have H := H1
        clear H1
        replace H := Option.bind_eq_some_iff.mp H
        obtain ⟨t126, A90, H⟩ := H
        replace H : (some t126) = some r := H
        have A9 := Aside0.mk A90
        clear A90
        obtain rfl := Option.some.inj H
        go_wp2_with (first | ((with_reducible refine gate_callee (f := 10) rfl ?_); refine goesL_ (some 20) rfl rfl Try.func10 (by kernel_rfl) rfl #[] rfl (by (try simp only [List.map_toArray, List.map_cons, List.map_nil]); first | done | rfl | (simp only [List.length_drop, List.length_take]; rfl)) ?_; (with_reducible refine (taluslaw05_lives.calls kj2  t126 _ A9.out).mono ?_); rintro e w10 ⟨rfl, hb⟩; refine ⟨_, rfl, ?_⟩; have n0_ := Aside0.mk (below_step (by repeat (first | (with_reducible first | exact HB.out | apply below_alloc | apply pw_below_drewN | apply below_drew1) | exact HB.out)) hb); clear HB; have HB := n0_; clear n0_; (try clear hb); (try clear hb2); (try clear hk); (try clear hi)))
        go_ret
        exact ⟨by first | rfl | (simp [errW_none, errW_some] <;> rfl) | (simp [*, errW_none, errW_some] <;> rfl), by repeat (first | (with_reducible first | exact HB.out | apply below_alloc | apply pw_below_drewN | apply below_drew1) | exact HB.out)⟩
      · replace c8 := Bool.eq_false_iff.mpr c8
        subst c8
        have H1 : ((order_Back.f kj2 (IntKind.u64.wrap (t123 + 1))).bind fun t127 => ((order_Good.f t127).bind fun t128 => (if t128 = true then ((order_Canon.f a0).bind fun t129 => ((order_Key.f t127).bind fun t130 => (if t130 = (IntKind.u64.wrap (t123 + 1)) then (if (FloatKind.f64.format.order ((IntKind.u64.wrap (t129)).toNat) ((IntKind.u64.wrap (t127)).toNat) == some Ordering.lt) = true then ((order_Cmp.f kj2 a0 t127).bind fun t131 => (if t131 < 0 then ((taluslaw05_lives.f kj2).bind fun t132 => (some t132)) else (some false))) else (some false)) else (if t127 = 0 then ((taluslaw05_lives.f kj2).bind fun t133 => (some t133)) else (some false))))) else (some false)))) = some r := by rw [if_neg (show ¬ (false = true) by decide)] at H; exact H
        clear H
        have H := H1
        clear H1
        replace H := Option.bind_eq_some_iff.mp H
        obtain ⟨t127, A110, H⟩ := H
        replace H : ((order_Good.f t127).bind fun t128 => (if t128 = true then ((order_Canon.f a0).bind fun t129 => ((order_Key.f t127).bind fun t130 => (if t130 = (IntKind.u64.wrap (t123 + 1)) then (if (FloatKind.f64.format.order ((IntKind.u64.wrap (t129)).toNat) ((IntKind.u64.wrap (t127)).toNat) == some Ordering.lt) = true then ((order_Cmp.f kj2 a0 t127).bind fun t131 => (if t131 < 0 then ((taluslaw05_lives.f kj2).bind fun t132 => (some t132)) else (some false))) else (some false)) else (if t127 = 0 then ((taluslaw05_lives.f kj2).bind fun t133 => (some t133)) else (some false))))) else (some false))) = some r := H
        have A11 := Aside0.mk A110
        clear A110
        replace H := Option.bind_eq_some_iff.mp H
        obtain ⟨t128, A120, H⟩ := H
        replace H : (if t128 = true then ((order_Canon.f a0).bind fun t129 => ((order_Key.f t127).bind fun t130 => (if t130 = (IntKind.u64.wrap (t123 + 1)) then (if (FloatKind.f64.format.order ((IntKind.u64.wrap (t129)).toNat) ((IntKind.u64.wrap (t127)).toNat) == some Ordering.lt) = true then ((order_Cmp.f kj2 a0 t127).bind fun t131 => (if t131 < 0 then ((taluslaw05_lives.f kj2).bind fun t132 => (some t132)) else (some false))) else (some false)) else (if t127 = 0 then ((taluslaw05_lives.f kj2).bind fun t133 => (some t133)) else (some false))))) else (some false)) = some r := H
        have A12 := Aside0.mk A120
        clear A120
        by_cases c13 : t128 = true
        · subst c13
          have H1 : ((order_Canon.f a0).bind fun t129 => ((order_Key.f t127).bind fun t130 => (if t130 = (IntKind.u64.wrap (t123 + 1)) then (if (FloatKind.f64.format.order ((IntKind.u64.wrap (t129)).toNat) ((IntKind.u64.wrap (t127)).toNat) == some Ordering.lt) = true then ((order_Cmp.f kj2 a0 t127).bind fun t131 => (if t131 < 0 then ((taluslaw05_lives.f kj2).bind fun t132 => (some t132)) else (some false))) else (some false)) else (if t127 = 0 then ((taluslaw05_lives.f kj2).bind fun t133 => (some t133)) else (some false))))) = some r := by rw [if_pos rfl] at H; exact H
          clear H
          have H := H1
          clear H1
          replace H := Option.bind_eq_some_iff.mp H
          obtain ⟨t129, A140, H⟩ := H
          replace H : ((order_Key.f t127).bind fun t130 => (if t130 = (IntKind.u64.wrap (t123 + 1)) then (if (FloatKind.f64.format.order ((IntKind.u64.wrap (t129)).toNat) ((IntKind.u64.wrap (t127)).toNat) == some Ordering.lt) = true then ((order_Cmp.f kj2 a0 t127).bind fun t131 => (if t131 < 0 then ((taluslaw05_lives.f kj2).bind fun t132 => (some t132)) else (some false))) else (some false)) else (if t127 = 0 then ((taluslaw05_lives.f kj2).bind fun t133 => (some t133)) else (some false)))) = some r := H
          have A14 := Aside0.mk A140
          clear A140
          replace H := Option.bind_eq_some_iff.mp H
          obtain ⟨t130, A150, H⟩ := H
          replace H : (if t130 = (IntKind.u64.wrap (t123 + 1)) then (if (FloatKind.f64.format.order ((IntKind.u64.wrap (t129)).toNat) ((IntKind.u64.wrap (t127)).toNat) == some Ordering.lt) = true then ((order_Cmp.f kj2 a0 t127).bind fun t131 => (if t131 < 0 then ((taluslaw05_lives.f kj2).bind fun t132 => (some t132)) else (some false))) else (some false)) else (if t127 = 0 then ((taluslaw05_lives.f kj2).bind fun t133 => (some t133)) else (some false))) = some r := H
          have A15 := Aside0.mk A150
          clear A150
          by_cases c16 : t130 = (IntKind.u64.wrap (t123 + 1))
          · rw [if_pos c16] at H
            have c16b0 : (t130 == (IntKind.u64.wrap (t123 + 1))) = true := beq_iff_eq.mpr c16
            have c16b1 : (t130 != (IntKind.u64.wrap (t123 + 1))) = false := bne_eq_false_iff_eq.mpr c16
            clear c16
            by_cases c17 : (FloatKind.f64.format.order ((IntKind.u64.wrap (t129)).toNat) ((IntKind.u64.wrap (t127)).toNat) == some Ordering.lt) = true
            · rw [if_pos c17] at H
              have c17b0 : (FloatKind.f64.format.order ((IntKind.u64.wrap (t129)).toNat) ((IntKind.u64.wrap (t127)).toNat) == some Ordering.lt) = true := c17
              (try (have c17b1 : decide (FloatKind.f64.format.order ((IntKind.u64.wrap (t129)).toNat) ((IntKind.u64.wrap (t127)).toNat) = some Ordering.lt) = true := by simpa using c17))
              (try (have c17b2 : (FloatKind.f64.format.order ((IntKind.u64.wrap (t129)).toNat) ((IntKind.u64.wrap (t127)).toNat) == some Ordering.lt) = true := by simpa using c17))
              clear c17
              replace H := Option.bind_eq_some_iff.mp H
              obtain ⟨t131, A180, H⟩ := H
              replace H : (if t131 < 0 then ((taluslaw05_lives.f kj2).bind fun t132 => (some t132)) else (some false)) = some r := H
              have A18 := Aside0.mk A180
              clear A180
              by_cases c19 : t131 < 0
              · rw [if_pos c19] at H
                have c19b0 : decide (t131 < 0) = true := decide_eq_true c19
                clear c19
                replace H := Option.bind_eq_some_iff.mp H
                obtain ⟨t132, A200, H⟩ := H
                replace H : (some t132) = some r := H
                have A20 := Aside0.mk A200
                clear A200
                obtain rfl := Option.some.inj H
                go_wp2_with (first | ((with_reducible refine gate_callee (f := 22) rfl ?_); refine goesL_ (some 23) rfl rfl Try.func22 (by kernel_rfl) rfl #[.int .u64 (IntKind.u64.wrap (t123 + 1))] rfl (by (try simp only [List.map_toArray, List.map_cons, List.map_nil]); first | done | rfl | (simp only [List.length_drop, List.length_take]; rfl)) ?_; (with_reducible refine (order_Back.calls kj2 (IntKind.u64.wrap (t123 + 1)) t127 _ A11.out).mono ?_); rintro e w' ⟨rfl, ⟨nd, rfl⟩⟩; refine ⟨_, rfl, ?_⟩) | ((with_reducible refine gate_callee (f := 13) rfl ?_); refine goesL_ (some 25) rfl rfl Try.func13 (by kernel_rfl) rfl #[.int .i64 t127] rfl (by (try simp only [List.map_toArray, List.map_cons, List.map_nil]); first | done | rfl | (simp only [List.length_drop, List.length_take]; rfl)) ?_; (with_reducible refine (order_Good.calls t127 true _ A12.out).mono ?_); rintro e w' ⟨rfl, ⟨nd, rfl⟩⟩; refine ⟨_, rfl, ?_⟩) | ((with_reducible refine gate_callee (f := 11) rfl ?_); refine goesL_ (some 28) rfl rfl Try.func11 (by kernel_rfl) rfl #[.int .i64 a0] rfl (by (try simp only [List.map_toArray, List.map_cons, List.map_nil]); first | done | rfl | (simp only [List.length_drop, List.length_take]; rfl)) ?_; (with_reducible refine (order_Canon.calls a0 t129 _ A14.out).mono ?_); rintro e w' ⟨rfl, ⟨nd, rfl⟩⟩; refine ⟨_, rfl, ?_⟩) | ((with_reducible refine gate_callee (f := 17) rfl ?_); refine goesL_ (some 35) rfl rfl Try.func17 (by kernel_rfl) rfl #[.int .i64 t127] rfl (by (try simp only [List.map_toArray, List.map_cons, List.map_nil]); first | done | rfl | (simp only [List.length_drop, List.length_take]; rfl)) ?_; (with_reducible refine (order_Key.calls t127 t130 _ A15.out).mono ?_); rintro e w' ⟨rfl, ⟨nd, rfl⟩⟩; refine ⟨_, rfl, ?_⟩) | (go_at_call 9; (with_reducible refine (order_Cmp.calls kj2 a0 t127 t131 _ A18.out).mono ?_); rintro e w' ⟨rfl, ⟨nd, rfl⟩⟩) | (go_at_call 10; (with_reducible refine (taluslaw05_lives.calls kj2  t132 _ A20.out).mono ?_); rintro e w21 ⟨rfl, hb⟩; have n0_ := Aside0.mk (below_step (by repeat (first | (with_reducible first | exact HB.out | apply below_alloc | apply pw_below_drewN | apply below_drew1) | exact HB.out)) hb); clear HB; have HB := n0_; clear n0_; (try clear hb); (try clear hb2); (try clear hk); (try clear hi)))
                go_ret
                exact ⟨by first | rfl | (simp [errW_none, errW_some] <;> rfl) | (simp [*, errW_none, errW_some] <;> rfl), by repeat (first | (with_reducible first | exact HB.out | apply below_alloc | apply pw_below_drewN | apply below_drew1) | exact HB.out)⟩
              · rw [if_neg c19] at H
                have c19b0 : decide (t131 < 0) = false := decide_eq_false c19
                clear c19
                obtain rfl := Option.some.inj H
                go_wp2_with (first | ((with_reducible refine gate_callee (f := 22) rfl ?_); refine goesL_ (some 23) rfl rfl Try.func22 (by kernel_rfl) rfl #[.int .u64 (IntKind.u64.wrap (t123 + 1))] rfl (by (try simp only [List.map_toArray, List.map_cons, List.map_nil]); first | done | rfl | (simp only [List.length_drop, List.length_take]; rfl)) ?_; (with_reducible refine (order_Back.calls kj2 (IntKind.u64.wrap (t123 + 1)) t127 _ A11.out).mono ?_); rintro e w' ⟨rfl, ⟨nd, rfl⟩⟩; refine ⟨_, rfl, ?_⟩) | ((with_reducible refine gate_callee (f := 13) rfl ?_); refine goesL_ (some 25) rfl rfl Try.func13 (by kernel_rfl) rfl #[.int .i64 t127] rfl (by (try simp only [List.map_toArray, List.map_cons, List.map_nil]); first | done | rfl | (simp only [List.length_drop, List.length_take]; rfl)) ?_; (with_reducible refine (order_Good.calls t127 true _ A12.out).mono ?_); rintro e w' ⟨rfl, ⟨nd, rfl⟩⟩; refine ⟨_, rfl, ?_⟩) | ((with_reducible refine gate_callee (f := 11) rfl ?_); refine goesL_ (some 28) rfl rfl Try.func11 (by kernel_rfl) rfl #[.int .i64 a0] rfl (by (try simp only [List.map_toArray, List.map_cons, List.map_nil]); first | done | rfl | (simp only [List.length_drop, List.length_take]; rfl)) ?_; (with_reducible refine (order_Canon.calls a0 t129 _ A14.out).mono ?_); rintro e w' ⟨rfl, ⟨nd, rfl⟩⟩; refine ⟨_, rfl, ?_⟩) | ((with_reducible refine gate_callee (f := 17) rfl ?_); refine goesL_ (some 35) rfl rfl Try.func17 (by kernel_rfl) rfl #[.int .i64 t127] rfl (by (try simp only [List.map_toArray, List.map_cons, List.map_nil]); first | done | rfl | (simp only [List.length_drop, List.length_take]; rfl)) ?_; (with_reducible refine (order_Key.calls t127 t130 _ A15.out).mono ?_); rintro e w' ⟨rfl, ⟨nd, rfl⟩⟩; refine ⟨_, rfl, ?_⟩) | (go_at_call 9; (with_reducible refine (order_Cmp.calls kj2 a0 t127 t131 _ A18.out).mono ?_); rintro e w' ⟨rfl, ⟨nd, rfl⟩⟩))
                go_ret
                exact ⟨by first | rfl | (simp [errW_none, errW_some] <;> rfl) | (simp [*, errW_none, errW_some] <;> rfl), by repeat (first | (with_reducible first | exact HB.out | apply below_alloc | apply pw_below_drewN | apply below_drew1) | exact HB.out)⟩
            · rw [if_neg c17] at H
              have c17b0 : (FloatKind.f64.format.order ((IntKind.u64.wrap (t129)).toNat) ((IntKind.u64.wrap (t127)).toNat) == some Ordering.lt) = false := by simpa using c17
              (try (have c17b1 : decide (FloatKind.f64.format.order ((IntKind.u64.wrap (t129)).toNat) ((IntKind.u64.wrap (t127)).toNat) = some Ordering.lt) = false := by simpa using c17))
              (try (have c17b2 : (FloatKind.f64.format.order ((IntKind.u64.wrap (t129)).toNat) ((IntKind.u64.wrap (t127)).toNat) == some Ordering.lt) = false := by simpa using c17))
              (try (have c17b3 : ¬ (FloatKind.f64.format.order ((IntKind.u64.wrap (t129)).toNat) ((IntKind.u64.wrap (t127)).toNat) = some Ordering.lt) := by simpa using c17))
              clear c17
              obtain rfl := Option.some.inj H
              go_wp2_with (first | ((with_reducible refine gate_callee (f := 22) rfl ?_); refine goesL_ (some 23) rfl rfl Try.func22 (by kernel_rfl) rfl #[.int .u64 (IntKind.u64.wrap (t123 + 1))] rfl (by (try simp only [List.map_toArray, List.map_cons, List.map_nil]); first | done | rfl | (simp only [List.length_drop, List.length_take]; rfl)) ?_; (with_reducible refine (order_Back.calls kj2 (IntKind.u64.wrap (t123 + 1)) t127 _ A11.out).mono ?_); rintro e w' ⟨rfl, ⟨nd, rfl⟩⟩; refine ⟨_, rfl, ?_⟩) | ((with_reducible refine gate_callee (f := 13) rfl ?_); refine goesL_ (some 25) rfl rfl Try.func13 (by kernel_rfl) rfl #[.int .i64 t127] rfl (by (try simp only [List.map_toArray, List.map_cons, List.map_nil]); first | done | rfl | (simp only [List.length_drop, List.length_take]; rfl)) ?_; (with_reducible refine (order_Good.calls t127 true _ A12.out).mono ?_); rintro e w' ⟨rfl, ⟨nd, rfl⟩⟩; refine ⟨_, rfl, ?_⟩) | ((with_reducible refine gate_callee (f := 11) rfl ?_); refine goesL_ (some 28) rfl rfl Try.func11 (by kernel_rfl) rfl #[.int .i64 a0] rfl (by (try simp only [List.map_toArray, List.map_cons, List.map_nil]); first | done | rfl | (simp only [List.length_drop, List.length_take]; rfl)) ?_; (with_reducible refine (order_Canon.calls a0 t129 _ A14.out).mono ?_); rintro e w' ⟨rfl, ⟨nd, rfl⟩⟩; refine ⟨_, rfl, ?_⟩) | ((with_reducible refine gate_callee (f := 17) rfl ?_); refine goesL_ (some 35) rfl rfl Try.func17 (by kernel_rfl) rfl #[.int .i64 t127] rfl (by (try simp only [List.map_toArray, List.map_cons, List.map_nil]); first | done | rfl | (simp only [List.length_drop, List.length_take]; rfl)) ?_; (with_reducible refine (order_Key.calls t127 t130 _ A15.out).mono ?_); rintro e w' ⟨rfl, ⟨nd, rfl⟩⟩; refine ⟨_, rfl, ?_⟩))
              go_ret
              exact ⟨by first | rfl | (simp [errW_none, errW_some] <;> rfl) | (simp [*, errW_none, errW_some] <;> rfl), by repeat (first | (with_reducible first | exact HB.out | apply below_alloc | apply pw_below_drewN | apply below_drew1) | exact HB.out)⟩
          · rw [if_neg c16] at H
            have c16b0 : (t130 == (IntKind.u64.wrap (t123 + 1))) = false := beq_eq_false_iff_ne.mpr c16
            have c16b1 : (t130 != (IntKind.u64.wrap (t123 + 1))) = true := bne_iff_ne.mpr c16
            by_cases c22 : t127 = 0
            · rw [if_pos c22] at H
              have c22b0 : (t127 == 0) = true := beq_iff_eq.mpr c22
              have c22b1 : (t127 != 0) = false := bne_eq_false_iff_eq.mpr c22
              clear c22
              replace H := Option.bind_eq_some_iff.mp H
              obtain ⟨t133, A230, H⟩ := H
              replace H : (some t133) = some r := H
              have A23 := Aside0.mk A230
              clear A230
              obtain rfl := Option.some.inj H
              go_wp2_with (first | ((with_reducible refine gate_callee (f := 22) rfl ?_); refine goesL_ (some 23) rfl rfl Try.func22 (by kernel_rfl) rfl #[.int .u64 (IntKind.u64.wrap (t123 + 1))] rfl (by (try simp only [List.map_toArray, List.map_cons, List.map_nil]); first | done | rfl | (simp only [List.length_drop, List.length_take]; rfl)) ?_; (with_reducible refine (order_Back.calls kj2 (IntKind.u64.wrap (t123 + 1)) t127 _ A11.out).mono ?_); rintro e w' ⟨rfl, ⟨nd, rfl⟩⟩; refine ⟨_, rfl, ?_⟩) | ((with_reducible refine gate_callee (f := 13) rfl ?_); refine goesL_ (some 25) rfl rfl Try.func13 (by kernel_rfl) rfl #[.int .i64 t127] rfl (by (try simp only [List.map_toArray, List.map_cons, List.map_nil]); first | done | rfl | (simp only [List.length_drop, List.length_take]; rfl)) ?_; (with_reducible refine (order_Good.calls t127 true _ A12.out).mono ?_); rintro e w' ⟨rfl, ⟨nd, rfl⟩⟩; refine ⟨_, rfl, ?_⟩) | ((with_reducible refine gate_callee (f := 11) rfl ?_); refine goesL_ (some 28) rfl rfl Try.func11 (by kernel_rfl) rfl #[.int .i64 a0] rfl (by (try simp only [List.map_toArray, List.map_cons, List.map_nil]); first | done | rfl | (simp only [List.length_drop, List.length_take]; rfl)) ?_; (with_reducible refine (order_Canon.calls a0 t129 _ A14.out).mono ?_); rintro e w' ⟨rfl, ⟨nd, rfl⟩⟩; refine ⟨_, rfl, ?_⟩) | ((with_reducible refine gate_callee (f := 17) rfl ?_); refine goesL_ (some 35) rfl rfl Try.func17 (by kernel_rfl) rfl #[.int .i64 t127] rfl (by (try simp only [List.map_toArray, List.map_cons, List.map_nil]); first | done | rfl | (simp only [List.length_drop, List.length_take]; rfl)) ?_; (with_reducible refine (order_Key.calls t127 t130 _ A15.out).mono ?_); rintro e w' ⟨rfl, ⟨nd, rfl⟩⟩; refine ⟨_, rfl, ?_⟩) | (go_at_call 10; (with_reducible refine (taluslaw05_lives.calls kj2  t133 _ A23.out).mono ?_); rintro e w24 ⟨rfl, hb⟩; have n0_ := Aside0.mk (below_step (by repeat (first | (with_reducible first | exact HB.out | apply below_alloc | apply pw_below_drewN | apply below_drew1) | exact HB.out)) hb); clear HB; have HB := n0_; clear n0_; (try clear hb); (try clear hb2); (try clear hk); (try clear hi)))
              go_ret
              exact ⟨by first | rfl | (simp [errW_none, errW_some] <;> rfl) | (simp [*, errW_none, errW_some] <;> rfl), by repeat (first | (with_reducible first | exact HB.out | apply below_alloc | apply pw_below_drewN | apply below_drew1) | exact HB.out)⟩
            · rw [if_neg c22] at H
              have c22b0 : (t127 == 0) = false := beq_eq_false_iff_ne.mpr c22
              have c22b1 : (t127 != 0) = true := bne_iff_ne.mpr c22
              obtain rfl := Option.some.inj H
              go_wp2_with (first | ((with_reducible refine gate_callee (f := 22) rfl ?_); refine goesL_ (some 23) rfl rfl Try.func22 (by kernel_rfl) rfl #[.int .u64 (IntKind.u64.wrap (t123 + 1))] rfl (by (try simp only [List.map_toArray, List.map_cons, List.map_nil]); first | done | rfl | (simp only [List.length_drop, List.length_take]; rfl)) ?_; (with_reducible refine (order_Back.calls kj2 (IntKind.u64.wrap (t123 + 1)) t127 _ A11.out).mono ?_); rintro e w' ⟨rfl, ⟨nd, rfl⟩⟩; refine ⟨_, rfl, ?_⟩) | ((with_reducible refine gate_callee (f := 13) rfl ?_); refine goesL_ (some 25) rfl rfl Try.func13 (by kernel_rfl) rfl #[.int .i64 t127] rfl (by (try simp only [List.map_toArray, List.map_cons, List.map_nil]); first | done | rfl | (simp only [List.length_drop, List.length_take]; rfl)) ?_; (with_reducible refine (order_Good.calls t127 true _ A12.out).mono ?_); rintro e w' ⟨rfl, ⟨nd, rfl⟩⟩; refine ⟨_, rfl, ?_⟩) | ((with_reducible refine gate_callee (f := 11) rfl ?_); refine goesL_ (some 28) rfl rfl Try.func11 (by kernel_rfl) rfl #[.int .i64 a0] rfl (by (try simp only [List.map_toArray, List.map_cons, List.map_nil]); first | done | rfl | (simp only [List.length_drop, List.length_take]; rfl)) ?_; (with_reducible refine (order_Canon.calls a0 t129 _ A14.out).mono ?_); rintro e w' ⟨rfl, ⟨nd, rfl⟩⟩; refine ⟨_, rfl, ?_⟩) | ((with_reducible refine gate_callee (f := 17) rfl ?_); refine goesL_ (some 35) rfl rfl Try.func17 (by kernel_rfl) rfl #[.int .i64 t127] rfl (by (try simp only [List.map_toArray, List.map_cons, List.map_nil]); first | done | rfl | (simp only [List.length_drop, List.length_take]; rfl)) ?_; (with_reducible refine (order_Key.calls t127 t130 _ A15.out).mono ?_); rintro e w' ⟨rfl, ⟨nd, rfl⟩⟩; refine ⟨_, rfl, ?_⟩))
              go_ret
              exact ⟨by first | rfl | (simp [errW_none, errW_some] <;> rfl) | (simp [*, errW_none, errW_some] <;> rfl), by repeat (first | (with_reducible first | exact HB.out | apply below_alloc | apply pw_below_drewN | apply below_drew1) | exact HB.out)⟩
        · replace c13 := Bool.eq_false_iff.mpr c13
          subst c13
          have H1 : (some false) = some r := by rw [if_neg (show ¬ (false = true) by decide)] at H; exact H
          clear H
          have H := H1
          clear H1
          obtain rfl := Option.some.inj H
          go_wp2_with (first | ((with_reducible refine gate_callee (f := 22) rfl ?_); refine goesL_ (some 23) rfl rfl Try.func22 (by kernel_rfl) rfl #[.int .u64 (IntKind.u64.wrap (t123 + 1))] rfl (by (try simp only [List.map_toArray, List.map_cons, List.map_nil]); first | done | rfl | (simp only [List.length_drop, List.length_take]; rfl)) ?_; (with_reducible refine (order_Back.calls kj2 (IntKind.u64.wrap (t123 + 1)) t127 _ A11.out).mono ?_); rintro e w' ⟨rfl, ⟨nd, rfl⟩⟩; refine ⟨_, rfl, ?_⟩) | ((with_reducible refine gate_callee (f := 13) rfl ?_); refine goesL_ (some 25) rfl rfl Try.func13 (by kernel_rfl) rfl #[.int .i64 t127] rfl (by (try simp only [List.map_toArray, List.map_cons, List.map_nil]); first | done | rfl | (simp only [List.length_drop, List.length_take]; rfl)) ?_; (with_reducible refine (order_Good.calls t127 false _ A12.out).mono ?_); rintro e w' ⟨rfl, ⟨nd, rfl⟩⟩; refine ⟨_, rfl, ?_⟩))
          go_ret
          exact ⟨by first | rfl | (simp [errW_none, errW_some] <;> rfl) | (simp [*, errW_none, errW_some] <;> rfl), by repeat (first | (with_reducible first | exact HB.out | apply below_alloc | apply pw_below_drewN | apply below_drew1) | exact HB.out)⟩

/-- THE ONE PURE STATEMENT of taluslaw05_OrderSteps: yours. -/
def taluslaw05_OrderSteps.Pure : Prop := ∀ (a0 : Int), (Lit.int .i64 a0).wf = true → ∃ k, taluslaw05_OrderSteps.f k a0 = some true
theorem taluslaw05_OrderSteps.walk (P : taluslaw05_OrderSteps.Pure) (a0 : Int) (w : World) (w0 : (Lit.int .i64 a0).wf = true) :
    Calls Try.prog 5 #[.int .i64 a0] w fun e w' => e = .returned (.bool true) ∧ Below w.heap.size w w' := by
  obtain ⟨k, h⟩ := P a0 w0
  refine (taluslaw05_OrderSteps.calls k a0 true w h).mono ?_
  rintro e w' ⟨rfl, hd⟩
  exact ⟨rfl, hd⟩

end Go.Proofs.Ytpgopfidbmiifaa.POrderSteps
