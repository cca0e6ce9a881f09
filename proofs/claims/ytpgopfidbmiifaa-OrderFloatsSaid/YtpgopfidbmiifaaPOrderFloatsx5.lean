/- Printed for this claim by a program of this session (the kit's printer with additions, wip/xp); Lean checks it. -/
import Derived.Test.YtpgopfidbmiifaaPOrderFloatsx0
import Derived.Test.YtpgopfidbmiifaaPOrderFloatsx1
import Derived.Test.YtpgopfidbmiifaaPOrderFloatsx4
namespace Go.Proofs.Ytpgopfidbmiifaa.POrderFloats
open Go.RowKit Go.Proofs.YtpgopfidbmiifaaW.PrintWords Go.Proofs.YtpgopfidbmiifaaW.PrintLast Go.Proofs.YtpgopfidbmiifaaW.PrintMore
attribute [local go_sem] max2_int min2_int max_two min_two max_three min_three max_four min_four   -- for this text's walks alone
set_option linter.unusedVariables false
set_option linter.unusedSimpArgs false

/-! ### taluslaw05_OrderFloats: function 3 -/
def taluslaw05_OrderFloats.j0 : Nat → Nat → Nat → Int → Bool → Option (Bool)
  | 0, _, _, _, _ => none
  | k + 1, x5, x6, x7, x24 => if x24 = true then (if (FloatKind.f64.format.order x5 x5 != some Ordering.eq) = true then (if ((x7 == 0) == (FloatKind.f64.format.order x6 x6 != some Ordering.eq)) = true then (if (FloatKind.f64.format.order x6 x6 != some Ordering.eq) = true then ((taluslaw05_lives.f k).bind fun t120 => (some t120)) else (if x7 > 0 then ((taluslaw05_lives.f k).bind fun t121 => (some t121)) else (some false))) else (some false)) else (if ((x7 == 0) == false) = true then (if x7 < 0 then (if (FloatKind.f64.format.order x6 x6 != some Ordering.eq) = true then ((taluslaw05_lives.f k).bind fun t122 => (some t122)) else (if x7 > 0 then ((taluslaw05_lives.f k).bind fun t123 => (some t123)) else (some false))) else (some false)) else (some false))) else (if ((decide (x7 < 0)) == (FloatKind.f64.format.order x5 x6 == some Ordering.lt)) = true then (if ((decide (x7 > 0)) == (FloatKind.f64.format.order x5 x6 == some Ordering.gt)) = true then (if ((x7 == 0) == (FloatKind.f64.format.order x5 x6 == some Ordering.eq)) = true then ((taluslaw05_lives.f k).bind fun t124 => (some t124)) else (some false)) else (some false)) else (some false))
def taluslaw05_OrderFloats.f (k : Nat) (a0 : Int) (a1 : Int) : Option (Bool) := (order_Cmp.f k a0 a1).bind fun t119 => (if (FloatKind.f64.format.order ((IntKind.u64.wrap (a0)).toNat) ((IntKind.u64.wrap (a0)).toNat) != some Ordering.eq) = true then (taluslaw05_OrderFloats.j0 k ((IntKind.u64.wrap (a0)).toNat) ((IntKind.u64.wrap (a1)).toNat) t119 true) else (taluslaw05_OrderFloats.j0 k ((IntKind.u64.wrap (a0)).toNat) ((IntKind.u64.wrap (a1)).toNat) t119 (FloatKind.f64.format.order ((IntKind.u64.wrap (a1)).toNat) ((IntKind.u64.wrap (a1)).toNat) != some Ordering.eq)))
theorem taluslaw05_OrderFloats.mono_l : ∀ k, (∀ y0 y1 y2 y3, LeO (taluslaw05_OrderFloats.j0 k y0 y1 y2 y3) (taluslaw05_OrderFloats.j0 (k + 1) y0 y1 y2 y3))
  | 0 => fun _ _ _ _ r h => by simp [taluslaw05_OrderFloats.j0] at h
  | k + 1 => by
    have ih0 := taluslaw05_OrderFloats.mono_l k
    · intro y0 y1 y2 y3
      unfold taluslaw05_OrderFloats.j0
      repeat' first
      | (with_reducible exact ih0 _ _ _ _)
      | (with_reducible exact order_Cmp.mono _ _ _)
      | (with_reducible exact taluslaw05_lives.mono _)
      | (with_reducible exact LeO.refl _)
      | (with_reducible exact LeO.none _)
      | (with_reducible refine LeO.ite ?_ ?_)
      | (with_reducible refine LeO.bind ?_ (fun _ => ?_))
      | exact ih0 _ _ _ _
      | exact order_Cmp.mono _ _ _
      | exact taluslaw05_lives.mono _
      | exact LeO.none _
      | refine LeO.ite ?_ ?_
      | refine LeO.bind ?_ (fun _ => ?_)
theorem taluslaw05_OrderFloats.mono : ∀ a0 a1 k, LeO (taluslaw05_OrderFloats.f k a0 a1) (taluslaw05_OrderFloats.f (k + 1) a0 a1) := by
  intro a0 a1 k
  have ih0 := taluslaw05_OrderFloats.mono_l k
  unfold taluslaw05_OrderFloats.f
  repeat' first
      | (with_reducible exact ih0 _ _ _ _)
      | (with_reducible exact order_Cmp.mono _ _ _)
      | (with_reducible exact taluslaw05_lives.mono _)
      | (with_reducible exact LeO.refl _)
      | (with_reducible exact LeO.none _)
      | (with_reducible refine LeO.ite ?_ ?_)
      | (with_reducible refine LeO.bind ?_ (fun _ => ?_))
      | exact ih0 _ _ _ _
      | exact order_Cmp.mono _ _ _
      | exact taluslaw05_lives.mono _
      | exact LeO.none _
      | refine LeO.ite ?_ ?_
      | refine LeO.bind ?_ (fun _ => ?_)
set_option maxHeartbeats 8000000 in
set_option maxRecDepth 100000 in
theorem taluslaw05_OrderFloats.calls (k : Nat) (a0 : Int) (a1 : Int) (r : Bool) (w : World) (h : taluslaw05_OrderFloats.f k a0 a1 = some r) :
    Calls Try.prog 3 #[.int .i64 a0, .int .i64 a1] w fun e w' => e = .returned (.bool r) ∧ Below w.heap.size w w' := by
  have hx8 : ∀ (x : Int) (w : World), (callFunc 8 #[.int .u64 x]).run Try.prog w = .ok (.value (.float .f64 x.toNat)) w := fun x w => by rw [run_callFunc_extern (e := Extern.MathFloatBits.float64frombits) Try.func8 (by kernel_rfl) (by kernel_rfl) (by kernel_rfl) (by kernel_rfl)]; rfl
  have HB := Aside0.mk (Below.refl w.heap.size w)
  have H : ((order_Cmp.f k a0 a1).bind fun t119 => (if (FloatKind.f64.format.order ((IntKind.u64.wrap (a0)).toNat) ((IntKind.u64.wrap (a0)).toNat) != some Ordering.eq) = true then (taluslaw05_OrderFloats.j0 k ((IntKind.u64.wrap (a0)).toNat) ((IntKind.u64.wrap (a1)).toNat) t119 true) else (taluslaw05_OrderFloats.j0 k ((IntKind.u64.wrap (a0)).toNat) ((IntKind.u64.wrap (a1)).toNat) t119 (FloatKind.f64.format.order ((IntKind.u64.wrap (a1)).toNat) ((IntKind.u64.wrap (a1)).toNat) != some Ordering.eq)))) = some r := h
  clear h
  replace H := Option.bind_eq_some_iff.mp H
  obtain ⟨t119, A30, H⟩ := H
  replace H : (if (FloatKind.f64.format.order ((IntKind.u64.wrap (a0)).toNat) ((IntKind.u64.wrap (a0)).toNat) != some Ordering.eq) = true then (taluslaw05_OrderFloats.j0 k ((IntKind.u64.wrap (a0)).toNat) ((IntKind.u64.wrap (a1)).toNat) t119 true) else (taluslaw05_OrderFloats.j0 k ((IntKind.u64.wrap (a0)).toNat) ((IntKind.u64.wrap (a1)).toNat) t119 (FloatKind.f64.format.order ((IntKind.u64.wrap (a1)).toNat) ((IntKind.u64.wrap (a1)).toNat) != some Ordering.eq))) = some r := H
  have A3 := Aside0.mk A30
  clear A30
  have HC4 := Aside0.mk H
  clear H
  go_enter Try.func3, Try.ntmps3
  go_upto_region 3 with (first | ((with_reducible refine gate_callee (f := 9) rfl ?_); refine goesL_ (some 16) rfl rfl Try.func9 (by kernel_rfl) rfl #[.int .i64 a0, .int .i64 a1] rfl (by (try simp only [List.map_toArray, List.map_cons, List.map_nil]); first | done | rfl | (simp only [List.length_drop, List.length_take]; rfl)) ?_; (with_reducible refine (order_Cmp.calls k a0 a1 t119 _ A3.out).mono ?_); rintro e w' ⟨rfl, ⟨nd, rfl⟩⟩; refine ⟨_, rfl, ?_⟩))
  (try simp only [Act.put, List.setIfInBounds_toArray, List.set_cons_zero, List.set_cons_succ])
  go_cut [24] (fun v24 wc => ∃ (kq : Nat) (x24_3 : Bool), v24 = .bool x24_3 ∧ Aside0 (taluslaw05_OrderFloats.j0 kq ((IntKind.u64.wrap (a0)).toNat) ((IntKind.u64.wrap (a1)).toNat) t119 x24_3 = some r) ∧ Aside0 (kq ≤ k) ∧ Aside0 (Below w.heap.size w wc))
  case first =>
    have H := HC4.out
    clear HC4
    by_cases c5 : (FloatKind.f64.format.order ((IntKind.u64.wrap (a0)).toNat) ((IntKind.u64.wrap (a0)).toNat) != some Ordering.eq) = true
    · rw [if_pos c5] at H
      have c5b0 : (FloatKind.f64.format.order ((IntKind.u64.wrap (a0)).toNat) ((IntKind.u64.wrap (a0)).toNat) != some Ordering.eq) = true := c5
      (try (have c5b1 : decide (FloatKind.f64.format.order ((IntKind.u64.wrap (a0)).toNat) ((IntKind.u64.wrap (a0)).toNat) = some Ordering.eq) = false := by simpa using c5))
      (try (have c5b2 : (FloatKind.f64.format.order ((IntKind.u64.wrap (a0)).toNat) ((IntKind.u64.wrap (a0)).toNat) == some Ordering.eq) = false := by simpa using c5))
      (try (have c5b3 : ¬ (FloatKind.f64.format.order ((IntKind.u64.wrap (a0)).toNat) ((IntKind.u64.wrap (a0)).toNat) = some Ordering.eq) := by simpa using c5))
      clear c5
      (first | rw [c5b0] | (simp only [i64_w, i32_w]; rw [c5b0]) | skip)
      have H' := Aside0.mk H
      clear H
      go_wp2
      go_meet
      case rel => exact ⟨_, (true), (by first | rfl | (simp; done) | (simp [*]; done)), H', ⟨by first | omega | exact Nat.le_refl _⟩, ⟨by repeat (first | (with_reducible first | exact HB.out | apply below_alloc | apply pw_below_drewN | apply below_drew1) | exact HB.out)⟩⟩
    · rw [if_neg c5] at H
      have c5b0 : (FloatKind.f64.format.order ((IntKind.u64.wrap (a0)).toNat) ((IntKind.u64.wrap (a0)).toNat) != some Ordering.eq) = false := by simpa using c5
      (try (have c5b1 : decide (FloatKind.f64.format.order ((IntKind.u64.wrap (a0)).toNat) ((IntKind.u64.wrap (a0)).toNat) = some Ordering.eq) = true := by simpa using c5))
      (try (have c5b2 : (FloatKind.f64.format.order ((IntKind.u64.wrap (a0)).toNat) ((IntKind.u64.wrap (a0)).toNat) == some Ordering.eq) = true := by simpa using c5))
      clear c5
      (first | rw [c5b0] | (simp only [i64_w, i32_w]; rw [c5b0]) | skip)
      have H' := Aside0.mk H
      clear H
      go_wp2
      go_meet
      case rel => exact ⟨_, ((FloatKind.f64.format.order ((IntKind.u64.wrap (a1)).toNat) ((IntKind.u64.wrap (a1)).toNat) != some Ordering.eq)), (by first | rfl | (simp; done) | (simp [*]; done)), H', ⟨by first | omega | exact Nat.le_refl _⟩, ⟨by repeat (first | (with_reducible first | exact HB.out | apply below_alloc | apply pw_below_drewN | apply below_drew1) | exact HB.out)⟩⟩
  case rest =>
    clear HC4
    try clear p2
    try clear c3
    try clear c5
    try clear c5b0
    try clear c5b1
    try clear c5b2
    obtain ⟨kq, x24_3, rfl, HA, HJ3, HB⟩ := hcut
    cases kq with
    | zero => exact absurd HA.out (by simp [taluslaw05_OrderFloats.j0])
    | succ kj3 =>
      have H := HA.out
      clear HA
      simp only [taluslaw05_OrderFloats.j0] at H
      by_cases c6 : x24_3 = true
      · subst c6
        have H1 : (if (FloatKind.f64.format.order ((IntKind.u64.wrap (a0)).toNat) ((IntKind.u64.wrap (a0)).toNat) != some Ordering.eq) = true then (if ((t119 == 0) == (FloatKind.f64.format.order ((IntKind.u64.wrap (a1)).toNat) ((IntKind.u64.wrap (a1)).toNat) != some Ordering.eq)) = true then (if (FloatKind.f64.format.order ((IntKind.u64.wrap (a1)).toNat) ((IntKind.u64.wrap (a1)).toNat) != some Ordering.eq) = true then ((taluslaw05_lives.f kj3).bind fun t120 => (some t120)) else (if t119 > 0 then ((taluslaw05_lives.f kj3).bind fun t121 => (some t121)) else (some false))) else (some false)) else (if ((t119 == 0) == false) = true then (if t119 < 0 then (if (FloatKind.f64.format.order ((IntKind.u64.wrap (a1)).toNat) ((IntKind.u64.wrap (a1)).toNat) != some Ordering.eq) = true then ((taluslaw05_lives.f kj3).bind fun t122 => (some t122)) else (if t119 > 0 then ((taluslaw05_lives.f kj3).bind fun t123 => (some t123)) else (some false))) else (some false)) else (some false))) = some r := by rw [if_pos rfl] at H; exact H
        clear H
        have H := H1
        clear H1
        by_cases c7 : (FloatKind.f64.format.order ((IntKind.u64.wrap (a0)).toNat) ((IntKind.u64.wrap (a0)).toNat) != some Ordering.eq) = true
        · rw [if_pos c7] at H
          have c7b0 : (FloatKind.f64.format.order ((IntKind.u64.wrap (a0)).toNat) ((IntKind.u64.wrap (a0)).toNat) != some Ordering.eq) = true := c7
          (try (have c7b1 : decide (FloatKind.f64.format.order ((IntKind.u64.wrap (a0)).toNat) ((IntKind.u64.wrap (a0)).toNat) = some Ordering.eq) = false := by simpa using c7))
          (try (have c7b2 : (FloatKind.f64.format.order ((IntKind.u64.wrap (a0)).toNat) ((IntKind.u64.wrap (a0)).toNat) == some Ordering.eq) = false := by simpa using c7))
          (try (have c7b3 : ¬ (FloatKind.f64.format.order ((IntKind.u64.wrap (a0)).toNat) ((IntKind.u64.wrap (a0)).toNat) = some Ordering.eq) := by simpa using c7))
          clear c7
          by_cases c8 : ((t119 == 0) == (FloatKind.f64.format.order ((IntKind.u64.wrap (a1)).toNat) ((IntKind.u64.wrap (a1)).toNat) != some Ordering.eq)) = true
          · rw [if_pos c8] at H
            have c8b0 : ((t119 == 0) == (FloatKind.f64.format.order ((IntKind.u64.wrap (a1)).toNat) ((IntKind.u64.wrap (a1)).toNat) != some Ordering.eq)) = true := c8
            (try (have c8b1 : decide ((t119 == 0) = (FloatKind.f64.format.order ((IntKind.u64.wrap (a1)).toNat) ((IntKind.u64.wrap (a1)).toNat) != some Ordering.eq)) = true := by simpa using c8))
            (try (have c8b2 : ((t119 == 0) == (FloatKind.f64.format.order ((IntKind.u64.wrap (a1)).toNat) ((IntKind.u64.wrap (a1)).toNat) != some Ordering.eq)) = true := by simpa using c8))
            (try (have c8n := c8b0; simp only [c7b0, Go.Proofs.Ytpgopfidbmiifaa.Xw.b_true, Go.Proofs.Ytpgopfidbmiifaa.Xw.b_false, Bool.true_beq, Bool.false_beq, Bool.bne_true, Bool.bne_false, Bool.true_bne, Bool.false_bne, Bool.not_eq_true', Bool.not_eq_false'] at c8n))
            clear c8
            by_cases c9 : (FloatKind.f64.format.order ((IntKind.u64.wrap (a1)).toNat) ((IntKind.u64.wrap (a1)).toNat) != some Ordering.eq) = true
            · rw [if_pos c9] at H
              have c9b0 : (FloatKind.f64.format.order ((IntKind.u64.wrap (a1)).toNat) ((IntKind.u64.wrap (a1)).toNat) != some Ordering.eq) = true := c9
              (try (have c9b1 : decide (FloatKind.f64.format.order ((IntKind.u64.wrap (a1)).toNat) ((IntKind.u64.wrap (a1)).toNat) = some Ordering.eq) = false := by simpa using c9))
              (try (have c9b2 : (FloatKind.f64.format.order ((IntKind.u64.wrap (a1)).toNat) ((IntKind.u64.wrap (a1)).toNat) == some Ordering.eq) = false := by simpa using c9))
              (try (have c9b3 : ¬ (FloatKind.f64.format.order ((IntKind.u64.wrap (a1)).toNat) ((IntKind.u64.wrap (a1)).toNat) = some Ordering.eq) := by simpa using c9))
              (try (have c8nc9 := c8b0; simp only [c9b0, Go.Proofs.Ytpgopfidbmiifaa.Xw.b_true, Go.Proofs.Ytpgopfidbmiifaa.Xw.b_false, Bool.true_beq, Bool.false_beq, Bool.bne_true, Bool.bne_false, Bool.true_bne, Bool.false_bne, Bool.not_eq_true', Bool.not_eq_false'] at c8nc9))
              clear c9
              replace H := Option.bind_eq_some_iff.mp H
              obtain ⟨t120, A100, H⟩ := H
              replace H : (some t120) = some r := H
              have A10 := Aside0.mk A100
              clear A100
              obtain rfl := Option.some.inj H
              go_wp2_with (first | (go_at_call 10; (with_reducible refine (taluslaw05_lives.calls kj3  t120 _ A10.out).mono ?_); rintro e w11 ⟨rfl, hb⟩; have n0_ := Aside0.mk (below_step (by repeat (first | (with_reducible first | exact HB.out | apply below_alloc | apply pw_below_drewN | apply below_drew1) | exact HB.out)) hb); clear HB; have HB := n0_; clear n0_; (try clear hb); (try clear hb2); (try clear hk); (try clear hi)))
              go_ret
              exact ⟨by first | rfl | (simp [errW_none, errW_some] <;> rfl) | (simp [*, errW_none, errW_some] <;> rfl), by repeat (first | (with_reducible first | exact HB.out | apply below_alloc | apply pw_below_drewN | apply below_drew1) | exact HB.out)⟩
            · rw [if_neg c9] at H
              have c9b0 : (FloatKind.f64.format.order ((IntKind.u64.wrap (a1)).toNat) ((IntKind.u64.wrap (a1)).toNat) != some Ordering.eq) = false := by simpa using c9
              (try (have c9b1 : decide (FloatKind.f64.format.order ((IntKind.u64.wrap (a1)).toNat) ((IntKind.u64.wrap (a1)).toNat) = some Ordering.eq) = true := by simpa using c9))
              (try (have c9b2 : (FloatKind.f64.format.order ((IntKind.u64.wrap (a1)).toNat) ((IntKind.u64.wrap (a1)).toNat) == some Ordering.eq) = true := by simpa using c9))
              (try (have c8nc9 := c8b0; simp only [c9b0, Go.Proofs.Ytpgopfidbmiifaa.Xw.b_true, Go.Proofs.Ytpgopfidbmiifaa.Xw.b_false, Bool.true_beq, Bool.false_beq, Bool.bne_true, Bool.bne_false, Bool.true_bne, Bool.false_bne, Bool.not_eq_true', Bool.not_eq_false'] at c8nc9))
              clear c9
              by_cases c12 : t119 > 0
              · rw [if_pos c12] at H
                have c12b0 : decide (0 < t119) = true := decide_eq_true c12
                (try (have c8nc12 := c8b0; simp only [c12b0, Go.Proofs.Ytpgopfidbmiifaa.Xw.b_true, Go.Proofs.Ytpgopfidbmiifaa.Xw.b_false, Bool.true_beq, Bool.false_beq, Bool.bne_true, Bool.bne_false, Bool.true_bne, Bool.false_bne, Bool.not_eq_true', Bool.not_eq_false'] at c8nc12))
                clear c12
                replace H := Option.bind_eq_some_iff.mp H
                obtain ⟨t121, A130, H⟩ := H
                replace H : (some t121) = some r := H
                have A13 := Aside0.mk A130
                clear A130
                obtain rfl := Option.some.inj H
                go_wp2_with (first | (go_at_call 10; (with_reducible refine (taluslaw05_lives.calls kj3  t121 _ A13.out).mono ?_); rintro e w14 ⟨rfl, hb⟩; have n0_ := Aside0.mk (below_step (by repeat (first | (with_reducible first | exact HB.out | apply below_alloc | apply pw_below_drewN | apply below_drew1) | exact HB.out)) hb); clear HB; have HB := n0_; clear n0_; (try clear hb); (try clear hb2); (try clear hk); (try clear hi)))
                go_ret
                exact ⟨by first | rfl | (simp [errW_none, errW_some] <;> rfl) | (simp [*, errW_none, errW_some] <;> rfl), by repeat (first | (with_reducible first | exact HB.out | apply below_alloc | apply pw_below_drewN | apply below_drew1) | exact HB.out)⟩
              · rw [if_neg c12] at H
                have c12b0 : decide (0 < t119) = false := decide_eq_false c12
                (try (have c8nc12 := c8b0; simp only [c12b0, Go.Proofs.Ytpgopfidbmiifaa.Xw.b_true, Go.Proofs.Ytpgopfidbmiifaa.Xw.b_false, Bool.true_beq, Bool.false_beq, Bool.bne_true, Bool.bne_false, Bool.true_bne, Bool.false_bne, Bool.not_eq_true', Bool.not_eq_false'] at c8nc12))
                clear c12
                obtain rfl := Option.some.inj H
                go_wp2
                go_ret
                exact ⟨by first | rfl | (simp [errW_none, errW_some] <;> rfl) | (simp [*, errW_none, errW_some] <;> rfl), by repeat (first | (with_reducible first | exact HB.out | apply below_alloc | apply pw_below_drewN | apply below_drew1) | exact HB.out)⟩
          · rw [if_neg c8] at H
            have c8b0 : ((t119 == 0) == (FloatKind.f64.format.order ((IntKind.u64.wrap (a1)).toNat) ((IntKind.u64.wrap (a1)).toNat) != some Ordering.eq)) = false := by simpa using c8
            (try (have c8b1 : decide ((t119 == 0) = (FloatKind.f64.format.order ((IntKind.u64.wrap (a1)).toNat) ((IntKind.u64.wrap (a1)).toNat) != some Ordering.eq)) = false := by simpa using c8))
            (try (have c8b2 : ((t119 == 0) == (FloatKind.f64.format.order ((IntKind.u64.wrap (a1)).toNat) ((IntKind.u64.wrap (a1)).toNat) != some Ordering.eq)) = false := by simpa using c8))
            (try (have c8b3 : ¬ ((t119 == 0) = (FloatKind.f64.format.order ((IntKind.u64.wrap (a1)).toNat) ((IntKind.u64.wrap (a1)).toNat) != some Ordering.eq)) := by simpa using c8))
            (try (have c8n := c8b0; simp only [c7b0, Go.Proofs.Ytpgopfidbmiifaa.Xw.b_true, Go.Proofs.Ytpgopfidbmiifaa.Xw.b_false, Bool.true_beq, Bool.false_beq, Bool.bne_true, Bool.bne_false, Bool.true_bne, Bool.false_bne, Bool.not_eq_true', Bool.not_eq_false'] at c8n))
            clear c8
            obtain rfl := Option.some.inj H
            go_wp2
            go_ret
            exact ⟨by first | rfl | (simp [errW_none, errW_some] <;> rfl) | (simp [*, errW_none, errW_some] <;> rfl), by repeat (first | (with_reducible first | exact HB.out | apply below_alloc | apply pw_below_drewN | apply below_drew1) | exact HB.out)⟩
        · rw [if_neg c7] at H
          have c7b0 : (FloatKind.f64.format.order ((IntKind.u64.wrap (a0)).toNat) ((IntKind.u64.wrap (a0)).toNat) != some Ordering.eq) = false := by simpa using c7
          (try (have c7b1 : decide (FloatKind.f64.format.order ((IntKind.u64.wrap (a0)).toNat) ((IntKind.u64.wrap (a0)).toNat) = some Ordering.eq) = true := by simpa using c7))
          (try (have c7b2 : (FloatKind.f64.format.order ((IntKind.u64.wrap (a0)).toNat) ((IntKind.u64.wrap (a0)).toNat) == some Ordering.eq) = true := by simpa using c7))
          clear c7
          by_cases c15 : ((t119 == 0) == false) = true
          · rw [if_pos c15] at H
            have c15b0 : ((t119 == 0) == false) = true := c15
            (try (have c15b1 : decide ((t119 == 0) = false) = true := by simpa using c15))
            (try (have c15b2 : ((t119 == 0) == false) = true := by simpa using c15))
            (try (have c15n := c15b0; simp only [c7b0, Go.Proofs.Ytpgopfidbmiifaa.Xw.b_true, Go.Proofs.Ytpgopfidbmiifaa.Xw.b_false, Bool.true_beq, Bool.false_beq, Bool.bne_true, Bool.bne_false, Bool.true_bne, Bool.false_bne, Bool.not_eq_true', Bool.not_eq_false'] at c15n))
            clear c15
            by_cases c16 : t119 < 0
            · rw [if_pos c16] at H
              have c16b0 : decide (t119 < 0) = true := decide_eq_true c16
              (try (have c15nc16 := c15b0; simp only [c16b0, Go.Proofs.Ytpgopfidbmiifaa.Xw.b_true, Go.Proofs.Ytpgopfidbmiifaa.Xw.b_false, Bool.true_beq, Bool.false_beq, Bool.bne_true, Bool.bne_false, Bool.true_bne, Bool.false_bne, Bool.not_eq_true', Bool.not_eq_false'] at c15nc16))
              clear c16
              by_cases c17 : (FloatKind.f64.format.order ((IntKind.u64.wrap (a1)).toNat) ((IntKind.u64.wrap (a1)).toNat) != some Ordering.eq) = true
              · rw [if_pos c17] at H
                have c17b0 : (FloatKind.f64.format.order ((IntKind.u64.wrap (a1)).toNat) ((IntKind.u64.wrap (a1)).toNat) != some Ordering.eq) = true := c17
                (try (have c17b1 : decide (FloatKind.f64.format.order ((IntKind.u64.wrap (a1)).toNat) ((IntKind.u64.wrap (a1)).toNat) = some Ordering.eq) = false := by simpa using c17))
                (try (have c17b2 : (FloatKind.f64.format.order ((IntKind.u64.wrap (a1)).toNat) ((IntKind.u64.wrap (a1)).toNat) == some Ordering.eq) = false := by simpa using c17))
                (try (have c17b3 : ¬ (FloatKind.f64.format.order ((IntKind.u64.wrap (a1)).toNat) ((IntKind.u64.wrap (a1)).toNat) = some Ordering.eq) := by simpa using c17))
                (try (have c15nc17 := c15b0; simp only [c17b0, Go.Proofs.Ytpgopfidbmiifaa.Xw.b_true, Go.Proofs.Ytpgopfidbmiifaa.Xw.b_false, Bool.true_beq, Bool.false_beq, Bool.bne_true, Bool.bne_false, Bool.true_bne, Bool.false_bne, Bool.not_eq_true', Bool.not_eq_false'] at c15nc17))
                clear c17
                replace H := Option.bind_eq_some_iff.mp H
                obtain ⟨t122, A180, H⟩ := H
                replace H : (some t122) = some r := H
                have A18 := Aside0.mk A180
                clear A180
                obtain rfl := Option.some.inj H
                go_wp2_with (first | (go_at_call 10; (with_reducible refine (taluslaw05_lives.calls kj3  t122 _ A18.out).mono ?_); rintro e w19 ⟨rfl, hb⟩; have n0_ := Aside0.mk (below_step (by repeat (first | (with_reducible first | exact HB.out | apply below_alloc | apply pw_below_drewN | apply below_drew1) | exact HB.out)) hb); clear HB; have HB := n0_; clear n0_; (try clear hb); (try clear hb2); (try clear hk); (try clear hi)))
                go_ret
                exact ⟨by first | rfl | (simp [errW_none, errW_some] <;> rfl) | (simp [*, errW_none, errW_some] <;> rfl), by repeat (first | (with_reducible first | exact HB.out | apply below_alloc | apply pw_below_drewN | apply below_drew1) | exact HB.out)⟩
              · rw [if_neg c17] at H
                have c17b0 : (FloatKind.f64.format.order ((IntKind.u64.wrap (a1)).toNat) ((IntKind.u64.wrap (a1)).toNat) != some Ordering.eq) = false := by simpa using c17
                (try (have c17b1 : decide (FloatKind.f64.format.order ((IntKind.u64.wrap (a1)).toNat) ((IntKind.u64.wrap (a1)).toNat) = some Ordering.eq) = true := by simpa using c17))
                (try (have c17b2 : (FloatKind.f64.format.order ((IntKind.u64.wrap (a1)).toNat) ((IntKind.u64.wrap (a1)).toNat) == some Ordering.eq) = true := by simpa using c17))
                (try (have c15nc17 := c15b0; simp only [c17b0, Go.Proofs.Ytpgopfidbmiifaa.Xw.b_true, Go.Proofs.Ytpgopfidbmiifaa.Xw.b_false, Bool.true_beq, Bool.false_beq, Bool.bne_true, Bool.bne_false, Bool.true_bne, Bool.false_bne, Bool.not_eq_true', Bool.not_eq_false'] at c15nc17))
                clear c17
                by_cases c20 : t119 > 0
                · rw [if_pos c20] at H
                  have c20b0 : decide (0 < t119) = true := decide_eq_true c20
                  (try (have c15nc20 := c15b0; simp only [c20b0, Go.Proofs.Ytpgopfidbmiifaa.Xw.b_true, Go.Proofs.Ytpgopfidbmiifaa.Xw.b_false, Bool.true_beq, Bool.false_beq, Bool.bne_true, Bool.bne_false, Bool.true_bne, Bool.false_bne, Bool.not_eq_true', Bool.not_eq_false'] at c15nc20))
                  clear c20
                  replace H := Option.bind_eq_some_iff.mp H
                  obtain ⟨t123, A210, H⟩ := H
                  replace H : (some t123) = some r := H
                  have A21 := Aside0.mk A210
                  clear A210
                  obtain rfl := Option.some.inj H
                  go_wp2_with (first | (go_at_call 10; (with_reducible refine (taluslaw05_lives.calls kj3  t123 _ A21.out).mono ?_); rintro e w22 ⟨rfl, hb⟩; have n0_ := Aside0.mk (below_step (by repeat (first | (with_reducible first | exact HB.out | apply below_alloc | apply pw_below_drewN | apply below_drew1) | exact HB.out)) hb); clear HB; have HB := n0_; clear n0_; (try clear hb); (try clear hb2); (try clear hk); (try clear hi)))
                  go_ret
                  exact ⟨by first | rfl | (simp [errW_none, errW_some] <;> rfl) | (simp [*, errW_none, errW_some] <;> rfl), by repeat (first | (with_reducible first | exact HB.out | apply below_alloc | apply pw_below_drewN | apply below_drew1) | exact HB.out)⟩
                · rw [if_neg c20] at H
                  have c20b0 : decide (0 < t119) = false := decide_eq_false c20
                  (try (have c15nc20 := c15b0; simp only [c20b0, Go.Proofs.Ytpgopfidbmiifaa.Xw.b_true, Go.Proofs.Ytpgopfidbmiifaa.Xw.b_false, Bool.true_beq, Bool.false_beq, Bool.bne_true, Bool.bne_false, Bool.true_bne, Bool.false_bne, Bool.not_eq_true', Bool.not_eq_false'] at c15nc20))
                  clear c20
                  obtain rfl := Option.some.inj H
                  go_wp2
                  go_ret
                  exact ⟨by first | rfl | (simp [errW_none, errW_some] <;> rfl) | (simp [*, errW_none, errW_some] <;> rfl), by repeat (first | (with_reducible first | exact HB.out | apply below_alloc | apply pw_below_drewN | apply below_drew1) | exact HB.out)⟩
            · rw [if_neg c16] at H
              have c16b0 : decide (t119 < 0) = false := decide_eq_false c16
              (try (have c15nc16 := c15b0; simp only [c16b0, Go.Proofs.Ytpgopfidbmiifaa.Xw.b_true, Go.Proofs.Ytpgopfidbmiifaa.Xw.b_false, Bool.true_beq, Bool.false_beq, Bool.bne_true, Bool.bne_false, Bool.true_bne, Bool.false_bne, Bool.not_eq_true', Bool.not_eq_false'] at c15nc16))
              clear c16
              obtain rfl := Option.some.inj H
              go_wp2
              go_ret
              exact ⟨by first | rfl | (simp [errW_none, errW_some] <;> rfl) | (simp [*, errW_none, errW_some] <;> rfl), by repeat (first | (with_reducible first | exact HB.out | apply below_alloc | apply pw_below_drewN | apply below_drew1) | exact HB.out)⟩
          · rw [if_neg c15] at H
            have c15b0 : ((t119 == 0) == false) = false := by simpa using c15
            (try (have c15b1 : decide ((t119 == 0) = false) = false := by simpa using c15))
            (try (have c15b2 : ((t119 == 0) == false) = false := by simpa using c15))
            (try (have c15b3 : ¬ ((t119 == 0) = false) := by simpa using c15))
            (try (have c15n := c15b0; simp only [c7b0, Go.Proofs.Ytpgopfidbmiifaa.Xw.b_true, Go.Proofs.Ytpgopfidbmiifaa.Xw.b_false, Bool.true_beq, Bool.false_beq, Bool.bne_true, Bool.bne_false, Bool.true_bne, Bool.false_bne, Bool.not_eq_true', Bool.not_eq_false'] at c15n))
            clear c15
            obtain rfl := Option.some.inj H
            go_wp2
            go_ret
            exact ⟨by first | rfl | (simp [errW_none, errW_some] <;> rfl) | (simp [*, errW_none, errW_some] <;> rfl), by repeat (first | (with_reducible first | exact HB.out | apply below_alloc | apply pw_below_drewN | apply below_drew1) | exact HB.out)⟩
      · replace c6 := Bool.eq_false_iff.mpr c6
        subst c6
        have H1 : (if ((decide (t119 < 0)) == (FloatKind.f64.format.order ((IntKind.u64.wrap (a0)).toNat) ((IntKind.u64.wrap (a1)).toNat) == some Ordering.lt)) = true then (if ((decide (t119 > 0)) == (FloatKind.f64.format.order ((IntKind.u64.wrap (a0)).toNat) ((IntKind.u64.wrap (a1)).toNat) == some Ordering.gt)) = true then (if ((t119 == 0) == (FloatKind.f64.format.order ((IntKind.u64.wrap (a0)).toNat) ((IntKind.u64.wrap (a1)).toNat) == some Ordering.eq)) = true then ((taluslaw05_lives.f kj3).bind fun t124 => (some t124)) else (some false)) else (some false)) else (some false)) = some r := by rw [if_neg (show ¬ (false = true) by decide)] at H; exact H
        clear H
        have H := H1
        clear H1
        by_cases c23 : ((decide (t119 < 0)) == (FloatKind.f64.format.order ((IntKind.u64.wrap (a0)).toNat) ((IntKind.u64.wrap (a1)).toNat) == some Ordering.lt)) = true
        · rw [if_pos c23] at H
          have c23b0 : ((decide (t119 < 0)) == (FloatKind.f64.format.order ((IntKind.u64.wrap (a0)).toNat) ((IntKind.u64.wrap (a1)).toNat) == some Ordering.lt)) = true := c23
          (try (have c23b1 : decide ((decide (t119 < 0)) = (FloatKind.f64.format.order ((IntKind.u64.wrap (a0)).toNat) ((IntKind.u64.wrap (a1)).toNat) == some Ordering.lt)) = true := by simpa using c23))
          (try (have c23b2 : ((decide (t119 < 0)) == (FloatKind.f64.format.order ((IntKind.u64.wrap (a0)).toNat) ((IntKind.u64.wrap (a1)).toNat) == some Ordering.lt)) = true := by simpa using c23))
          (try (have c23n := c23b0; simp only [Go.Proofs.Ytpgopfidbmiifaa.Xw.b_true, Go.Proofs.Ytpgopfidbmiifaa.Xw.b_false, Bool.true_beq, Bool.false_beq, Bool.bne_true, Bool.bne_false, Bool.true_bne, Bool.false_bne, Bool.not_eq_true', Bool.not_eq_false'] at c23n))
          clear c23
          by_cases c24 : ((decide (t119 > 0)) == (FloatKind.f64.format.order ((IntKind.u64.wrap (a0)).toNat) ((IntKind.u64.wrap (a1)).toNat) == some Ordering.gt)) = true
          · rw [if_pos c24] at H
            have c24b0 : ((decide (t119 > 0)) == (FloatKind.f64.format.order ((IntKind.u64.wrap (a0)).toNat) ((IntKind.u64.wrap (a1)).toNat) == some Ordering.gt)) = true := c24
            (try (have c24b1 : decide ((decide (t119 > 0)) = (FloatKind.f64.format.order ((IntKind.u64.wrap (a0)).toNat) ((IntKind.u64.wrap (a1)).toNat) == some Ordering.gt)) = true := by simpa using c24))
            (try (have c24b2 : ((decide (t119 > 0)) == (FloatKind.f64.format.order ((IntKind.u64.wrap (a0)).toNat) ((IntKind.u64.wrap (a1)).toNat) == some Ordering.gt)) = true := by simpa using c24))
            (try (have c23nc24 := c23b0; simp only [c24b0, Go.Proofs.Ytpgopfidbmiifaa.Xw.b_true, Go.Proofs.Ytpgopfidbmiifaa.Xw.b_false, Bool.true_beq, Bool.false_beq, Bool.bne_true, Bool.bne_false, Bool.true_bne, Bool.false_bne, Bool.not_eq_true', Bool.not_eq_false'] at c23nc24))
            (try (have c24n := c24b0; simp only [c23b0, Go.Proofs.Ytpgopfidbmiifaa.Xw.b_true, Go.Proofs.Ytpgopfidbmiifaa.Xw.b_false, Bool.true_beq, Bool.false_beq, Bool.bne_true, Bool.bne_false, Bool.true_bne, Bool.false_bne, Bool.not_eq_true', Bool.not_eq_false'] at c24n))
            clear c24
            by_cases c25 : ((t119 == 0) == (FloatKind.f64.format.order ((IntKind.u64.wrap (a0)).toNat) ((IntKind.u64.wrap (a1)).toNat) == some Ordering.eq)) = true
            · rw [if_pos c25] at H
              have c25b0 : ((t119 == 0) == (FloatKind.f64.format.order ((IntKind.u64.wrap (a0)).toNat) ((IntKind.u64.wrap (a1)).toNat) == some Ordering.eq)) = true := c25
              (try (have c25b1 : decide ((t119 == 0) = (FloatKind.f64.format.order ((IntKind.u64.wrap (a0)).toNat) ((IntKind.u64.wrap (a1)).toNat) == some Ordering.eq)) = true := by simpa using c25))
              (try (have c25b2 : ((t119 == 0) == (FloatKind.f64.format.order ((IntKind.u64.wrap (a0)).toNat) ((IntKind.u64.wrap (a1)).toNat) == some Ordering.eq)) = true := by simpa using c25))
              (try (have c23nc25 := c23b0; simp only [c25b0, Go.Proofs.Ytpgopfidbmiifaa.Xw.b_true, Go.Proofs.Ytpgopfidbmiifaa.Xw.b_false, Bool.true_beq, Bool.false_beq, Bool.bne_true, Bool.bne_false, Bool.true_bne, Bool.false_bne, Bool.not_eq_true', Bool.not_eq_false'] at c23nc25))
              (try (have c24nc25 := c24b0; simp only [c25b0, Go.Proofs.Ytpgopfidbmiifaa.Xw.b_true, Go.Proofs.Ytpgopfidbmiifaa.Xw.b_false, Bool.true_beq, Bool.false_beq, Bool.bne_true, Bool.bne_false, Bool.true_bne, Bool.false_bne, Bool.not_eq_true', Bool.not_eq_false'] at c24nc25))
              (try (have c25n := c25b0; simp only [c23b0, c24b0, Go.Proofs.Ytpgopfidbmiifaa.Xw.b_true, Go.Proofs.Ytpgopfidbmiifaa.Xw.b_false, Bool.true_beq, Bool.false_beq, Bool.bne_true, Bool.bne_false, Bool.true_bne, Bool.false_bne, Bool.not_eq_true', Bool.not_eq_false'] at c25n))
              clear c25
              replace H := Option.bind_eq_some_iff.mp H
              obtain ⟨t124, A260, H⟩ := H
              replace H : (some t124) = some r := H
              have A26 := Aside0.mk A260
              clear A260
              obtain rfl := Option.some.inj H
              go_wp2_with (first | (go_at_call 10; (with_reducible refine (taluslaw05_lives.calls kj3  t124 _ A26.out).mono ?_); rintro e w27 ⟨rfl, hb⟩; have n0_ := Aside0.mk (below_step (by repeat (first | (with_reducible first | exact HB.out | apply below_alloc | apply pw_below_drewN | apply below_drew1) | exact HB.out)) hb); clear HB; have HB := n0_; clear n0_; (try clear hb); (try clear hb2); (try clear hk); (try clear hi)))
              go_ret
              exact ⟨by first | rfl | (simp [errW_none, errW_some] <;> rfl) | (simp [*, errW_none, errW_some] <;> rfl), by repeat (first | (with_reducible first | exact HB.out | apply below_alloc | apply pw_below_drewN | apply below_drew1) | exact HB.out)⟩
            · rw [if_neg c25] at H
              have c25b0 : ((t119 == 0) == (FloatKind.f64.format.order ((IntKind.u64.wrap (a0)).toNat) ((IntKind.u64.wrap (a1)).toNat) == some Ordering.eq)) = false := by simpa using c25
              (try (have c25b1 : decide ((t119 == 0) = (FloatKind.f64.format.order ((IntKind.u64.wrap (a0)).toNat) ((IntKind.u64.wrap (a1)).toNat) == some Ordering.eq)) = false := by simpa using c25))
              (try (have c25b2 : ((t119 == 0) == (FloatKind.f64.format.order ((IntKind.u64.wrap (a0)).toNat) ((IntKind.u64.wrap (a1)).toNat) == some Ordering.eq)) = false := by simpa using c25))
              (try (have c25b3 : ¬ ((t119 == 0) = (FloatKind.f64.format.order ((IntKind.u64.wrap (a0)).toNat) ((IntKind.u64.wrap (a1)).toNat) == some Ordering.eq)) := by simpa using c25))
              (try (have c23nc25 := c23b0; simp only [c25b0, Go.Proofs.Ytpgopfidbmiifaa.Xw.b_true, Go.Proofs.Ytpgopfidbmiifaa.Xw.b_false, Bool.true_beq, Bool.false_beq, Bool.bne_true, Bool.bne_false, Bool.true_bne, Bool.false_bne, Bool.not_eq_true', Bool.not_eq_false'] at c23nc25))
              (try (have c24nc25 := c24b0; simp only [c25b0, Go.Proofs.Ytpgopfidbmiifaa.Xw.b_true, Go.Proofs.Ytpgopfidbmiifaa.Xw.b_false, Bool.true_beq, Bool.false_beq, Bool.bne_true, Bool.bne_false, Bool.true_bne, Bool.false_bne, Bool.not_eq_true', Bool.not_eq_false'] at c24nc25))
              (try (have c25n := c25b0; simp only [c23b0, c24b0, Go.Proofs.Ytpgopfidbmiifaa.Xw.b_true, Go.Proofs.Ytpgopfidbmiifaa.Xw.b_false, Bool.true_beq, Bool.false_beq, Bool.bne_true, Bool.bne_false, Bool.true_bne, Bool.false_bne, Bool.not_eq_true', Bool.not_eq_false'] at c25n))
              clear c25
              obtain rfl := Option.some.inj H
              go_wp2
              go_ret
              exact ⟨by first | rfl | (simp [errW_none, errW_some] <;> rfl) | (simp [*, errW_none, errW_some] <;> rfl), by repeat (first | (with_reducible first | exact HB.out | apply below_alloc | apply pw_below_drewN | apply below_drew1) | exact HB.out)⟩
          · rw [if_neg c24] at H
            have c24b0 : ((decide (t119 > 0)) == (FloatKind.f64.format.order ((IntKind.u64.wrap (a0)).toNat) ((IntKind.u64.wrap (a1)).toNat) == some Ordering.gt)) = false := by simpa using c24
            (try (have c24b1 : decide ((decide (t119 > 0)) = (FloatKind.f64.format.order ((IntKind.u64.wrap (a0)).toNat) ((IntKind.u64.wrap (a1)).toNat) == some Ordering.gt)) = false := by simpa using c24))
            (try (have c24b2 : ((decide (t119 > 0)) == (FloatKind.f64.format.order ((IntKind.u64.wrap (a0)).toNat) ((IntKind.u64.wrap (a1)).toNat) == some Ordering.gt)) = false := by simpa using c24))
            (try (have c24b3 : ¬ ((decide (t119 > 0)) = (FloatKind.f64.format.order ((IntKind.u64.wrap (a0)).toNat) ((IntKind.u64.wrap (a1)).toNat) == some Ordering.gt)) := by simpa using c24))
            (try (have c23nc24 := c23b0; simp only [c24b0, Go.Proofs.Ytpgopfidbmiifaa.Xw.b_true, Go.Proofs.Ytpgopfidbmiifaa.Xw.b_false, Bool.true_beq, Bool.false_beq, Bool.bne_true, Bool.bne_false, Bool.true_bne, Bool.false_bne, Bool.not_eq_true', Bool.not_eq_false'] at c23nc24))
            (try (have c24n := c24b0; simp only [c23b0, Go.Proofs.Ytpgopfidbmiifaa.Xw.b_true, Go.Proofs.Ytpgopfidbmiifaa.Xw.b_false, Bool.true_beq, Bool.false_beq, Bool.bne_true, Bool.bne_false, Bool.true_bne, Bool.false_bne, Bool.not_eq_true', Bool.not_eq_false'] at c24n))
            clear c24
            obtain rfl := Option.some.inj H
            go_wp2
            go_ret
            exact ⟨by first | rfl | (simp [errW_none, errW_some] <;> rfl) | (simp [*, errW_none, errW_some] <;> rfl), by repeat (first | (with_reducible first | exact HB.out | apply below_alloc | apply pw_below_drewN | apply below_drew1) | exact HB.out)⟩
        · rw [if_neg c23] at H
          have c23b0 : ((decide (t119 < 0)) == (FloatKind.f64.format.order ((IntKind.u64.wrap (a0)).toNat) ((IntKind.u64.wrap (a1)).toNat) == some Ordering.lt)) = false := by simpa using c23
          (try (have c23b1 : decide ((decide (t119 < 0)) = (FloatKind.f64.format.order ((IntKind.u64.wrap (a0)).toNat) ((IntKind.u64.wrap (a1)).toNat) == some Ordering.lt)) = false := by simpa using c23))
          (try (have c23b2 : ((decide (t119 < 0)) == (FloatKind.f64.format.order ((IntKind.u64.wrap (a0)).toNat) ((IntKind.u64.wrap (a1)).toNat) == some Ordering.lt)) = false := by simpa using c23))
          (try (have c23b3 : ¬ ((decide (t119 < 0)) = (FloatKind.f64.format.order ((IntKind.u64.wrap (a0)).toNat) ((IntKind.u64.wrap (a1)).toNat) == some Ordering.lt)) := by simpa using c23))
          (try (have c23n := c23b0; simp only [Go.Proofs.Ytpgopfidbmiifaa.Xw.b_true, Go.Proofs.Ytpgopfidbmiifaa.Xw.b_false, Bool.true_beq, Bool.false_beq, Bool.bne_true, Bool.bne_false, Bool.true_bne, Bool.false_bne, Bool.not_eq_true', Bool.not_eq_false'] at c23n))
          clear c23
          obtain rfl := Option.some.inj H
          go_wp2
          go_ret
          exact ⟨by first | rfl | (simp [errW_none, errW_some] <;> rfl) | (simp [*, errW_none, errW_some] <;> rfl), by repeat (first | (with_reducible first | exact HB.out | apply below_alloc | apply pw_below_drewN | apply below_drew1) | exact HB.out)⟩

/-- THE ONE PURE STATEMENT of taluslaw05_OrderFloats: yours. -/
def taluslaw05_OrderFloats.Pure : Prop := ∀ (a0 : Int) (a1 : Int), (Lit.int .i64 a0).wf = true → (Lit.int .i64 a1).wf = true → ∃ k, taluslaw05_OrderFloats.f k a0 a1 = some true
theorem taluslaw05_OrderFloats.walk (P : taluslaw05_OrderFloats.Pure) (a0 : Int) (a1 : Int) (w : World) (w0 : (Lit.int .i64 a0).wf = true) (w1 : (Lit.int .i64 a1).wf = true) :
    Calls Try.prog 3 #[.int .i64 a0, .int .i64 a1] w fun e w' => e = .returned (.bool true) ∧ Below w.heap.size w w' := by
  obtain ⟨k, h⟩ := P a0 a1 w0 w1
  refine (taluslaw05_OrderFloats.calls k a0 a1 true w h).mono ?_
  rintro e w' ⟨rfl, hd⟩
  exact ⟨rfl, hd⟩

end Go.Proofs.Ytpgopfidbmiifaa.POrderFloats
