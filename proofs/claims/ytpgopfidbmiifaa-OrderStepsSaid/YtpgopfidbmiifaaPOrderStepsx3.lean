/- Printed for this claim by a program of this session (the kit's printer with additions, wip/xp); Lean checks it. -/
import Derived.Test.YtpgopfidbmiifaaPOrderStepsx0
import Derived.Test.YtpgopfidbmiifaaPOrderStepsx1
import Derived.Test.YtpgopfidbmiifaaPOrderStepsx2
namespace Go.Proofs.Ytpgopfidbmiifaa.POrderSteps
open Go.RowKit Go.Proofs.YtpgopfidbmiifaaW.PrintWords Go.Proofs.YtpgopfidbmiifaaW.PrintLast Go.Proofs.YtpgopfidbmiifaaW.PrintMore
attribute [local go_sem] max2_int min2_int max_two min_two max_three min_three max_four min_four   -- for this text's walks alone
set_option linter.unusedVariables false
set_option linter.unusedSimpArgs false

/-! ### order_Print: function 20 -/
def order_Print.l0 : Nat → Int → List Int → Int → Int → Option (ByteArray)
  | 0, _, _, _, _ => none
  | k + 1, x4, x5, x24, x25 => if x25 < x24 then (if 0 ≤ (Go.bits .and .u64 x4 15) then (if (Go.bits .and .u64 x4 15) < 16 then (if 0 ≤ (wrap64 (15 - x25)) then (if (wrap64 (15 - x25)) < (x5.length : Int) then (order_Print.l0 k (x4 / 16) (x5.set ((wrap64 (15 - x25)) : Int).toNat (bt (⟨#[48, 49, 50, 51, 52, 53, 54, 55, 56, 57, 97, 98, 99, 100, 101, 102]⟩ : ByteArray) (Go.bits .and .u64 x4 15))) x24 (wrap64 (x25 + 1))) else (none)) else (none)) else (none)) else (none)) else (if 2 + (strOfNums x5).size ≤ 9223372036854775807 then (some ((⟨#[48, 102]⟩ : ByteArray) ++ (strOfNums x5))) else (none))
def order_Print.f (k : Nat) (a0 : Int) : Option (ByteArray) := (order_float.f a0).bind fun t107 => (if (FloatKind.f64.format.order t107 t107 != some Ordering.eq) = true then (some (⟨#[78, 65, 78]⟩ : ByteArray)) else ((math_IsInf.f t107 1).bind fun t108 => (if t108 = true then (some (⟨#[73, 78, 70]⟩ : ByteArray)) else ((math_IsInf.f t107 (-1)).bind fun t109 => (if t109 = true then (some (⟨#[45, 73, 78, 70]⟩ : ByteArray)) else ((order_Canon.f a0).bind fun t110 => (if 16 ≤ 281474976710656 then ((some (List.replicate 16 0 : List Int)).bind fun y111 => (order_Print.l0 k (IntKind.u64.wrap (t110)) y111 (y111.length : Int) 0)) else (none))))))))
theorem order_Print.mono_l : ∀ k, (∀ y0 y1 y2 y3, LeO (order_Print.l0 k y0 y1 y2 y3) (order_Print.l0 (k + 1) y0 y1 y2 y3))
  | 0 => fun _ _ _ _ r h => by simp [order_Print.l0] at h
  | k + 1 => by
    have ih0 := order_Print.mono_l k
    · intro y0 y1 y2 y3
      unfold order_Print.l0
      repeat' first
      | (with_reducible exact ih0 _ _ _ _)
      | (with_reducible exact LeO.refl _)
      | (with_reducible exact LeO.none _)
      | (with_reducible refine LeO.ite ?_ ?_)
      | (with_reducible refine LeO.bind ?_ (fun _ => ?_))
      | exact ih0 _ _ _ _
      | exact LeO.none _
      | refine LeO.ite ?_ ?_
      | refine LeO.bind ?_ (fun _ => ?_)
theorem order_Print.mono : ∀ a0 k, LeO (order_Print.f k a0) (order_Print.f (k + 1) a0) := by
  intro a0 k
  have ih0 := order_Print.mono_l k
  unfold order_Print.f
  repeat' first
      | (with_reducible exact ih0 _ _ _ _)
      | (with_reducible exact LeO.refl _)
      | (with_reducible exact LeO.none _)
      | (with_reducible refine LeO.ite ?_ ?_)
      | (with_reducible refine LeO.bind ?_ (fun _ => ?_))
      | exact ih0 _ _ _ _
      | exact LeO.none _
      | refine LeO.ite ?_ ?_
      | refine LeO.bind ?_ (fun _ => ?_)
set_option maxHeartbeats 8000000 in
set_option maxRecDepth 100000 in
theorem order_Print.calls (k : Nat) (a0 : Int) (r : ByteArray) (w : World) (h : order_Print.f k a0 = some r) :
    Calls Try.prog 20 #[.int .i64 a0] w fun e w' => e = .returned (.string r) ∧ Below w.heap.size w w' := by
  have HB := Aside0.mk (Below.refl w.heap.size w)
  have H : ((order_float.f a0).bind fun t107 => (if (FloatKind.f64.format.order t107 t107 != some Ordering.eq) = true then (some (⟨#[78, 65, 78]⟩ : ByteArray)) else ((math_IsInf.f t107 1).bind fun t108 => (if t108 = true then (some (⟨#[73, 78, 70]⟩ : ByteArray)) else ((math_IsInf.f t107 (-1)).bind fun t109 => (if t109 = true then (some (⟨#[45, 73, 78, 70]⟩ : ByteArray)) else ((order_Canon.f a0).bind fun t110 => (if 16 ≤ 281474976710656 then ((some (List.replicate 16 0 : List Int)).bind fun y111 => (order_Print.l0 k (IntKind.u64.wrap (t110)) y111 (y111.length : Int) 0)) else (none))))))))) = some r := h
  clear h
  replace H := Option.bind_eq_some_iff.mp H
  obtain ⟨t107, A20, H⟩ := H
  replace H : (if (FloatKind.f64.format.order t107 t107 != some Ordering.eq) = true then (some (⟨#[78, 65, 78]⟩ : ByteArray)) else ((math_IsInf.f t107 1).bind fun t108 => (if t108 = true then (some (⟨#[73, 78, 70]⟩ : ByteArray)) else ((math_IsInf.f t107 (-1)).bind fun t109 => (if t109 = true then (some (⟨#[45, 73, 78, 70]⟩ : ByteArray)) else ((order_Canon.f a0).bind fun t110 => (if 16 ≤ 281474976710656 then ((some (List.replicate 16 0 : List Int)).bind fun y111 => (order_Print.l0 k (IntKind.u64.wrap (t110)) y111 (y111.length : Int) 0)) else (none)))))))) = some r := H
  have A2 := Aside0.mk A20
  clear A20
  by_cases c3 : (FloatKind.f64.format.order t107 t107 != some Ordering.eq) = true
  · rw [if_pos c3] at H
    have c3b0 : (FloatKind.f64.format.order t107 t107 != some Ordering.eq) = true := c3
    (try (have c3b1 : decide (FloatKind.f64.format.order t107 t107 = some Ordering.eq) = false := by simpa using c3))
    (try (have c3b2 : (FloatKind.f64.format.order t107 t107 == some Ordering.eq) = false := by simpa using c3))
    (try (have c3b3 : ¬ (FloatKind.f64.format.order t107 t107 = some Ordering.eq) := by simpa using c3))
    clear c3
    obtain rfl := Option.some.inj H
    go_enter Try.func20, Try.ntmps20
    go_wp2_with (first | ((with_reducible refine gate_callee (f := 30) rfl ?_); refine goesL_ (some 8) rfl rfl Try.func30 (by kernel_rfl) rfl #[.int .i64 a0] rfl (by (try simp only [List.map_toArray, List.map_cons, List.map_nil]); first | done | rfl | (simp only [List.length_drop, List.length_take]; rfl)) ?_; (with_reducible refine (order_float.calls a0 t107 _ A2.out).mono ?_); rintro e w' ⟨rfl, ⟨nd, rfl⟩⟩; refine ⟨_, rfl, ?_⟩))
    go_ret
    exact ⟨by first | rfl | (simp [errW_none, errW_some] <;> rfl) | (simp [*, errW_none, errW_some] <;> rfl), by repeat (first | (with_reducible first | exact HB.out | apply below_alloc | apply pw_below_drewN | apply below_drew1) | exact HB.out)⟩
  · rw [if_neg c3] at H
    have c3b0 : (FloatKind.f64.format.order t107 t107 != some Ordering.eq) = false := by simpa using c3
    (try (have c3b1 : decide (FloatKind.f64.format.order t107 t107 = some Ordering.eq) = true := by simpa using c3))
    (try (have c3b2 : (FloatKind.f64.format.order t107 t107 == some Ordering.eq) = true := by simpa using c3))
    clear c3
    replace H := Option.bind_eq_some_iff.mp H
    obtain ⟨t108, A40, H⟩ := H
    replace H : (if t108 = true then (some (⟨#[73, 78, 70]⟩ : ByteArray)) else ((math_IsInf.f t107 (-1)).bind fun t109 => (if t109 = true then (some (⟨#[45, 73, 78, 70]⟩ : ByteArray)) else ((order_Canon.f a0).bind fun t110 => (if 16 ≤ 281474976710656 then ((some (List.replicate 16 0 : List Int)).bind fun y111 => (order_Print.l0 k (IntKind.u64.wrap (t110)) y111 (y111.length : Int) 0)) else (none)))))) = some r := H
    have A4 := Aside0.mk A40
    clear A40
    by_cases c5 : t108 = true
    · subst c5
      have H1 : (some (⟨#[73, 78, 70]⟩ : ByteArray)) = some r := by rw [if_pos rfl] at H; exact H
      clear H
      have H := H1
      clear H1
      obtain rfl := Option.some.inj H
      go_enter Try.func20, Try.ntmps20
      go_wp2_with (first | ((with_reducible refine gate_callee (f := 30) rfl ?_); refine goesL_ (some 8) rfl rfl Try.func30 (by kernel_rfl) rfl #[.int .i64 a0] rfl (by (try simp only [List.map_toArray, List.map_cons, List.map_nil]); first | done | rfl | (simp only [List.length_drop, List.length_take]; rfl)) ?_; (with_reducible refine (order_float.calls a0 t107 _ A2.out).mono ?_); rintro e w' ⟨rfl, ⟨nd, rfl⟩⟩; refine ⟨_, rfl, ?_⟩) | ((with_reducible refine gate_callee (f := 32) rfl ?_); refine goesL_ (some 15) rfl rfl Try.func32 (by kernel_rfl) rfl #[.float .f64 t107, .int .i64 1] rfl (by (try simp only [List.map_toArray, List.map_cons, List.map_nil]); first | done | rfl | (simp only [List.length_drop, List.length_take]; rfl)) ?_; (with_reducible refine (math_IsInf.calls t107 1 true _ A4.out).mono ?_); rintro e w' ⟨rfl, ⟨nd, rfl⟩⟩; refine ⟨_, rfl, ?_⟩))
      go_ret
      exact ⟨by first | rfl | (simp [errW_none, errW_some] <;> rfl) | (simp [*, errW_none, errW_some] <;> rfl), by repeat (first | (with_reducible first | exact HB.out | apply below_alloc | apply pw_below_drewN | apply below_drew1) | exact HB.out)⟩
    · replace c5 := Bool.eq_false_iff.mpr c5
      subst c5
      have H1 : ((math_IsInf.f t107 (-1)).bind fun t109 => (if t109 = true then (some (⟨#[45, 73, 78, 70]⟩ : ByteArray)) else ((order_Canon.f a0).bind fun t110 => (if 16 ≤ 281474976710656 then ((some (List.replicate 16 0 : List Int)).bind fun y111 => (order_Print.l0 k (IntKind.u64.wrap (t110)) y111 (y111.length : Int) 0)) else (none))))) = some r := by rw [if_neg (show ¬ (false = true) by decide)] at H; exact H
      clear H
      have H := H1
      clear H1
      replace H := Option.bind_eq_some_iff.mp H
      obtain ⟨t109, A60, H⟩ := H
      replace H : (if t109 = true then (some (⟨#[45, 73, 78, 70]⟩ : ByteArray)) else ((order_Canon.f a0).bind fun t110 => (if 16 ≤ 281474976710656 then ((some (List.replicate 16 0 : List Int)).bind fun y111 => (order_Print.l0 k (IntKind.u64.wrap (t110)) y111 (y111.length : Int) 0)) else (none)))) = some r := H
      have A6 := Aside0.mk A60
      clear A60
      by_cases c7 : t109 = true
      · subst c7
        have H1 : (some (⟨#[45, 73, 78, 70]⟩ : ByteArray)) = some r := by rw [if_pos rfl] at H; exact H
        clear H
        have H := H1
        clear H1
        obtain rfl := Option.some.inj H
        go_enter Try.func20, Try.ntmps20
        go_wp2_with (first | ((with_reducible refine gate_callee (f := 30) rfl ?_); refine goesL_ (some 8) rfl rfl Try.func30 (by kernel_rfl) rfl #[.int .i64 a0] rfl (by (try simp only [List.map_toArray, List.map_cons, List.map_nil]); first | done | rfl | (simp only [List.length_drop, List.length_take]; rfl)) ?_; (with_reducible refine (order_float.calls a0 t107 _ A2.out).mono ?_); rintro e w' ⟨rfl, ⟨nd, rfl⟩⟩; refine ⟨_, rfl, ?_⟩) | ((with_reducible refine gate_callee (f := 32) rfl ?_); refine goesL_ (some 15) rfl rfl Try.func32 (by kernel_rfl) rfl #[.float .f64 t107, .int .i64 1] rfl (by (try simp only [List.map_toArray, List.map_cons, List.map_nil]); first | done | rfl | (simp only [List.length_drop, List.length_take]; rfl)) ?_; (with_reducible refine (math_IsInf.calls t107 1 false _ A4.out).mono ?_); rintro e w' ⟨rfl, ⟨nd, rfl⟩⟩; refine ⟨_, rfl, ?_⟩) | ((with_reducible refine gate_callee (f := 32) rfl ?_); refine goesL_ (some 18) rfl rfl Try.func32 (by kernel_rfl) rfl #[.float .f64 t107, .int .i64 (-1)] rfl (by (try simp only [List.map_toArray, List.map_cons, List.map_nil]); first | done | rfl | (simp only [List.length_drop, List.length_take]; rfl)) ?_; (with_reducible refine (math_IsInf.calls t107 (-1) true _ A6.out).mono ?_); rintro e w' ⟨rfl, ⟨nd, rfl⟩⟩; refine ⟨_, rfl, ?_⟩))
        go_ret
        exact ⟨by first | rfl | (simp [errW_none, errW_some] <;> rfl) | (simp [*, errW_none, errW_some] <;> rfl), by repeat (first | (with_reducible first | exact HB.out | apply below_alloc | apply pw_below_drewN | apply below_drew1) | exact HB.out)⟩
      · replace c7 := Bool.eq_false_iff.mpr c7
        subst c7
        have H1 : ((order_Canon.f a0).bind fun t110 => (if 16 ≤ 281474976710656 then ((some (List.replicate 16 0 : List Int)).bind fun y111 => (order_Print.l0 k (IntKind.u64.wrap (t110)) y111 (y111.length : Int) 0)) else (none))) = some r := by rw [if_neg (show ¬ (false = true) by decide)] at H; exact H
        clear H
        have H := H1
        clear H1
        replace H := Option.bind_eq_some_iff.mp H
        obtain ⟨t110, A80, H⟩ := H
        replace H : (if 16 ≤ 281474976710656 then ((some (List.replicate 16 0 : List Int)).bind fun y111 => (order_Print.l0 k (IntKind.u64.wrap (t110)) y111 (y111.length : Int) 0)) else (none)) = some r := H
        have A8 := Aside0.mk A80
        clear A80
        by_cases c9 : 16 ≤ 281474976710656
        · rw [if_pos c9] at H
          have c9b0 := eq_true c9
          have c9b1 : decide (16 ≤ 281474976710656) = true := decide_eq_true c9
          clear c9
          obtain ⟨y111, hy111⟩ : ∃ y_ : List Int, y_ = (List.replicate 16 0) := ⟨_, rfl⟩
          replace H : (order_Print.l0 k (IntKind.u64.wrap (t110)) y111 (y111.length : Int) 0) = some r := by first | (rw [hy111]; with_reducible exact H) | (have H2_ := (Option.bind_some _ _).symm.trans H; rw [hy111]; with_reducible exact H2_) | (have H2_ := (Option.bind_some _ _).symm.trans H; with_reducible exact H2_) | with_reducible exact H | (rw [hy111]; exact H) | exact H
          have Ny111 := Aside0.mk hy111
          clear hy111
          have H' := Aside0.mk H
          clear H
          go_enter Try.func20, Try.ntmps20
          go_wp2_with (first | ((with_reducible refine gate_callee (f := 30) rfl ?_); refine goesL_ (some 8) rfl rfl Try.func30 (by kernel_rfl) rfl #[.int .i64 a0] rfl (by (try simp only [List.map_toArray, List.map_cons, List.map_nil]); first | done | rfl | (simp only [List.length_drop, List.length_take]; rfl)) ?_; (with_reducible refine (order_float.calls a0 t107 _ A2.out).mono ?_); rintro e w' ⟨rfl, ⟨nd, rfl⟩⟩; refine ⟨_, rfl, ?_⟩) | ((with_reducible refine gate_callee (f := 32) rfl ?_); refine goesL_ (some 15) rfl rfl Try.func32 (by kernel_rfl) rfl #[.float .f64 t107, .int .i64 1] rfl (by (try simp only [List.map_toArray, List.map_cons, List.map_nil]); first | done | rfl | (simp only [List.length_drop, List.length_take]; rfl)) ?_; (with_reducible refine (math_IsInf.calls t107 1 false _ A4.out).mono ?_); rintro e w' ⟨rfl, ⟨nd, rfl⟩⟩; refine ⟨_, rfl, ?_⟩) | ((with_reducible refine gate_callee (f := 32) rfl ?_); refine goesL_ (some 18) rfl rfl Try.func32 (by kernel_rfl) rfl #[.float .f64 t107, .int .i64 (-1)] rfl (by (try simp only [List.map_toArray, List.map_cons, List.map_nil]); first | done | rfl | (simp only [List.length_drop, List.length_take]; rfl)) ?_; (with_reducible refine (math_IsInf.calls t107 (-1) false _ A6.out).mono ?_); rintro e w' ⟨rfl, ⟨nd, rfl⟩⟩; refine ⟨_, rfl, ?_⟩) | ((with_reducible refine gate_callee (f := 11) rfl ?_); refine goesL_ (some 20) rfl rfl Try.func11 (by kernel_rfl) rfl #[.int .i64 a0] rfl (by (try simp only [List.map_toArray, List.map_cons, List.map_nil]); first | done | rfl | (simp only [List.length_drop, List.length_take]; rfl)) ?_; (with_reducible refine (order_Canon.calls a0 t110 _ A8.out).mono ?_); rintro e w' ⟨rfl, ⟨nd, rfl⟩⟩; refine ⟨_, rfl, ?_⟩) | ((with_reducible refine gate_dst (N := 22) rfl ?_); refine Kd.R_make (Kd.int .u8) _ 5 rfl (N := 22) rfl 39 _ _ rfl 16 rfl rfl Try.underlying39 (.int .u8 0) 1 info5 rfl (by decide) (by omega) 0 (ok := fun _ => True) (okp := fun _ => True) rfl (fun _ hk => hk) trivial (by omega) (by omega) (Below.refl _ _) (Nat.le_refl _) ?_; intro v112 w10 ho11 hb hg_ hnew_; clear hg_ hnew_; (first | rw [← Ny111.out] at ho11 | (simp only [Int.reduceToNat] at ho11; rw [← Ny111.out] at ho11)); have n0_ := Aside0.mk (Kd.R_lower ho11 (below_size (by repeat (first | (with_reducible first | exact HB.out | apply below_alloc | apply pw_below_drewN | apply below_drew1) | exact HB.out)))); have n1_ := Aside0.mk (below_step (by repeat (first | (with_reducible first | exact HB.out | apply below_alloc | apply pw_below_drewN | apply below_drew1) | exact HB.out)) hb); clear HB; have HO113 := n0_; have HB := n1_; clear n0_ n1_; clear hb ho11; obtain ⟨Ao12, co12, eo12⟩ := Kd.R_slice HO113.out; subst eo12))
          go_loopg [4, 25] k (fun kq v4 v25 w' => ∃ (x4_1 : Int) (x5_1 : List Int) (x25_1 : Int), v4 = .int .u64 x4_1 ∧ v25 = .int .i64 x25_1 ∧ Aside0 (order_Print.l0 kq x4_1 x5_1 (y111.length : Int) x25_1 = some r) ∧ Aside0 (kq ≤ k) ∧ Aside0 (Kd.R (Kd.int .u8) 5 w' w.heap.size (fun _ => True) (.slice Ao12 y111.length co12) x5_1) ∧ Aside0 (Below w.heap.size w w'))
          case atStart => exact ⟨(IntKind.u64.wrap (t110)), (y111), (0), (by first | rfl | (simp; done) | (simp [*]; done)), (by first | rfl | (simp; done) | (simp [*]; done)), H', ⟨Nat.le_refl _⟩, ⟨by (with_reducible repeat (first | apply Kd.R_alloc | apply Kd.R_drewN | apply Kd.R_drew)); exact HO113.out⟩, ⟨by repeat (first | (with_reducible first | exact HB.out | apply below_alloc | apply pw_below_drewN | apply below_drew1) | exact HB.out)⟩⟩
          case round =>
            clear H'
            try clear c1
            try clear c2
            try clear p2
            try clear c3
            try clear c3b0
            try clear c3b1
            try clear c3b2
            try clear c5
            try clear c7
            try clear c9
            try clear c9b0
            try clear c9b1
            try clear c11
            obtain ⟨x4_1, x5_1, x25_1, rfl, rfl, HA, HK1, HO_5, HB⟩ := hrel
            have hl5_1 := (Kd.R_reads' HO_5.out).1
            rw [hl5_1] at HO_5
            (try simp only [hl5_1])
            cases gk with
            | zero => exact absurd HA.out (by simp [order_Print.l0])
            | succ k1 =>
              have H := HA.out
              clear HA
              simp only [order_Print.l0] at H
              by_cases c13 : x25_1 < (y111.length : Int)
              · rw [if_pos c13] at H
                have c13b0 : decide (x25_1 < (y111.length : Int)) = true := decide_eq_true c13
                (try (have c13b0h := c13b0; simp only [hl5_1] at c13b0h))
                clear c13
                by_cases c14 : 0 ≤ (Go.bits .and .u64 x4_1 15)
                · rw [if_pos c14] at H
                  have c14b0 : decide (0 ≤ (Go.bits .and .u64 x4_1 15)) = true := decide_eq_true c14
                  (try (have c14b0h := c14b0; simp only [hl5_1] at c14b0h))
                  clear c14
                  by_cases c15 : (Go.bits .and .u64 x4_1 15) < 16
                  · rw [if_pos c15] at H
                    have c15b0 : decide ((Go.bits .and .u64 x4_1 15) < 16) = true := decide_eq_true c15
                    (try (have c15b0h := c15b0; simp only [hl5_1] at c15b0h))
                    clear c15
                    obtain ⟨ji17, hji17⟩ : ∃ j_ : Int, (wrap64 (15 - x25_1)) = j_ := ⟨_, rfl⟩
                    replace H : (if 0 ≤ (ji17) then (if (ji17) < (x5_1.length : Int) then (order_Print.l0 k1 (x4_1 / 16) (x5_1.set ((ji17) : Int).toNat (bt (⟨#[48, 49, 50, 51, 52, 53, 54, 55, 56, 57, 97, 98, 99, 100, 101, 102]⟩ : ByteArray) (Go.bits .and .u64 x4_1 15))) (y111.length : Int) (wrap64 (x25_1 + 1))) else (none)) else (none)) = some r := by first | (rw [hji17] at H; exact H) | (simp only [hji17] at H ⊢; exact H)
                    have hji17w : (IntKind.i64.wrap (15 - x25_1)) = ji17 := (i64_w _).trans hji17
                    by_cases c18 : 0 ≤ (ji17)
                    · rw [if_pos c18] at H
                      have c18b0 : decide (0 ≤ (ji17)) = true := decide_eq_true c18
                      (try (have c18b0h := c18b0; simp only [hl5_1] at c18b0h))
                      clear c18
                      by_cases c19 : (ji17) < (x5_1.length : Int)
                      · rw [if_pos c19] at H
                        have c19b0 : decide ((ji17) < (x5_1.length : Int)) = true := decide_eq_true c19
                        (try (have c19b0h := c19b0; simp only [hl5_1] at c19b0h))
                        clear c19
                        obtain ⟨y114, hy114⟩ : ∃ y_ : List Int, y_ = (x5_1.set ((ji17) : Int).toNat (bt (⟨#[48, 49, 50, 51, 52, 53, 54, 55, 56, 57, 97, 98, 99, 100, 101, 102]⟩ : ByteArray) (Go.bits .and .u64 x4_1 15))) := ⟨_, rfl⟩
                        replace H : (order_Print.l0 k1 (x4_1 / 16) y114 (y111.length : Int) (wrap64 (x25_1 + 1))) = some r := by first | (rw [hy114]; with_reducible exact H) | (have H2_ := (Option.bind_some _ _).symm.trans H; rw [hy114]; with_reducible exact H2_) | (have H2_ := (Option.bind_some _ _).symm.trans H; with_reducible exact H2_) | with_reducible exact H | (rw [hy114]; exact H) | exact H
                        have Ny114 := Aside0.mk hy114
                        clear hy114
                        have H' := Aside0.mk H
                        clear H
                        have p16 : 0 ≤ ((Go.bits .and .u64 x4_1 15) : Int) := of_decide_eq_true (by first | (with_reducible assumption) | assumption)
                        have q16 : (Go.bits .and .u64 x4_1 15) < (16 : Int) := of_decide_eq_true (by first | (with_reducible assumption) | assumption)
                        have hx16 := bt_at (⟨#[48, 49, 50, 51, 52, 53, 54, 55, 56, 57, 97, 98, 99, 100, 101, 102]⟩ : ByteArray) (Go.bits .and .u64 x4_1 15)
                        replace p16 := eq_true p16
                        replace q16 := eq_true q16
                        have p20 : 0 ≤ ((ji17) : Int) := of_decide_eq_true (by first | (with_reducible assumption) | assumption)
                        have q20 : ((ji17) : Int) < ((x5_1.length : Int) : Int) := of_decide_eq_true (by first | (with_reducible assumption) | assumption)
                        obtain ⟨go20, co20, eo20, gb20, gl20, cl20, HG20⟩ := Kd.R_form HO_5.out (by omega)
                        (first | cases eo20 | (injection eo20 with ea_ en_ ec_; (first | subst ea_ | (injection ea_ with ea_; subst ea_)); subst ec_; clear en_))
                        have GB20 := Aside0.mk gb20
                        have GG20 := Aside0.mk HG20
                        clear gb20 gl20 HG20
                        obtain ⟨hx20_0, hf20_0⟩ := Kd.R_celln 0 HO_5.out ((ji17) : Int) p20 q20
                        replace p20 := eq_true p20
                        replace q20 := eq_true q20
                        have HP21 := Kd.R_putg HO_5.out ((ji17) : Int) (bt (⟨#[48, 49, 50, 51, 52, 53, 54, 55, 56, 57, 97, 98, 99, 100, 101, 102]⟩ : ByteArray) (Go.bits .and .u64 x4_1 15))
                        go_wp2_with (first | ((with_reducible refine gate_store (t := 5) (p := 34) rfl ?_); refine store_event (t := 5) (p := 34) (v := ?vo_w22) (w1 := (wr.setCell ⟨go20, ((ji17) : Int).toNat, none⟩ (.int .u8 (bt (⟨#[48, 49, 50, 51, 52, 53, 54, 55, 56, 57, 97, 98, 99, 100, 101, 102]⟩ : ByteArray) (Go.bits .and .u64 x4_1 15))))) ?hg ?ho ?hn ?hr ?_; (case ho => rfl); (case hg => rfl); (case hn => rfl); (case hr => first | (go_simp; done) | (go_simp; rfl)); intro w22 hw; have hg : wr.grownBy w22 (some go20) := (by rw [hw]; exact HP21.2); have hp_ : Kd.R (Kd.int .u8) 5 w22 w.heap.size (fun _ => True) (.slice (some ⟨go20, 0, none⟩) x5_1.length co12) y114 := (by rw [hw, Ny114.out]; exact HP21.1); clear HP21; have n0_ := Aside0.mk (hp_); have n1_ := Aside0.mk ((by rw [hw]; exact below_set (HB.out) GB20.out : Below w.heap.size w w22)); clear HO_5; clear HB; have HO_5 := n0_; have HB := n1_; clear n0_ n1_; clear hg hw hp_))
                        (try simp only [← hl5_1])
                        go_roundg k1
                        case measure => have := HK1.out; omega
                        case rel => exact ⟨(x4_1 / 16), (y114), (wrap64 (x25_1 + 1)), (by first | rfl | (simp; done) | (simp [*]; done)), (by first | rfl | (simp; done) | (simp [*]; done)), H', ⟨by have := HK1.out; omega⟩, ⟨by (try simp only [hl5_1]); (with_reducible repeat (first | apply Kd.R_alloc | apply Kd.R_drewN | apply Kd.R_drew)); exact HO_5.out⟩, ⟨by repeat (first | (with_reducible first | exact HB.out | apply below_alloc | apply pw_below_drewN | apply below_drew1) | exact HB.out)⟩⟩
                      · rw [if_neg c19] at H
                        exact absurd H (by simp)
                    · rw [if_neg c18] at H
                      exact absurd H (by simp)
                  · rw [if_neg c15] at H
                    exact absurd H (by simp)
                · rw [if_neg c14] at H
                  exact absurd H (by simp)
              · rw [if_neg c13] at H
                have c13b0 : decide (x25_1 < (y111.length : Int)) = false := decide_eq_false c13
                (try (have c13b0h := c13b0; simp only [hl5_1] at c13b0h))
                clear c13
                by_cases c23 : 2 + (strOfNums x5_1).size ≤ 9223372036854775807
                · rw [if_pos c23] at H
                  have c23b0 := eq_true c23
                  have c23b1 : decide (2 + (strOfNums x5_1).size ≤ 9223372036854775807) = true := decide_eq_true c23
                  try have c23b2 : (9223372036854775807 < 2 + (strOfNums x5_1).size) = False := eq_false (Nat.not_lt.2 c23)
                  obtain rfl := Option.some.inj H
                  have hcv24 := own_string (P := Try.prog) Try.underlying39 Try.underlying5 Try.underlying9 (Kd.own_of_R HO_5.out)
                  go_wp2
                  go_ret
                  exact ⟨by first | rfl | (simp [errW_none, errW_some] <;> rfl) | (simp [*, errW_none, errW_some] <;> rfl), by repeat (first | (with_reducible first | exact HB.out | apply below_alloc | apply pw_below_drewN | apply below_drew1) | exact HB.out)⟩
                · rw [if_neg c23] at H
                  exact absurd H (by simp)
        · rw [if_neg c9] at H
          exact absurd H (by simp)

end Go.Proofs.Ytpgopfidbmiifaa.POrderSteps
