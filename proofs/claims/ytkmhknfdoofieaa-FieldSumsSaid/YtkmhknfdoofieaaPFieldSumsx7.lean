/- Printed for this claim by a program of this session (the kit's printer with additions, wip/xp); Lean checks it. -/
import Derived.Test.YtkmhknfdoofieaaPFieldSumsx0
import Derived.Test.YtkmhknfdoofieaaPFieldSumsx1
import Derived.Test.YtkmhknfdoofieaaPFieldSumsx4
import Derived.Test.YtkmhknfdoofieaaPFieldSumsx5
import Derived.Test.YtkmhknfdoofieaaPFieldSumsx6
namespace Go.Proofs.Ytkmhknfdoofieaa.PFieldSums
open Go.RowKit Go.Proofs.YtkmhknfdoofieaaW.PrintWords Go.Proofs.YtkmhknfdoofieaaW.PrintLast Go.Proofs.YtkmhknfdoofieaaW.PrintMore
attribute [local go_sem] max2_int min2_int max_two min_two max_three min_three max_four min_four   -- for this text's walks alone
set_option linter.unusedVariables false
set_option linter.unusedSimpArgs false

/-! ### taluslaw03_FieldSums: function 12 -/
def taluslaw03_FieldSums.f (k : Nat) (a0 : Int) (a1 : Int) : Option (Bool) := (field_Good.f a0).bind fun t145 => (if (t145 == (decide (a0 < 2305843009213693951))) = true then ((field_Of.f a0).bind fun t146 => ((talusref03_Of.f a0).bind fun t147 => (if t146 = t147 then ((field_Add.f a0 a1).bind fun t148 => ((talusref03_Add.f a0 a1).bind fun t149 => (if t148 = t149 then ((field_Mul.f a0 a1).bind fun t150 => ((talusref03_Mul.f k a0 a1).bind fun t151 => (if t150 = t151 then ((field_Pow.f k a0 a1).bind fun t152 => ((talusref03_Pow.f k a0 a1).bind fun t153 => (if t152 = t153 then ((taluslaw03_lives.f k).bind fun t154 => (some t154)) else (some false)))) else (some false)))) else (some false)))) else (some false)))) else (some false))
theorem taluslaw03_FieldSums.mono : ∀ a0 a1 k, LeO (taluslaw03_FieldSums.f k a0 a1) (taluslaw03_FieldSums.f (k + 1) a0 a1) := by
  intro a0 a1 k
  unfold taluslaw03_FieldSums.f
  repeat' first
      | (with_reducible exact field_Pow.mono _ _ _)
      | (with_reducible exact taluslaw03_lives.mono _)
      | (with_reducible exact talusref03_Mul.mono _ _ _)
      | (with_reducible exact talusref03_Pow.mono _ _ _)
      | (with_reducible exact LeO.refl _)
      | (with_reducible exact LeO.none _)
      | (with_reducible refine LeO.ite ?_ ?_)
      | (with_reducible refine LeO.bind ?_ (fun _ => ?_))
      | exact field_Pow.mono _ _ _
      | exact taluslaw03_lives.mono _
      | exact talusref03_Mul.mono _ _ _
      | exact talusref03_Pow.mono _ _ _
      | exact LeO.none _
      | refine LeO.ite ?_ ?_
      | refine LeO.bind ?_ (fun _ => ?_)
set_option maxHeartbeats 8000000 in
set_option maxRecDepth 100000 in
theorem taluslaw03_FieldSums.calls (k : Nat) (a0 : Int) (a1 : Int) (r : Bool) (w : World) (h : taluslaw03_FieldSums.f k a0 a1 = some r) :
    Calls Try.prog 12 #[.int .u64 a0, .int .u64 a1] w fun e w' => e = .returned (.bool r) ∧ Below w.heap.size w w' := by
  have HB := Aside0.mk (Below.refl w.heap.size w)
  have H : ((field_Good.f a0).bind fun t145 => (if (t145 == (decide (a0 < 2305843009213693951))) = true then ((field_Of.f a0).bind fun t146 => ((talusref03_Of.f a0).bind fun t147 => (if t146 = t147 then ((field_Add.f a0 a1).bind fun t148 => ((talusref03_Add.f a0 a1).bind fun t149 => (if t148 = t149 then ((field_Mul.f a0 a1).bind fun t150 => ((talusref03_Mul.f k a0 a1).bind fun t151 => (if t150 = t151 then ((field_Pow.f k a0 a1).bind fun t152 => ((talusref03_Pow.f k a0 a1).bind fun t153 => (if t152 = t153 then ((taluslaw03_lives.f k).bind fun t154 => (some t154)) else (some false)))) else (some false)))) else (some false)))) else (some false)))) else (some false))) = some r := h
  clear h
  replace H := Option.bind_eq_some_iff.mp H
  obtain ⟨t145, A30, H⟩ := H
  replace H : (if (t145 == (decide (a0 < 2305843009213693951))) = true then ((field_Of.f a0).bind fun t146 => ((talusref03_Of.f a0).bind fun t147 => (if t146 = t147 then ((field_Add.f a0 a1).bind fun t148 => ((talusref03_Add.f a0 a1).bind fun t149 => (if t148 = t149 then ((field_Mul.f a0 a1).bind fun t150 => ((talusref03_Mul.f k a0 a1).bind fun t151 => (if t150 = t151 then ((field_Pow.f k a0 a1).bind fun t152 => ((talusref03_Pow.f k a0 a1).bind fun t153 => (if t152 = t153 then ((taluslaw03_lives.f k).bind fun t154 => (some t154)) else (some false)))) else (some false)))) else (some false)))) else (some false)))) else (some false)) = some r := H
  have A3 := Aside0.mk A30
  clear A30
  by_cases c4 : (t145 == (decide (a0 < 2305843009213693951))) = true
  · rw [if_pos c4] at H
    have c4b0 : (t145 == (decide (a0 < 2305843009213693951))) = true := c4
    (try (have c4b1 : decide (t145 = (decide (a0 < 2305843009213693951))) = true := by simpa using c4))
    (try (have c4b2 : (t145 == (decide (a0 < 2305843009213693951))) = true := by simpa using c4))
    clear c4
    replace H := Option.bind_eq_some_iff.mp H
    obtain ⟨t146, A50, H⟩ := H
    replace H : ((talusref03_Of.f a0).bind fun t147 => (if t146 = t147 then ((field_Add.f a0 a1).bind fun t148 => ((talusref03_Add.f a0 a1).bind fun t149 => (if t148 = t149 then ((field_Mul.f a0 a1).bind fun t150 => ((talusref03_Mul.f k a0 a1).bind fun t151 => (if t150 = t151 then ((field_Pow.f k a0 a1).bind fun t152 => ((talusref03_Pow.f k a0 a1).bind fun t153 => (if t152 = t153 then ((taluslaw03_lives.f k).bind fun t154 => (some t154)) else (some false)))) else (some false)))) else (some false)))) else (some false))) = some r := H
    have A5 := Aside0.mk A50
    clear A50
    replace H := Option.bind_eq_some_iff.mp H
    obtain ⟨t147, A60, H⟩ := H
    replace H : (if t146 = t147 then ((field_Add.f a0 a1).bind fun t148 => ((talusref03_Add.f a0 a1).bind fun t149 => (if t148 = t149 then ((field_Mul.f a0 a1).bind fun t150 => ((talusref03_Mul.f k a0 a1).bind fun t151 => (if t150 = t151 then ((field_Pow.f k a0 a1).bind fun t152 => ((talusref03_Pow.f k a0 a1).bind fun t153 => (if t152 = t153 then ((taluslaw03_lives.f k).bind fun t154 => (some t154)) else (some false)))) else (some false)))) else (some false)))) else (some false)) = some r := H
    have A6 := Aside0.mk A60
    clear A60
    by_cases c7 : t146 = t147
    · rw [if_pos c7] at H
      have c7b0 : (t146 == t147) = true := beq_iff_eq.mpr c7
      have c7b1 : (t146 != t147) = false := bne_eq_false_iff_eq.mpr c7
      clear c7
      replace H := Option.bind_eq_some_iff.mp H
      obtain ⟨t148, A80, H⟩ := H
      replace H : ((talusref03_Add.f a0 a1).bind fun t149 => (if t148 = t149 then ((field_Mul.f a0 a1).bind fun t150 => ((talusref03_Mul.f k a0 a1).bind fun t151 => (if t150 = t151 then ((field_Pow.f k a0 a1).bind fun t152 => ((talusref03_Pow.f k a0 a1).bind fun t153 => (if t152 = t153 then ((taluslaw03_lives.f k).bind fun t154 => (some t154)) else (some false)))) else (some false)))) else (some false))) = some r := H
      have A8 := Aside0.mk A80
      clear A80
      replace H := Option.bind_eq_some_iff.mp H
      obtain ⟨t149, A90, H⟩ := H
      replace H : (if t148 = t149 then ((field_Mul.f a0 a1).bind fun t150 => ((talusref03_Mul.f k a0 a1).bind fun t151 => (if t150 = t151 then ((field_Pow.f k a0 a1).bind fun t152 => ((talusref03_Pow.f k a0 a1).bind fun t153 => (if t152 = t153 then ((taluslaw03_lives.f k).bind fun t154 => (some t154)) else (some false)))) else (some false)))) else (some false)) = some r := H
      have A9 := Aside0.mk A90
      clear A90
      by_cases c10 : t148 = t149
      · rw [if_pos c10] at H
        have c10b0 : (t148 == t149) = true := beq_iff_eq.mpr c10
        have c10b1 : (t148 != t149) = false := bne_eq_false_iff_eq.mpr c10
        clear c10
        replace H := Option.bind_eq_some_iff.mp H
        obtain ⟨t150, A110, H⟩ := H
        replace H : ((talusref03_Mul.f k a0 a1).bind fun t151 => (if t150 = t151 then ((field_Pow.f k a0 a1).bind fun t152 => ((talusref03_Pow.f k a0 a1).bind fun t153 => (if t152 = t153 then ((taluslaw03_lives.f k).bind fun t154 => (some t154)) else (some false)))) else (some false))) = some r := H
        have A11 := Aside0.mk A110
        clear A110
        replace H := Option.bind_eq_some_iff.mp H
        obtain ⟨t151, A120, H⟩ := H
        replace H : (if t150 = t151 then ((field_Pow.f k a0 a1).bind fun t152 => ((talusref03_Pow.f k a0 a1).bind fun t153 => (if t152 = t153 then ((taluslaw03_lives.f k).bind fun t154 => (some t154)) else (some false)))) else (some false)) = some r := H
        have A12 := Aside0.mk A120
        clear A120
        by_cases c13 : t150 = t151
        · rw [if_pos c13] at H
          have c13b0 : (t150 == t151) = true := beq_iff_eq.mpr c13
          have c13b1 : (t150 != t151) = false := bne_eq_false_iff_eq.mpr c13
          clear c13
          replace H := Option.bind_eq_some_iff.mp H
          obtain ⟨t152, A140, H⟩ := H
          replace H : ((talusref03_Pow.f k a0 a1).bind fun t153 => (if t152 = t153 then ((taluslaw03_lives.f k).bind fun t154 => (some t154)) else (some false))) = some r := H
          have A14 := Aside0.mk A140
          clear A140
          replace H := Option.bind_eq_some_iff.mp H
          obtain ⟨t153, A150, H⟩ := H
          replace H : (if t152 = t153 then ((taluslaw03_lives.f k).bind fun t154 => (some t154)) else (some false)) = some r := H
          have A15 := Aside0.mk A150
          clear A150
          by_cases c16 : t152 = t153
          · rw [if_pos c16] at H
            have c16b0 : (t152 == t153) = true := beq_iff_eq.mpr c16
            have c16b1 : (t152 != t153) = false := bne_eq_false_iff_eq.mpr c16
            clear c16
            replace H := Option.bind_eq_some_iff.mp H
            obtain ⟨t154, A170, H⟩ := H
            replace H : (some t154) = some r := H
            have A17 := Aside0.mk A170
            clear A170
            obtain rfl := Option.some.inj H
            go_enter Try.func12, Try.ntmps12
            go_wp2_with (first | ((with_reducible refine gate_callee (f := 42) rfl ?_); refine goesL_ (some 6) rfl rfl Try.func42 (by kernel_rfl) rfl #[.int .u64 a0] rfl (by (try simp only [List.map_toArray, List.map_cons, List.map_nil]); first | done | rfl | (simp only [List.length_drop, List.length_take]; rfl)) ?_; (with_reducible refine (field_Good.calls a0 t145 _ A3.out).mono ?_); rintro e w' ⟨rfl, ⟨nd, rfl⟩⟩; refine ⟨_, rfl, ?_⟩) | (go_at_call 41; (with_reducible refine (field_Of.calls a0 t146 _ A5.out).mono ?_); rintro e w' ⟨rfl, ⟨nd, rfl⟩⟩) | (go_at_call 54; (with_reducible refine (talusref03_Of.calls a0 t147 _ A6.out).mono ?_); rintro e w' ⟨rfl, ⟨nd, rfl⟩⟩) | (go_at_call 44; (with_reducible refine (field_Add.calls a0 a1 t148 _ A8.out).mono ?_); rintro e w' ⟨rfl, ⟨nd, rfl⟩⟩) | (go_at_call 55; (with_reducible refine (talusref03_Add.calls a0 a1 t149 _ A9.out).mono ?_); rintro e w' ⟨rfl, ⟨nd, rfl⟩⟩) | (go_at_call 43; (with_reducible refine (field_Mul.calls a0 a1 t150 _ A11.out).mono ?_); rintro e w' ⟨rfl, ⟨nd, rfl⟩⟩) | (go_at_call 56; (with_reducible refine (talusref03_Mul.calls k a0 a1 t151 _ A12.out).mono ?_); rintro e w' ⟨rfl, ⟨nd, rfl⟩⟩) | (go_at_call 57; (with_reducible refine (field_Pow.calls k a0 a1 t152 _ A14.out).mono ?_); rintro e w' ⟨rfl, ⟨nd, rfl⟩⟩) | (go_at_call 58; (with_reducible refine (talusref03_Pow.calls k a0 a1 t153 _ A15.out).mono ?_); rintro e w' ⟨rfl, ⟨nd, rfl⟩⟩) | (go_at_call 40; (with_reducible refine (taluslaw03_lives.calls k  t154 _ A17.out).mono ?_); rintro e w18 ⟨rfl, hb⟩; have n0_ := Aside0.mk (below_step (by repeat (first | (with_reducible first | exact HB.out | apply below_alloc | apply pw_below_drewN | apply below_drew1) | exact HB.out)) hb); clear HB; have HB := n0_; clear n0_; (try clear hb); (try clear hb2); (try clear hk); (try clear hi)))
            go_ret
            exact ⟨by first | rfl | (simp [errW_none, errW_some] <;> rfl) | (simp [*, errW_none, errW_some] <;> rfl), by repeat (first | (with_reducible first | exact HB.out | apply below_alloc | apply pw_below_drewN | apply below_drew1) | exact HB.out)⟩
          · rw [if_neg c16] at H
            have c16b0 : (t152 == t153) = false := beq_eq_false_iff_ne.mpr c16
            have c16b1 : (t152 != t153) = true := bne_iff_ne.mpr c16
            obtain rfl := Option.some.inj H
            go_enter Try.func12, Try.ntmps12
            go_wp2_with (first | ((with_reducible refine gate_callee (f := 42) rfl ?_); refine goesL_ (some 6) rfl rfl Try.func42 (by kernel_rfl) rfl #[.int .u64 a0] rfl (by (try simp only [List.map_toArray, List.map_cons, List.map_nil]); first | done | rfl | (simp only [List.length_drop, List.length_take]; rfl)) ?_; (with_reducible refine (field_Good.calls a0 t145 _ A3.out).mono ?_); rintro e w' ⟨rfl, ⟨nd, rfl⟩⟩; refine ⟨_, rfl, ?_⟩) | (go_at_call 41; (with_reducible refine (field_Of.calls a0 t146 _ A5.out).mono ?_); rintro e w' ⟨rfl, ⟨nd, rfl⟩⟩) | (go_at_call 54; (with_reducible refine (talusref03_Of.calls a0 t147 _ A6.out).mono ?_); rintro e w' ⟨rfl, ⟨nd, rfl⟩⟩) | (go_at_call 44; (with_reducible refine (field_Add.calls a0 a1 t148 _ A8.out).mono ?_); rintro e w' ⟨rfl, ⟨nd, rfl⟩⟩) | (go_at_call 55; (with_reducible refine (talusref03_Add.calls a0 a1 t149 _ A9.out).mono ?_); rintro e w' ⟨rfl, ⟨nd, rfl⟩⟩) | (go_at_call 43; (with_reducible refine (field_Mul.calls a0 a1 t150 _ A11.out).mono ?_); rintro e w' ⟨rfl, ⟨nd, rfl⟩⟩) | (go_at_call 56; (with_reducible refine (talusref03_Mul.calls k a0 a1 t151 _ A12.out).mono ?_); rintro e w' ⟨rfl, ⟨nd, rfl⟩⟩) | (go_at_call 57; (with_reducible refine (field_Pow.calls k a0 a1 t152 _ A14.out).mono ?_); rintro e w' ⟨rfl, ⟨nd, rfl⟩⟩) | (go_at_call 58; (with_reducible refine (talusref03_Pow.calls k a0 a1 t153 _ A15.out).mono ?_); rintro e w' ⟨rfl, ⟨nd, rfl⟩⟩))
            go_ret
            exact ⟨by first | rfl | (simp [errW_none, errW_some] <;> rfl) | (simp [*, errW_none, errW_some] <;> rfl), by repeat (first | (with_reducible first | exact HB.out | apply below_alloc | apply pw_below_drewN | apply below_drew1) | exact HB.out)⟩
        · rw [if_neg c13] at H
          have c13b0 : (t150 == t151) = false := beq_eq_false_iff_ne.mpr c13
          have c13b1 : (t150 != t151) = true := bne_iff_ne.mpr c13
          obtain rfl := Option.some.inj H
          go_enter Try.func12, Try.ntmps12
          go_wp2_with (first | ((with_reducible refine gate_callee (f := 42) rfl ?_); refine goesL_ (some 6) rfl rfl Try.func42 (by kernel_rfl) rfl #[.int .u64 a0] rfl (by (try simp only [List.map_toArray, List.map_cons, List.map_nil]); first | done | rfl | (simp only [List.length_drop, List.length_take]; rfl)) ?_; (with_reducible refine (field_Good.calls a0 t145 _ A3.out).mono ?_); rintro e w' ⟨rfl, ⟨nd, rfl⟩⟩; refine ⟨_, rfl, ?_⟩) | (go_at_call 41; (with_reducible refine (field_Of.calls a0 t146 _ A5.out).mono ?_); rintro e w' ⟨rfl, ⟨nd, rfl⟩⟩) | (go_at_call 54; (with_reducible refine (talusref03_Of.calls a0 t147 _ A6.out).mono ?_); rintro e w' ⟨rfl, ⟨nd, rfl⟩⟩) | (go_at_call 44; (with_reducible refine (field_Add.calls a0 a1 t148 _ A8.out).mono ?_); rintro e w' ⟨rfl, ⟨nd, rfl⟩⟩) | (go_at_call 55; (with_reducible refine (talusref03_Add.calls a0 a1 t149 _ A9.out).mono ?_); rintro e w' ⟨rfl, ⟨nd, rfl⟩⟩) | (go_at_call 43; (with_reducible refine (field_Mul.calls a0 a1 t150 _ A11.out).mono ?_); rintro e w' ⟨rfl, ⟨nd, rfl⟩⟩) | (go_at_call 56; (with_reducible refine (talusref03_Mul.calls k a0 a1 t151 _ A12.out).mono ?_); rintro e w' ⟨rfl, ⟨nd, rfl⟩⟩))
          go_ret
          exact ⟨by first | rfl | (simp [errW_none, errW_some] <;> rfl) | (simp [*, errW_none, errW_some] <;> rfl), by repeat (first | (with_reducible first | exact HB.out | apply below_alloc | apply pw_below_drewN | apply below_drew1) | exact HB.out)⟩
      · rw [if_neg c10] at H
        have c10b0 : (t148 == t149) = false := beq_eq_false_iff_ne.mpr c10
        have c10b1 : (t148 != t149) = true := bne_iff_ne.mpr c10
        obtain rfl := Option.some.inj H
        go_enter Try.func12, Try.ntmps12
        go_wp2_with (first | ((with_reducible refine gate_callee (f := 42) rfl ?_); refine goesL_ (some 6) rfl rfl Try.func42 (by kernel_rfl) rfl #[.int .u64 a0] rfl (by (try simp only [List.map_toArray, List.map_cons, List.map_nil]); first | done | rfl | (simp only [List.length_drop, List.length_take]; rfl)) ?_; (with_reducible refine (field_Good.calls a0 t145 _ A3.out).mono ?_); rintro e w' ⟨rfl, ⟨nd, rfl⟩⟩; refine ⟨_, rfl, ?_⟩) | (go_at_call 41; (with_reducible refine (field_Of.calls a0 t146 _ A5.out).mono ?_); rintro e w' ⟨rfl, ⟨nd, rfl⟩⟩) | (go_at_call 54; (with_reducible refine (talusref03_Of.calls a0 t147 _ A6.out).mono ?_); rintro e w' ⟨rfl, ⟨nd, rfl⟩⟩) | (go_at_call 44; (with_reducible refine (field_Add.calls a0 a1 t148 _ A8.out).mono ?_); rintro e w' ⟨rfl, ⟨nd, rfl⟩⟩) | (go_at_call 55; (with_reducible refine (talusref03_Add.calls a0 a1 t149 _ A9.out).mono ?_); rintro e w' ⟨rfl, ⟨nd, rfl⟩⟩))
        go_ret
        exact ⟨by first | rfl | (simp [errW_none, errW_some] <;> rfl) | (simp [*, errW_none, errW_some] <;> rfl), by repeat (first | (with_reducible first | exact HB.out | apply below_alloc | apply pw_below_drewN | apply below_drew1) | exact HB.out)⟩
    · rw [if_neg c7] at H
      have c7b0 : (t146 == t147) = false := beq_eq_false_iff_ne.mpr c7
      have c7b1 : (t146 != t147) = true := bne_iff_ne.mpr c7
      obtain rfl := Option.some.inj H
      go_enter Try.func12, Try.ntmps12
      go_wp2_with (first | ((with_reducible refine gate_callee (f := 42) rfl ?_); refine goesL_ (some 6) rfl rfl Try.func42 (by kernel_rfl) rfl #[.int .u64 a0] rfl (by (try simp only [List.map_toArray, List.map_cons, List.map_nil]); first | done | rfl | (simp only [List.length_drop, List.length_take]; rfl)) ?_; (with_reducible refine (field_Good.calls a0 t145 _ A3.out).mono ?_); rintro e w' ⟨rfl, ⟨nd, rfl⟩⟩; refine ⟨_, rfl, ?_⟩) | (go_at_call 41; (with_reducible refine (field_Of.calls a0 t146 _ A5.out).mono ?_); rintro e w' ⟨rfl, ⟨nd, rfl⟩⟩) | (go_at_call 54; (with_reducible refine (talusref03_Of.calls a0 t147 _ A6.out).mono ?_); rintro e w' ⟨rfl, ⟨nd, rfl⟩⟩))
      go_ret
      exact ⟨by first | rfl | (simp [errW_none, errW_some] <;> rfl) | (simp [*, errW_none, errW_some] <;> rfl), by repeat (first | (with_reducible first | exact HB.out | apply below_alloc | apply pw_below_drewN | apply below_drew1) | exact HB.out)⟩
  · rw [if_neg c4] at H
    have c4b0 : (t145 == (decide (a0 < 2305843009213693951))) = false := by simpa using c4
    (try (have c4b1 : decide (t145 = (decide (a0 < 2305843009213693951))) = false := by simpa using c4))
    (try (have c4b2 : (t145 == (decide (a0 < 2305843009213693951))) = false := by simpa using c4))
    (try (have c4b3 : ¬ (t145 = (decide (a0 < 2305843009213693951))) := by simpa using c4))
    clear c4
    obtain rfl := Option.some.inj H
    go_enter Try.func12, Try.ntmps12
    go_wp2_with (first | ((with_reducible refine gate_callee (f := 42) rfl ?_); refine goesL_ (some 6) rfl rfl Try.func42 (by kernel_rfl) rfl #[.int .u64 a0] rfl (by (try simp only [List.map_toArray, List.map_cons, List.map_nil]); first | done | rfl | (simp only [List.length_drop, List.length_take]; rfl)) ?_; (with_reducible refine (field_Good.calls a0 t145 _ A3.out).mono ?_); rintro e w' ⟨rfl, ⟨nd, rfl⟩⟩; refine ⟨_, rfl, ?_⟩))
    go_ret
    exact ⟨by first | rfl | (simp [errW_none, errW_some] <;> rfl) | (simp [*, errW_none, errW_some] <;> rfl), by repeat (first | (with_reducible first | exact HB.out | apply below_alloc | apply pw_below_drewN | apply below_drew1) | exact HB.out)⟩

/-- THE ONE PURE STATEMENT of taluslaw03_FieldSums: yours. -/
def taluslaw03_FieldSums.Pure : Prop := ∀ (a0 : Int) (a1 : Int), (Lit.int .u64 a0).wf = true → (Lit.int .u64 a1).wf = true → ∃ k, taluslaw03_FieldSums.f k a0 a1 = some true
theorem taluslaw03_FieldSums.walk (P : taluslaw03_FieldSums.Pure) (a0 : Int) (a1 : Int) (w : World) (w0 : (Lit.int .u64 a0).wf = true) (w1 : (Lit.int .u64 a1).wf = true) :
    Calls Try.prog 12 #[.int .u64 a0, .int .u64 a1] w fun e w' => e = .returned (.bool true) ∧ Below w.heap.size w w' := by
  obtain ⟨k, h⟩ := P a0 a1 w0 w1
  refine (taluslaw03_FieldSums.calls k a0 a1 true w h).mono ?_
  rintro e w' ⟨rfl, hd⟩
  exact ⟨rfl, hd⟩

end Go.Proofs.Ytkmhknfdoofieaa.PFieldSums
