/- Printed for this claim by a program of this session (the kit's printer with additions, wip/xp); Lean checks it. -/
import Derived.Test.YtkmhknfdoofieaaPFieldRulesx0
import Derived.Test.YtkmhknfdoofieaaPFieldRulesx1
import Derived.Test.YtkmhknfdoofieaaPFieldRulesx4
import Derived.Test.YtkmhknfdoofieaaPFieldRulesx5
namespace Go.Proofs.Ytkmhknfdoofieaa.PFieldRules
open Go.RowKit Go.Proofs.YtkmhknfdoofieaaW.PrintWords Go.Proofs.YtkmhknfdoofieaaW.PrintLast Go.Proofs.YtkmhknfdoofieaaW.PrintMore
attribute [local go_sem] max2_int min2_int max_two min_two max_three min_three max_four min_four   -- for this text's walks alone
set_option linter.unusedVariables false
set_option linter.unusedSimpArgs false

/-! ### taluslaw03_FieldRules: function 13 -/
mutual
def taluslaw03_FieldRules.j0 : Nat → Int → Int → Int → Bool → Option (Bool)
  | 0, _, _, _, _ => none
  | k + 1, x0, x1, x2, x36 => if x36 = true then (some false) else ((field_Inverse.f k x0).bind fun bt144 => ((field_Of.f x0).bind fun t146 => (if (bt144.2 != (t146 != 0)) = true then (taluslaw03_FieldRules.j1 k x0 x1 x2 true) else (if bt144.2 = true then ((field_Mul.f x0 bt144.1).bind fun t147 => (taluslaw03_FieldRules.j1 k x0 x1 x2 (t147 != 1))) else (taluslaw03_FieldRules.j1 k x0 x1 x2 false)))))
def taluslaw03_FieldRules.j1 : Nat → Int → Int → Int → Bool → Option (Bool)
  | 0, _, _, _, _ => none
  | k + 1, x0, x1, x2, x55 => if x55 = true then (some false) else ((field_Pow.f k x0 (IntKind.u64.wrap ((Int.tmod x1 1000) + (Int.tmod x2 1000)))).bind fun t148 => ((field_Pow.f k x0 (Int.tmod x1 1000)).bind fun t149 => ((field_Pow.f k x0 (Int.tmod x2 1000)).bind fun t150 => ((field_Mul.f t149 t150).bind fun t151 => (if t148 = t151 then ((field_Mul.f x1 x2).bind fun t152 => ((field_Good.f t152).bind fun t153 => (if t153 = true then ((taluslaw03_lives.f k).bind fun t154 => (some t154)) else (some false)))) else (some false))))))
end
def taluslaw03_FieldRules.f (k : Nat) (a0 : Int) (a1 : Int) (a2 : Int) : Option (Bool) := (field_Add.f a1 a2).bind fun t135 => ((field_Mul.f a0 t135).bind fun t136 => ((field_Mul.f a0 a1).bind fun t137 => ((field_Mul.f a0 a2).bind fun t138 => ((field_Add.f t137 t138).bind fun t139 => (if t136 = t139 then ((field_Mul.f a1 a2).bind fun t140 => ((field_Mul.f a0 t140).bind fun t141 => ((field_Mul.f a0 a1).bind fun t142 => ((field_Mul.f t142 a2).bind fun t143 => (taluslaw03_FieldRules.j0 k a0 a1 a2 (t141 != t143)))))) else (taluslaw03_FieldRules.j0 k a0 a1 a2 true))))))
theorem taluslaw03_FieldRules.mono_l : ∀ k, (∀ y0 y1 y2 y3, LeO (taluslaw03_FieldRules.j0 k y0 y1 y2 y3) (taluslaw03_FieldRules.j0 (k + 1) y0 y1 y2 y3)) ∧ (∀ y0 y1 y2 y3, LeO (taluslaw03_FieldRules.j1 k y0 y1 y2 y3) (taluslaw03_FieldRules.j1 (k + 1) y0 y1 y2 y3))
  | 0 => ⟨fun _ _ _ _ r h => by simp [taluslaw03_FieldRules.j0] at h, fun _ _ _ _ r h => by simp [taluslaw03_FieldRules.j1] at h⟩
  | k + 1 => by
    obtain ⟨ih0, ih1⟩ := taluslaw03_FieldRules.mono_l k
    refine ⟨?_, ?_⟩
    · intro y0 y1 y2 y3
      unfold taluslaw03_FieldRules.j0
      repeat' first
      | (with_reducible exact ih0 _ _ _ _)
      | (with_reducible exact ih1 _ _ _ _)
      | (with_reducible exact field_Inverse.mono _ _)
      | (with_reducible exact field_Pow.mono _ _ _)
      | (with_reducible exact taluslaw03_lives.mono _)
      | (with_reducible exact LeO.refl _)
      | (with_reducible exact LeO.none _)
      | (with_reducible refine LeO.ite ?_ ?_)
      | (with_reducible refine LeO.bind ?_ (fun _ => ?_))
      | exact ih0 _ _ _ _
      | exact ih1 _ _ _ _
      | exact field_Inverse.mono _ _
      | exact field_Pow.mono _ _ _
      | exact taluslaw03_lives.mono _
      | exact LeO.none _
      | refine LeO.ite ?_ ?_
      | refine LeO.bind ?_ (fun _ => ?_)
    · intro y0 y1 y2 y3
      unfold taluslaw03_FieldRules.j1
      repeat' first
      | (with_reducible exact ih0 _ _ _ _)
      | (with_reducible exact ih1 _ _ _ _)
      | (with_reducible exact field_Inverse.mono _ _)
      | (with_reducible exact field_Pow.mono _ _ _)
      | (with_reducible exact taluslaw03_lives.mono _)
      | (with_reducible exact LeO.refl _)
      | (with_reducible exact LeO.none _)
      | (with_reducible refine LeO.ite ?_ ?_)
      | (with_reducible refine LeO.bind ?_ (fun _ => ?_))
      | exact ih0 _ _ _ _
      | exact ih1 _ _ _ _
      | exact field_Inverse.mono _ _
      | exact field_Pow.mono _ _ _
      | exact taluslaw03_lives.mono _
      | exact LeO.none _
      | refine LeO.ite ?_ ?_
      | refine LeO.bind ?_ (fun _ => ?_)
theorem taluslaw03_FieldRules.mono : ∀ a0 a1 a2 k, LeO (taluslaw03_FieldRules.f k a0 a1 a2) (taluslaw03_FieldRules.f (k + 1) a0 a1 a2) := by
  intro a0 a1 a2 k
  obtain ⟨ih0, ih1⟩ := taluslaw03_FieldRules.mono_l k
  unfold taluslaw03_FieldRules.f
  repeat' first
      | (with_reducible exact ih0 _ _ _ _)
      | (with_reducible exact ih1 _ _ _ _)
      | (with_reducible exact field_Inverse.mono _ _)
      | (with_reducible exact field_Pow.mono _ _ _)
      | (with_reducible exact taluslaw03_lives.mono _)
      | (with_reducible exact LeO.refl _)
      | (with_reducible exact LeO.none _)
      | (with_reducible refine LeO.ite ?_ ?_)
      | (with_reducible refine LeO.bind ?_ (fun _ => ?_))
      | exact ih0 _ _ _ _
      | exact ih1 _ _ _ _
      | exact field_Inverse.mono _ _
      | exact field_Pow.mono _ _ _
      | exact taluslaw03_lives.mono _
      | exact LeO.none _
      | refine LeO.ite ?_ ?_
      | refine LeO.bind ?_ (fun _ => ?_)
set_option maxHeartbeats 8000000 in
set_option maxRecDepth 100000 in
theorem taluslaw03_FieldRules.calls (k : Nat) (a0 : Int) (a1 : Int) (a2 : Int) (r : Bool) (w : World) (h : taluslaw03_FieldRules.f k a0 a1 a2 = some r) :
    Calls Try.prog 13 #[.int .u64 a0, .int .u64 a1, .int .u64 a2] w fun e w' => e = .returned (.bool r) ∧ Below w.heap.size w w' := by
  have HB := Aside0.mk (Below.refl w.heap.size w)
  have H : ((field_Add.f a1 a2).bind fun t135 => ((field_Mul.f a0 t135).bind fun t136 => ((field_Mul.f a0 a1).bind fun t137 => ((field_Mul.f a0 a2).bind fun t138 => ((field_Add.f t137 t138).bind fun t139 => (if t136 = t139 then ((field_Mul.f a1 a2).bind fun t140 => ((field_Mul.f a0 t140).bind fun t141 => ((field_Mul.f a0 a1).bind fun t142 => ((field_Mul.f t142 a2).bind fun t143 => (taluslaw03_FieldRules.j0 k a0 a1 a2 (t141 != t143)))))) else (taluslaw03_FieldRules.j0 k a0 a1 a2 true))))))) = some r := h
  clear h
  have HC4 := Aside0.mk H
  clear H
  go_enter Try.func13, Try.ntmps13
  go_upto_region 1 with (fail)
  go_cut [36] (fun v36 wc => ∃ (kq : Nat) (x36_3 : Bool), v36 = .bool x36_3 ∧ Aside0 (taluslaw03_FieldRules.j0 kq a0 a1 a2 x36_3 = some r) ∧ Aside0 (kq ≤ k) ∧ Aside0 (Below w.heap.size w wc))
  case first =>
    have H := HC4.out
    clear HC4
    replace H := Option.bind_eq_some_iff.mp H
    obtain ⟨t135, A50, H⟩ := H
    replace H : ((field_Mul.f a0 t135).bind fun t136 => ((field_Mul.f a0 a1).bind fun t137 => ((field_Mul.f a0 a2).bind fun t138 => ((field_Add.f t137 t138).bind fun t139 => (if t136 = t139 then ((field_Mul.f a1 a2).bind fun t140 => ((field_Mul.f a0 t140).bind fun t141 => ((field_Mul.f a0 a1).bind fun t142 => ((field_Mul.f t142 a2).bind fun t143 => (taluslaw03_FieldRules.j0 k a0 a1 a2 (t141 != t143)))))) else (taluslaw03_FieldRules.j0 k a0 a1 a2 true)))))) = some r := H
    have A5 := Aside0.mk A50
    clear A50
    replace H := Option.bind_eq_some_iff.mp H
    obtain ⟨t136, A60, H⟩ := H
    replace H : ((field_Mul.f a0 a1).bind fun t137 => ((field_Mul.f a0 a2).bind fun t138 => ((field_Add.f t137 t138).bind fun t139 => (if t136 = t139 then ((field_Mul.f a1 a2).bind fun t140 => ((field_Mul.f a0 t140).bind fun t141 => ((field_Mul.f a0 a1).bind fun t142 => ((field_Mul.f t142 a2).bind fun t143 => (taluslaw03_FieldRules.j0 k a0 a1 a2 (t141 != t143)))))) else (taluslaw03_FieldRules.j0 k a0 a1 a2 true))))) = some r := H
    have A6 := Aside0.mk A60
    clear A60
    replace H := Option.bind_eq_some_iff.mp H
    obtain ⟨t137, A70, H⟩ := H
    replace H : ((field_Mul.f a0 a2).bind fun t138 => ((field_Add.f t137 t138).bind fun t139 => (if t136 = t139 then ((field_Mul.f a1 a2).bind fun t140 => ((field_Mul.f a0 t140).bind fun t141 => ((field_Mul.f a0 a1).bind fun t142 => ((field_Mul.f t142 a2).bind fun t143 => (taluslaw03_FieldRules.j0 k a0 a1 a2 (t141 != t143)))))) else (taluslaw03_FieldRules.j0 k a0 a1 a2 true)))) = some r := H
    have A7 := Aside0.mk A70
    clear A70
    replace H := Option.bind_eq_some_iff.mp H
    obtain ⟨t138, A80, H⟩ := H
    replace H : ((field_Add.f t137 t138).bind fun t139 => (if t136 = t139 then ((field_Mul.f a1 a2).bind fun t140 => ((field_Mul.f a0 t140).bind fun t141 => ((field_Mul.f a0 a1).bind fun t142 => ((field_Mul.f t142 a2).bind fun t143 => (taluslaw03_FieldRules.j0 k a0 a1 a2 (t141 != t143)))))) else (taluslaw03_FieldRules.j0 k a0 a1 a2 true))) = some r := H
    have A8 := Aside0.mk A80
    clear A80
    replace H := Option.bind_eq_some_iff.mp H
    obtain ⟨t139, A90, H⟩ := H
    replace H : (if t136 = t139 then ((field_Mul.f a1 a2).bind fun t140 => ((field_Mul.f a0 t140).bind fun t141 => ((field_Mul.f a0 a1).bind fun t142 => ((field_Mul.f t142 a2).bind fun t143 => (taluslaw03_FieldRules.j0 k a0 a1 a2 (t141 != t143)))))) else (taluslaw03_FieldRules.j0 k a0 a1 a2 true)) = some r := H
    have A9 := Aside0.mk A90
    clear A90
    by_cases c10 : t136 = t139
    · rw [if_pos c10] at H
      have c10b0 : (t136 == t139) = true := beq_iff_eq.mpr c10
      have c10b1 : (t136 != t139) = false := bne_eq_false_iff_eq.mpr c10
      clear c10
      (first | rw [c10b0] | (simp only [i64_w, i32_w]; rw [c10b0]) | skip)
      replace H := Option.bind_eq_some_iff.mp H
      obtain ⟨t140, A110, H⟩ := H
      replace H : ((field_Mul.f a0 t140).bind fun t141 => ((field_Mul.f a0 a1).bind fun t142 => ((field_Mul.f t142 a2).bind fun t143 => (taluslaw03_FieldRules.j0 k a0 a1 a2 (t141 != t143))))) = some r := H
      have A11 := Aside0.mk A110
      clear A110
      replace H := Option.bind_eq_some_iff.mp H
      obtain ⟨t141, A120, H⟩ := H
      replace H : ((field_Mul.f a0 a1).bind fun t142 => ((field_Mul.f t142 a2).bind fun t143 => (taluslaw03_FieldRules.j0 k a0 a1 a2 (t141 != t143)))) = some r := H
      have A12 := Aside0.mk A120
      clear A120
      replace H := Option.bind_eq_some_iff.mp H
      obtain ⟨t142, A130, H⟩ := H
      replace H : ((field_Mul.f t142 a2).bind fun t143 => (taluslaw03_FieldRules.j0 k a0 a1 a2 (t141 != t143))) = some r := H
      have A13 := Aside0.mk A130
      clear A130
      replace H := Option.bind_eq_some_iff.mp H
      obtain ⟨t143, A140, H⟩ := H
      replace H : (taluslaw03_FieldRules.j0 k a0 a1 a2 (t141 != t143)) = some r := H
      have A14 := Aside0.mk A140
      clear A140
      have H' := Aside0.mk H
      clear H
      go_wp2_with (first | ((with_reducible refine gate_callee (f := 44) rfl ?_); refine goesL_ (some 14) rfl rfl Try.func44 (by kernel_rfl) rfl #[.int .u64 a1, .int .u64 a2] rfl (by (try simp only [List.map_toArray, List.map_cons, List.map_nil]); first | done | rfl | (simp only [List.length_drop, List.length_take]; rfl)) ?_; (with_reducible refine (field_Add.calls a1 a2 t135 _ A5.out).mono ?_); rintro e w' ⟨rfl, ⟨nd, rfl⟩⟩; refine ⟨_, rfl, ?_⟩) | ((with_reducible refine gate_callee (f := 43) rfl ?_); refine goesL_ (some 15) rfl rfl Try.func43 (by kernel_rfl) rfl #[.int .u64 a0, .int .u64 t135] rfl (by (try simp only [List.map_toArray, List.map_cons, List.map_nil]); first | done | rfl | (simp only [List.length_drop, List.length_take]; rfl)) ?_; (with_reducible refine (field_Mul.calls a0 t135 t136 _ A6.out).mono ?_); rintro e w' ⟨rfl, ⟨nd, rfl⟩⟩; refine ⟨_, rfl, ?_⟩) | ((with_reducible refine gate_callee (f := 43) rfl ?_); refine goesL_ (some 18) rfl rfl Try.func43 (by kernel_rfl) rfl #[.int .u64 a0, .int .u64 a1] rfl (by (try simp only [List.map_toArray, List.map_cons, List.map_nil]); first | done | rfl | (simp only [List.length_drop, List.length_take]; rfl)) ?_; (with_reducible refine (field_Mul.calls a0 a1 t137 _ A7.out).mono ?_); rintro e w' ⟨rfl, ⟨nd, rfl⟩⟩; refine ⟨_, rfl, ?_⟩) | ((with_reducible refine gate_callee (f := 43) rfl ?_); refine goesL_ (some 21) rfl rfl Try.func43 (by kernel_rfl) rfl #[.int .u64 a0, .int .u64 a2] rfl (by (try simp only [List.map_toArray, List.map_cons, List.map_nil]); first | done | rfl | (simp only [List.length_drop, List.length_take]; rfl)) ?_; (with_reducible refine (field_Mul.calls a0 a2 t138 _ A8.out).mono ?_); rintro e w' ⟨rfl, ⟨nd, rfl⟩⟩; refine ⟨_, rfl, ?_⟩) | ((with_reducible refine gate_callee (f := 44) rfl ?_); refine goesL_ (some 22) rfl rfl Try.func44 (by kernel_rfl) rfl #[.int .u64 t137, .int .u64 t138] rfl (by (try simp only [List.map_toArray, List.map_cons, List.map_nil]); first | done | rfl | (simp only [List.length_drop, List.length_take]; rfl)) ?_; (with_reducible refine (field_Add.calls t137 t138 t139 _ A9.out).mono ?_); rintro e w' ⟨rfl, ⟨nd, rfl⟩⟩; refine ⟨_, rfl, ?_⟩) | (go_at_call 43; (with_reducible refine (field_Mul.calls a1 a2 t140 _ A11.out).mono ?_); rintro e w' ⟨rfl, ⟨nd, rfl⟩⟩) | (go_at_call 43; (with_reducible refine (field_Mul.calls a0 t140 t141 _ A12.out).mono ?_); rintro e w' ⟨rfl, ⟨nd, rfl⟩⟩) | (go_at_call 43; (with_reducible refine (field_Mul.calls a0 a1 t142 _ A13.out).mono ?_); rintro e w' ⟨rfl, ⟨nd, rfl⟩⟩) | (go_at_call 43; (with_reducible refine (field_Mul.calls t142 a2 t143 _ A14.out).mono ?_); rintro e w' ⟨rfl, ⟨nd, rfl⟩⟩))
      go_meet
      case rel => exact ⟨_, ((t141 != t143)), (by first | rfl | (simp; done) | (simp [*]; done)), H', ⟨by first | omega | exact Nat.le_refl _⟩, ⟨by repeat (first | (with_reducible first | exact HB.out | apply below_alloc | apply pw_below_drewN | apply below_drew1) | exact HB.out)⟩⟩
    · rw [if_neg c10] at H
      have c10b0 : (t136 == t139) = false := beq_eq_false_iff_ne.mpr c10
      have c10b1 : (t136 != t139) = true := bne_iff_ne.mpr c10
      (first | rw [c10b0] | (simp only [i64_w, i32_w]; rw [c10b0]) | skip)
      have H' := Aside0.mk H
      clear H
      go_wp2_with (first | ((with_reducible refine gate_callee (f := 44) rfl ?_); refine goesL_ (some 14) rfl rfl Try.func44 (by kernel_rfl) rfl #[.int .u64 a1, .int .u64 a2] rfl (by (try simp only [List.map_toArray, List.map_cons, List.map_nil]); first | done | rfl | (simp only [List.length_drop, List.length_take]; rfl)) ?_; (with_reducible refine (field_Add.calls a1 a2 t135 _ A5.out).mono ?_); rintro e w' ⟨rfl, ⟨nd, rfl⟩⟩; refine ⟨_, rfl, ?_⟩) | ((with_reducible refine gate_callee (f := 43) rfl ?_); refine goesL_ (some 15) rfl rfl Try.func43 (by kernel_rfl) rfl #[.int .u64 a0, .int .u64 t135] rfl (by (try simp only [List.map_toArray, List.map_cons, List.map_nil]); first | done | rfl | (simp only [List.length_drop, List.length_take]; rfl)) ?_; (with_reducible refine (field_Mul.calls a0 t135 t136 _ A6.out).mono ?_); rintro e w' ⟨rfl, ⟨nd, rfl⟩⟩; refine ⟨_, rfl, ?_⟩) | ((with_reducible refine gate_callee (f := 43) rfl ?_); refine goesL_ (some 18) rfl rfl Try.func43 (by kernel_rfl) rfl #[.int .u64 a0, .int .u64 a1] rfl (by (try simp only [List.map_toArray, List.map_cons, List.map_nil]); first | done | rfl | (simp only [List.length_drop, List.length_take]; rfl)) ?_; (with_reducible refine (field_Mul.calls a0 a1 t137 _ A7.out).mono ?_); rintro e w' ⟨rfl, ⟨nd, rfl⟩⟩; refine ⟨_, rfl, ?_⟩) | ((with_reducible refine gate_callee (f := 43) rfl ?_); refine goesL_ (some 21) rfl rfl Try.func43 (by kernel_rfl) rfl #[.int .u64 a0, .int .u64 a2] rfl (by (try simp only [List.map_toArray, List.map_cons, List.map_nil]); first | done | rfl | (simp only [List.length_drop, List.length_take]; rfl)) ?_; (with_reducible refine (field_Mul.calls a0 a2 t138 _ A8.out).mono ?_); rintro e w' ⟨rfl, ⟨nd, rfl⟩⟩; refine ⟨_, rfl, ?_⟩) | ((with_reducible refine gate_callee (f := 44) rfl ?_); refine goesL_ (some 22) rfl rfl Try.func44 (by kernel_rfl) rfl #[.int .u64 t137, .int .u64 t138] rfl (by (try simp only [List.map_toArray, List.map_cons, List.map_nil]); first | done | rfl | (simp only [List.length_drop, List.length_take]; rfl)) ?_; (with_reducible refine (field_Add.calls t137 t138 t139 _ A9.out).mono ?_); rintro e w' ⟨rfl, ⟨nd, rfl⟩⟩; refine ⟨_, rfl, ?_⟩))
      go_meet
      case rel => exact ⟨_, (true), (by first | rfl | (simp; done) | (simp [*]; done)), H', ⟨by first | omega | exact Nat.le_refl _⟩, ⟨by repeat (first | (with_reducible first | exact HB.out | apply below_alloc | apply pw_below_drewN | apply below_drew1) | exact HB.out)⟩⟩
  case rest =>
    clear HC4
    try clear c1
    try clear p2
    try clear c4
    try clear c10
    try clear c10b0
    try clear c10b1
    try clear c13
    obtain ⟨kq, x36_3, rfl, HA, HJ3, HB⟩ := hcut
    cases kq with
    | zero => exact absurd HA.out (by simp [taluslaw03_FieldRules.j0])
    | succ kj3 =>
      have H := HA.out
      clear HA
      simp only [taluslaw03_FieldRules.j0] at H
      by_cases c15 : x36_3 = true
      · subst c15
        have H1 : (some false) = some r := by rw [if_pos rfl] at H; exact H
        clear H
        have H := H1
        clear H1
        obtain rfl := Option.some.inj H
        go_wp2
        go_ret
        exact ⟨by first | rfl | (simp [errW_none, errW_some] <;> rfl) | (simp [*, errW_none, errW_some] <;> rfl), by repeat (first | (with_reducible first | exact HB.out | apply below_alloc | apply pw_below_drewN | apply below_drew1) | exact HB.out)⟩
      · replace c15 := Bool.eq_false_iff.mpr c15
        subst c15
        have H1 : ((field_Inverse.f kj3 a0).bind fun bt144 => ((field_Of.f a0).bind fun t146 => (if (bt144.2 != (t146 != 0)) = true then (taluslaw03_FieldRules.j1 kj3 a0 a1 a2 true) else (if bt144.2 = true then ((field_Mul.f a0 bt144.1).bind fun t147 => (taluslaw03_FieldRules.j1 kj3 a0 a1 a2 (t147 != 1))) else (taluslaw03_FieldRules.j1 kj3 a0 a1 a2 false))))) = some r := by rw [if_neg (show ¬ (false = true) by decide)] at H; exact H
        clear H
        have H := H1
        clear H1
        replace H := Option.bind_eq_some_iff.mp H
        obtain ⟨⟨t144, t145⟩, A160, H⟩ := H
        replace H : ((field_Of.f a0).bind fun t146 => (if (t145 != (t146 != 0)) = true then (taluslaw03_FieldRules.j1 kj3 a0 a1 a2 true) else (if t145 = true then ((field_Mul.f a0 t144).bind fun t147 => (taluslaw03_FieldRules.j1 kj3 a0 a1 a2 (t147 != 1))) else (taluslaw03_FieldRules.j1 kj3 a0 a1 a2 false)))) = some r := H
        have A16 := Aside0.mk A160
        clear A160
        have HC17 := Aside0.mk H
        clear H
        go_upto_region 4 with (first | ((with_reducible refine gate_callee (f := 34) rfl ?_); refine goesL_ (some 39) rfl rfl Try.func34 (by kernel_rfl) rfl #[.int .u64 a0] rfl (by (try simp only [List.map_toArray, List.map_cons, List.map_nil]); first | done | rfl | (simp only [List.length_drop, List.length_take]; rfl)) ?_; (with_reducible refine (field_Inverse.calls kj3 a0 t144 t145 _ A16.out).mono ?_); rintro e w' ⟨rfl, ⟨nd, rfl⟩⟩; refine ⟨_, rfl, ?_⟩))
        (try simp only [Act.put, List.setIfInBounds_toArray, List.set_cons_zero, List.set_cons_succ])
        go_cut [55] (fun v55 wc => ∃ (kq : Nat) (x55_16 : Bool), v55 = .bool x55_16 ∧ Aside0 (taluslaw03_FieldRules.j1 kq a0 a1 a2 x55_16 = some r) ∧ Aside0 (kq ≤ kj3) ∧ Aside0 (Below w.heap.size w wc))
        case first =>
          have H := HC17.out
          clear HC17
          replace H := Option.bind_eq_some_iff.mp H
          obtain ⟨t146, A180, H⟩ := H
          replace H : (if (t145 != (t146 != 0)) = true then (taluslaw03_FieldRules.j1 kj3 a0 a1 a2 true) else (if t145 = true then ((field_Mul.f a0 t144).bind fun t147 => (taluslaw03_FieldRules.j1 kj3 a0 a1 a2 (t147 != 1))) else (taluslaw03_FieldRules.j1 kj3 a0 a1 a2 false))) = some r := H
          have A18 := Aside0.mk A180
          clear A180
          by_cases c19 : (t145 != (t146 != 0)) = true
          · rw [if_pos c19] at H
            have c19b0 : (t145 != (t146 != 0)) = true := c19
            (try (have c19b1 : decide (t145 = (t146 != 0)) = false := by simpa using c19))
            (try (have c19b2 : (t145 == (t146 != 0)) = false := by simpa using c19))
            (try (have c19b3 : ¬ (t145 = (t146 != 0)) := by simpa using c19))
            (try (have c19n := c19b0; simp only [Go.Proofs.Ytkmhknfdoofieaa.Xw.b_true, Go.Proofs.Ytkmhknfdoofieaa.Xw.b_false, Bool.true_beq, Bool.false_beq, Bool.bne_true, Bool.bne_false, Bool.true_bne, Bool.false_bne, Bool.not_eq_true', Bool.not_eq_false'] at c19n))
            clear c19
            (first | rw [c19b0] | (simp only [i64_w, i32_w]; rw [c19b0]) | skip)
            have H' := Aside0.mk H
            clear H
            go_wp2_with (first | ((with_reducible refine gate_callee (f := 41) rfl ?_); refine goesL_ (some 44) rfl rfl Try.func41 (by kernel_rfl) rfl #[.int .u64 a0] rfl (by (try simp only [List.map_toArray, List.map_cons, List.map_nil]); first | done | rfl | (simp only [List.length_drop, List.length_take]; rfl)) ?_; (with_reducible refine (field_Of.calls a0 t146 _ A18.out).mono ?_); rintro e w' ⟨rfl, ⟨nd, rfl⟩⟩; refine ⟨_, rfl, ?_⟩))
            go_meet
            case rel => exact ⟨_, (true), (by first | rfl | (simp; done) | (simp [*]; done)), H', ⟨by have := HJ3.out; first | omega | exact Nat.le_refl _⟩, ⟨by repeat (first | (with_reducible first | exact HB.out | apply below_alloc | apply pw_below_drewN | apply below_drew1) | exact HB.out)⟩⟩
          · rw [if_neg c19] at H
            have c19b0 : (t145 != (t146 != 0)) = false := by simpa using c19
            (try (have c19b1 : decide (t145 = (t146 != 0)) = true := by simpa using c19))
            (try (have c19b2 : (t145 == (t146 != 0)) = true := by simpa using c19))
            (try (have c19n := c19b0; simp only [Go.Proofs.Ytkmhknfdoofieaa.Xw.b_true, Go.Proofs.Ytkmhknfdoofieaa.Xw.b_false, Bool.true_beq, Bool.false_beq, Bool.bne_true, Bool.bne_false, Bool.true_bne, Bool.false_bne, Bool.not_eq_true', Bool.not_eq_false'] at c19n))
            clear c19
            (first | rw [c19b0] | (simp only [i64_w, i32_w]; rw [c19b0]) | skip)
            by_cases c20 : t145 = true
            · subst c20
              have H1 : ((field_Mul.f a0 t144).bind fun t147 => (taluslaw03_FieldRules.j1 kj3 a0 a1 a2 (t147 != 1))) = some r := by rw [if_pos rfl] at H; exact H
              clear H
              have H := H1
              clear H1
              replace H := Option.bind_eq_some_iff.mp H
              obtain ⟨t147, A210, H⟩ := H
              replace H : (taluslaw03_FieldRules.j1 kj3 a0 a1 a2 (t147 != 1)) = some r := H
              have A21 := Aside0.mk A210
              clear A210
              have H' := Aside0.mk H
              clear H
              go_wp2_with (first | ((with_reducible refine gate_callee (f := 41) rfl ?_); refine goesL_ (some 44) rfl rfl Try.func41 (by kernel_rfl) rfl #[.int .u64 a0] rfl (by (try simp only [List.map_toArray, List.map_cons, List.map_nil]); first | done | rfl | (simp only [List.length_drop, List.length_take]; rfl)) ?_; (with_reducible refine (field_Of.calls a0 t146 _ A18.out).mono ?_); rintro e w' ⟨rfl, ⟨nd, rfl⟩⟩; refine ⟨_, rfl, ?_⟩) | (go_at_call 43; (with_reducible refine (field_Mul.calls a0 t144 t147 _ A21.out).mono ?_); rintro e w' ⟨rfl, ⟨nd, rfl⟩⟩))
              go_meet
              case rel => exact ⟨_, ((t147 != 1)), (by first | rfl | (simp; done) | (simp [*]; done)), H', ⟨by have := HJ3.out; first | omega | exact Nat.le_refl _⟩, ⟨by repeat (first | (with_reducible first | exact HB.out | apply below_alloc | apply pw_below_drewN | apply below_drew1) | exact HB.out)⟩⟩
            · replace c20 := Bool.eq_false_iff.mpr c20
              subst c20
              have H1 : (taluslaw03_FieldRules.j1 kj3 a0 a1 a2 false) = some r := by rw [if_neg (show ¬ (false = true) by decide)] at H; exact H
              clear H
              have H := H1
              clear H1
              have H' := Aside0.mk H
              clear H
              go_wp2_with (first | ((with_reducible refine gate_callee (f := 41) rfl ?_); refine goesL_ (some 44) rfl rfl Try.func41 (by kernel_rfl) rfl #[.int .u64 a0] rfl (by (try simp only [List.map_toArray, List.map_cons, List.map_nil]); first | done | rfl | (simp only [List.length_drop, List.length_take]; rfl)) ?_; (with_reducible refine (field_Of.calls a0 t146 _ A18.out).mono ?_); rintro e w' ⟨rfl, ⟨nd, rfl⟩⟩; refine ⟨_, rfl, ?_⟩))
              go_meet
              case rel => exact ⟨_, (false), (by first | rfl | (simp; done) | (simp [*]; done)), H', ⟨by have := HJ3.out; first | omega | exact Nat.le_refl _⟩, ⟨by repeat (first | (with_reducible first | exact HB.out | apply below_alloc | apply pw_below_drewN | apply below_drew1) | exact HB.out)⟩⟩
        case rest =>
          clear HC17
          try clear c1
          try clear c2
          try clear p2
          try clear c3
          try clear c4
          try clear c10
          try clear c10b0
          try clear c10b1
          try clear c13
          try clear c15
          try clear c19
          try clear c19b0
          try clear c19b1
          try clear c19b2
          try clear c20
          try clear p2
          obtain ⟨kq, x55_16, rfl, HA, HJ16, HB⟩ := hcut
          cases kq with
          | zero => exact absurd HA.out (by simp [taluslaw03_FieldRules.j1])
          | succ kj16 =>
            have H := HA.out
            clear HA
            simp only [taluslaw03_FieldRules.j1] at H
            by_cases c22 : x55_16 = true
            · subst c22
              have H1 : (some false) = some r := by rw [if_pos rfl] at H; exact H
              clear H
              have H := H1
              clear H1
              obtain rfl := Option.some.inj H
              go_wp2
              go_ret
              exact ⟨by first | rfl | (simp [errW_none, errW_some] <;> rfl) | (simp [*, errW_none, errW_some] <;> rfl), by repeat (first | (with_reducible first | exact HB.out | apply below_alloc | apply pw_below_drewN | apply below_drew1) | exact HB.out)⟩
            · replace c22 := Bool.eq_false_iff.mpr c22
              subst c22
              have H1 : ((field_Pow.f kj16 a0 (IntKind.u64.wrap ((Int.tmod a1 1000) + (Int.tmod a2 1000)))).bind fun t148 => ((field_Pow.f kj16 a0 (Int.tmod a1 1000)).bind fun t149 => ((field_Pow.f kj16 a0 (Int.tmod a2 1000)).bind fun t150 => ((field_Mul.f t149 t150).bind fun t151 => (if t148 = t151 then ((field_Mul.f a1 a2).bind fun t152 => ((field_Good.f t152).bind fun t153 => (if t153 = true then ((taluslaw03_lives.f kj16).bind fun t154 => (some t154)) else (some false)))) else (some false)))))) = some r := by rw [if_neg (show ¬ (false = true) by decide)] at H; exact H
              clear H
              have H := H1
              clear H1
              replace H := Option.bind_eq_some_iff.mp H
              obtain ⟨t148, A230, H⟩ := H
              replace H : ((field_Pow.f kj16 a0 (Int.tmod a1 1000)).bind fun t149 => ((field_Pow.f kj16 a0 (Int.tmod a2 1000)).bind fun t150 => ((field_Mul.f t149 t150).bind fun t151 => (if t148 = t151 then ((field_Mul.f a1 a2).bind fun t152 => ((field_Good.f t152).bind fun t153 => (if t153 = true then ((taluslaw03_lives.f kj16).bind fun t154 => (some t154)) else (some false)))) else (some false))))) = some r := H
              have A23 := Aside0.mk A230
              clear A230
              replace H := Option.bind_eq_some_iff.mp H
              obtain ⟨t149, A240, H⟩ := H
              replace H : ((field_Pow.f kj16 a0 (Int.tmod a2 1000)).bind fun t150 => ((field_Mul.f t149 t150).bind fun t151 => (if t148 = t151 then ((field_Mul.f a1 a2).bind fun t152 => ((field_Good.f t152).bind fun t153 => (if t153 = true then ((taluslaw03_lives.f kj16).bind fun t154 => (some t154)) else (some false)))) else (some false)))) = some r := H
              have A24 := Aside0.mk A240
              clear A240
              replace H := Option.bind_eq_some_iff.mp H
              obtain ⟨t150, A250, H⟩ := H
              replace H : ((field_Mul.f t149 t150).bind fun t151 => (if t148 = t151 then ((field_Mul.f a1 a2).bind fun t152 => ((field_Good.f t152).bind fun t153 => (if t153 = true then ((taluslaw03_lives.f kj16).bind fun t154 => (some t154)) else (some false)))) else (some false))) = some r := H
              have A25 := Aside0.mk A250
              clear A250
              replace H := Option.bind_eq_some_iff.mp H
              obtain ⟨t151, A260, H⟩ := H
              replace H : (if t148 = t151 then ((field_Mul.f a1 a2).bind fun t152 => ((field_Good.f t152).bind fun t153 => (if t153 = true then ((taluslaw03_lives.f kj16).bind fun t154 => (some t154)) else (some false)))) else (some false)) = some r := H
              have A26 := Aside0.mk A260
              clear A260
              by_cases c27 : t148 = t151
              · rw [if_pos c27] at H
                have c27b0 : (t148 == t151) = true := beq_iff_eq.mpr c27
                have c27b1 : (t148 != t151) = false := bne_eq_false_iff_eq.mpr c27
                clear c27
                replace H := Option.bind_eq_some_iff.mp H
                obtain ⟨t152, A280, H⟩ := H
                replace H : ((field_Good.f t152).bind fun t153 => (if t153 = true then ((taluslaw03_lives.f kj16).bind fun t154 => (some t154)) else (some false))) = some r := H
                have A28 := Aside0.mk A280
                clear A280
                replace H := Option.bind_eq_some_iff.mp H
                obtain ⟨t153, A290, H⟩ := H
                replace H : (if t153 = true then ((taluslaw03_lives.f kj16).bind fun t154 => (some t154)) else (some false)) = some r := H
                have A29 := Aside0.mk A290
                clear A290
                by_cases c30 : t153 = true
                · subst c30
                  have H1 : ((taluslaw03_lives.f kj16).bind fun t154 => (some t154)) = some r := by rw [if_pos rfl] at H; exact H
                  clear H
                  have H := H1
                  clear H1
                  replace H := Option.bind_eq_some_iff.mp H
                  obtain ⟨t154, A310, H⟩ := H
                  replace H : (some t154) = some r := H
                  have A31 := Aside0.mk A310
                  clear A310
                  obtain rfl := Option.some.inj H
                  go_wp2_with (first | ((with_reducible refine gate_callee (f := 57) rfl ?_); refine goesL_ (some 64) rfl rfl Try.func57 (by kernel_rfl) rfl #[.int .u64 a0, .int .u64 (IntKind.u64.wrap ((Int.tmod a1 1000) + (Int.tmod a2 1000)))] rfl (by (try simp only [List.map_toArray, List.map_cons, List.map_nil]); first | done | rfl | (simp only [List.length_drop, List.length_take]; rfl)) ?_; (with_reducible refine (field_Pow.calls kj16 a0 (IntKind.u64.wrap ((Int.tmod a1 1000) + (Int.tmod a2 1000))) t148 _ A23.out).mono ?_); rintro e w' ⟨rfl, ⟨nd, rfl⟩⟩; refine ⟨_, rfl, ?_⟩) | ((with_reducible refine gate_callee (f := 57) rfl ?_); refine goesL_ (some 67) rfl rfl Try.func57 (by kernel_rfl) rfl #[.int .u64 a0, .int .u64 (Int.tmod a1 1000)] rfl (by (try simp only [List.map_toArray, List.map_cons, List.map_nil]); first | done | rfl | (simp only [List.length_drop, List.length_take]; rfl)) ?_; (with_reducible refine (field_Pow.calls kj16 a0 (Int.tmod a1 1000) t149 _ A24.out).mono ?_); rintro e w' ⟨rfl, ⟨nd, rfl⟩⟩; refine ⟨_, rfl, ?_⟩) | ((with_reducible refine gate_callee (f := 57) rfl ?_); refine goesL_ (some 70) rfl rfl Try.func57 (by kernel_rfl) rfl #[.int .u64 a0, .int .u64 (Int.tmod a2 1000)] rfl (by (try simp only [List.map_toArray, List.map_cons, List.map_nil]); first | done | rfl | (simp only [List.length_drop, List.length_take]; rfl)) ?_; (with_reducible refine (field_Pow.calls kj16 a0 (Int.tmod a2 1000) t150 _ A25.out).mono ?_); rintro e w' ⟨rfl, ⟨nd, rfl⟩⟩; refine ⟨_, rfl, ?_⟩) | ((with_reducible refine gate_callee (f := 43) rfl ?_); refine goesL_ (some 71) rfl rfl Try.func43 (by kernel_rfl) rfl #[.int .u64 t149, .int .u64 t150] rfl (by (try simp only [List.map_toArray, List.map_cons, List.map_nil]); first | done | rfl | (simp only [List.length_drop, List.length_take]; rfl)) ?_; (with_reducible refine (field_Mul.calls t149 t150 t151 _ A26.out).mono ?_); rintro e w' ⟨rfl, ⟨nd, rfl⟩⟩; refine ⟨_, rfl, ?_⟩) | (go_at_call 43; (with_reducible refine (field_Mul.calls a1 a2 t152 _ A28.out).mono ?_); rintro e w' ⟨rfl, ⟨nd, rfl⟩⟩) | (go_at_call 42; (with_reducible refine (field_Good.calls t152 true _ A29.out).mono ?_); rintro e w' ⟨rfl, ⟨nd, rfl⟩⟩) | (go_at_call 40; (with_reducible refine (taluslaw03_lives.calls kj16  t154 _ A31.out).mono ?_); rintro e w32 ⟨rfl, hb⟩; have n0_ := Aside0.mk (below_step (by repeat (first | (with_reducible first | exact HB.out | apply below_alloc | apply pw_below_drewN | apply below_drew1) | exact HB.out)) hb); clear HB; have HB := n0_; clear n0_; (try clear hb); (try clear hb2); (try clear hk); (try clear hi)))
                  go_ret
                  exact ⟨by first | rfl | (simp [errW_none, errW_some] <;> rfl) | (simp [*, errW_none, errW_some] <;> rfl), by repeat (first | (with_reducible first | exact HB.out | apply below_alloc | apply pw_below_drewN | apply below_drew1) | exact HB.out)⟩
                · replace c30 := Bool.eq_false_iff.mpr c30
                  subst c30
                  have H1 : (some false) = some r := by rw [if_neg (show ¬ (false = true) by decide)] at H; exact H
                  clear H
                  have H := H1
                  clear H1
                  obtain rfl := Option.some.inj H
                  go_wp2_with (first | ((with_reducible refine gate_callee (f := 57) rfl ?_); refine goesL_ (some 64) rfl rfl Try.func57 (by kernel_rfl) rfl #[.int .u64 a0, .int .u64 (IntKind.u64.wrap ((Int.tmod a1 1000) + (Int.tmod a2 1000)))] rfl (by (try simp only [List.map_toArray, List.map_cons, List.map_nil]); first | done | rfl | (simp only [List.length_drop, List.length_take]; rfl)) ?_; (with_reducible refine (field_Pow.calls kj16 a0 (IntKind.u64.wrap ((Int.tmod a1 1000) + (Int.tmod a2 1000))) t148 _ A23.out).mono ?_); rintro e w' ⟨rfl, ⟨nd, rfl⟩⟩; refine ⟨_, rfl, ?_⟩) | ((with_reducible refine gate_callee (f := 57) rfl ?_); refine goesL_ (some 67) rfl rfl Try.func57 (by kernel_rfl) rfl #[.int .u64 a0, .int .u64 (Int.tmod a1 1000)] rfl (by (try simp only [List.map_toArray, List.map_cons, List.map_nil]); first | done | rfl | (simp only [List.length_drop, List.length_take]; rfl)) ?_; (with_reducible refine (field_Pow.calls kj16 a0 (Int.tmod a1 1000) t149 _ A24.out).mono ?_); rintro e w' ⟨rfl, ⟨nd, rfl⟩⟩; refine ⟨_, rfl, ?_⟩) | ((with_reducible refine gate_callee (f := 57) rfl ?_); refine goesL_ (some 70) rfl rfl Try.func57 (by kernel_rfl) rfl #[.int .u64 a0, .int .u64 (Int.tmod a2 1000)] rfl (by (try simp only [List.map_toArray, List.map_cons, List.map_nil]); first | done | rfl | (simp only [List.length_drop, List.length_take]; rfl)) ?_; (with_reducible refine (field_Pow.calls kj16 a0 (Int.tmod a2 1000) t150 _ A25.out).mono ?_); rintro e w' ⟨rfl, ⟨nd, rfl⟩⟩; refine ⟨_, rfl, ?_⟩) | ((with_reducible refine gate_callee (f := 43) rfl ?_); refine goesL_ (some 71) rfl rfl Try.func43 (by kernel_rfl) rfl #[.int .u64 t149, .int .u64 t150] rfl (by (try simp only [List.map_toArray, List.map_cons, List.map_nil]); first | done | rfl | (simp only [List.length_drop, List.length_take]; rfl)) ?_; (with_reducible refine (field_Mul.calls t149 t150 t151 _ A26.out).mono ?_); rintro e w' ⟨rfl, ⟨nd, rfl⟩⟩; refine ⟨_, rfl, ?_⟩) | (go_at_call 43; (with_reducible refine (field_Mul.calls a1 a2 t152 _ A28.out).mono ?_); rintro e w' ⟨rfl, ⟨nd, rfl⟩⟩) | (go_at_call 42; (with_reducible refine (field_Good.calls t152 false _ A29.out).mono ?_); rintro e w' ⟨rfl, ⟨nd, rfl⟩⟩))
                  go_ret
                  exact ⟨by first | rfl | (simp [errW_none, errW_some] <;> rfl) | (simp [*, errW_none, errW_some] <;> rfl), by repeat (first | (with_reducible first | exact HB.out | apply below_alloc | apply pw_below_drewN | apply below_drew1) | exact HB.out)⟩
              · rw [if_neg c27] at H
                have c27b0 : (t148 == t151) = false := beq_eq_false_iff_ne.mpr c27
                have c27b1 : (t148 != t151) = true := bne_iff_ne.mpr c27
                obtain rfl := Option.some.inj H
                go_wp2_with (first | ((with_reducible refine gate_callee (f := 57) rfl ?_); refine goesL_ (some 64) rfl rfl Try.func57 (by kernel_rfl) rfl #[.int .u64 a0, .int .u64 (IntKind.u64.wrap ((Int.tmod a1 1000) + (Int.tmod a2 1000)))] rfl (by (try simp only [List.map_toArray, List.map_cons, List.map_nil]); first | done | rfl | (simp only [List.length_drop, List.length_take]; rfl)) ?_; (with_reducible refine (field_Pow.calls kj16 a0 (IntKind.u64.wrap ((Int.tmod a1 1000) + (Int.tmod a2 1000))) t148 _ A23.out).mono ?_); rintro e w' ⟨rfl, ⟨nd, rfl⟩⟩; refine ⟨_, rfl, ?_⟩) | ((with_reducible refine gate_callee (f := 57) rfl ?_); refine goesL_ (some 67) rfl rfl Try.func57 (by kernel_rfl) rfl #[.int .u64 a0, .int .u64 (Int.tmod a1 1000)] rfl (by (try simp only [List.map_toArray, List.map_cons, List.map_nil]); first | done | rfl | (simp only [List.length_drop, List.length_take]; rfl)) ?_; (with_reducible refine (field_Pow.calls kj16 a0 (Int.tmod a1 1000) t149 _ A24.out).mono ?_); rintro e w' ⟨rfl, ⟨nd, rfl⟩⟩; refine ⟨_, rfl, ?_⟩) | ((with_reducible refine gate_callee (f := 57) rfl ?_); refine goesL_ (some 70) rfl rfl Try.func57 (by kernel_rfl) rfl #[.int .u64 a0, .int .u64 (Int.tmod a2 1000)] rfl (by (try simp only [List.map_toArray, List.map_cons, List.map_nil]); first | done | rfl | (simp only [List.length_drop, List.length_take]; rfl)) ?_; (with_reducible refine (field_Pow.calls kj16 a0 (Int.tmod a2 1000) t150 _ A25.out).mono ?_); rintro e w' ⟨rfl, ⟨nd, rfl⟩⟩; refine ⟨_, rfl, ?_⟩) | ((with_reducible refine gate_callee (f := 43) rfl ?_); refine goesL_ (some 71) rfl rfl Try.func43 (by kernel_rfl) rfl #[.int .u64 t149, .int .u64 t150] rfl (by (try simp only [List.map_toArray, List.map_cons, List.map_nil]); first | done | rfl | (simp only [List.length_drop, List.length_take]; rfl)) ?_; (with_reducible refine (field_Mul.calls t149 t150 t151 _ A26.out).mono ?_); rintro e w' ⟨rfl, ⟨nd, rfl⟩⟩; refine ⟨_, rfl, ?_⟩))
                go_ret
                exact ⟨by first | rfl | (simp [errW_none, errW_some] <;> rfl) | (simp [*, errW_none, errW_some] <;> rfl), by repeat (first | (with_reducible first | exact HB.out | apply below_alloc | apply pw_below_drewN | apply below_drew1) | exact HB.out)⟩

/-- THE ONE PURE STATEMENT of taluslaw03_FieldRules: yours. -/
def taluslaw03_FieldRules.Pure : Prop := ∀ (a0 : Int) (a1 : Int) (a2 : Int), (Lit.int .u64 a0).wf = true → (Lit.int .u64 a1).wf = true → (Lit.int .u64 a2).wf = true → ∃ k, taluslaw03_FieldRules.f k a0 a1 a2 = some true
theorem taluslaw03_FieldRules.walk (P : taluslaw03_FieldRules.Pure) (a0 : Int) (a1 : Int) (a2 : Int) (w : World) (w0 : (Lit.int .u64 a0).wf = true) (w1 : (Lit.int .u64 a1).wf = true) (w2 : (Lit.int .u64 a2).wf = true) :
    Calls Try.prog 13 #[.int .u64 a0, .int .u64 a1, .int .u64 a2] w fun e w' => e = .returned (.bool true) ∧ Below w.heap.size w w' := by
  obtain ⟨k, h⟩ := P a0 a1 a2 w0 w1 w2
  refine (taluslaw03_FieldRules.calls k a0 a1 a2 true w h).mono ?_
  rintro e w' ⟨rfl, hd⟩
  exact ⟨rfl, hd⟩

end Go.Proofs.Ytkmhknfdoofieaa.PFieldRules
