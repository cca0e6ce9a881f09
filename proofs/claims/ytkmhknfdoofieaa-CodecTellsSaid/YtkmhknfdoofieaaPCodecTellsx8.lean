/- Printed for this claim by a program of this session (the kit's printer with additions, wip/xp); Lean checks it. -/
import Derived.Test.YtkmhknfdoofieaaPCodecTellsx0
import Derived.Test.YtkmhknfdoofieaaPCodecTellsx1
import Derived.Test.YtkmhknfdoofieaaPCodecTellsx5
import Derived.Test.YtkmhknfdoofieaaPCodecTellsx6
import Derived.Test.YtkmhknfdoofieaaPCodecTellsx7
namespace Go.Proofs.Ytkmhknfdoofieaa.PCodecTells
open Go.RowKit Go.Proofs.YtkmhknfdoofieaaW.PrintWords Go.Proofs.YtkmhknfdoofieaaW.PrintLast Go.Proofs.YtkmhknfdoofieaaW.PrintMore
attribute [local go_sem] max2_int min2_int max_two min_two max_three min_three max_four min_four   -- for this text's walks alone
set_option linter.unusedVariables false
set_option linter.unusedSimpArgs false

/-! ### taluslaw02_CodecTells: function 5 -/
def taluslaw02_CodecTells.j0 : Nat → List Int → Int → List Int → Bool → Option (Bool)
  | 0, _, _, _, _ => none
  | k + 1, x0, x2, x7, x71 => if x71 = true then (some false) else (if (x0.length : Int) = 0 then ((taluslaw02_lives.f k).bind fun t236 => (some t236)) else (if (IntKind.u64.wrap (wrap64 (8 * (x0.length : Int)))) = 0 then (none) else (if 0 ≤ (IntKind.u64.wrap (4 + (IntKind.u64.wrap (Int.tdiv (Int.tmod x2 (IntKind.u64.wrap (wrap64 (8 * (x0.length : Int))))) 8)))) then (if (IntKind.u64.wrap (4 + (IntKind.u64.wrap (Int.tdiv (Int.tmod x2 (IntKind.u64.wrap (wrap64 (8 * (x0.length : Int))))) 8)))) < (x7.length : Int) then (if 0 ≤ (Int.tmod (Int.tmod x2 (IntKind.u64.wrap (wrap64 (8 * (x0.length : Int))))) 8) then ((codec_Unframe.f k (x7.set ((IntKind.u64.wrap (4 + (IntKind.u64.wrap (Int.tdiv (Int.tmod x2 (IntKind.u64.wrap (wrap64 (8 * (x0.length : Int))))) 8)))) : Int).toNat (Go.bits .xor .u8 (rd x7 (IntKind.u64.wrap (4 + (IntKind.u64.wrap (Int.tdiv (Int.tmod x2 (IntKind.u64.wrap (wrap64 (8 * (x0.length : Int))))) 8))))) (shl .u8 1 (Int.tmod (Int.tmod x2 (IntKind.u64.wrap (wrap64 (8 * (x0.length : Int))))) 8))))).bind fun bt239 => (if bt239.2.2 = 8 then ((taluslaw02_lives.f k).bind fun t244 => (some t244)) else (some false))) else (none)) else (none)) else (none))))
def taluslaw02_CodecTells.f (k : Nat) (l0 : List Int) (a1 : Int) (a2 : Int) : Option (Bool) := (codec_Frame.f k l0).bind fun t205 => (if (l0.length : Int) > 262144 then (if (t205.length : Int) = 0 then ((taluslaw02_lives.f k).bind fun t208 => (some t208)) else (some false)) else (if (t205.length : Int) = (wrap64 ((l0.length : Int) + 8)) then (if (IntKind.u64.wrap ((t205.length : Int))) = 0 then (none) else (if 0 ≤ (Int.tmod a1 (IntKind.u64.wrap ((t205.length : Int)))) then (if (Int.tmod a1 (IntKind.u64.wrap ((t205.length : Int)))) ≤ (t205.length : Int) then ((codec_Unframe.f k (t205.take ((Int.tmod a1 (IntKind.u64.wrap ((t205.length : Int)))) : Int).toNat)).bind fun bt213 => ((some (([] : List Int) : List Int)).bind fun y218 => (if y218.length + t205.length < 140737488355328 then ((some (y218 ++ t205 : List Int)).bind fun y221 => ((some (([1, 2] : List Int) : List Int)).bind fun y224 => (if y221.length + y224.length < 140737488355328 then ((codec_Unframe.f k (y221 ++ y224)).bind fun bt230 => (if bt213.2.2 = 10 then (if bt230.2.2 = 0 then (if bt230.2.1 = (t205.length : Int) then ((talusref01_Same.f bt230.1 l0).bind fun t235 => (taluslaw02_CodecTells.j0 k l0 a2 t205 (!t235))) else (taluslaw02_CodecTells.j0 k l0 a2 t205 true)) else (taluslaw02_CodecTells.j0 k l0 a2 t205 true)) else (taluslaw02_CodecTells.j0 k l0 a2 t205 true))) else (none)))) else (none)))) else (none)) else (none))) else (some false)))
theorem taluslaw02_CodecTells.mono_l : ∀ k, (∀ y0 y1 y2 y3, LeO (taluslaw02_CodecTells.j0 k y0 y1 y2 y3) (taluslaw02_CodecTells.j0 (k + 1) y0 y1 y2 y3))
  | 0 => fun _ _ _ _ r h => by simp [taluslaw02_CodecTells.j0] at h
  | k + 1 => by
    have ih0 := taluslaw02_CodecTells.mono_l k
    · intro y0 y1 y2 y3
      unfold taluslaw02_CodecTells.j0
      repeat' first
      | (with_reducible exact ih0 _ _ _ _)
      | (with_reducible exact codec_Frame.mono _ _)
      | (with_reducible exact codec_Unframe.mono _ _)
      | (with_reducible exact taluslaw02_lives.mono _)
      | (with_reducible exact LeO.refl _)
      | (with_reducible exact LeO.none _)
      | (with_reducible refine LeO.ite ?_ ?_)
      | (with_reducible refine LeO.bind ?_ (fun _ => ?_))
      | exact ih0 _ _ _ _
      | exact codec_Frame.mono _ _
      | exact codec_Unframe.mono _ _
      | exact taluslaw02_lives.mono _
      | exact LeO.none _
      | refine LeO.ite ?_ ?_
      | refine LeO.bind ?_ (fun _ => ?_)
theorem taluslaw02_CodecTells.mono : ∀ a0 a1 a2 k, LeO (taluslaw02_CodecTells.f k a0 a1 a2) (taluslaw02_CodecTells.f (k + 1) a0 a1 a2) := by
  intro a0 a1 a2 k
  have ih0 := taluslaw02_CodecTells.mono_l k
  unfold taluslaw02_CodecTells.f
  repeat' first
      | (with_reducible exact ih0 _ _ _ _)
      | (with_reducible exact codec_Frame.mono _ _)
      | (with_reducible exact codec_Unframe.mono _ _)
      | (with_reducible exact taluslaw02_lives.mono _)
      | (with_reducible exact LeO.refl _)
      | (with_reducible exact LeO.none _)
      | (with_reducible refine LeO.ite ?_ ?_)
      | (with_reducible refine LeO.bind ?_ (fun _ => ?_))
      | exact ih0 _ _ _ _
      | exact codec_Frame.mono _ _
      | exact codec_Unframe.mono _ _
      | exact taluslaw02_lives.mono _
      | exact LeO.none _
      | refine LeO.ite ?_ ?_
      | refine LeO.bind ?_ (fun _ => ?_)
set_option maxHeartbeats 8000000 in
set_option maxRecDepth 100000 in
theorem taluslaw02_CodecTells.calls (k : Nat) (A0 : Option Addr) (c0 : Nat) (l0 : List Int) (a1 : Int) (a2 : Int) (r : Bool) (w : World) (hr0 : Kd.C (Kd.int .u8) w A0 l0.length l0) (hc0 : l0.length ≤ c0) (h : taluslaw02_CodecTells.f k l0 a1 a2 = some r) :
    Calls Try.prog 5 #[.slice A0 l0.length c0, .int .u64 a1, .int .u64 a2] w fun e w' => e = .returned (.bool r) ∧ Below w.heap.size w w' := by
  have HR0 := Aside0.mk hr0
  have HC0 := Aside0.mk hc0
  clear hr0 hc0
  have HB := Aside0.mk (Below.refl w.heap.size w)
  have H : ((codec_Frame.f k l0).bind fun t205 => (if (l0.length : Int) > 262144 then (if (t205.length : Int) = 0 then ((taluslaw02_lives.f k).bind fun t208 => (some t208)) else (some false)) else (if (t205.length : Int) = (wrap64 ((l0.length : Int) + 8)) then (if (IntKind.u64.wrap ((t205.length : Int))) = 0 then (none) else (if 0 ≤ (Int.tmod a1 (IntKind.u64.wrap ((t205.length : Int)))) then (if (Int.tmod a1 (IntKind.u64.wrap ((t205.length : Int)))) ≤ (t205.length : Int) then ((codec_Unframe.f k (t205.take ((Int.tmod a1 (IntKind.u64.wrap ((t205.length : Int)))) : Int).toNat)).bind fun bt213 => ((some (([] : List Int) : List Int)).bind fun y218 => (if y218.length + t205.length < 140737488355328 then ((some (y218 ++ t205 : List Int)).bind fun y221 => ((some (([1, 2] : List Int) : List Int)).bind fun y224 => (if y221.length + y224.length < 140737488355328 then ((codec_Unframe.f k (y221 ++ y224)).bind fun bt230 => (if bt213.2.2 = 10 then (if bt230.2.2 = 0 then (if bt230.2.1 = (t205.length : Int) then ((talusref01_Same.f bt230.1 l0).bind fun t235 => (taluslaw02_CodecTells.j0 k l0 a2 t205 (!t235))) else (taluslaw02_CodecTells.j0 k l0 a2 t205 true)) else (taluslaw02_CodecTells.j0 k l0 a2 t205 true)) else (taluslaw02_CodecTells.j0 k l0 a2 t205 true))) else (none)))) else (none)))) else (none)) else (none))) else (some false)))) = some r := h
  clear h
  replace H := Option.bind_eq_some_iff.mp H
  obtain ⟨t205, A40, H⟩ := H
  replace H : (if (l0.length : Int) > 262144 then (if (t205.length : Int) = 0 then ((taluslaw02_lives.f k).bind fun t208 => (some t208)) else (some false)) else (if (t205.length : Int) = (wrap64 ((l0.length : Int) + 8)) then (if (IntKind.u64.wrap ((t205.length : Int))) = 0 then (none) else (if 0 ≤ (Int.tmod a1 (IntKind.u64.wrap ((t205.length : Int)))) then (if (Int.tmod a1 (IntKind.u64.wrap ((t205.length : Int)))) ≤ (t205.length : Int) then ((codec_Unframe.f k (t205.take ((Int.tmod a1 (IntKind.u64.wrap ((t205.length : Int)))) : Int).toNat)).bind fun bt213 => ((some (([] : List Int) : List Int)).bind fun y218 => (if y218.length + t205.length < 140737488355328 then ((some (y218 ++ t205 : List Int)).bind fun y221 => ((some (([1, 2] : List Int) : List Int)).bind fun y224 => (if y221.length + y224.length < 140737488355328 then ((codec_Unframe.f k (y221 ++ y224)).bind fun bt230 => (if bt213.2.2 = 10 then (if bt230.2.2 = 0 then (if bt230.2.1 = (t205.length : Int) then ((talusref01_Same.f bt230.1 l0).bind fun t235 => (taluslaw02_CodecTells.j0 k l0 a2 t205 (!t235))) else (taluslaw02_CodecTells.j0 k l0 a2 t205 true)) else (taluslaw02_CodecTells.j0 k l0 a2 t205 true)) else (taluslaw02_CodecTells.j0 k l0 a2 t205 true))) else (none)))) else (none)))) else (none)) else (none))) else (some false))) = some r := H
  have A4 := Aside0.mk A40
  clear A40
  by_cases c5 : (l0.length : Int) > 262144
  · rw [if_pos c5] at H
    have c5b0 : decide (262144 < (l0.length : Int)) = true := decide_eq_true c5
    have c5b1 : decide (262144 < l0.length) = true := decide_eq_true (by omega)
    clear c5
    by_cases c6 : (t205.length : Int) = 0
    · rw [if_pos c6] at H
      have c6b0 : ((t205.length : Int) == 0) = true := beq_iff_eq.mpr c6
      have c6b1 : ((t205.length : Int) != 0) = false := bne_eq_false_iff_eq.mpr c6
      clear c6
      replace H := Option.bind_eq_some_iff.mp H
      obtain ⟨t208, A70, H⟩ := H
      replace H : (some t208) = some r := H
      have A7 := Aside0.mk A70
      clear A70
      obtain rfl := Option.some.inj H
      go_enter Try.func5, Try.ntmps5
      go_wp2_with (first | ((with_reducible refine gate_callee (f := 27) rfl ?_); refine goesL_ (some 16) rfl rfl Try.func27 (by kernel_rfl) rfl #[.slice A0 l0.length c0] rfl (by (try simp only [List.map_toArray, List.map_cons, List.map_nil]); first | done | rfl | (simp only [List.length_drop, List.length_take]; rfl)) ?_; (with_reducible refine (codec_Frame.calls k _ _ l0 t205 _ ?side1 ?side2 A4.out).mono ?_); (case side1 => repeat (first | exact HR0.out | (with_reducible refine Kd.C_alloc ?_ _) | (with_reducible refine Kd.C_drewN ?_ _) | (with_reducible refine Kd.C_drew ?_))); (case side2 => exact HC0.out); rintro e w8 ⟨v206, rfl, ho0, hb⟩; refine ⟨_, rfl, ?_⟩; have n0_ := Aside0.mk (Kd.R_lower ho0 (below_size (by repeat (first | (with_reducible first | exact HB.out | apply below_alloc | apply pw_below_drewN | apply below_drew1) | exact HB.out)))); have n1_ := Aside0.mk (below_step (by repeat (first | (with_reducible first | exact HB.out | apply below_alloc | apply pw_below_drewN | apply below_drew1) | exact HB.out)) hb); clear HB; have HO207 := n0_; have HB := n1_; clear n0_ n1_; (try clear hb); (try clear hb2); (try clear hk); (try clear hi); (try clear ho0); obtain ⟨Ao9, co9, eo9⟩ := Kd.R_slice HO207.out; subst eo9) | (go_at_call 17; (with_reducible refine (taluslaw02_lives.calls k  t208 _ A7.out).mono ?_); rintro e w10 ⟨rfl, hb⟩; have n0_ := Aside0.mk (Kd.R_below (by (with_reducible repeat (first | apply Kd.R_alloc | apply Kd.R_drewN | apply Kd.R_drew)); exact HO207.out) hb); have n1_ := Aside0.mk (below_step (by repeat (first | (with_reducible first | exact HB.out | apply below_alloc | apply pw_below_drewN | apply below_drew1) | exact HB.out)) hb); clear HO207; clear HB; have HO207 := n0_; have HB := n1_; clear n0_ n1_; (try clear hb); (try clear hb2); (try clear hk); (try clear hi)))
      go_ret
      exact ⟨by first | rfl | (simp [errW_none, errW_some] <;> rfl) | (simp [*, errW_none, errW_some] <;> rfl), by repeat (first | (with_reducible first | exact HB.out | apply below_alloc | apply pw_below_drewN | apply below_drew1) | exact HB.out)⟩
    · rw [if_neg c6] at H
      have c6b0 : ((t205.length : Int) == 0) = false := beq_eq_false_iff_ne.mpr c6
      have c6b1 : ((t205.length : Int) != 0) = true := bne_iff_ne.mpr c6
      have c6b2 : ¬ (t205 = []) := fun h_ => c6 (by rw [h_]; rfl)
      obtain rfl := Option.some.inj H
      go_enter Try.func5, Try.ntmps5
      go_wp2_with (first | ((with_reducible refine gate_callee (f := 27) rfl ?_); refine goesL_ (some 16) rfl rfl Try.func27 (by kernel_rfl) rfl #[.slice A0 l0.length c0] rfl (by (try simp only [List.map_toArray, List.map_cons, List.map_nil]); first | done | rfl | (simp only [List.length_drop, List.length_take]; rfl)) ?_; (with_reducible refine (codec_Frame.calls k _ _ l0 t205 _ ?side1 ?side2 A4.out).mono ?_); (case side1 => repeat (first | exact HR0.out | (with_reducible refine Kd.C_alloc ?_ _) | (with_reducible refine Kd.C_drewN ?_ _) | (with_reducible refine Kd.C_drew ?_))); (case side2 => exact HC0.out); rintro e w11 ⟨v206, rfl, ho0, hb⟩; refine ⟨_, rfl, ?_⟩; have n0_ := Aside0.mk (Kd.R_lower ho0 (below_size (by repeat (first | (with_reducible first | exact HB.out | apply below_alloc | apply pw_below_drewN | apply below_drew1) | exact HB.out)))); have n1_ := Aside0.mk (below_step (by repeat (first | (with_reducible first | exact HB.out | apply below_alloc | apply pw_below_drewN | apply below_drew1) | exact HB.out)) hb); clear HB; have HO207 := n0_; have HB := n1_; clear n0_ n1_; (try clear hb); (try clear hb2); (try clear hk); (try clear hi); (try clear ho0); obtain ⟨Ao12, co12, eo12⟩ := Kd.R_slice HO207.out; subst eo12))
      go_ret
      exact ⟨by first | rfl | (simp [errW_none, errW_some] <;> rfl) | (simp [*, errW_none, errW_some] <;> rfl), by repeat (first | (with_reducible first | exact HB.out | apply below_alloc | apply pw_below_drewN | apply below_drew1) | exact HB.out)⟩
  · rw [if_neg c5] at H
    have c5b0 : decide (262144 < (l0.length : Int)) = false := decide_eq_false c5
    have c5b1 : decide (262144 < l0.length) = false := decide_eq_false (by omega)
    clear c5
    by_cases c13 : (t205.length : Int) = (wrap64 ((l0.length : Int) + 8))
    · rw [if_pos c13] at H
      have c13b0 : ((t205.length : Int) == (wrap64 ((l0.length : Int) + 8))) = true := beq_iff_eq.mpr c13
      have c13b1 : ((t205.length : Int) != (wrap64 ((l0.length : Int) + 8))) = false := bne_eq_false_iff_eq.mpr c13
      clear c13
      by_cases c14 : (IntKind.u64.wrap ((t205.length : Int))) = 0
      · rw [if_pos c14] at H
        exact absurd H (by simp)
      · rw [if_neg c14] at H
        have c14b0 : ((IntKind.u64.wrap ((t205.length : Int))) == 0) = false := beq_eq_false_iff_ne.mpr c14
        have c14b1 : ((IntKind.u64.wrap ((t205.length : Int))) != 0) = true := bne_iff_ne.mpr c14
        obtain ⟨ji15, hji15⟩ : ∃ j_ : Int, (Int.tmod a1 (IntKind.u64.wrap ((t205.length : Int)))) = j_ := ⟨_, rfl⟩
        replace H : (if 0 ≤ (ji15) then (if (ji15) ≤ (t205.length : Int) then ((codec_Unframe.f k (t205.take ((ji15) : Int).toNat)).bind fun bt213 => ((some (([] : List Int) : List Int)).bind fun y218 => (if y218.length + t205.length < 140737488355328 then ((some (y218 ++ t205 : List Int)).bind fun y221 => ((some (([1, 2] : List Int) : List Int)).bind fun y224 => (if y221.length + y224.length < 140737488355328 then ((codec_Unframe.f k (y221 ++ y224)).bind fun bt230 => (if bt213.2.2 = 10 then (if bt230.2.2 = 0 then (if bt230.2.1 = (t205.length : Int) then ((talusref01_Same.f bt230.1 l0).bind fun t235 => (taluslaw02_CodecTells.j0 k l0 a2 t205 (!t235))) else (taluslaw02_CodecTells.j0 k l0 a2 t205 true)) else (taluslaw02_CodecTells.j0 k l0 a2 t205 true)) else (taluslaw02_CodecTells.j0 k l0 a2 t205 true))) else (none)))) else (none)))) else (none)) else (none)) = some r := by first | (rw [hji15] at H; exact H) | (simp only [hji15] at H ⊢; exact H)
        (try rw [hji15] at A4)
        by_cases c16 : 0 ≤ (ji15)
        · rw [if_pos c16] at H
          have c16b0 := eq_true c16
          have c16b1 : decide (0 ≤ (ji15)) = true := decide_eq_true c16
          clear c16
          by_cases c17 : (ji15) ≤ (t205.length : Int)
          · rw [if_pos c17] at H
            have c17b0 := eq_true c17
            have c17b1 : decide ((ji15) ≤ (t205.length : Int)) = true := decide_eq_true c17
            clear c17
            obtain ⟨y209, hy209⟩ : ∃ y_ : List Int, y_ = (t205.take ((ji15) : Int).toNat) := ⟨_, rfl⟩
            replace H : ((codec_Unframe.f k y209).bind fun bt213 => ((some (([] : List Int) : List Int)).bind fun y218 => (if y218.length + t205.length < 140737488355328 then ((some (y218 ++ t205 : List Int)).bind fun y221 => ((some (([1, 2] : List Int) : List Int)).bind fun y224 => (if y221.length + y224.length < 140737488355328 then ((codec_Unframe.f k (y221 ++ y224)).bind fun bt230 => (if bt213.2.2 = 10 then (if bt230.2.2 = 0 then (if bt230.2.1 = (t205.length : Int) then ((talusref01_Same.f bt230.1 l0).bind fun t235 => (taluslaw02_CodecTells.j0 k l0 a2 t205 (!t235))) else (taluslaw02_CodecTells.j0 k l0 a2 t205 true)) else (taluslaw02_CodecTells.j0 k l0 a2 t205 true)) else (taluslaw02_CodecTells.j0 k l0 a2 t205 true))) else (none)))) else (none)))) = some r := by first | (rw [hy209]; with_reducible exact H) | (have H2_ := (Option.bind_some _ _).symm.trans H; rw [hy209]; with_reducible exact H2_) | (have H2_ := (Option.bind_some _ _).symm.trans H; with_reducible exact H2_) | with_reducible exact H | (rw [hy209]; exact H) | exact H
            have Ny209 := Aside0.mk hy209
            clear hy209
            replace H := Option.bind_eq_some_iff.mp H
            obtain ⟨⟨t213, t214, t215⟩, A180, H⟩ := H
            replace H : ((some (([] : List Int) : List Int)).bind fun y218 => (if y218.length + t205.length < 140737488355328 then ((some (y218 ++ t205 : List Int)).bind fun y221 => ((some (([1, 2] : List Int) : List Int)).bind fun y224 => (if y221.length + y224.length < 140737488355328 then ((codec_Unframe.f k (y221 ++ y224)).bind fun bt230 => (if t215 = 10 then (if bt230.2.2 = 0 then (if bt230.2.1 = (t205.length : Int) then ((talusref01_Same.f bt230.1 l0).bind fun t235 => (taluslaw02_CodecTells.j0 k l0 a2 t205 (!t235))) else (taluslaw02_CodecTells.j0 k l0 a2 t205 true)) else (taluslaw02_CodecTells.j0 k l0 a2 t205 true)) else (taluslaw02_CodecTells.j0 k l0 a2 t205 true))) else (none)))) else (none))) = some r := H
            have A18 := Aside0.mk A180
            clear A180
            obtain ⟨y218, hy218⟩ : ∃ y_ : List Int, y_ = (([] : List Int)) := ⟨_, rfl⟩
            replace H : (if y218.length + t205.length < 140737488355328 then ((some (y218 ++ t205 : List Int)).bind fun y221 => ((some (([1, 2] : List Int) : List Int)).bind fun y224 => (if y221.length + y224.length < 140737488355328 then ((codec_Unframe.f k (y221 ++ y224)).bind fun bt230 => (if t215 = 10 then (if bt230.2.2 = 0 then (if bt230.2.1 = (t205.length : Int) then ((talusref01_Same.f bt230.1 l0).bind fun t235 => (taluslaw02_CodecTells.j0 k l0 a2 t205 (!t235))) else (taluslaw02_CodecTells.j0 k l0 a2 t205 true)) else (taluslaw02_CodecTells.j0 k l0 a2 t205 true)) else (taluslaw02_CodecTells.j0 k l0 a2 t205 true))) else (none)))) else (none)) = some r := by first | (rw [hy218]; with_reducible exact H) | (have H2_ := (Option.bind_some _ _).symm.trans H; rw [hy218]; with_reducible exact H2_) | (have H2_ := (Option.bind_some _ _).symm.trans H; with_reducible exact H2_) | with_reducible exact H | (rw [hy218]; exact H) | exact H
            have Ny218 := Aside0.mk hy218
            clear hy218
            by_cases c19 : y218.length + t205.length < 140737488355328
            · rw [if_pos c19] at H
              have LMc19 := Aside0.mk c19
              clear c19
              obtain ⟨y221, hy221⟩ : ∃ y_ : List Int, y_ = (y218 ++ t205) := ⟨_, rfl⟩
              replace H : ((some (([1, 2] : List Int) : List Int)).bind fun y224 => (if y221.length + y224.length < 140737488355328 then ((codec_Unframe.f k (y221 ++ y224)).bind fun bt230 => (if t215 = 10 then (if bt230.2.2 = 0 then (if bt230.2.1 = (t205.length : Int) then ((talusref01_Same.f bt230.1 l0).bind fun t235 => (taluslaw02_CodecTells.j0 k l0 a2 t205 (!t235))) else (taluslaw02_CodecTells.j0 k l0 a2 t205 true)) else (taluslaw02_CodecTells.j0 k l0 a2 t205 true)) else (taluslaw02_CodecTells.j0 k l0 a2 t205 true))) else (none))) = some r := by first | (rw [hy221]; with_reducible exact H) | (have H2_ := (Option.bind_some _ _).symm.trans H; rw [hy221]; with_reducible exact H2_) | (have H2_ := (Option.bind_some _ _).symm.trans H; with_reducible exact H2_) | with_reducible exact H | (rw [hy221]; exact H) | exact H
              have Ny221 := Aside0.mk hy221
              clear hy221
              obtain ⟨y224, hy224⟩ : ∃ y_ : List Int, y_ = (([1, 2] : List Int)) := ⟨_, rfl⟩
              replace H : (if y221.length + y224.length < 140737488355328 then ((codec_Unframe.f k (y221 ++ y224)).bind fun bt230 => (if t215 = 10 then (if bt230.2.2 = 0 then (if bt230.2.1 = (t205.length : Int) then ((talusref01_Same.f bt230.1 l0).bind fun t235 => (taluslaw02_CodecTells.j0 k l0 a2 t205 (!t235))) else (taluslaw02_CodecTells.j0 k l0 a2 t205 true)) else (taluslaw02_CodecTells.j0 k l0 a2 t205 true)) else (taluslaw02_CodecTells.j0 k l0 a2 t205 true))) else (none)) = some r := by first | (rw [hy224]; with_reducible exact H) | (have H2_ := (Option.bind_some _ _).symm.trans H; rw [hy224]; with_reducible exact H2_) | (have H2_ := (Option.bind_some _ _).symm.trans H; with_reducible exact H2_) | with_reducible exact H | (rw [hy224]; exact H) | exact H
              have Ny224 := Aside0.mk hy224
              clear hy224
              by_cases c20 : y221.length + y224.length < 140737488355328
              · rw [if_pos c20] at H
                have LMc20 := Aside0.mk c20
                clear c20
                obtain ⟨y227, hy227⟩ : ∃ y_ : List Int, y_ = (y221 ++ y224) := ⟨_, rfl⟩
                replace H : ((codec_Unframe.f k y227).bind fun bt230 => (if t215 = 10 then (if bt230.2.2 = 0 then (if bt230.2.1 = (t205.length : Int) then ((talusref01_Same.f bt230.1 l0).bind fun t235 => (taluslaw02_CodecTells.j0 k l0 a2 t205 (!t235))) else (taluslaw02_CodecTells.j0 k l0 a2 t205 true)) else (taluslaw02_CodecTells.j0 k l0 a2 t205 true)) else (taluslaw02_CodecTells.j0 k l0 a2 t205 true))) = some r := by first | (rw [hy227]; with_reducible exact H) | (have H2_ := (Option.bind_some _ _).symm.trans H; rw [hy227]; with_reducible exact H2_) | (have H2_ := (Option.bind_some _ _).symm.trans H; with_reducible exact H2_) | with_reducible exact H | (rw [hy227]; exact H) | exact H
                have Ny227 := Aside0.mk hy227
                clear hy227
                replace H := Option.bind_eq_some_iff.mp H
                obtain ⟨⟨t230, t231, t232⟩, A210, H⟩ := H
                replace H : (if t215 = 10 then (if t232 = 0 then (if t231 = (t205.length : Int) then ((talusref01_Same.f t230 l0).bind fun t235 => (taluslaw02_CodecTells.j0 k l0 a2 t205 (!t235))) else (taluslaw02_CodecTells.j0 k l0 a2 t205 true)) else (taluslaw02_CodecTells.j0 k l0 a2 t205 true)) else (taluslaw02_CodecTells.j0 k l0 a2 t205 true)) = some r := H
                have A21 := Aside0.mk A210
                clear A210
                have HC22 := Aside0.mk H
                clear H
                go_enter Try.func5, Try.ntmps5
                go_upto_region 8 with (first | ((with_reducible refine gate_callee (f := 27) rfl ?_); refine goesL_ (some 16) rfl rfl Try.func27 (by kernel_rfl) rfl #[.slice A0 l0.length c0] rfl (by (try simp only [List.map_toArray, List.map_cons, List.map_nil]); first | done | rfl | (simp only [List.length_drop, List.length_take]; rfl)) ?_; (with_reducible refine (codec_Frame.calls k _ _ l0 t205 _ ?side1 ?side2 A4.out).mono ?_); (case side1 => repeat (first | exact HR0.out | (with_reducible refine Kd.C_alloc ?_ _) | (with_reducible refine Kd.C_drewN ?_ _) | (with_reducible refine Kd.C_drew ?_))); (case side2 => exact HC0.out); rintro e w23 ⟨v206, rfl, ho0, hb⟩; refine ⟨_, rfl, ?_⟩; have n0_ := Aside0.mk (Kd.R_lower ho0 (below_size (by repeat (first | (with_reducible first | exact HB.out | apply below_alloc | apply pw_below_drewN | apply below_drew1) | exact HB.out)))); have n1_ := Aside0.mk (below_step (by repeat (first | (with_reducible first | exact HB.out | apply below_alloc | apply pw_below_drewN | apply below_drew1) | exact HB.out)) hb); clear HB; have HO207 := n0_; have HB := n1_; clear n0_ n1_; (try clear hb); (try clear hb2); (try clear hk); (try clear hi); (try clear ho0); obtain ⟨Ao24, co24, eo24⟩ := Kd.R_slice HO207.out; subst eo24; have q25 : ((ji15) : Int) ≤ ((t205.length : Int) : Int) := of_decide_eq_true (by first | (with_reducible assumption) | assumption); obtain ⟨i025, hi025, _, hsz25, _⟩ := info_parts info5; have hroom25 : t205.length ≤ co24 := (Kd.R_reads' HO207.out).2.1; have hC25 : Kd.C (Kd.int .u8) _ Ao24 t205.length t205 := (Kd.R_reads' HO207.out).2.2; have hcut25 := cut_to (P := Try.prog) 23 5 .u64 Try.underlying23 hi025 Ao24 t205.length co24 (ji15) (of_decide_eq_true (by first | (with_reducible assumption) | assumption)) q25 hroom25; have hr25 := Kd.C_take (m := ((ji15) : Int).toNat) hC25 (by omega); have hy25 : y209.length = ((ji15) : Int).toNat := (by rw [Ny209.out, List.length_take]; omega); rw [← Ny209.out] at hr25; rw [← hy25] at hcut25; have HR212 := Aside0.mk hr25; have HC212 := Aside0.mk (show y209.length ≤ co24 from by omega); clear hr25 hC25 hroom25 hi025 hsz25; have KY25 := Aside0.mk hy25; clear hy25; have KL25 := Aside0.mk (show ((ji15) : Int).toNat ≤ t205.length from by omega); replace q25 := eq_true q25) | ((with_reducible refine gate_callee (f := 28) rfl ?_); refine goesL_ (some 40) rfl rfl Try.func28 (by kernel_rfl) rfl #[.slice Ao24 y209.length co24] rfl (by (try simp only [List.map_toArray, List.map_cons, List.map_nil]); first | done | rfl | (simp only [List.length_drop, List.length_take]; rfl)) ?_; (with_reducible refine (codec_Unframe.calls k _ _ y209 t213 t214 t215 _ ?side1 ?side2 A18.out).mono ?_); (case side1 => repeat (first | exact (by repeat (first | (with_reducible exact HR212.out) | (with_reducible refine Kd.C_alloc ?_ _) | (with_reducible refine Kd.C_drewN ?_ _) | (with_reducible refine Kd.C_drew ?_) | exact HR212.out)) | (with_reducible refine Kd.C_alloc ?_ _) | (with_reducible refine Kd.C_drewN ?_ _) | (with_reducible refine Kd.C_drew ?_))); (case side2 => exact HC212.out); rintro e w26 ⟨v216, rfl, ho0, hb⟩; refine ⟨_, rfl, ?_⟩; have n0_ := Aside0.mk (Kd.R_elder' (by (with_reducible repeat (first | apply Kd.R_alloc | apply Kd.R_drewN | apply Kd.R_drew)); exact HO207.out) (Kd.R_base ho0) hb); have n1_ := Aside0.mk (Kd.R_lower (Kd.R_new' ho0 (Kd.R_lt (by (with_reducible repeat (first | apply Kd.R_alloc | apply Kd.R_drewN | apply Kd.R_drew)); exact HO207.out))) (below_size (by repeat (first | (with_reducible first | exact HB.out | apply below_alloc | apply pw_below_drewN | apply below_drew1) | exact HB.out)))); have n2_ := Aside0.mk (Kd.C_below (by repeat (first | (with_reducible exact HR212.out) | (with_reducible refine Kd.C_alloc ?_ _) | (with_reducible refine Kd.C_drewN ?_ _) | (with_reducible refine Kd.C_drew ?_) | exact HR212.out)) hb); have n3_ := Aside0.mk (below_step (by repeat (first | (with_reducible first | exact HB.out | apply below_alloc | apply pw_below_drewN | apply below_drew1) | exact HB.out)) hb); clear HO207; clear HR212; clear HB; have HO207 := n0_; have HO217 := n1_; have HR212 := n2_; have HB := n3_; clear n0_ n1_ n2_ n3_; (try clear hb); (try clear hb2); (try clear hk); (try clear hi); (try clear ho0)) | ((with_reducible refine gate_dst (N := 45) rfl ?_); (try (refine gate_guard (by rfl) ?_; dsimp only)); refine Kd.R_lit (Kd.int .u8) _ 5 ?hg (N := 45) ?hd (xs := ([] : List Int)) (inner := []) (ok := fun _ => True) (okp := fun _ => True) ?hr ?hp (fun _ hk => hk) trivial (Below.refl _ _) (Nat.le_refl _) (by simp) ?_; (case hd => rfl); (case hg => rfl); (case hr => first | (go_simp; done) | (go_simp; rfl)); (case hp => exact (Reps.none _ _)); intro v219 w27 ho28 hb hg_ hnew_; clear hg_ hnew_; (first | rw [← Ny218.out] at ho28 | (simp only [Int.reduceToNat] at ho28; rw [← Ny218.out] at ho28)); have n0_ := Aside0.mk (Kd.R_elder' (by (with_reducible repeat (first | apply Kd.R_alloc | apply Kd.R_drewN | apply Kd.R_drew)); exact HO207.out) (Kd.R_base ho28) hb); have n1_ := Aside0.mk (Kd.R_elder' (by (with_reducible repeat (first | apply Kd.R_alloc | apply Kd.R_drewN | apply Kd.R_drew)); exact HO217.out) (Kd.R_base ho28) hb); have n2_ := Aside0.mk (Kd.R_lower (Kd.R_new' (Kd.R_new' ho28 (Kd.R_lt (by (with_reducible repeat (first | apply Kd.R_alloc | apply Kd.R_drewN | apply Kd.R_drew)); exact HO207.out))) (Kd.R_lt (by (with_reducible repeat (first | apply Kd.R_alloc | apply Kd.R_drewN | apply Kd.R_drew)); exact HO217.out))) (below_size (by repeat (first | (with_reducible first | exact HB.out | apply below_alloc | apply pw_below_drewN | apply below_drew1) | exact HB.out)))); have n3_ := Aside0.mk (Kd.C_below (by repeat (first | (with_reducible exact HR212.out) | (with_reducible refine Kd.C_alloc ?_ _) | (with_reducible refine Kd.C_drewN ?_ _) | (with_reducible refine Kd.C_drew ?_) | exact HR212.out)) hb); have n4_ := Aside0.mk (below_step (by repeat (first | (with_reducible first | exact HB.out | apply below_alloc | apply pw_below_drewN | apply below_drew1) | exact HB.out)) hb); clear HO207; clear HO217; clear HR212; clear HB; have HO207 := n0_; have HO217 := n1_; have HO220 := n2_; have HR212 := n3_; have HB := n4_; clear n0_ n1_ n2_ n3_ n4_; clear hb ho28) | ((with_reducible refine gate_builtin (b := .append) (xs := #[.tmp 45, .tmp 46]) rfl ?_); (try (refine gate_guard (by rfl) ?_; dsimp only)); at_builtin; refine Kd.R_append_rows (Kd.int .u8) (w0 := w) w.heap.size rfl (.tmp 45) (.tmp 46) 23 5 (.int .u8 0) 1 rfl Try.underlying23 info5 rfl (by decide) (by omega) v219 y218 t205 _ _ _ (fun k_ => some k_ ≠ (.slice Ao24 t205.length co24 : Value).ownBlock ∧ some k_ ≠ (v216 : Value).ownBlock) (fun _ => False) rfl rfl ?aO ?aR (fun _ _ h => h) (fun _ h => h.elim) ?aF ?aB ?aS ?aL ?_; (case aR => repeat (first | exact (Kd.R_reads' HO207.out).2.2 | (with_reducible refine Kd.C_alloc ?_ _) | (with_reducible refine Kd.C_drewN ?_ _) | (with_reducible refine Kd.C_drew ?_))); (case aB => exact (by repeat (first | (with_reducible first | exact HB.out | apply below_alloc | apply pw_below_drewN | apply below_drew1) | exact HB.out))); (case aF => exact (fun k_ hk => ⟨Kd.fresh' (Kd.R_lt (by (with_reducible repeat (first | apply Kd.R_alloc | apply Kd.R_drewN | apply Kd.R_drew)); exact HO207.out)) k_ hk, Kd.fresh' (Kd.R_lt (by (with_reducible repeat (first | apply Kd.R_alloc | apply Kd.R_drewN | apply Kd.R_drew)); exact HO217.out)) k_ hk⟩)); (case aO => exact (by (with_reducible repeat (first | apply Kd.R_alloc | apply Kd.R_drewN | apply Kd.R_drew)); exact Kd.R_mono HO220.out (fun _ hk => ⟨hk.1.2, hk.2⟩))); (case aS => exact (below_size (by repeat (first | (with_reducible first | exact HB.out | apply below_alloc | apply pw_below_drewN | apply below_drew1) | exact HB.out)))); (case aL => have := LMc19.out; omega); intro v222 w29 ho hb hg hat; rw [← Ny221.out] at ho; have n0_ := Aside0.mk (Kd.R_after (ok := (fun k_ => some k_ ≠ (v216 : Value).ownBlock)) (by (with_reducible repeat (first | apply Kd.R_alloc | apply Kd.R_drewN | apply Kd.R_drew)); exact Kd.R_mono HO207.out (fun _ hk => ⟨hk.1.2, hk.2⟩)) hg hat); have n1_ := Aside0.mk (Kd.R_after (ok := (fun k_ => some k_ ≠ (.slice Ao24 t205.length co24 : Value).ownBlock)) (by (with_reducible repeat (first | apply Kd.R_alloc | apply Kd.R_drewN | apply Kd.R_drew)); exact Kd.R_mono HO217.out (fun _ hk => ⟨hk.1.2, hk.2⟩)) hg hat); have n2_ := Aside0.mk (hb); have n3_ := Aside0.mk ((show Kd.C (Kd.int .u8) w29 Ao24 y209.length y209 from by rw [Ny209.out]; exact Kd.C_take (m := ((ji15) : Int).toNat) ((Kd.R_reads' (Kd.R_after (ok := (fun k_ => some k_ ≠ (v216 : Value).ownBlock)) (by (with_reducible repeat (first | apply Kd.R_alloc | apply Kd.R_drewN | apply Kd.R_drew)); exact Kd.R_mono HO207.out (fun _ hk => ⟨hk.1.2, hk.2⟩)) hg hat)).2.2) KL25.out)); have n4_ := Aside0.mk (ho); clear HO207; clear HO217; clear HB; clear HR212; clear HO220; have HO207 := n0_; have HO217 := n1_; have HB := n2_; have HR212 := n3_; have HO223 := n4_; clear n0_ n1_ n2_ n3_ n4_; clear ho hb hg hat) | ((with_reducible refine gate_dst (N := 48) rfl ?_); (try (refine gate_guard (by rfl) ?_; dsimp only)); refine Kd.R_lit (Kd.int .u8) _ 5 ?hg (N := 48) ?hd (xs := ([1, 2] : List Int)) (inner := [.int .u8 1, .int .u8 2]) (ok := fun _ => True) (okp := fun _ => True) ?hr ?hp (fun _ hk => hk) trivial (Below.refl _ _) (Nat.le_refl _) (by simp) ?_; (case hd => rfl); (case hg => rfl); (case hr => first | (go_simp; done) | (go_simp; rfl)); (case hp => exact (Reps.one (show Kd.M (Kd.int .u8) _ _ _ 1 [.int .u8 1] from rfl) (Reps.one (show Kd.M (Kd.int .u8) _ _ _ 2 [.int .u8 2] from rfl) (Reps.none _ _)))); intro v225 w30 ho31 hb hg_ hnew_; clear hg_ hnew_; (first | rw [← Ny224.out] at ho31 | (simp only [Int.reduceToNat] at ho31; rw [← Ny224.out] at ho31)); have n0_ := Aside0.mk (Kd.R_elder' (by (with_reducible repeat (first | apply Kd.R_alloc | apply Kd.R_drewN | apply Kd.R_drew)); exact HO207.out) (Kd.R_base ho31) hb); have n1_ := Aside0.mk (Kd.R_elder' (by (with_reducible repeat (first | apply Kd.R_alloc | apply Kd.R_drewN | apply Kd.R_drew)); exact HO217.out) (Kd.R_base ho31) hb); have n2_ := Aside0.mk (Kd.R_elder' (by (with_reducible repeat (first | apply Kd.R_alloc | apply Kd.R_drewN | apply Kd.R_drew)); exact HO223.out) (Kd.R_base ho31) hb); have n3_ := Aside0.mk (Kd.R_lower (Kd.R_new' (Kd.R_new' (Kd.R_new' ho31 (Kd.R_lt (by (with_reducible repeat (first | apply Kd.R_alloc | apply Kd.R_drewN | apply Kd.R_drew)); exact HO207.out))) (Kd.R_lt (by (with_reducible repeat (first | apply Kd.R_alloc | apply Kd.R_drewN | apply Kd.R_drew)); exact HO217.out))) (Kd.R_lt (by (with_reducible repeat (first | apply Kd.R_alloc | apply Kd.R_drewN | apply Kd.R_drew)); exact HO223.out))) (below_size (by repeat (first | (with_reducible first | exact HB.out | apply below_alloc | apply pw_below_drewN | apply below_drew1) | exact HB.out)))); have n4_ := Aside0.mk (Kd.C_below (by repeat (first | (with_reducible exact HR212.out) | (with_reducible refine Kd.C_alloc ?_ _) | (with_reducible refine Kd.C_drewN ?_ _) | (with_reducible refine Kd.C_drew ?_) | exact HR212.out)) hb); have n5_ := Aside0.mk (below_step (by repeat (first | (with_reducible first | exact HB.out | apply below_alloc | apply pw_below_drewN | apply below_drew1) | exact HB.out)) hb); clear HO207; clear HO217; clear HO223; clear HR212; clear HB; have HO207 := n0_; have HO217 := n1_; have HO223 := n2_; have HO226 := n3_; have HR212 := n4_; have HB := n5_; clear n0_ n1_ n2_ n3_ n4_ n5_; clear hb ho31; obtain ⟨Ao33, co33, eo33⟩ := Kd.R_slice HO226.out; subst eo33) | ((with_reducible refine gate_builtin (b := .append) (xs := #[.tmp 47, .tmp 48]) rfl ?_); (try (refine gate_guard (by rfl) ?_; dsimp only)); at_builtin; refine Kd.R_append_rows (Kd.int .u8) (w0 := w) w.heap.size rfl (.tmp 47) (.tmp 48) 23 5 (.int .u8 0) 1 rfl Try.underlying23 info5 rfl (by decide) (by omega) v222 y221 y224 _ _ _ (fun k_ => some k_ ≠ (.slice Ao24 t205.length co24 : Value).ownBlock ∧ some k_ ≠ (v216 : Value).ownBlock ∧ some k_ ≠ (.slice Ao33 y224.length co33 : Value).ownBlock) (fun _ => False) rfl rfl ?aO ?aR (fun _ _ h => h) (fun _ h => h.elim) ?aF ?aB ?aS ?aL ?_; (case aR => repeat (first | exact (Kd.R_reads' HO226.out).2.2 | (with_reducible refine Kd.C_alloc ?_ _) | (with_reducible refine Kd.C_drewN ?_ _) | (with_reducible refine Kd.C_drew ?_))); (case aB => exact (by repeat (first | (with_reducible first | exact HB.out | apply below_alloc | apply pw_below_drewN | apply below_drew1) | exact HB.out))); (case aF => exact (fun k_ hk => ⟨Kd.fresh' (Kd.R_lt (by (with_reducible repeat (first | apply Kd.R_alloc | apply Kd.R_drewN | apply Kd.R_drew)); exact HO207.out)) k_ hk, Kd.fresh' (Kd.R_lt (by (with_reducible repeat (first | apply Kd.R_alloc | apply Kd.R_drewN | apply Kd.R_drew)); exact HO217.out)) k_ hk, Kd.fresh' (Kd.R_lt (by (with_reducible repeat (first | apply Kd.R_alloc | apply Kd.R_drewN | apply Kd.R_drew)); exact HO226.out)) k_ hk⟩)); (case aO => exact (by (with_reducible repeat (first | apply Kd.R_alloc | apply Kd.R_drewN | apply Kd.R_drew)); exact Kd.R_mono HO223.out (fun _ hk => ⟨hk.1.1, ⟨hk.1.2, hk.2⟩⟩))); (case aS => exact (below_size (by repeat (first | (with_reducible first | exact HB.out | apply below_alloc | apply pw_below_drewN | apply below_drew1) | exact HB.out)))); (case aL => have := LMc20.out; omega); intro v228 w32 ho hb hg hat; rw [← Ny227.out] at ho; have n0_ := Aside0.mk (Kd.R_after (ok := (fun k_ => some k_ ≠ (v216 : Value).ownBlock ∧ some k_ ≠ (.slice Ao33 y224.length co33 : Value).ownBlock)) (by (with_reducible repeat (first | apply Kd.R_alloc | apply Kd.R_drewN | apply Kd.R_drew)); exact Kd.R_mono HO207.out (fun _ hk => ⟨⟨hk.1.1, hk.2⟩, hk.1.2⟩)) hg hat); have n1_ := Aside0.mk (Kd.R_after (ok := (fun k_ => some k_ ≠ (.slice Ao24 t205.length co24 : Value).ownBlock ∧ some k_ ≠ (.slice Ao33 y224.length co33 : Value).ownBlock)) (by (with_reducible repeat (first | apply Kd.R_alloc | apply Kd.R_drewN | apply Kd.R_drew)); exact Kd.R_mono HO217.out (fun _ hk => ⟨⟨hk.1.1, hk.2⟩, hk.1.2⟩)) hg hat); have n2_ := Aside0.mk (Kd.R_after (ok := (fun k_ => some k_ ≠ (.slice Ao24 t205.length co24 : Value).ownBlock ∧ some k_ ≠ (v216 : Value).ownBlock)) (by (with_reducible repeat (first | apply Kd.R_alloc | apply Kd.R_drewN | apply Kd.R_drew)); exact Kd.R_mono HO226.out (fun _ hk => ⟨⟨hk.1.1.2, hk.1.2⟩, hk.2⟩)) hg hat); have n3_ := Aside0.mk (hb); have n4_ := Aside0.mk ((show Kd.C (Kd.int .u8) w32 Ao24 y209.length y209 from by rw [Ny209.out]; exact Kd.C_take (m := ((ji15) : Int).toNat) ((Kd.R_reads' (Kd.R_after (ok := (fun k_ => some k_ ≠ (v216 : Value).ownBlock ∧ some k_ ≠ (.slice Ao33 y224.length co33 : Value).ownBlock)) (by (with_reducible repeat (first | apply Kd.R_alloc | apply Kd.R_drewN | apply Kd.R_drew)); exact Kd.R_mono HO207.out (fun _ hk => ⟨⟨hk.1.1, hk.2⟩, hk.1.2⟩)) hg hat)).2.2) KL25.out)); have n5_ := Aside0.mk (ho); clear HO207; clear HO217; clear HO226; clear HB; clear HR212; clear HO223; have HO207 := n0_; have HO217 := n1_; have HO226 := n2_; have HB := n3_; have HR212 := n4_; have HO229 := n5_; clear n0_ n1_ n2_ n3_ n4_ n5_; clear ho hb hg hat; obtain ⟨Ao34, co34, eo34⟩ := Kd.R_slice HO229.out; subst eo34) | ((with_reducible refine gate_callee (f := 28) rfl ?_); refine goesL_ (some 50) rfl rfl Try.func28 (by kernel_rfl) rfl #[.slice Ao34 y227.length co34] rfl (by (try simp only [List.map_toArray, List.map_cons, List.map_nil]); first | done | rfl | (simp only [List.length_drop, List.length_take]; rfl)) ?_; (with_reducible refine (codec_Unframe.calls k _ _ y227 t230 t231 t232 _ ?side1 ?side2 A21.out).mono ?_); (case side1 => repeat (first | exact (Kd.R_reads' HO229.out).2.2 | (with_reducible refine Kd.C_alloc ?_ _) | (with_reducible refine Kd.C_drewN ?_ _) | (with_reducible refine Kd.C_drew ?_))); (case side2 => exact (Kd.R_reads' HO229.out).2.1); rintro e w35 ⟨v233, rfl, ho0, hb⟩; refine ⟨_, rfl, ?_⟩; have n0_ := Aside0.mk (Kd.R_elder' (by (with_reducible repeat (first | apply Kd.R_alloc | apply Kd.R_drewN | apply Kd.R_drew)); exact HO207.out) (Kd.R_base ho0) hb); have n1_ := Aside0.mk (Kd.R_elder' (by (with_reducible repeat (first | apply Kd.R_alloc | apply Kd.R_drewN | apply Kd.R_drew)); exact HO217.out) (Kd.R_base ho0) hb); have n2_ := Aside0.mk (Kd.R_elder' (by (with_reducible repeat (first | apply Kd.R_alloc | apply Kd.R_drewN | apply Kd.R_drew)); exact HO226.out) (Kd.R_base ho0) hb); have n3_ := Aside0.mk (Kd.R_elder' (by (with_reducible repeat (first | apply Kd.R_alloc | apply Kd.R_drewN | apply Kd.R_drew)); exact HO229.out) (Kd.R_base ho0) hb); have n4_ := Aside0.mk (Kd.R_lower (Kd.R_new' (Kd.R_new' (Kd.R_new' (Kd.R_new' ho0 (Kd.R_lt (by (with_reducible repeat (first | apply Kd.R_alloc | apply Kd.R_drewN | apply Kd.R_drew)); exact HO207.out))) (Kd.R_lt (by (with_reducible repeat (first | apply Kd.R_alloc | apply Kd.R_drewN | apply Kd.R_drew)); exact HO217.out))) (Kd.R_lt (by (with_reducible repeat (first | apply Kd.R_alloc | apply Kd.R_drewN | apply Kd.R_drew)); exact HO226.out))) (Kd.R_lt (by (with_reducible repeat (first | apply Kd.R_alloc | apply Kd.R_drewN | apply Kd.R_drew)); exact HO229.out))) (below_size (by repeat (first | (with_reducible first | exact HB.out | apply below_alloc | apply pw_below_drewN | apply below_drew1) | exact HB.out)))); have n5_ := Aside0.mk (Kd.C_below (by repeat (first | (with_reducible exact HR212.out) | (with_reducible refine Kd.C_alloc ?_ _) | (with_reducible refine Kd.C_drewN ?_ _) | (with_reducible refine Kd.C_drew ?_) | exact HR212.out)) hb); have n6_ := Aside0.mk (below_step (by repeat (first | (with_reducible first | exact HB.out | apply below_alloc | apply pw_below_drewN | apply below_drew1) | exact HB.out)) hb); clear HO207; clear HO217; clear HO226; clear HO229; clear HR212; clear HB; have HO207 := n0_; have HO217 := n1_; have HO226 := n2_; have HO229 := n3_; have HO234 := n4_; have HR212 := n5_; have HB := n6_; clear n0_ n1_ n2_ n3_ n4_ n5_ n6_; (try clear hb); (try clear hb2); (try clear hk); (try clear hi); (try clear ho0)))
                (try simp only [Act.put, List.setIfInBounds_toArray, List.set_cons_zero, List.set_cons_succ])
                go_cut [71] (fun v71 wc => ∃ (kq : Nat) (x71_21 : Bool), v71 = .bool x71_21 ∧ Aside0 (taluslaw02_CodecTells.j0 kq l0 a2 t205 x71_21 = some r) ∧ Aside0 (kq ≤ k) ∧ Aside0 (Kd.R (Kd.int .u8) 5 wc w.heap.size (fun _ => True) (.slice Ao24 t205.length co24) t205) ∧ Aside0 (Kd.C (Kd.int .u8) wc Ao24 y209.length y209) ∧ Aside0 (Below w.heap.size w wc))
                case first =>
                  have H := HC22.out
                  clear HC22
                  by_cases c36 : t215 = 10
                  · rw [if_pos c36] at H
                    have c36b0 : (t215 == 10) = true := beq_iff_eq.mpr c36
                    have c36b1 : (t215 != 10) = false := bne_eq_false_iff_eq.mpr c36
                    clear c36
                    (first | rw [c36b0] | (simp only [i64_w, i32_w]; rw [c36b0]) | skip)
                    by_cases c37 : t232 = 0
                    · rw [if_pos c37] at H
                      have c37b0 : (t232 == 0) = true := beq_iff_eq.mpr c37
                      have c37b1 : (t232 != 0) = false := bne_eq_false_iff_eq.mpr c37
                      clear c37
                      by_cases c38 : t231 = (t205.length : Int)
                      · rw [if_pos c38] at H
                        have c38b0 : (t231 == (t205.length : Int)) = true := beq_iff_eq.mpr c38
                        have c38b1 : (t231 != (t205.length : Int)) = false := bne_eq_false_iff_eq.mpr c38
                        clear c38
                        replace H := Option.bind_eq_some_iff.mp H
                        obtain ⟨t235, A390, H⟩ := H
                        replace H : (taluslaw02_CodecTells.j0 k l0 a2 t205 (!t235)) = some r := H
                        have A39 := Aside0.mk A390
                        clear A390
                        have H' := Aside0.mk H
                        clear H
                        obtain ⟨Ao40, co40, eo40⟩ := Kd.R_slice HO234.out
                        subst eo40
                        go_wp2_with (first | (go_at_call 20; (with_reducible refine (talusref01_Same.calls _ _ t230 _ _ l0 t235 _ ?side1 ?side2 ?side3 ?side4 A39.out).mono ?_); (case side1 => repeat (first | exact (Kd.R_reads' HO234.out).2.2 | (with_reducible refine Kd.C_alloc ?_ _) | (with_reducible refine Kd.C_drewN ?_ _) | (with_reducible refine Kd.C_drew ?_))); (case side2 => exact (Kd.R_reads' HO234.out).2.1); (case side3 => repeat (first | exact (Kd.C_below HR0.out HB.out) | (with_reducible refine Kd.C_alloc ?_ _) | (with_reducible refine Kd.C_drewN ?_ _) | (with_reducible refine Kd.C_drew ?_))); (case side4 => exact HC0.out); rintro e w' ⟨rfl, ⟨nd, rfl⟩⟩))
                        go_meet
                        case rel => exact ⟨_, (!t235), (by first | rfl | (simp; done) | (simp [*]; done)), H', ⟨by first | omega | exact Nat.le_refl _⟩, ⟨by (with_reducible repeat (first | apply Kd.R_alloc | apply Kd.R_drewN | apply Kd.R_drew)); exact Kd.R_mono HO207.out (fun _ hk => trivial)⟩, ⟨by repeat (first | (with_reducible exact HR212.out) | (with_reducible refine Kd.C_alloc ?_ _) | (with_reducible refine Kd.C_drewN ?_ _) | (with_reducible refine Kd.C_drew ?_) | exact HR212.out)⟩, ⟨by repeat (first | (with_reducible first | exact HB.out | apply below_alloc | apply pw_below_drewN | apply below_drew1) | exact HB.out)⟩⟩
                      · rw [if_neg c38] at H
                        have c38b0 : (t231 == (t205.length : Int)) = false := beq_eq_false_iff_ne.mpr c38
                        have c38b1 : (t231 != (t205.length : Int)) = true := bne_iff_ne.mpr c38
                        have H' := Aside0.mk H
                        clear H
                        go_wp2
                        go_meet
                        case rel => exact ⟨_, (true), (by first | rfl | (simp; done) | (simp [*]; done)), H', ⟨by first | omega | exact Nat.le_refl _⟩, ⟨by (with_reducible repeat (first | apply Kd.R_alloc | apply Kd.R_drewN | apply Kd.R_drew)); exact Kd.R_mono HO207.out (fun _ hk => trivial)⟩, ⟨by repeat (first | (with_reducible exact HR212.out) | (with_reducible refine Kd.C_alloc ?_ _) | (with_reducible refine Kd.C_drewN ?_ _) | (with_reducible refine Kd.C_drew ?_) | exact HR212.out)⟩, ⟨by repeat (first | (with_reducible first | exact HB.out | apply below_alloc | apply pw_below_drewN | apply below_drew1) | exact HB.out)⟩⟩
                    · rw [if_neg c37] at H
                      have c37b0 : (t232 == 0) = false := beq_eq_false_iff_ne.mpr c37
                      have c37b1 : (t232 != 0) = true := bne_iff_ne.mpr c37
                      have H' := Aside0.mk H
                      clear H
                      go_wp2
                      go_meet
                      case rel => exact ⟨_, (true), (by first | rfl | (simp; done) | (simp [*]; done)), H', ⟨by first | omega | exact Nat.le_refl _⟩, ⟨by (with_reducible repeat (first | apply Kd.R_alloc | apply Kd.R_drewN | apply Kd.R_drew)); exact Kd.R_mono HO207.out (fun _ hk => trivial)⟩, ⟨by repeat (first | (with_reducible exact HR212.out) | (with_reducible refine Kd.C_alloc ?_ _) | (with_reducible refine Kd.C_drewN ?_ _) | (with_reducible refine Kd.C_drew ?_) | exact HR212.out)⟩, ⟨by repeat (first | (with_reducible first | exact HB.out | apply below_alloc | apply pw_below_drewN | apply below_drew1) | exact HB.out)⟩⟩
                  · rw [if_neg c36] at H
                    have c36b0 : (t215 == 10) = false := beq_eq_false_iff_ne.mpr c36
                    have c36b1 : (t215 != 10) = true := bne_iff_ne.mpr c36
                    (first | rw [c36b0] | (simp only [i64_w, i32_w]; rw [c36b0]) | skip)
                    have H' := Aside0.mk H
                    clear H
                    go_wp2
                    go_meet
                    case rel => exact ⟨_, (true), (by first | rfl | (simp; done) | (simp [*]; done)), H', ⟨by first | omega | exact Nat.le_refl _⟩, ⟨by (with_reducible repeat (first | apply Kd.R_alloc | apply Kd.R_drewN | apply Kd.R_drew)); exact Kd.R_mono HO207.out (fun _ hk => trivial)⟩, ⟨by repeat (first | (with_reducible exact HR212.out) | (with_reducible refine Kd.C_alloc ?_ _) | (with_reducible refine Kd.C_drewN ?_ _) | (with_reducible refine Kd.C_drew ?_) | exact HR212.out)⟩, ⟨by repeat (first | (with_reducible first | exact HB.out | apply below_alloc | apply pw_below_drewN | apply below_drew1) | exact HB.out)⟩⟩
                case rest =>
                  clear HC22
                  try clear c1
                  try clear c2
                  try clear p2
                  try clear q2
                  try clear c3
                  try clear c5
                  try clear c5b0
                  try clear c5b1
                  try clear c6
                  try clear c6b0
                  try clear c6b1
                  try clear c6b2
                  try clear p6
                  try clear c13
                  try clear c13b0
                  try clear c13b1
                  try clear c14
                  try clear c14b0
                  try clear c14b1
                  try clear c16
                  try clear c16b0
                  try clear c16b1
                  try clear c17
                  try clear c17b0
                  try clear c17b1
                  try clear c19
                  try clear c20
                  try clear q25
                  try clear c27
                  try clear c28
                  try clear c36
                  try clear c36b0
                  try clear c36b1
                  try clear c37
                  try clear c37b0
                  try clear c37b1
                  try clear c38
                  try clear c38b0
                  try clear c38b1
                  try clear q25
                  obtain ⟨kq, x71_21, rfl, HA, HJ21, HO_7, HR212, HB⟩ := hcut
                  cases kq with
                  | zero => exact absurd HA.out (by simp [taluslaw02_CodecTells.j0])
                  | succ kj21 =>
                    have H := HA.out
                    clear HA
                    simp only [taluslaw02_CodecTells.j0] at H
                    by_cases c41 : x71_21 = true
                    · subst c41
                      have H1 : (some false) = some r := by rw [if_pos rfl] at H; exact H
                      clear H
                      have H := H1
                      clear H1
                      obtain rfl := Option.some.inj H
                      go_wp2
                      go_ret
                      exact ⟨by first | rfl | (simp [errW_none, errW_some] <;> rfl) | (simp only [← hji15]; first | rfl | (simp [errW_none, errW_some] <;> rfl)) | (simp [*, errW_none, errW_some] <;> rfl), by repeat (first | (with_reducible first | exact HB.out | apply below_alloc | apply pw_below_drewN | apply below_drew1) | exact HB.out)⟩
                    · replace c41 := Bool.eq_false_iff.mpr c41
                      subst c41
                      have H1 : (if (l0.length : Int) = 0 then ((taluslaw02_lives.f kj21).bind fun t236 => (some t236)) else (if (IntKind.u64.wrap (wrap64 (8 * (l0.length : Int)))) = 0 then (none) else (if 0 ≤ (IntKind.u64.wrap (4 + (IntKind.u64.wrap (Int.tdiv (Int.tmod a2 (IntKind.u64.wrap (wrap64 (8 * (l0.length : Int))))) 8)))) then (if (IntKind.u64.wrap (4 + (IntKind.u64.wrap (Int.tdiv (Int.tmod a2 (IntKind.u64.wrap (wrap64 (8 * (l0.length : Int))))) 8)))) < (t205.length : Int) then (if 0 ≤ (Int.tmod (Int.tmod a2 (IntKind.u64.wrap (wrap64 (8 * (l0.length : Int))))) 8) then ((codec_Unframe.f kj21 (t205.set ((IntKind.u64.wrap (4 + (IntKind.u64.wrap (Int.tdiv (Int.tmod a2 (IntKind.u64.wrap (wrap64 (8 * (l0.length : Int))))) 8)))) : Int).toNat (Go.bits .xor .u8 (rd t205 (IntKind.u64.wrap (4 + (IntKind.u64.wrap (Int.tdiv (Int.tmod a2 (IntKind.u64.wrap (wrap64 (8 * (l0.length : Int))))) 8))))) (shl .u8 1 (Int.tmod (Int.tmod a2 (IntKind.u64.wrap (wrap64 (8 * (l0.length : Int))))) 8))))).bind fun bt239 => (if bt239.2.2 = 8 then ((taluslaw02_lives.f kj21).bind fun t244 => (some t244)) else (some false))) else (none)) else (none)) else (none)))) = some r := by rw [if_neg (show ¬ (false = true) by decide)] at H; exact H
                      clear H
                      have H := H1
                      clear H1
                      by_cases c42 : (l0.length : Int) = 0
                      · rw [if_pos c42] at H
                        have c42b0 : ((l0.length : Int) == 0) = true := beq_iff_eq.mpr c42
                        have c42b1 : ((l0.length : Int) != 0) = false := bne_eq_false_iff_eq.mpr c42
                        clear c42
                        replace H := Option.bind_eq_some_iff.mp H
                        obtain ⟨t236, A430, H⟩ := H
                        replace H : (some t236) = some r := H
                        have A43 := Aside0.mk A430
                        clear A430
                        obtain rfl := Option.some.inj H
                        go_wp2_with (first | ((with_reducible refine gate_callee (f := 17) rfl ?_); refine goesL_ (some 75) rfl rfl Try.func17 (by kernel_rfl) rfl #[] rfl (by (try simp only [List.map_toArray, List.map_cons, List.map_nil]); first | done | rfl | (simp only [List.length_drop, List.length_take]; rfl)) ?_; (with_reducible refine (taluslaw02_lives.calls kj21  t236 _ A43.out).mono ?_); rintro e w44 ⟨rfl, hb⟩; refine ⟨_, rfl, ?_⟩; have n0_ := Aside0.mk (Kd.R_below (by (with_reducible repeat (first | apply Kd.R_alloc | apply Kd.R_drewN | apply Kd.R_drew)); exact HO_7.out) hb); have n1_ := Aside0.mk (Kd.C_below (by repeat (first | (with_reducible exact HR212.out) | (with_reducible refine Kd.C_alloc ?_ _) | (with_reducible refine Kd.C_drewN ?_ _) | (with_reducible refine Kd.C_drew ?_) | exact HR212.out)) hb); have n2_ := Aside0.mk (below_step (by repeat (first | (with_reducible first | exact HB.out | apply below_alloc | apply pw_below_drewN | apply below_drew1) | exact HB.out)) hb); clear HO_7; clear HR212; clear HB; have HO_7 := n0_; have HR212 := n1_; have HB := n2_; clear n0_ n1_ n2_; (try clear hb); (try clear hb2); (try clear hk); (try clear hi)))
                        go_ret
                        exact ⟨by first | rfl | (simp [errW_none, errW_some] <;> rfl) | (simp only [← hji15]; first | rfl | (simp [errW_none, errW_some] <;> rfl)) | (simp [*, errW_none, errW_some] <;> rfl), by repeat (first | (with_reducible first | exact HB.out | apply below_alloc | apply pw_below_drewN | apply below_drew1) | exact HB.out)⟩
                      · rw [if_neg c42] at H
                        have c42b0 : ((l0.length : Int) == 0) = false := beq_eq_false_iff_ne.mpr c42
                        have c42b1 : ((l0.length : Int) != 0) = true := bne_iff_ne.mpr c42
                        have c42b2 : ¬ (l0 = []) := fun h_ => c42 (by rw [h_]; rfl)
                        by_cases c45 : (IntKind.u64.wrap (wrap64 (8 * (l0.length : Int)))) = 0
                        · rw [if_pos c45] at H
                          exact absurd H (by simp)
                        · rw [if_neg c45] at H
                          have c45b0 : ((IntKind.u64.wrap (wrap64 (8 * (l0.length : Int)))) == 0) = false := beq_eq_false_iff_ne.mpr c45
                          have c45b1 : ((IntKind.u64.wrap (wrap64 (8 * (l0.length : Int)))) != 0) = true := bne_iff_ne.mpr c45
                          obtain ⟨ji46, hji46⟩ : ∃ j_ : Int, (IntKind.u64.wrap (4 + (IntKind.u64.wrap (Int.tdiv (Int.tmod a2 (IntKind.u64.wrap (wrap64 (8 * (l0.length : Int))))) 8)))) = j_ := ⟨_, rfl⟩
                          replace H : (if 0 ≤ (ji46) then (if (ji46) < (t205.length : Int) then (if 0 ≤ (Int.tmod (Int.tmod a2 (IntKind.u64.wrap (wrap64 (8 * (l0.length : Int))))) 8) then ((codec_Unframe.f kj21 (t205.set ((ji46) : Int).toNat (Go.bits .xor .u8 (rd t205 (ji46)) (shl .u8 1 (Int.tmod (Int.tmod a2 (IntKind.u64.wrap (wrap64 (8 * (l0.length : Int))))) 8))))).bind fun bt239 => (if bt239.2.2 = 8 then ((taluslaw02_lives.f kj21).bind fun t244 => (some t244)) else (some false))) else (none)) else (none)) else (none)) = some r := by first | (rw [hji46] at H; exact H) | (simp only [hji46] at H ⊢; exact H)
                          by_cases c47 : 0 ≤ (ji46)
                          · rw [if_pos c47] at H
                            have c47b0 : decide (0 ≤ (ji46)) = true := decide_eq_true c47
                            clear c47
                            by_cases c48 : (ji46) < (t205.length : Int)
                            · rw [if_pos c48] at H
                              have c48b0 : decide ((ji46) < (t205.length : Int)) = true := decide_eq_true c48
                              clear c48
                              obtain ⟨ji49, hji49⟩ : ∃ j_ : Int, (Int.tmod (Int.tmod a2 (IntKind.u64.wrap (wrap64 (8 * (l0.length : Int))))) 8) = j_ := ⟨_, rfl⟩
                              replace H : (if 0 ≤ (ji49) then ((codec_Unframe.f kj21 (t205.set ((ji46) : Int).toNat (Go.bits .xor .u8 (rd t205 (ji46)) (shl .u8 1 (ji49))))).bind fun bt239 => (if bt239.2.2 = 8 then ((taluslaw02_lives.f kj21).bind fun t244 => (some t244)) else (some false))) else (none)) = some r := by first | (rw [hji49] at H; exact H) | (simp only [hji49] at H ⊢; exact H)
                              by_cases c50 : 0 ≤ (ji49)
                              · rw [if_pos c50] at H
                                have c50b0 := eq_true c50
                                have c50b1 : decide (0 ≤ (ji49)) = true := decide_eq_true c50
                                clear c50
                                obtain ⟨ji51, hji51⟩ : ∃ j_ : Int, (shl .u8 1 (ji49)) = j_ := ⟨_, rfl⟩
                                replace H : ((codec_Unframe.f kj21 (t205.set ((ji46) : Int).toNat (Go.bits .xor .u8 (rd t205 (ji46)) (ji51)))).bind fun bt239 => (if bt239.2.2 = 8 then ((taluslaw02_lives.f kj21).bind fun t244 => (some t244)) else (some false))) = some r := by first | (rw [hji51] at H; exact H) | (simp only [hji51] at H ⊢; exact H)
                                have hji51_ : (IntKind.u8.wrap (1 * 2 ^ min (ji49).toNat 8)) = ji51 := hji51
                                have hji51z : (ji49) ≤ 8 → (IntKind.u8.wrap (1 * 2 ^ (ji49).toNat)) = ji51 := shl_small hji51
                                have hji51u : (IntKind.u8.wrap (2 ^ min (ji49).toNat 8)) = ji51 := by have h_ := hji51_; rw [Int.one_mul] at h_; exact h_
                                have hji51v : (ji49) ≤ 8 → (IntKind.u8.wrap (2 ^ (ji49).toNat)) = ji51 := fun hle_ => by have h_ := hji51z hle_; rw [Int.one_mul] at h_; exact h_
                                have hji51y : ((1 * 2 ^ min (ji49).toNat 8) % 256) = ji51 := (IntKind.wrap_u8 _).symm.trans hji51_
                                have hji51x : (ji49) ≤ 8 → ((1 * 2 ^ (ji49).toNat) % 256) = ji51 := fun h_ => (IntKind.wrap_u8 _).symm.trans (hji51z h_)
                                obtain ⟨y238, hy238⟩ : ∃ y_ : List Int, y_ = (t205.set ((ji46) : Int).toNat (Go.bits .xor .u8 (rd t205 (ji46)) (ji51))) := ⟨_, rfl⟩
                                replace H : ((codec_Unframe.f kj21 y238).bind fun bt239 => (if bt239.2.2 = 8 then ((taluslaw02_lives.f kj21).bind fun t244 => (some t244)) else (some false))) = some r := by first | (rw [hy238]; with_reducible exact H) | (have H2_ := (Option.bind_some _ _).symm.trans H; rw [hy238]; with_reducible exact H2_) | (have H2_ := (Option.bind_some _ _).symm.trans H; with_reducible exact H2_) | with_reducible exact H | (rw [hy238]; exact H) | exact H
                                have Ny238 := Aside0.mk hy238
                                clear hy238
                                replace H := Option.bind_eq_some_iff.mp H
                                obtain ⟨⟨t239, t240, t241⟩, A530, H⟩ := H
                                replace H : (if t241 = 8 then ((taluslaw02_lives.f kj21).bind fun t244 => (some t244)) else (some false)) = some r := H
                                have A53 := Aside0.mk A530
                                clear A530
                                by_cases c54 : t241 = 8
                                · rw [if_pos c54] at H
                                  have c54b0 : (t241 == 8) = true := beq_iff_eq.mpr c54
                                  have c54b1 : (t241 != 8) = false := bne_eq_false_iff_eq.mpr c54
                                  clear c54
                                  replace H := Option.bind_eq_some_iff.mp H
                                  obtain ⟨t244, A550, H⟩ := H
                                  replace H : (some t244) = some r := H
                                  have A55 := Aside0.mk A550
                                  clear A550
                                  obtain rfl := Option.some.inj H
                                  have p237 : 0 ≤ ((ji46) : Int) := of_decide_eq_true (by first | (with_reducible assumption) | assumption)
                                  have q237 : (ji46) < (t205.length : Int) := of_decide_eq_true (by first | (with_reducible assumption) | assumption)
                                  obtain ⟨ad237, e237, hx237_0⟩ := Kd.at_int (Kd.R_reads' HO_7.out).2.2 (ji46) p237 q237
                                  cases e237
                                  replace p237 := eq_true p237
                                  replace q237 := eq_true q237
                                  have p52 : 0 ≤ ((ji46) : Int) := of_decide_eq_true (by first | (with_reducible assumption) | assumption)
                                  have q52 : ((ji46) : Int) < ((t205.length : Int) : Int) := of_decide_eq_true (by first | (with_reducible assumption) | assumption)
                                  obtain ⟨go52, co52, eo52, gb52, gl52, cl52, HG52⟩ := Kd.R_form HO_7.out (by omega)
                                  (first | cases eo52 | (injection eo52 with ea_ en_ ec_; (first | subst ea_ | (injection ea_ with ea_; subst ea_)); subst ec_; clear en_))
                                  have GB52 := Aside0.mk gb52
                                  have GG52 := Aside0.mk HG52
                                  clear gb52 gl52 HG52
                                  (first | simp only [add_plain] at hx237_0 | skip)
                                  obtain ⟨hx52_0, hf52_0⟩ := Kd.R_celln 0 HO_7.out ((ji46) : Int) p52 q52
                                  replace p52 := eq_true p52
                                  replace q52 := eq_true q52
                                  have HP56 := Kd.R_putg HO_7.out ((ji46) : Int) (Go.bits .xor .u8 (rd t205 (ji46)) (ji51))
                                  go_wp2_with (first | ((with_reducible refine gate_store (t := 5) (p := 92) rfl ?_); refine store_event (t := 5) (p := 92) (v := ?vo_w57) (w1 := (wc.setCell ⟨go52, ((ji46) : Int).toNat, none⟩ (.int .u8 (Go.bits .xor .u8 (rd t205 (ji46)) (ji51))))) ?hg ?ho ?hn ?hr ?_; (case ho => rfl); (case hg => rfl); (case hn => rfl); (case hr => first | (go_simp; done) | (go_simp; rfl)); intro w57 hw; have hg : wc.grownBy w57 (some go52) := (by rw [hw]; exact HP56.2); have hp_ : Kd.R (Kd.int .u8) 5 w57 w.heap.size (fun _ => True) (.slice (some ⟨go52, 0, none⟩) t205.length co24) y238 := (by rw [hw, Ny238.out]; exact HP56.1); clear HP56; have n0_ := Aside0.mk (hp_); have n1_ := Aside0.mk ((by rw [hw]; exact below_set (HB.out) GB52.out : Below w.heap.size w w57)); clear HO_7; clear HB; have HO_7 := n0_; have HB := n1_; clear n0_ n1_; clear hg hw hp_) | ((with_reducible refine gate_callee (f := 28) rfl ?_); refine goesL_ (some 95) rfl rfl Try.func28 (by kernel_rfl) rfl #[.slice (some ⟨go52, 0, none⟩) y238.length co24] rfl (by (try simp only [List.map_toArray, List.map_cons, List.map_nil]); first | done | (rw [show y238.length = t205.length from (Kd.R_reads' HO_7.out).1.symm] <;> rfl) | rfl | (simp only [List.length_drop, List.length_take]; rfl)) ?_; (with_reducible refine (codec_Unframe.calls kj21 _ _ y238 t239 t240 t241 _ ?side1 ?side2 A53.out).mono ?_); (case side1 => repeat (first | exact (Kd.R_reads' HO_7.out).2.2 | (with_reducible refine Kd.C_alloc ?_ _) | (with_reducible refine Kd.C_drewN ?_ _) | (with_reducible refine Kd.C_drew ?_))); (case side2 => rw [show y238.length = t205.length from (Kd.R_reads' HO_7.out).1.symm]; exact (Kd.R_reads' HO_7.out).2.1); rintro e w58 ⟨v242, rfl, ho0, hb⟩; refine ⟨_, rfl, ?_⟩; have n0_ := Aside0.mk (Kd.R_elder' (by (with_reducible repeat (first | apply Kd.R_alloc | apply Kd.R_drewN | apply Kd.R_drew)); exact HO_7.out) (Kd.R_base ho0) hb); have n1_ := Aside0.mk (Kd.R_lower (Kd.R_new' ho0 (Kd.R_lt (by (with_reducible repeat (first | apply Kd.R_alloc | apply Kd.R_drewN | apply Kd.R_drew)); exact HO_7.out))) (below_size (by repeat (first | (with_reducible first | exact HB.out | apply below_alloc | apply pw_below_drewN | apply below_drew1) | exact HB.out)))); have n2_ := Aside0.mk (below_step (by repeat (first | (with_reducible first | exact HB.out | apply below_alloc | apply pw_below_drewN | apply below_drew1) | exact HB.out)) hb); clear HO_7; clear HB; have HO_7 := n0_; have HO243 := n1_; have HB := n2_; clear n0_ n1_ n2_; (try clear hb); (try clear hb2); (try clear hk); (try clear hi); (try clear ho0)) | (go_at_call 17; (with_reducible refine (taluslaw02_lives.calls kj21  t244 _ A55.out).mono ?_); rintro e w59 ⟨rfl, hb⟩; have n0_ := Aside0.mk (Kd.R_below (by (with_reducible repeat (first | apply Kd.R_alloc | apply Kd.R_drewN | apply Kd.R_drew)); exact HO_7.out) hb); have n1_ := Aside0.mk (Kd.R_below (by (with_reducible repeat (first | apply Kd.R_alloc | apply Kd.R_drewN | apply Kd.R_drew)); exact HO243.out) hb); have n2_ := Aside0.mk (below_step (by repeat (first | (with_reducible first | exact HB.out | apply below_alloc | apply pw_below_drewN | apply below_drew1) | exact HB.out)) hb); clear HO_7; clear HO243; clear HB; have HO_7 := n0_; have HO243 := n1_; have HB := n2_; clear n0_ n1_ n2_; (try clear hb); (try clear hb2); (try clear hk); (try clear hi)))
                                  go_ret
                                  exact ⟨by first | rfl | (simp [errW_none, errW_some] <;> rfl) | (simp only [← hji15, ← hji46, ← hji49, ← hji51]; first | rfl | (simp [errW_none, errW_some] <;> rfl)) | (simp [*, errW_none, errW_some] <;> rfl), by repeat (first | (with_reducible first | exact HB.out | apply below_alloc | apply pw_below_drewN | apply below_drew1) | exact HB.out)⟩
                                · rw [if_neg c54] at H
                                  have c54b0 : (t241 == 8) = false := beq_eq_false_iff_ne.mpr c54
                                  have c54b1 : (t241 != 8) = true := bne_iff_ne.mpr c54
                                  obtain rfl := Option.some.inj H
                                  have p237 : 0 ≤ ((ji46) : Int) := of_decide_eq_true (by first | (with_reducible assumption) | assumption)
                                  have q237 : (ji46) < (t205.length : Int) := of_decide_eq_true (by first | (with_reducible assumption) | assumption)
                                  obtain ⟨ad237, e237, hx237_0⟩ := Kd.at_int (Kd.R_reads' HO_7.out).2.2 (ji46) p237 q237
                                  cases e237
                                  replace p237 := eq_true p237
                                  replace q237 := eq_true q237
                                  have p52 : 0 ≤ ((ji46) : Int) := of_decide_eq_true (by first | (with_reducible assumption) | assumption)
                                  have q52 : ((ji46) : Int) < ((t205.length : Int) : Int) := of_decide_eq_true (by first | (with_reducible assumption) | assumption)
                                  obtain ⟨go52, co52, eo52, gb52, gl52, cl52, HG52⟩ := Kd.R_form HO_7.out (by omega)
                                  (first | cases eo52 | (injection eo52 with ea_ en_ ec_; (first | subst ea_ | (injection ea_ with ea_; subst ea_)); subst ec_; clear en_))
                                  have GB52 := Aside0.mk gb52
                                  have GG52 := Aside0.mk HG52
                                  clear gb52 gl52 HG52
                                  (first | simp only [add_plain] at hx237_0 | skip)
                                  obtain ⟨hx52_0, hf52_0⟩ := Kd.R_celln 0 HO_7.out ((ji46) : Int) p52 q52
                                  replace p52 := eq_true p52
                                  replace q52 := eq_true q52
                                  have HP60 := Kd.R_putg HO_7.out ((ji46) : Int) (Go.bits .xor .u8 (rd t205 (ji46)) (ji51))
                                  go_wp2_with (first | ((with_reducible refine gate_store (t := 5) (p := 92) rfl ?_); refine store_event (t := 5) (p := 92) (v := ?vo_w61) (w1 := (wc.setCell ⟨go52, ((ji46) : Int).toNat, none⟩ (.int .u8 (Go.bits .xor .u8 (rd t205 (ji46)) (ji51))))) ?hg ?ho ?hn ?hr ?_; (case ho => rfl); (case hg => rfl); (case hn => rfl); (case hr => first | (go_simp; done) | (go_simp; rfl)); intro w61 hw; have hg : wc.grownBy w61 (some go52) := (by rw [hw]; exact HP60.2); have hp_ : Kd.R (Kd.int .u8) 5 w61 w.heap.size (fun _ => True) (.slice (some ⟨go52, 0, none⟩) t205.length co24) y238 := (by rw [hw, Ny238.out]; exact HP60.1); clear HP60; have n0_ := Aside0.mk (hp_); have n1_ := Aside0.mk ((by rw [hw]; exact below_set (HB.out) GB52.out : Below w.heap.size w w61)); clear HO_7; clear HB; have HO_7 := n0_; have HB := n1_; clear n0_ n1_; clear hg hw hp_) | ((with_reducible refine gate_callee (f := 28) rfl ?_); refine goesL_ (some 95) rfl rfl Try.func28 (by kernel_rfl) rfl #[.slice (some ⟨go52, 0, none⟩) y238.length co24] rfl (by (try simp only [List.map_toArray, List.map_cons, List.map_nil]); first | done | (rw [show y238.length = t205.length from (Kd.R_reads' HO_7.out).1.symm] <;> rfl) | rfl | (simp only [List.length_drop, List.length_take]; rfl)) ?_; (with_reducible refine (codec_Unframe.calls kj21 _ _ y238 t239 t240 t241 _ ?side1 ?side2 A53.out).mono ?_); (case side1 => repeat (first | exact (Kd.R_reads' HO_7.out).2.2 | (with_reducible refine Kd.C_alloc ?_ _) | (with_reducible refine Kd.C_drewN ?_ _) | (with_reducible refine Kd.C_drew ?_))); (case side2 => rw [show y238.length = t205.length from (Kd.R_reads' HO_7.out).1.symm]; exact (Kd.R_reads' HO_7.out).2.1); rintro e w62 ⟨v242, rfl, ho0, hb⟩; refine ⟨_, rfl, ?_⟩; have n0_ := Aside0.mk (Kd.R_elder' (by (with_reducible repeat (first | apply Kd.R_alloc | apply Kd.R_drewN | apply Kd.R_drew)); exact HO_7.out) (Kd.R_base ho0) hb); have n1_ := Aside0.mk (Kd.R_lower (Kd.R_new' ho0 (Kd.R_lt (by (with_reducible repeat (first | apply Kd.R_alloc | apply Kd.R_drewN | apply Kd.R_drew)); exact HO_7.out))) (below_size (by repeat (first | (with_reducible first | exact HB.out | apply below_alloc | apply pw_below_drewN | apply below_drew1) | exact HB.out)))); have n2_ := Aside0.mk (below_step (by repeat (first | (with_reducible first | exact HB.out | apply below_alloc | apply pw_below_drewN | apply below_drew1) | exact HB.out)) hb); clear HO_7; clear HB; have HO_7 := n0_; have HO243 := n1_; have HB := n2_; clear n0_ n1_ n2_; (try clear hb); (try clear hb2); (try clear hk); (try clear hi); (try clear ho0)))
                                  go_ret
                                  exact ⟨by first | rfl | (simp [errW_none, errW_some] <;> rfl) | (simp only [← hji15, ← hji46, ← hji49, ← hji51]; first | rfl | (simp [errW_none, errW_some] <;> rfl)) | (simp [*, errW_none, errW_some] <;> rfl), by repeat (first | (with_reducible first | exact HB.out | apply below_alloc | apply pw_below_drewN | apply below_drew1) | exact HB.out)⟩
                              · rw [if_neg c50] at H
                                exact absurd H (by simp)
                            · rw [if_neg c48] at H
                              exact absurd H (by simp)
                          · rw [if_neg c47] at H
                            exact absurd H (by simp)
              · rw [if_neg c20] at H
                exact absurd H (by simp)
            · rw [if_neg c19] at H
              exact absurd H (by simp)
          · rw [if_neg c17] at H
            exact absurd H (by simp)
        · rw [if_neg c16] at H
          exact absurd H (by simp)
    · rw [if_neg c13] at H
      have c13b0 : ((t205.length : Int) == (wrap64 ((l0.length : Int) + 8))) = false := beq_eq_false_iff_ne.mpr c13
      have c13b1 : ((t205.length : Int) != (wrap64 ((l0.length : Int) + 8))) = true := bne_iff_ne.mpr c13
      obtain rfl := Option.some.inj H
      go_enter Try.func5, Try.ntmps5
      go_wp2_with (first | ((with_reducible refine gate_callee (f := 27) rfl ?_); refine goesL_ (some 16) rfl rfl Try.func27 (by kernel_rfl) rfl #[.slice A0 l0.length c0] rfl (by (try simp only [List.map_toArray, List.map_cons, List.map_nil]); first | done | rfl | (simp only [List.length_drop, List.length_take]; rfl)) ?_; (with_reducible refine (codec_Frame.calls k _ _ l0 t205 _ ?side1 ?side2 A4.out).mono ?_); (case side1 => repeat (first | exact HR0.out | (with_reducible refine Kd.C_alloc ?_ _) | (with_reducible refine Kd.C_drewN ?_ _) | (with_reducible refine Kd.C_drew ?_))); (case side2 => exact HC0.out); rintro e w63 ⟨v206, rfl, ho0, hb⟩; refine ⟨_, rfl, ?_⟩; have n0_ := Aside0.mk (Kd.R_lower ho0 (below_size (by repeat (first | (with_reducible first | exact HB.out | apply below_alloc | apply pw_below_drewN | apply below_drew1) | exact HB.out)))); have n1_ := Aside0.mk (below_step (by repeat (first | (with_reducible first | exact HB.out | apply below_alloc | apply pw_below_drewN | apply below_drew1) | exact HB.out)) hb); clear HB; have HO207 := n0_; have HB := n1_; clear n0_ n1_; (try clear hb); (try clear hb2); (try clear hk); (try clear hi); (try clear ho0); obtain ⟨Ao64, co64, eo64⟩ := Kd.R_slice HO207.out; subst eo64))
      go_ret
      exact ⟨by first | rfl | (simp [errW_none, errW_some] <;> rfl) | (simp [*, errW_none, errW_some] <;> rfl), by repeat (first | (with_reducible first | exact HB.out | apply below_alloc | apply pw_below_drewN | apply below_drew1) | exact HB.out)⟩

/-- THE ONE PURE STATEMENT of taluslaw02_CodecTells: yours. -/
def taluslaw02_CodecTells.Pure : Prop := ∀ (l0 : List Int) (a1 : Int) (a2 : Int), l0.length ≤ maxLen → l0.length * 1 ≤ 140737488351232 → (∀ x ∈ l0, (Lit.int .u8 x).wf = true) → (Lit.int .u64 a1).wf = true → (Lit.int .u64 a2).wf = true → ∃ k, taluslaw02_CodecTells.f k l0 a1 a2 = some true
theorem taluslaw02_CodecTells.walk (P : taluslaw02_CodecTells.Pure) (a0 : Option Addr) (len0 cap0 : Nat) (z0 : List Int) (a1 : Int) (a2 : Int) (w : World) (w0 : (a0 = none ∧ len0 = 0 ∧ cap0 = 0 ∧ z0 = []) ∨ ∃ x, a0 = some x ∧ len0 ≤ cap0 ∧ cap0 ≤ maxLen ∧ z0.length = cap0 ∧ (∀ i, i < z0.length → w.cell? (x.add i) = some (.int .u8 (z0.getD i 0))) ∧ ∀ n ∈ z0, (Lit.int .u8 n).wf = true) (y0 : len0 * 1 ≤ 140737488351232) (w1 : (Lit.int .u64 a1).wf = true) (w2 : (Lit.int .u64 a2).wf = true) :
    Calls Try.prog 5 #[.slice a0 len0 cap0, .int .u64 a1, .int .u64 a2] w fun e w' => e = .returned (.bool true) ∧ Below w.heap.size w w' := by
  obtain ⟨l0, rfl, hr0, hm0, hw0, hc0⟩ := ReadsInt.ofRowC w0
  obtain ⟨k, h⟩ := P l0 a1 a2 hm0 y0 hw0 w1 w2
  refine (taluslaw02_CodecTells.calls k _ _ l0 a1 a2 true w (Kd.C_of_reads (d := (0 : Int)) (h1 := fun _ => rfl) hr0) hc0 h).mono ?_
  rintro e w' ⟨rfl, hd⟩
  exact ⟨rfl, hd⟩

end Go.Proofs.Ytkmhknfdoofieaa.PCodecTells
