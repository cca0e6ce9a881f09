/- The law SchemaRight: whatever the input, it answers true, and the input reads as it did. -/
import Derived.Test.YtdehjgpdcdjhjaaDoorRows
import Derived.Test.YtdehjgpdcdjhjaaDoorYsw
import Derived.Test.YtdehjgpdcdjhjaaDoorKz
import Derived.Test.YtdehjgpdcdjhjaaDoorMj
import Derived.WalkKit
import Derived.ProofKit
import Derived.OpenShut
import Derived.ShutString
import Derived.ChangeOld
import Derived.Below
import Derived.SizedLaws
import Derived.Test.YtdehjgpdcdjhjaaDoorTie
import Derived.Test.YtdehjgpdcdjhjaaDoorCards
import Derived.LaidMore
import Derived.Lay
import Derived.SevenTiedAt
import Derived.MakeChecks
namespace Go.Proofs.YtdehjgpdcdjhjaaDoor.schemaRight
open Go.ChangeShapes Go.WideShapes Go.ChangeAt Go.RowKit Go.Proofs.YtdehjgpdcdjhjaaDoor.K
open Go.ChangeMaps (open_string shut_string)
set_option linter.unusedVariables false
set_option linter.unusedSimpArgs false
theorem laidOut : laidOutB Tryd.prog = true := by kernel_rfl
theorem own : ownKnob Tryd.prog.godebug = none := by kernel_rfl
set_option maxRecDepth 100000 in
theorem lifted (os : Os) (started : os.Started) (H : Type) (enc : TypeId × Value → H) :
    ReturnsInHanded {} Tryd.checked os 6 .any (fun w args => (Rows.schemaRightSpec.pre enc Tryd.prog Tryd.f6 Rows.schemaRightRow.domain false w args ∧ laidMetH Tryd.prog Rows.schemaRightRow.laid w) ∧ sizedMet enc Tryd.prog Tryd.f6 (OpenSpec.ofChange Rows.schemaRightSpec) false w args)
      (Rows.schemaRightSpec.post enc Tryd.prog Tryd.f6 false true false false) := by
  refine returnsInHanded_of_change_and (C := Tryd.checked) (X := fun w _ => laidMetH Tryd.prog Rows.schemaRightRow.laid w) (fun _ _ _ hh h => h.of_heap hh) own started (by kernel_rfl) Tryd.func6
    (ChangeSpec.witness_shaped (enc := enc) (C := Tryd.checked) (os := os) (X := fun w _ => laidMetH Tryd.prog Rows.schemaRightRow.laid w) false (World.laidAll Tryd.prog os Rows.schemaRightRow.laid) #[.agg #[.string .empty, .slice none 0 0], .agg #[.string .empty, .string .empty, .slice none 0 0, .slice none 0 0]] 8 (World.laidAll_os _ _ _)
      (World.shaped_of_ZipB (by kernel_rfl) (by kernel_rfl)) (by kernel_rfl) (by kernel_rfl) (by kernel_rfl)
      (by rw [MakeChecks.laidMetH_plain _ _ _ (by kernel_rfl)]; exact laidMet_laidAll _ (by kernel_rfl) (by kernel_rfl))) ?_
  intro W base args ds gs before hval0 hW hcnd hsz0 hL _
  have hsz : (DataW.weightsEach Tryd.prog (Tryd.f6.params.toList ++ Rows.schemaRightSpec.plain.varTypes Tryd.prog) (ds ++ gs)).all (· ≤ reachBytes) = true := hsz0
  have hval : ∀ (j : Nat) t v, Tryd.f6.params[j]? = some t → args[j]? = some v → Value.okWide Tryd.prog W .any base t v := hval0
  have hW' := hW
  obtain ⟨p, q, hA0, hV, rfl, hfz, hnd⟩ := hW
  have hA : DataW.TrodAll enc Tryd.prog W 0 (fun _ => true) true Tryd.f6.params.toList args.toList ds p := hA0
  rw [Tryd.params6] at hA hval hsz
  obtain ⟨v0, vs0, d0, ds0, p0, q0, hargs, rfl, rfl, h0, r0⟩ := trodAll_cons hA
  obtain ⟨v1, vs1, d1, ds1, p1, q1, rfl, rfl, rfl, h1, r1⟩ := trodAll_cons r0
  obtain ⟨rfl, rfl, rfl⟩ := trodAll_nil r1
  obtain rfl : args = #[v0, v1] := by cases args; simp_all
  obtain ⟨rfl, rfl⟩ := trodVars_none hV
  have k0 := h0
  have lt0 : ∀ x ∈ p0, x.block < W.heap.size := by obtain ⟨m, hm⟩ := k0; exact DataW.trod_lt m _ _ _ hm
  obtain ⟨x0, rfl, z0⟩ := okWide_struct Tryd.underlying26 (hval 0 26 v0 rfl rfl)
  obtain ⟨fuel0, hf0⟩ := h0
  obtain ⟨⟨u1, ⟨A3, c4, l5⟩, _⟩, e0, ⟨g2, ⟨g6, g7, g8, g9⟩, _⟩⟩ := (opens_struct Tryd.underlying26 (opensF_cons rfl (opens_str Tryd.underlying9 (by kernel_rfl)) (opensF_cons rfl (opens_slice Tryd.underlying24 (by kernel_rfl) (opens_struct Tryd.underlying41 (opensF_cons rfl (opens_str Tryd.underlying9 (by kernel_rfl)) (opensF_cons rfl (opens_i64 Tryd.underlying3 (by kernel_rfl)) opensF_nil)))) opensF_nil))).opn hf0
  obtain rfl : x0 = (_ : List Value).toArray := Array.toList_inj.1 e0
  have y0_1 := sized_field hsz (j := 0) (k := 1) rfl rfl Tryd.underlying26 rfl Tryd.underlying24 (by kernel_rfl : Tryd.prog.bytesOf 41 = 24) hf0 rfl
  have k1 := h1
  have lt1 : ∀ x ∈ p1, x.block < W.heap.size := by obtain ⟨m, hm⟩ := k1; exact DataW.trod_lt m _ _ _ hm
  obtain ⟨x1, rfl, z1⟩ := okWide_struct Tryd.underlying30 (hval 1 30 v1 rfl rfl)
  obtain ⟨fuel1, hf1⟩ := h1
  obtain ⟨⟨u10, u12, ⟨A14, c15, l16⟩, ⟨A21, c22, l23⟩, _⟩, e1, ⟨g11, g13, ⟨g17, g18, g19, g20⟩, ⟨g24, g25, g26, g27⟩, _⟩⟩ := (opens_struct Tryd.underlying30 (opensF_cons rfl (opens_str Tryd.underlying9 (by kernel_rfl)) (opensF_cons rfl (opens_str Tryd.underlying9 (by kernel_rfl)) (opensF_cons rfl (opens_texts Tryd.underlying27 (by kernel_rfl) Tryd.underlying9 (by kernel_rfl)) (opensF_cons rfl (opens_slice Tryd.underlying28 (by kernel_rfl) (opens_struct Tryd.underlying43 (opensF_cons rfl (opens_i64 Tryd.underlying3 (by kernel_rfl)) (opensF_cons rfl (opens_str Tryd.underlying9 (by kernel_rfl)) opensF_nil)))) opensF_nil))))).opn hf1
  obtain rfl : x1 = (_ : List Value).toArray := Array.toList_inj.1 e1
  clear hA0 hval0 hsz0 hsz
  refine (FnV.below (law_SchemaRight u1 A3 c4 l5 u10 u12 A14 c15 l16 A21 c22 l23 W g2 g6 g7 g8 g9 (by have := y0_1; exact this) g11 g13 g17 g18 g19 g20 g24 g25 g26 g27)).mono fun e W' ⟨he, bel⟩ => ?_
  subst he
  exact ⟨_, rfl, _, _, _, [], _, [], hW', trodAll_mk1 (shut_bool Tryd.underlying4 _), (trodAll_cons_mk (Below.trod laidOut (by kernel_rfl) (of_decide_eq_true (by kernel_rfl)) k0 bel lt0) (trodAll_cons_mk (Below.trod laidOut (by kernel_rfl) (of_decide_eq_true (by kernel_rfl)) k1 bel lt1) trodAll_mk0)), rfl, bel.frame _, fun h => by cases h⟩
theorem over : Rows.SchemaRightSaid :=
  OpenClaim.holds_of_wide 6 Tryd.f6 rfl rfl rfl rfl rfl rfl rfl ⟨rfl, rfl, rfl, rfl, rfl⟩ rfl rfl rfl rfl rfl (by kernel_rfl) Tryd.func6 (by kernel_rfl)
    (of_decide_eq_true (by kernel_rfl)) (by unfold Func.isWrapper; first | (rw [if_pos (by decide +kernel)]; kernel_rfl) | (rw [if_neg (by decide +kernel)]; exact ⟨rfl, rfl⟩))
    (fun os started H enc _ => lifted os started H enc)
theorem proved : Rows.SchemaRightCardSaid :=
  Claim7.holds_tied_plain_at .later [] [.data, .pinned] true (true, "ae9d99a6e7c5c46d31f7c8e9ee50556ce5bf8abe91aac04f962477cbc696ef97") false over (fun _ h => by cases h) (by kernel_rfl) (fun _ h => by cases h) schemaRight_row_tie rfl ⟨rfl, rfl⟩ (by kernel_rfl) rfl
    (fun f fn hf hfn => by
      obtain rfl : f = 6 := Option.some.inj ((show Tryd.prog.funcNamed "talus/taluslaw14.SchemaRight" = some 6 by kernel_rfl).symm.trans hf) |>.symm
      obtain rfl : fn = Tryd.f6 := (Option.some.inj (Tryd.func6.symm.trans hfn)).symm
      exact ⟨by kernel_rfl, fun j t ht => by
        rw [Tryd.params6] at ht
        have hm : t ∈ [26, 30] := by simpa using Array.mem_of_getElem? ht
        have hall : ([26, 30].all fun u => !Tryd.prog.wantsStandIn u) = true := by kernel_rfl
        exact (show Tryd.prog.wantsStandIn t = false by simpa using List.all_eq_true.1 hall t hm)⟩)
    (by kernel_rfl)
#print axioms proved
end Go.Proofs.YtdehjgpdcdjhjaaDoor.schemaRight
namespace Go.Proofs.YtdehjgpdcdjhjaaDoor
/-- The tied card, under a short name, for the claim. -/
theorem schemaRight_holds : Rows.SchemaRightCardSaid := schemaRight.proved
end Go.Proofs.YtdehjgpdcdjhjaaDoor
