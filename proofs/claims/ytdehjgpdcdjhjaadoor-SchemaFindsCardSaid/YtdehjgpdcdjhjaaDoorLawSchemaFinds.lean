/- The law SchemaFinds: whatever the input, it answers true, and the input reads as it did. -/
import Derived.Test.YtdehjgpdcdjhjaaDoorRows
import Derived.Test.YtdehjgpdcdjhjaaDoorYsv
import Derived.Test.YtdehjgpdcdjhjaaDoorKz
import Derived.WalkKit
import Derived.ProofKit
import Derived.OpenShut
import Derived.ShutString
import Derived.ChangeOld
import Derived.Below
import Derived.SizedLaws
import Derived.Test.YtdehjgpdcdjhjaaDoorTie
import Derived.Test.YtdehjgpdcdjhjaaDoorCards
import Derived.LaidMore
import Derived.Lay
import Derived.SevenTiedAt
import Derived.MakeChecks
namespace Go.Proofs.YtdehjgpdcdjhjaaDoor.schemaFinds
open Go.ChangeShapes Go.WideShapes Go.ChangeAt Go.RowKit Go.Proofs.YtdehjgpdcdjhjaaDoor.K
open Go.ChangeMaps (open_string shut_string)
set_option linter.unusedVariables false
set_option linter.unusedSimpArgs false
theorem laidOut : laidOutB Tryd.prog = true := by kernel_rfl
theorem own : ownKnob Tryd.prog.godebug = none := by kernel_rfl
set_option maxRecDepth 100000 in
theorem lifted (os : Os) (started : os.Started) (H : Type) (enc : TypeId × Value → H) :
    ReturnsInHanded {} Tryd.checked os 7 .any (fun w args => (Rows.schemaFindsSpec.pre enc Tryd.prog Tryd.f7 Rows.schemaFindsRow.domain false w args ∧ laidMetH Tryd.prog Rows.schemaFindsRow.laid w) ∧ sizedMet enc Tryd.prog Tryd.f7 (OpenSpec.ofChange Rows.schemaFindsSpec) false w args)
      (Rows.schemaFindsSpec.post enc Tryd.prog Tryd.f7 false true false false) := by
  refine returnsInHanded_of_change_and (C := Tryd.checked) (X := fun w _ => laidMetH Tryd.prog Rows.schemaFindsRow.laid w) (fun _ _ _ hh h => h.of_heap hh) own started (by kernel_rfl) Tryd.func7
    (ChangeSpec.witness_shaped (enc := enc) (C := Tryd.checked) (os := os) (X := fun w _ => laidMetH Tryd.prog Rows.schemaFindsRow.laid w) false (World.laidAll Tryd.prog os Rows.schemaFindsRow.laid) #[.slice none 0 0, .string .empty, .agg #[.string .empty, .string .empty, .slice none 0 0, .slice none 0 0, .int .i64 0, .string .empty]] 8 (World.laidAll_os _ _ _)
      (World.shaped_of_ZipB (by kernel_rfl) (by kernel_rfl)) (by kernel_rfl) (by kernel_rfl) (by kernel_rfl)
      (by rw [MakeChecks.laidMetH_plain _ _ _ (by kernel_rfl)]; exact laidMet_laidAll _ (by kernel_rfl) (by kernel_rfl))) ?_
  intro W base args ds gs before hval0 hW hcnd hsz0 hL _
  have hsz : (DataW.weightsEach Tryd.prog (Tryd.f7.params.toList ++ Rows.schemaFindsSpec.plain.varTypes Tryd.prog) (ds ++ gs)).all (· ≤ reachBytes) = true := hsz0
  have hval : ∀ (j : Nat) t v, Tryd.f7.params[j]? = some t → args[j]? = some v → Value.okWide Tryd.prog W .any base t v := hval0
  have hW' := hW
  obtain ⟨p, q, hA0, hV, rfl, hfz, hnd⟩ := hW
  have hA : DataW.TrodAll enc Tryd.prog W 0 (fun _ => true) true Tryd.f7.params.toList args.toList ds p := hA0
  rw [Tryd.params7] at hA hval hsz
  obtain ⟨v0, vs0, d0, ds0, p0, q0, hargs, rfl, rfl, h0, r0⟩ := trodAll_cons hA
  obtain ⟨v1, vs1, d1, ds1, p1, q1, rfl, rfl, rfl, h1, r1⟩ := trodAll_cons r0
  obtain ⟨v2, vs2, d2, ds2, p2, q2, rfl, rfl, rfl, h2, r2⟩ := trodAll_cons r1
  obtain ⟨rfl, rfl, rfl⟩ := trodAll_nil r2
  obtain rfl : args = #[v0, v1, v2] := by cases args; simp_all
  obtain ⟨rfl, rfl⟩ := trodVars_none hV
  have k0 := h0
  have lt0 : ∀ x ∈ p0, x.block < W.heap.size := by obtain ⟨m, hm⟩ := k0; exact DataW.trod_lt m _ _ _ hm
  obtain ⟨b0, len0, cap0, rfl⟩ := okWide_slice Tryd.underlying46 (hval 0 46 v0 rfl rfl)
  obtain ⟨fuel0, hf0⟩ := h0
  obtain ⟨⟨A1, c2, l3⟩, e0, ⟨g4, g5, g6, g7⟩⟩ := (opens_slice Tryd.underlying46 (by kernel_rfl) (opens_struct Tryd.underlying26 (opensF_cons rfl (opens_str Tryd.underlying9 (by kernel_rfl)) (opensF_cons rfl (opens_slice Tryd.underlying24 (by kernel_rfl) (opens_struct Tryd.underlying41 (opensF_cons rfl (opens_str Tryd.underlying9 (by kernel_rfl)) (opensF_cons rfl (opens_i64 Tryd.underlying3 (by kernel_rfl)) opensF_nil)))) opensF_nil)))).opn hf0
  simp only [Value.cells, List.cons.injEq, and_true] at e0
  obtain ⟨rfl, rfl, rfl⟩ : b0 = A1 ∧ len0 = l3.length ∧ cap0 = c2 := by simpa using e0
  obtain ⟨a1, rfl, rfl, rfl, w1⟩ := open_string Tryd.underlying9 (hval 1 9 v1 rfl rfl) h1
  have k2 := h2
  have lt2 : ∀ x ∈ p2, x.block < W.heap.size := by obtain ⟨m, hm⟩ := k2; exact DataW.trod_lt m _ _ _ hm
  obtain ⟨x2, rfl, z2⟩ := okWide_struct Tryd.underlying48 (hval 2 48 v2 rfl rfl)
  obtain ⟨fuel2, hf2⟩ := h2
  obtain ⟨⟨⟨u8, u10, ⟨A12, c13, l14⟩, ⟨A19, c20, l21⟩, _⟩, ⟨u26, u28, _⟩, _⟩, e2, ⟨⟨g9, g11, ⟨g15, g16, g17, g18⟩, ⟨g22, g23, g24, g25⟩, _⟩, ⟨g27, g29, _⟩, _⟩⟩ := (opens_struct Tryd.underlying48 (opensF_cons rfl (opens_struct Tryd.underlying30 (opensF_cons rfl (opens_str Tryd.underlying9 (by kernel_rfl)) (opensF_cons rfl (opens_str Tryd.underlying9 (by kernel_rfl)) (opensF_cons rfl (opens_texts Tryd.underlying27 (by kernel_rfl) Tryd.underlying9 (by kernel_rfl)) (opensF_cons rfl (opens_slice Tryd.underlying28 (by kernel_rfl) (opens_struct Tryd.underlying43 (opensF_cons rfl (opens_i64 Tryd.underlying3 (by kernel_rfl)) (opensF_cons rfl (opens_str Tryd.underlying9 (by kernel_rfl)) opensF_nil)))) opensF_nil))))) (opensF_cons rfl (opens_struct Tryd.underlying43 (opensF_cons rfl (opens_i64 Tryd.underlying3 (by kernel_rfl)) (opensF_cons rfl (opens_str Tryd.underlying9 (by kernel_rfl)) opensF_nil))) opensF_nil))).opn hf2
  obtain rfl : x2 = (_ : List Value).toArray := Array.toList_inj.1 e2
  clear hA0 hval0 hsz0 hsz
  refine (FnV.below (law_SchemaFinds b0 cap0 l3 a1 u8 u10 A12 c13 l14 A19 c20 l21 u26 u28 W g4 g5 g6 g7 w1 g9 g11 g15 g16 g17 g18 g22 g23 g24 g25 g27 g29)).mono fun e W' ⟨he, bel⟩ => ?_
  subst he
  exact ⟨_, rfl, _, _, _, [], _, [], hW', trodAll_mk1 (shut_bool Tryd.underlying4 _), (trodAll_cons_mk (Below.trod laidOut (by kernel_rfl) (of_decide_eq_true (by kernel_rfl)) k0 bel lt0) (trodAll_cons_mk (shut_string Tryd.underlying9 w1) (trodAll_cons_mk (Below.trod laidOut (by kernel_rfl) (of_decide_eq_true (by kernel_rfl)) k2 bel lt2) trodAll_mk0))), rfl, bel.frame _, fun h => by cases h⟩
theorem over : Rows.SchemaFindsSaid :=
  OpenClaim.holds_of_wide 7 Tryd.f7 rfl rfl rfl rfl rfl rfl rfl ⟨rfl, rfl, rfl, rfl, rfl⟩ rfl rfl rfl rfl rfl (by kernel_rfl) Tryd.func7 (by kernel_rfl)
    (of_decide_eq_true (by kernel_rfl)) (by unfold Func.isWrapper; first | (rw [if_pos (by decide +kernel)]; kernel_rfl) | (rw [if_neg (by decide +kernel)]; exact ⟨rfl, rfl⟩))
    (fun os started H enc _ => lifted os started H enc)
theorem proved : Rows.SchemaFindsCardSaid :=
  Claim7.holds_tied_plain_at .later [] [.data, .pinned] true (true, "ae9d99a6e7c5c46d31f7c8e9ee50556ce5bf8abe91aac04f962477cbc696ef97") false over (fun _ h => by cases h) (by kernel_rfl) (fun _ h => by cases h) schemaFinds_row_tie rfl ⟨rfl, rfl⟩ (by kernel_rfl) rfl
    (fun f fn hf hfn => by
      obtain rfl : f = 7 := Option.some.inj ((show Tryd.prog.funcNamed "talus/taluslaw14.SchemaFinds" = some 7 by kernel_rfl).symm.trans hf) |>.symm
      obtain rfl : fn = Tryd.f7 := (Option.some.inj (Tryd.func7.symm.trans hfn)).symm
      exact ⟨by kernel_rfl, fun j t ht => by
        rw [Tryd.params7] at ht
        have hm : t ∈ [46, 9, 48] := by simpa using Array.mem_of_getElem? ht
        have hall : ([46, 9, 48].all fun u => !Tryd.prog.wantsStandIn u) = true := by kernel_rfl
        exact (show Tryd.prog.wantsStandIn t = false by simpa using List.all_eq_true.1 hall t hm)⟩)
    (by kernel_rfl)
#print axioms proved
end Go.Proofs.YtdehjgpdcdjhjaaDoor.schemaFinds
namespace Go.Proofs.YtdehjgpdcdjhjaaDoor
/-- The tied card, under a short name, for the claim. -/
theorem schemaFinds_holds : Rows.SchemaFindsCardSaid := schemaFinds.proved
end Go.Proofs.YtdehjgpdcdjhjaaDoor
