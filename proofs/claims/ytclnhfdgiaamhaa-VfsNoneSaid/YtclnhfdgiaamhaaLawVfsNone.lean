/- The law VfsNone: whatever the input, it answers true, and the input reads as it did. -/
import Derived.Test.YtclnhfdgiaamhaaRows
import Derived.Test.YtclnhfdgiaamhaaYuj
import Derived.Test.YtclnhfdgiaamhaaKz
import Derived.Test.YtclnhfdgiaamhaaMj
import Derived.Test.YtclnhfdgiaamhaaMo
import Derived.WalkKit
import Derived.ProofKit
import Derived.OpenShut
import Derived.ShutString
import Derived.ChangeOld
import Derived.Below
import Derived.SizedLaws
namespace Go.Proofs.Ytclnhfdgiaamhaa.vfsNone
open Go.ChangeShapes Go.WideShapes Go.ChangeAt Go.RowKit Go.Proofs.Ytclnhfdgiaamhaa.K
open Go.ChangeMaps (open_string shut_string)
set_option linter.unusedVariables false
set_option linter.unusedSimpArgs false
theorem laidOut : laidOutB Try.prog = true := by kernel_rfl
theorem own : ownKnob Try.prog.godebug = none := by kernel_rfl
set_option maxRecDepth 100000 in
theorem lifted (os : Os) (started : os.Started) (H : Type) (enc : TypeId × Value → H) :
    ReturnsInHanded {} Try.checked os 13 .any (Rows.vfsNoneSpec.pre6 enc Try.prog Try.f13 Rows.vfsNoneRow.domain false) (Rows.vfsNoneSpec.post enc Try.prog Try.f13 false true false false) := by
  refine returnsInHanded_of_change_sized (C := Try.checked) own started (by kernel_rfl) Try.func13
    (ChangeSpec.witness6 (enc := enc) (C := Try.checked) false ⟨#[], #[.agg #[.int .i64 0, .string .empty, .string .empty, .int .i64 0, .int .i64 0, .slice none 0 0, .slice none 0 0]], []⟩ 8 (by kernel_rfl) (by kernel_rfl) (by kernel_rfl) (by kernel_rfl)) ?_
  intro W base args ds gs before hval0 hW hcnd hsz0 _
  have hsz : (DataW.weightsEach Try.prog (Try.f13.params.toList ++ Rows.vfsNoneSpec.plain.varTypes Try.prog) (ds ++ gs)).all (· ≤ reachBytes) = true := hsz0
  have hval : ∀ (j : Nat) t v, Try.f13.params[j]? = some t → args[j]? = some v → Value.okWide Try.prog W .any base t v := hval0
  have hW' := hW
  obtain ⟨p, q, hA0, hV, rfl, hfz, hnd⟩ := hW
  have hA : DataW.TrodAll enc Try.prog W 0 (fun _ => true) true Try.f13.params.toList args.toList ds p := hA0
  rw [Try.params13] at hA hval hsz
  obtain ⟨v0, vs0, d0, ds0, p0, q0, hargs, rfl, rfl, h0, r0⟩ := trodAll_cons hA
  obtain ⟨rfl, rfl, rfl⟩ := trodAll_nil r0
  obtain rfl : args = #[v0] := by cases args; simp_all
  obtain ⟨rfl, rfl⟩ := trodVars_none hV
  have k0 := h0
  have lt0 : ∀ x ∈ p0, x.block < W.heap.size := by obtain ⟨m, hm⟩ := k0; exact DataW.trod_lt m _ _ _ hm
  obtain ⟨x0, rfl, z0⟩ := okWide_struct Try.underlying77 (hval 0 77 v0 rfl rfl)
  obtain ⟨fuel0, hf0⟩ := h0
  obtain ⟨⟨u1, u3, u5, u7, u9, ⟨A11, c12, l13⟩, ⟨A17, c18, l19⟩, _⟩, e0, ⟨g2, g4, g6, g8, g10, ⟨g14, g15, g16⟩, ⟨g20, g21, g22, g23⟩, _⟩⟩ := (openw_struct Try.underlying77 (openwF_cons rfl (openw_i64 Try.underlying3 (by kernel_rfl)) (openwF_cons rfl (openw_str Try.underlying9 (by kernel_rfl)) (openwF_cons rfl (openw_str Try.underlying9 (by kernel_rfl)) (openwF_cons rfl (openw_i64 Try.underlying3 (by kernel_rfl)) (openwF_cons rfl (openw_i64 Try.underlying3 (by kernel_rfl)) (openwF_cons rfl (openw_bytes Try.underlying22 (by kernel_rfl : Try.prog.bytesOf 5 = 1) (by kernel_rfl) Try.underlying5 (by kernel_rfl)) (openwF_cons rfl (openw_ints Try.underlying69 (by kernel_rfl : Try.prog.bytesOf 3 = 8) (by kernel_rfl) Try.underlying3 (by kernel_rfl)) openwF_nil)))))))).opn hf0 (fun n hn => of_decide_eq_true (List.all_eq_true.1 hsz _ (DataW.weights_mem_each (j := 0) (t := 77) rfl rfl _ hn)))
  obtain rfl : x0 = (_ : List Value).toArray := Array.toList_inj.1 e0
  clear hA0 hval0 hsz0 hsz
  refine (FnV.below (law_VfsNone u1 u3 u5 u7 u9 A11 c12 l13 A17 c18 l19 W g2 g4 g6 g8 g10 g14 g15 g16 g20 g21 g22 g23)).mono fun e W' ⟨he, bel⟩ => ?_
  subst he
  exact ⟨_, rfl, _, _, _, [], _, [], hW', trodAll_mk1 (shut_bool Try.underlying4 _), (trodAll_cons_mk (Below.trod laidOut (by kernel_rfl) (of_decide_eq_true (by kernel_rfl)) k0 bel lt0) trodAll_mk0), rfl, bel.frame _, fun h => by cases h⟩
theorem over : Rows.vfsNoneRow.holds Try.pinned (OpenSpec.ofChange Rows.vfsNoneSpec) :=
  OpenClaim.holds_of_wide 13 Try.f13 rfl rfl rfl rfl rfl rfl rfl ⟨rfl, rfl, rfl, rfl, rfl⟩ rfl rfl rfl rfl rfl (by kernel_rfl) Try.func13 (by kernel_rfl)
    (of_decide_eq_true (by kernel_rfl)) (by unfold Func.isWrapper; first | (rw [if_pos (by decide +kernel)]; kernel_rfl) | (rw [if_neg (by decide +kernel)]; exact ⟨rfl, rfl⟩))
    (fun os started H enc _ => lifted os started H enc)
theorem proved : Rows.VfsNoneSaid := over
#print axioms proved
end Go.Proofs.Ytclnhfdgiaamhaa.vfsNone
namespace Go.Proofs.Ytclnhfdgiaamhaa
/-- The row, under a short name, for the claim. -/
theorem vfsNone_holds : Rows.VfsNoneSaid := vfsNone.proved
end Go.Proofs.Ytclnhfdgiaamhaa
