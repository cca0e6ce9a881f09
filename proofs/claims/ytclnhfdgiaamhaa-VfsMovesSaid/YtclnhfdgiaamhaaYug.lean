/- Walks of the program's functions, printed by a program of this session; Lean checks them. -/
import Derived.Test.YtclnhfdgiaamhaaYua
namespace Go.Proofs.Ytclnhfdgiaamhaa.K
open Go Go.RowKit Go.Proofs
set_option linter.unusedVariables false
set_option linter.unusedSimpArgs false


set_option maxRecDepth 20000 in
set_option maxHeartbeats 1000000 in
theorem dLives (w : World) : Fn Try.prog 32 [] [] (ret fun v H' => v = .bool true ∧ H' = []) w := by
  have hna : fnameP [97] := by decide
  refine fn_enter Try.func32 rfl Try.ntmps32 rfl ?_
  refine vc_seq ?_
  refine vc_region ?_
  refine vl_val rfl (.some rfl) (val_assign rfl) ?_
  refine vl_nil ?_
  refine vc_seq ?_
  refine vc_region ?_
  refine vl_call (C := []) rfl rfl (.some rfl) Try.call33 rfl .nil (fun w hw => dNew w) (fun v H' h => ?_)
  obtain ⟨d, a, rfl, rfl⟩ := h
  show VL _ _ _ _ _ (_ :: _)
  refine vl_val rfl (.some rfl) (val_assign rfl) ?_
  refine vl_nil ?_
  refine vc_seq ?_
  refine vc_seq ?_
  refine vc_region ?_
  refine vl_val rfl (.some rfl) (val_move rfl) ?_
  refine vl_val rfl (.some rfl) (val_opO rfl rfl guard_ptr (bin_ptr_eq Try.runUnderlying64)) ?_
  refine vl_val rfl (.some rfl) (val_move rfl) ?_
  refine vl_on rfl rfl rfl rfl ?_
  refine vl_val rfl (.some rfl) (val_move rfl) ?_
  refine vl_on rfl rfl rfl rfl ?_
  refine vl_call (C := [DK d a false 0 none 0 0 0, mq kS a [] []]) rfl rfl (.some rfl) Try.call34 rfl (by repeat constructor) (fun w hw => dCreate d a none 0 0 0 (by decide) [97] [] [] rfl (by decide) hna w) (fun v H' h => ?_)
  obtain ⟨rfl, f, rfl⟩ := h
  refine (show VL _ _ _ _ _ (DK d a false 0 none 0 0 1 :: FL f none 0 0 0 :: mq kS a [[97]] [.pointer (some ⟨f, 0, none⟩)] :: _) from ?_)
  refine vl_nilSl 5 1 ?_
  refine vl_on rfl rfl rfl rfl ?_
  refine vl_val rfl (.some rfl) (val_net rfl rfl (rfl)) ?_
  refine vl_val rfl (.some rfl) (val_pick rfl rfl) ?_
  refine vl_val rfl (.some rfl) (val_move rfl) ?_
  refine vl_on rfl rfl rfl rfl ?_
  refine vl_val rfl (.some rfl) (val_move rfl) ?_
  refine vl_on rfl rfl rfl rfl ?_
  refine vl_lit sT22 rfl rfl (.some rfl) rfl rfl rfl (by decide) (by decide) rfl rfl (fun r15 => ?_)
  refine (show VL _ _ _ _ _ (BY (some ⟨r15, 0, none⟩) ([120, 121, 122] : List UInt8).length 3 [120, 121, 122] :: _) from ?_)
  refine vl_on rfl rfl rfl rfl ?_
  refine vl_mark rfl rfl (.some rfl) Try.runUnderlying22 Try.runUnderlying5 rfl (by repeat (first | exact .head | apply Take.tail)) ?_
  refine vl_on rfl rfl rfl rfl ?_
  refine vl_call (C := [DK d a false 0 none 0 0 1, mq kS a [[97]] [.pointer (some ⟨f, 0, none⟩)], FL f none ([] : List UInt8).length 0 0, BY none ([] : List UInt8).length 0 [], slq (some ⟨r15, 0, none⟩) ([120, 121, 122] : List UInt8).length 3 5 (bcells [120, 121, 122])]) rfl rfl (.some rfl) Try.call35 rfl (by repeat constructor) (fun w hw => dWrite0 d a none 0 0 1 (by decide) [97] hna f none 0 [] 0 (some ⟨r15, 0, none⟩) 3 [120, 121, 122] (by decide) w) (fun v H' h => ?_)
  obtain ⟨rfl, A2, c2, rfl⟩ := h
  refine (show VL _ _ _ _ _ (DK d a false 0 none 0 0 2 :: mq kS a [[97]] [.pointer (some ⟨f, 0, none⟩)] :: FL f A2 ([120, 121, 122] : List UInt8).length c2 0 :: BY A2 ([120, 121, 122] : List UInt8).length c2 [120, 121, 122] :: _) from ?_)
  refine vl_on rfl rfl rfl rfl ?_
  refine vl_val rfl (.some rfl) (val_net rfl rfl (rfl)) ?_
  refine vl_val rfl (.some rfl) (val_pick rfl rfl) ?_
  refine vl_val rfl (.some rfl) (val_move rfl) ?_
  refine vl_on rfl rfl rfl rfl ?_
  refine vl_val rfl (.some rfl) (val_move rfl) ?_
  refine vl_on rfl rfl rfl rfl ?_
  refine vl_call (C := [DK d a false 0 none 0 0 2, mq kS a [[97]] [.pointer (some ⟨f, 0, none⟩)], FL f A2 ([120, 121, 122] : List UInt8).length c2 0, BY A2 ([120, 121, 122] : List UInt8).length c2 [120, 121, 122]]) rfl rfl (.some rfl) Try.call36 rfl (by repeat constructor) (fun w hw => dSync d a none 0 0 2 (by decide) [97] hna f A2 c2 [120, 121, 122] 0 w) (fun v H' h => ?_)
  obtain ⟨rfl, rfl⟩ := h
  refine (show VL _ _ _ _ _ (DK d a false 0 none 0 0 3 :: mq kS a [[97]] [.pointer (some ⟨f, 0, none⟩)] :: FL f A2 ([120, 121, 122] : List UInt8).length c2 3 :: BY A2 ([120, 121, 122] : List UInt8).length c2 [120, 121, 122] :: _) from ?_)
  refine vl_on rfl rfl rfl rfl ?_
  refine vl_val rfl (.some rfl) (val_net rfl rfl (rfl)) ?_
  refine vl_val rfl (.some rfl) (val_pick rfl rfl) ?_
  refine vl_nil ?_
  refine vc_cond rfl (fun h => by cases h) (fun _ => ?_)
  refine vc_skip ?_
  refine vc_seq ?_
  refine vc_region ?_
  refine vl_val rfl (.some rfl) (val_move rfl) ?_
  refine vl_lit sT22 rfl rfl (.some rfl) rfl rfl rfl (by decide) (by decide) rfl rfl (fun r26 => ?_)
  refine (show VL _ _ _ _ _ (BY (some ⟨r26, 0, none⟩) ([112, 113] : List UInt8).length 2 [112, 113] :: _) from ?_)
  refine vl_mark rfl rfl (.some rfl) Try.runUnderlying22 Try.runUnderlying5 rfl (by repeat (first | exact .head | apply Take.tail)) ?_
  refine vl_call (C := [DK d a false 0 none 0 0 3, mq kS a [[97]] [.pointer (some ⟨f, 0, none⟩)], FL f A2 ([120, 121, 122] : List UInt8).length c2 3, BY A2 ([120, 121, 122] : List UInt8).length c2 [120, 121, 122], slq (some ⟨r26, 0, none⟩) ([112, 113] : List UInt8).length 2 5 (bcells [112, 113])]) rfl rfl (.some rfl) Try.call35 rfl (by repeat constructor) (fun w hw => dWrite0 d a none 0 0 3 (by decide) [97] hna f A2 c2 [120, 121, 122] 3 (some ⟨r26, 0, none⟩) 2 [112, 113] (by decide) w) (fun v H' h => ?_)
  obtain ⟨rfl, A4, c4, rfl⟩ := h
  refine (show VL _ _ _ _ _ (DK d a false 0 none 0 0 4 :: mq kS a [[97]] [.pointer (some ⟨f, 0, none⟩)] :: FL f A4 ([120, 121, 122, 112, 113] : List UInt8).length c4 3 :: BY A4 ([120, 121, 122, 112, 113] : List UInt8).length c4 [120, 121, 122, 112, 113] :: _) from ?_)
  refine vl_nil ?_
  refine vc_seq ?_
  refine vc_region ?_
  refine vl_val rfl (.some rfl) (val_move rfl) ?_
  refine vl_lit sT69 rfl rfl (.some rfl) rfl rfl rfl (by decide) (by decide) rfl (flat_one rfl) (fun r30 => ?_)
  refine vl_call (C := [DK d a false 0 none 0 0 4, sl (some ⟨r30, 0, none⟩) 1 1 3 1 [.int .i64 1]]) rfl rfl (.some rfl) Try.call37 rfl (by repeat constructor) (fun w hw => dCut d a none 0 0 4 (some ⟨r30, 0, none⟩) 1 w) (fun v H' h => ?_)
  obtain ⟨A5, c5, rfl, rfl⟩ := h
  show VL _ _ _ _ _ (_ :: _)
  refine vl_nil ?_
  refine vc_seq ?_
  refine vc_region ?_
  refine vl_val rfl (.some rfl) (val_move rfl) ?_
  refine vl_lit sT22 rfl rfl (.some rfl) rfl rfl rfl (by decide) (by decide) rfl rfl (fun r33 => ?_)
  refine (show VL _ _ _ _ _ (BY (some ⟨r33, 0, none⟩) ([114] : List UInt8).length 1 [114] :: _) from ?_)
  refine vl_mark rfl rfl (.some rfl) Try.runUnderlying22 Try.runUnderlying5 rfl (by repeat (first | exact .head | apply Take.tail)) ?_
  refine vl_call (C := [DK d a false 1 A5 1 c5 4, mq kS a [[97]] [.pointer (some ⟨f, 0, none⟩)], FL f A4 ([120, 121, 122, 112, 113] : List UInt8).length c4 3, BY A4 ([120, 121, 122, 112, 113] : List UInt8).length c4 [120, 121, 122, 112, 113], sl A5 1 c5 3 1 [.int .i64 1], slq (some ⟨r33, 0, none⟩) ([114] : List UInt8).length 1 5 (bcells [114])]) rfl rfl (.some rfl) Try.call35 rfl (by repeat constructor) (fun w hw => dWriteF d a A5 c5 4 (by decide) [97] hna f A4 c4 [120, 121, 122, 112, 113] (some ⟨r33, 0, none⟩) 1 [114] (by decide) w) (fun v H' h => ?_)
  obtain ⟨rfl, A6, c6, rfl⟩ := h
  refine (show VL _ _ _ _ _ (DK d a true 0 A5 1 c5 5 :: mq kS a [[97]] [.pointer (some ⟨f, 0, none⟩)] :: FL f A6 ([120, 121, 122, 112] : List UInt8).length c6 4 :: BY A6 ([120, 121, 122, 112] : List UInt8).length c6 [120, 121, 122, 112] :: _) from ?_)
  refine vl_val rfl (.some rfl) (val_assign rfl) ?_
  refine vl_nil ?_
  refine vc_seq ?_
  refine vc_region ?_
  refine vl_val rfl (.some rfl) (val_move rfl) ?_
  refine vl_call (C := [DK d a true 0 A5 1 c5 5]) rfl rfl (.some rfl) Try.call39 rfl (by repeat constructor) (fun w hw => dStart d a true 0 A5 1 c5 5 w) (fun v H' h => ?_)
  obtain rfl := h
  show VL _ _ _ _ _ (_ :: _)
  refine vl_nil ?_
  refine vc_seq ?_
  refine vc_region ?_
  refine vl_val rfl (.some rfl) (val_move rfl) ?_
  refine vl_call (C := [DK d a false 0 A5 1 c5 5, mq kS a [[97]] [.pointer (some ⟨f, 0, none⟩)], FL f A6 ([120, 121, 122, 112] : List UInt8).length c6 4, BY A6 ([120, 121, 122, 112] : List UInt8).length c6 [120, 121, 122, 112]]) rfl rfl (.some rfl) Try.call40 rfl (by repeat constructor) (fun w hw => dRead d a A5 1 c5 5 (by decide) [97] hna f A6 c6 [120, 121, 122, 112] 0 4 (by decide) w) (fun v H' h => ?_)
  obtain ⟨A8, c8, rfl, rfl⟩ := h
  show VL _ _ _ _ _ (_ :: _)
  refine vl_val rfl (.some rfl) (val_move rfl) ?_
  refine vl_val rfl (.some rfl) (val_extract rfl rfl) ?_
  refine vl_val rfl (.some rfl) (val_extract rfl rfl) ?_
  refine vl_val rfl (.some rfl) (val_assign rfl) ?_
  refine vl_val rfl (.some rfl) (val_assign rfl) ?_
  refine vl_nil ?_
  refine vc_seq ?_
  refine vc_region ?_
  refine vl_val rfl (.some rfl) (val_move rfl) ?_
  refine vl_val rfl (.some rfl) (val_eqt rfl rfl (rfl)) ?_
  refine vl_val rfl (.some rfl) (val_move rfl) ?_
  refine vl_on rfl rfl rfl rfl ?_
  refine vl_val rfl (.some rfl) (val_move rfl) ?_
  refine vl_on rfl rfl rfl rfl ?_
  refine vl_val rfl (.some rfl) (val_eqt rfl rfl (rfl)) ?_
  refine vl_val rfl (.some rfl) (val_pick rfl rfl) ?_
  refine vl_val rfl (.some rfl) (val_move rfl) ?_
  refine vl_on rfl rfl rfl rfl ?_
  refine vl_val rfl (.some rfl) (val_move rfl) ?_
  refine vl_on rfl rfl rfl rfl ?_
  refine vl_val rfl (.some rfl) (val_bytesToStr Try.runUnderlying22 Try.runUnderlying5 Try.runUnderlying9 rfl (by first | exact rd_sl (by repeat constructor) | exact rd_slr (by repeat constructor) | exact rd_old (by assumption) rfl) (by first | rfl | (simp; done) | omega)) ?_
  refine vl_on rfl rfl rfl rfl ?_
  refine vl_val rfl (.some rfl) (val_seqt rfl rfl (rfl)) ?_
  refine vl_val rfl (.some rfl) (val_pick rfl rfl) ?_
  refine vl_val rfl (.some rfl) (val_move rfl) ?_
  refine vl_on rfl rfl rfl rfl ?_
  refine vl_val rfl (.some rfl) (val_move rfl) ?_
  refine vl_on rfl rfl rfl rfl ?_
  refine vl_callR [DK d a false 0 A5 1 c5 5] rfl rfl (.some rfl) Try.call43 rfl (by repeat constructor) (fun w hw => dOps d a false 0 A5 1 c5 5 w) ?_
  refine vl_on rfl rfl rfl rfl ?_
  refine vl_val rfl (.some rfl) (val_eqt rfl rfl (rfl)) ?_
  refine vl_val rfl (.some rfl) (val_pick rfl rfl) ?_
  refine vl_val rfl (.some rfl) (val_assign rfl) ?_
  refine vl_nil ?_
  refine vc_ret ?_
  refine ⟨_, [], _, res1 Try.results32 rfl, (by repeat constructor), ?_⟩
  exact ⟨rfl, rfl⟩
end Go.Proofs.Ytclnhfdgiaamhaa.K
