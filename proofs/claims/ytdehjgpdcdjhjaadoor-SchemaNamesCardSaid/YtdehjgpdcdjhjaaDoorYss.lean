/- Walks of the program's functions, printed by a program of this session; Lean checks them. -/
import Derived.Test.YtdehjgpdcdjhjaaDoorYsr
namespace Go.Proofs.YtdehjgpdcdjhjaaDoor.K
open Go Go.RowKit Go.Proofs
set_option linter.unusedVariables false
set_option linter.unusedSimpArgs false


set_option maxRecDepth 20000 in
theorem xNames (l : List UInt8) (hlb : l.length < 9223372036854775808) (w : World) : FnV Tryd.prog 3 [.string (sL l)] (.bool true) w := by
  have hsz := sL_size l
  refine fn_enter Tryd.func3 rfl Tryd.ntmps3 rfl ?_
  refine vc_seq ?_
  refine vc_region ?_
  refine vl_val rfl (.some rfl) (val_assign rfl) ?_
  refine vl_nil ?_
  refine vc_seq ?_
  refine vc_seq ?_
  refine vc_region ?_
  refine vl_val rfl (.some rfl) (val_move rfl) ?_
  refine vl_val rfl (.some rfl) (val_lenStr Tryd.runUnderlying9 rfl) ?_
  refine vl_val rfl (.some rfl) (val_gt rfl rfl) ?_
  refine vl_nil ?_
  refine vc_cond rfl (fun hc0 => ?_) (fun hc0 => ?_)
  · (try replace hc0 := of_decide_eq_true hc0)
    refine vc_seq ?_
    refine vc_region ?_
    refine vl_callV rfl rfl (.some rfl) Tryd.call8 rfl (fun w hw => xLives w) ?_
    refine vl_val rfl (.some rfl) (val_assign rfl) ?_
    refine vl_nil ?_
    refine vc_ret ?_
    refine ⟨_, [], _, res1 Tryd.results3 rfl, .nil, ?_⟩
    rfl
  · (try replace hc0 := of_decide_eq_false hc0)
    refine vc_skip ?_
    refine vc_seq ?_
    refine vc_region ?_
    refine vl_val rfl (.some rfl) (val_move rfl) ?_
    refine vl_callV rfl rfl (.some rfl) Tryd.call9 rfl (fun w hw => sName l hlb w) ?_
    refine vl_val rfl (.some rfl) (val_move rfl) ?_
    refine vl_callV rfl rfl (.some rfl) Tryd.call10 rfl (fun w hw => rName l hlb w) ?_
    refine vl_val rfl (.some rfl) (val_beqt Tryd.underlying4 rfl rfl (rfl)) ?_
    refine vl_val rfl (.some rfl) (val_move rfl) ?_
    refine vl_on rfl rfl rfl rfl ?_
    refine vl_callV rfl rfl (.some rfl) Tryd.call8 rfl (fun w hw => xLives w) ?_
    refine vl_val rfl (.some rfl) (val_pick rfl rfl) ?_
    refine vl_val rfl (.some rfl) (val_assign rfl) ?_
    refine vl_nil ?_
    refine vc_ret ?_
    refine ⟨_, [], _, res1 Tryd.results3 rfl, .nil, ?_⟩
    rfl

theorem law_SchemaNames (s : ByteArray) (w : World) (hs : s.size ≤ maxLen) : FnV Tryd.prog 3 [.string s] (.bool true) w := by
  have hl : s.data.toList.length = s.size := Array.length_toList
  have hm : maxLen < 9223372036854775808 := by decide
  have h := xNames s.data.toList (by omega) w
  rw [sL_eta] at h
  exact h


end Go.Proofs.YtdehjgpdcdjhjaaDoor.K
