/- Walks of the program's functions, printed by a program of this session; Lean checks them. -/
import Derived.Test.YtclknendeeljaaaDoorYtb
namespace Go.Proofs.YtclknendeeljaaaDoor.K
open Go Go.RowKit Go.Proofs
set_option linter.unusedVariables false
set_option linter.unusedSimpArgs false


theorem flat_get {vs : List Vk} {i : Nat} {q : Int} (hq : q = (i : Int)) (h : i < vs.length) : ((flat vs).drop (Int.toNat q * 3)).take 3 = [.int .i64 (vs.getD i z3).k, .int .i64 (vs.getD i z3).n, .string (vs.getD i z3).s] := by rw [hq, Int.toNat_natCast]; exact flat_at vs i h
theorem one_put {v : Vk} (h : goodV v = true) (hw : WV v) (t : List UInt8) : oneV (putV v ++ t) = some (v, t) := by
  rcases good_kinds h with ⟨_, rfl⟩ | ⟨hk, hs⟩ | ⟨hk, hn, hs⟩
  · show oneV ((putN 0 ++ []) ++ t) = _
    rw [List.append_nil]
    unfold oneV
    rw [get_put (by decide)]
    simp only [List.drop_left]
    rw [if_neg (by have := putN_pos 0; omega), if_pos trivial]
  · have hz := zigS_lt hw.1 hw.2
    have e : putV v = putN v.k.toNat ++ putN (zigS v.n) := by unfold putV; rw [if_neg (by omega), if_neg (by omega)]
    rw [e, List.append_assoc]
    unfold oneV
    rw [get_put (by omega)]
    simp only [List.drop_left]
    rw [get_put hz]
    simp only [List.drop_left]
    have e2 : (⟨(v.k.toNat : Nat), zagS (zigS v.n), ⟨#[]⟩⟩ : Vk) = v := by
      rw [zag_zig, show ((v.k.toNat : Nat) : Int) = v.k by omega, ← hs]
    rw [if_neg (by have := putN_pos v.k.toNat; omega), if_neg (by omega), if_neg (by omega), if_neg (by have := putN_pos (zigS v.n); omega), if_neg (by omega), e2, if_pos h]
  · have e : putV v = putN 3 ++ (putN v.s.size ++ v.s.data.toList) := by unfold putV; rw [if_neg (by omega), if_pos hk, hk]; rfl
    rw [e, List.append_assoc, List.append_assoc]
    unfold oneV
    rw [get_put (by decide)]
    simp only [List.drop_left]
    rw [get_put (by omega)]
    simp only [List.drop_left]
    have hd := size_data v.s
    rw [if_neg (by have := putN_pos 3; omega), if_neg (by omega), if_neg (by omega), if_neg (by have := putN_pos v.s.size; omega), if_pos trivial, if_neg (by rw [List.length_append]; omega), ← hd, List.take_left, List.drop_left]
    have e3 : (⟨3, 0, txtV v.s.data.toList⟩ : Vk) = v := by
      obtain ⟨k, n, s⟩ := v
      simp only at hk hn
      subst hk hn
      simp [txtV]
    rw [e3]
theorem many_put : ∀ (l : List Vk) (q : Nat), l.length ≤ q → (∀ v ∈ l, goodV v = true ∧ WV v) → manyV q l.length (l.flatMap putV) = some l := by
  intro l
  induction l with
  | nil => intro q _ _; cases q <;> rfl
  | cons v l ih =>
    intro q hq h
    cases q with
    | zero => simp at hq
    | succ q =>
      have h1 := h v (List.Mem.head _)
      show (match oneV (putV v ++ l.flatMap putV) with | none => none | some (v, r) => (manyV q l.length r).map (v :: ·)) = _
      rw [one_put h1.1 h1.2]
      show (manyV q l.length (l.flatMap putV)).map _ = _
      rw [ih q (by simp at hq; omega) (fun v hv => h v (List.Mem.tail _ hv))]
      rfl
theorem flat_pos {α : Type} {p : α → List UInt8} : ∀ {l : List α}, (∀ x ∈ l, 1 ≤ (p x).length) → l.length ≤ (l.flatMap p).length
  | [], _ => Nat.zero_le _
  | x :: l, h => by
    have := flat_pos (l := l) (fun y hy => h y (List.Mem.tail _ hy))
    have h1 := h x (List.Mem.head _)
    rw [List.flatMap_cons, List.length_append, List.length_cons]; omega
theorem putV_pos (v : Vk) : 1 ≤ (putV v).length := by
  have := putN_pos v.k.toNat
  unfold putV
  rw [List.length_append]; omega
theorem enc_clean {l : List Vk} (h : ∀ v ∈ l, goodV v = true) : encV l = putN l.length ++ l.flatMap putV := by
  unfold encV
  have : ∀ l : List Vk, (∀ v ∈ l, goodV v = true) → (l.flatMap fun p => putV (clean p)) = l.flatMap putV := by
    intro l
    induction l with
    | nil => intro _; rfl
    | cons v l ih =>
      intro h
      rw [List.flatMap_cons, List.flatMap_cons, ih (fun v hv => h v (List.Mem.tail _ hv))]
      unfold clean
      rw [if_pos (h v (List.Mem.head _))]
  rw [this l h]
theorem load_enc {l : List Vk} (hl : l.length < 18446744073709551616) (h : ∀ v ∈ l, goodV v = true ∧ WV v) : loadV (encV l) = some l := by
  rw [enc_clean (fun v hv => (h v hv).1)]
  unfold loadV
  rw [get_put hl]
  have hp := putN_pos l.length
  have hf := flat_pos (p := putV) (l := l) (fun v _ => putV_pos v)
  rw [if_neg (show ¬ (putN l.length).length = 0 by omega)]
  show manyV _ l.length ((putN l.length ++ l.flatMap putV).drop (putN l.length).length) = _
  rw [List.drop_left]
  exact many_put l _ (by rw [List.length_append]; omega) h

/-! Texts of values. -/
abbrev sIt : ByteArray := ⟨#[105, 116, 39, 115]⟩
def txL (p : Vk) : List UInt8 := if p.k = 0 then [78, 85, 76, 76] else if p.k = 1 then prL p.n else if p.k = 2 then (printS p.n).data.toList else if p.k = 3 then 39 :: (dblG p.s.data.toList ++ [39]) else if p.n ≠ 0 then [84, 82, 85, 69] else [70, 65, 76, 83, 69]
section
variable {p : Vk}
theorem txL_0 (h : p.k = 0) : txL p = [78, 85, 76, 76] := by unfold txL; rw [if_pos h]
theorem txL_1 (h : p.k = 1) : txL p = prL p.n := by unfold txL; rw [if_neg (by omega), if_pos h]
theorem txL_2 (h : p.k = 2) : txL p = (printS p.n).data.toList := by unfold txL; rw [if_neg (by omega), if_neg (by omega), if_pos h]
theorem txL_3 (h : p.k = 3) : txL p = 39 :: (dblG p.s.data.toList ++ [39]) := by unfold txL; rw [if_neg (by omega), if_neg (by omega), if_neg (by omega), if_pos h]
theorem txL_4 (h : p.k = 4) : txL p = if p.n ≠ 0 then [84, 82, 85, 69] else [70, 65, 76, 83, 69] := by unfold txL; rw [if_neg (by omega), if_neg (by omega), if_neg (by omega), if_neg (by omega)]
theorem ofV_0 (h : p.k = 0) : ofV p = .iface 43 (.agg #[]) := by unfold ofV; rw [if_pos h]
theorem ofV_1 (h : p.k = 1) : ofV p = .iface 44 (.int .i64 p.n) := by unfold ofV; rw [if_neg (by omega), if_pos h]
theorem ofV_2 (h : p.k = 2) : ofV p = .iface 45 (.int .i64 p.n) := by unfold ofV; rw [if_neg (by omega), if_neg (by omega), if_pos h]
theorem ofV_3 (h : p.k = 3) : ofV p = .iface 47 (.string p.s) := by unfold ofV; rw [if_neg (by omega), if_neg (by omega), if_neg (by omega), if_pos h]
theorem ofV_4 (h : p.k = 4) : ofV p = .iface 48 (.bool (decide (p.n ≠ 0))) := by unfold ofV; rw [if_neg (by omega), if_neg (by omega), if_neg (by omega), if_neg (by omega), if_pos h]
end

set_option maxRecDepth 20000 in
theorem tx0 (w : World) : FnV Tryd.prog 106 [.agg #[]] (.string (sL [78, 85, 76, 76])) w := by
  refine fn_enter Tryd.func106 rfl Tryd.ntmps106 rfl ?_
  refine vc_seq ?_
  refine vc_region ?_
  refine vl_box rfl rfl (.some rfl) rfl (fun r1 => ?_)
  refine vl_val rfl (.some rfl) (val_assign rfl) ?_
  refine vl_nil ?_
  refine vc_seq ?_
  refine vc_region ?_
  refine vl_val rfl (.some rfl) (val_assign rfl) ?_
  refine vl_nil ?_
  refine vc_ret ?_
  refine ⟨_, [], _, res1 Tryd.results106 rfl, .nil, ?_⟩
  rfl
set_option maxRecDepth 20000 in
theorem tx1 (n : Int) (hn : inI n) (w : World) : FnV Tryd.prog 107 [.int .i64 n] (.string (sL (prL n))) w := by
  refine fn_enter Tryd.func107 rfl Tryd.ntmps107 rfl ?_
  refine vc_seq ?_
  refine vc_region ?_
  refine vl_val rfl (.some rfl) (val_assign rfl) ?_
  refine vl_nil ?_
  refine vc_seq ?_
  refine vc_region ?_
  refine vl_val rfl (.some rfl) (val_move rfl) ?_
  refine vl_callV rfl rfl (.some rfl) Tryd.call108 rfl (fun w hw => wOf n hn w) ?_
  refine vl_callV rfl rfl (.some rfl) Tryd.call35 rfl (fun w hw => wPrint n (by unfold inI at hn; unfold inW; omega) w) ?_
  refine vl_val rfl (.some rfl) (val_assign rfl) ?_
  refine vl_nil ?_
  refine vc_ret ?_
  refine ⟨_, [], _, res1 Tryd.results107 rfl, .nil, ?_⟩
  rfl
set_option maxRecDepth 20000 in
theorem tx2 (n : Int) (w : World) : FnV Tryd.prog 109 [.int .i64 n] (.string (printS n)) w := by
  refine fn_enter Tryd.func109 rfl Tryd.ntmps109 rfl ?_
  refine vc_seq ?_
  refine vc_region ?_
  refine vl_val rfl (.some rfl) (val_assign rfl) ?_
  refine vl_nil ?_
  refine vc_seq ?_
  refine vc_region ?_
  refine vl_val rfl (.some rfl) (val_move rfl) ?_
  refine vl_callV rfl rfl (.some rfl) Tryd.call40 rfl (fun w hw => oPrint n w) ?_
  refine vl_val rfl (.some rfl) (val_assign rfl) ?_
  refine vl_nil ?_
  refine vc_ret ?_
  refine ⟨_, [], _, res1 Tryd.results109 rfl, .nil, ?_⟩
  rfl
set_option maxRecDepth 20000 in
theorem tx3 (l : List UInt8) (hl : l.length ≤ 400) (w : World) : FnV Tryd.prog 110 [.string (sL l)] (.string (sL (39 :: (dblG l ++ [39])))) w := by
  have hd := dbl_len l
  have hc := cnt_le l
  refine fn_enter Tryd.func110 rfl Tryd.ntmps110 rfl ?_
  refine vc_seq ?_
  refine vc_region ?_
  refine vl_val rfl (.some rfl) (val_assign rfl) ?_
  refine vl_nil ?_
  refine vc_seq ?_
  refine vc_region ?_
  refine vl_val rfl (.some rfl) (val_move rfl) ?_
  refine vl_callV rfl rfl (.some rfl) Tryd.call19 rfl (fun w hw => repA1 l hl w) ?_
  refine vl_val rfl (.some rfl) (val_cat (s := sL [39]) (t := sL (dblG l)) rfl rfl (by rw [sL_size, sL_size]; show 1 + _ < _; omega)) ?_
  rw [sL_cat]
  refine vl_val rfl (.some rfl) (val_cat (t := sL [39]) rfl rfl (by rw [sL_size, sL_size, List.length_append]; show 1 + _ + 1 < _; omega)) ?_
  rw [sL_cat]
  refine vl_val rfl (.some rfl) (val_assign rfl) ?_
  refine vl_nil ?_
  refine vc_ret ?_
  refine ⟨_, [], _, res1 Tryd.results110 rfl, .nil, ?_⟩
  rfl
set_option maxRecDepth 20000 in
theorem tx4 (b : Bool) (w : World) : FnV Tryd.prog 111 [.bool b] (.string (sL (if b = true then [84, 82, 85, 69] else [70, 65, 76, 83, 69]))) w := by
  refine fn_enter Tryd.func111 rfl Tryd.ntmps111 rfl ?_
  refine vc_seq ?_
  refine vc_region ?_
  refine vl_val rfl (.some rfl) (val_assign rfl) ?_
  refine vl_nil ?_
  refine vc_seq ?_
  refine vc_seq ?_
  refine vc_region ?_
  refine vl_val rfl (.some rfl) (val_move rfl) ?_
  refine vl_nil ?_
  refine vc_cond rfl (fun hc0 => ?_) (fun hc0 => ?_)
  · (try replace hc0 := of_decide_eq_true hc0)
    refine vc_seq ?_
    refine vc_region ?_
    refine vl_val rfl (.some rfl) (val_assign rfl) ?_
    refine vl_nil ?_
    refine vc_ret ?_
    refine ⟨_, [], _, res1 Tryd.results111 rfl, .nil, ?_⟩
    show _ = _
    rw [if_pos (by assumption)]
  · (try replace hc0 := of_decide_eq_false hc0)
    refine vc_skip ?_
    refine vc_seq ?_
    refine vc_region ?_
    refine vl_val rfl (.some rfl) (val_assign rfl) ?_
    refine vl_nil ?_
    refine vc_ret ?_
    refine ⟨_, [], _, res1 Tryd.results111 rfl, .nil, ?_⟩
    show _ = _
    rw [if_neg (by first | assumption | (simp; assumption))]
set_option maxRecDepth 20000 in
theorem vTx0 (p : Vk) (hk : p.k = 0) (w : World) : FnV Tryd.prog 7 [vk p] (.string (sL (txL p))) w := by
  refine fn_enter Tryd.func7 rfl Tryd.ntmps7 rfl ?_
  refine vc_seq ?_
  refine vc_region ?_
  refine vl_box rfl rfl (.some rfl) rfl (fun r1 => ?_)
  refine vl_val rfl (.some rfl) (val_assign rfl) ?_
  refine vl_nil ?_
  refine vc_seq ?_
  refine vc_region ?_
  refine vl_val rfl (.some rfl) (val_loadAgg Tryd.isAgg25 Tryd.sizeOf25 rfl (by first | exact cells_whole (by repeat constructor) | exact cells_part (by repeat constructor) rfl) rfl) ?_
  refine vl_callV rfl rfl (.some rfl) Tryd.call14 rfl (fun w hw => vOf p w) ?_
  rw [ofV_0 hk]
  refine vl_val rfl (.some rfl) (val_assign rfl) ?_
  refine vl_nil ?_
  refine vc_seq ?_
  refine vc_seq ?_
  refine vc_region ?_
  refine vl_val rfl (.some rfl) (val_move rfl) ?_
  refine vl_val rfl (.some rfl) (val_opO rfl rfl guard_iface (bin_iface_eq Tryd.runUnderlying40)) ?_
  refine vl_nil ?_
  refine vc_cond rfl (fun h => by cases h) (fun _ => ?_)
  refine vc_skip ?_
  refine vc_seq ?_
  refine vc_region ?_
  refine vl_val rfl (.some rfl) (val_move rfl) ?_
  refine vl_invokeV (f := 106) (v := .agg #[]) rfl rfl (.some rfl) rfl rfl (fun args w => by kernel_rfl) (fun w hw => tx0 w) ?_
  refine vl_val rfl (.some rfl) (val_assign rfl) ?_
  refine vl_nil ?_
  refine vc_ret ?_
  refine ⟨_, [], _, res1 Tryd.results7 rfl, .nil, ?_⟩
  show _ = _
  rw [txL_0 hk]
set_option maxRecDepth 20000 in
theorem vTx1 (p : Vk) (hk : p.k = 1) (hn : inI p.n) (w : World) : FnV Tryd.prog 7 [vk p] (.string (sL (txL p))) w := by
  refine fn_enter Tryd.func7 rfl Tryd.ntmps7 rfl ?_
  refine vc_seq ?_
  refine vc_region ?_
  refine vl_box rfl rfl (.some rfl) rfl (fun r1 => ?_)
  refine vl_val rfl (.some rfl) (val_assign rfl) ?_
  refine vl_nil ?_
  refine vc_seq ?_
  refine vc_region ?_
  refine vl_val rfl (.some rfl) (val_loadAgg Tryd.isAgg25 Tryd.sizeOf25 rfl (by first | exact cells_whole (by repeat constructor) | exact cells_part (by repeat constructor) rfl) rfl) ?_
  refine vl_callV rfl rfl (.some rfl) Tryd.call14 rfl (fun w hw => vOf p w) ?_
  rw [ofV_1 hk]
  refine vl_val rfl (.some rfl) (val_assign rfl) ?_
  refine vl_nil ?_
  refine vc_seq ?_
  refine vc_seq ?_
  refine vc_region ?_
  refine vl_val rfl (.some rfl) (val_move rfl) ?_
  refine vl_val rfl (.some rfl) (val_opO rfl rfl guard_iface (bin_iface_eq Tryd.runUnderlying40)) ?_
  refine vl_nil ?_
  refine vc_cond rfl (fun h => by cases h) (fun _ => ?_)
  refine vc_skip ?_
  refine vc_seq ?_
  refine vc_region ?_
  refine vl_val rfl (.some rfl) (val_move rfl) ?_
  refine vl_invokeV (f := 107) (v := .int .i64 p.n) rfl rfl (.some rfl) rfl rfl (fun args w => by kernel_rfl) (fun w hw => tx1 p.n hn w) ?_
  refine vl_val rfl (.some rfl) (val_assign rfl) ?_
  refine vl_nil ?_
  refine vc_ret ?_
  refine ⟨_, [], _, res1 Tryd.results7 rfl, .nil, ?_⟩
  show _ = _
  rw [txL_1 hk]
set_option maxRecDepth 20000 in
theorem vTx2 (p : Vk) (hk : p.k = 2) (w : World) : FnV Tryd.prog 7 [vk p] (.string (sL (txL p))) w := by
  refine fn_enter Tryd.func7 rfl Tryd.ntmps7 rfl ?_
  refine vc_seq ?_
  refine vc_region ?_
  refine vl_box rfl rfl (.some rfl) rfl (fun r1 => ?_)
  refine vl_val rfl (.some rfl) (val_assign rfl) ?_
  refine vl_nil ?_
  refine vc_seq ?_
  refine vc_region ?_
  refine vl_val rfl (.some rfl) (val_loadAgg Tryd.isAgg25 Tryd.sizeOf25 rfl (by first | exact cells_whole (by repeat constructor) | exact cells_part (by repeat constructor) rfl) rfl) ?_
  refine vl_callV rfl rfl (.some rfl) Tryd.call14 rfl (fun w hw => vOf p w) ?_
  rw [ofV_2 hk]
  refine vl_val rfl (.some rfl) (val_assign rfl) ?_
  refine vl_nil ?_
  refine vc_seq ?_
  refine vc_seq ?_
  refine vc_region ?_
  refine vl_val rfl (.some rfl) (val_move rfl) ?_
  refine vl_val rfl (.some rfl) (val_opO rfl rfl guard_iface (bin_iface_eq Tryd.runUnderlying40)) ?_
  refine vl_nil ?_
  refine vc_cond rfl (fun h => by cases h) (fun _ => ?_)
  refine vc_skip ?_
  refine vc_seq ?_
  refine vc_region ?_
  refine vl_val rfl (.some rfl) (val_move rfl) ?_
  refine vl_invokeV (f := 109) (v := .int .i64 p.n) rfl rfl (.some rfl) rfl rfl (fun args w => by kernel_rfl) (fun w hw => tx2 p.n w) ?_
  refine vl_val rfl (.some rfl) (val_assign rfl) ?_
  refine vl_nil ?_
  refine vc_ret ?_
  refine ⟨_, [], _, res1 Tryd.results7 rfl, .nil, ?_⟩
  show _ = _
  rw [txL_2 hk]
set_option maxRecDepth 20000 in
theorem vTx3 (p : Vk) (hk : p.k = 3) (hs : p.s.size ≤ 400) (w : World) : FnV Tryd.prog 7 [vk p] (.string (sL (txL p))) w := by
  refine fn_enter Tryd.func7 rfl Tryd.ntmps7 rfl ?_
  refine vc_seq ?_
  refine vc_region ?_
  refine vl_box rfl rfl (.some rfl) rfl (fun r1 => ?_)
  refine vl_val rfl (.some rfl) (val_assign rfl) ?_
  refine vl_nil ?_
  refine vc_seq ?_
  refine vc_region ?_
  refine vl_val rfl (.some rfl) (val_loadAgg Tryd.isAgg25 Tryd.sizeOf25 rfl (by first | exact cells_whole (by repeat constructor) | exact cells_part (by repeat constructor) rfl) rfl) ?_
  refine vl_callV rfl rfl (.some rfl) Tryd.call14 rfl (fun w hw => vOf p w) ?_
  rw [ofV_3 hk]
  refine vl_val rfl (.some rfl) (val_assign rfl) ?_
  refine vl_nil ?_
  refine vc_seq ?_
  refine vc_seq ?_
  refine vc_region ?_
  refine vl_val rfl (.some rfl) (val_move rfl) ?_
  refine vl_val rfl (.some rfl) (val_opO rfl rfl guard_iface (bin_iface_eq Tryd.runUnderlying40)) ?_
  refine vl_nil ?_
  refine vc_cond rfl (fun h => by cases h) (fun _ => ?_)
  refine vc_skip ?_
  refine vc_seq ?_
  refine vc_region ?_
  refine vl_val rfl (.some rfl) (val_move rfl) ?_
  refine vl_invokeV (f := 110) (v := .string p.s) rfl rfl (.some rfl) rfl rfl (fun args w => by kernel_rfl) (fun w hw => (by have h := tx3 p.s.data.toList (by rw [size_data]; exact hs) w; rw [sL_eta] at h; exact h)) ?_
  refine vl_val rfl (.some rfl) (val_assign rfl) ?_
  refine vl_nil ?_
  refine vc_ret ?_
  refine ⟨_, [], _, res1 Tryd.results7 rfl, .nil, ?_⟩
  show _ = _
  rw [txL_3 hk]
set_option maxRecDepth 20000 in
theorem vTx4 (p : Vk) (hk : p.k = 4) (w : World) : FnV Tryd.prog 7 [vk p] (.string (sL (txL p))) w := by
  refine fn_enter Tryd.func7 rfl Tryd.ntmps7 rfl ?_
  refine vc_seq ?_
  refine vc_region ?_
  refine vl_box rfl rfl (.some rfl) rfl (fun r1 => ?_)
  refine vl_val rfl (.some rfl) (val_assign rfl) ?_
  refine vl_nil ?_
  refine vc_seq ?_
  refine vc_region ?_
  refine vl_val rfl (.some rfl) (val_loadAgg Tryd.isAgg25 Tryd.sizeOf25 rfl (by first | exact cells_whole (by repeat constructor) | exact cells_part (by repeat constructor) rfl) rfl) ?_
  refine vl_callV rfl rfl (.some rfl) Tryd.call14 rfl (fun w hw => vOf p w) ?_
  rw [ofV_4 hk]
  refine vl_val rfl (.some rfl) (val_assign rfl) ?_
  refine vl_nil ?_
  refine vc_seq ?_
  refine vc_seq ?_
  refine vc_region ?_
  refine vl_val rfl (.some rfl) (val_move rfl) ?_
  refine vl_val rfl (.some rfl) (val_opO rfl rfl guard_iface (bin_iface_eq Tryd.runUnderlying40)) ?_
  refine vl_nil ?_
  refine vc_cond rfl (fun h => by cases h) (fun _ => ?_)
  refine vc_skip ?_
  refine vc_seq ?_
  refine vc_region ?_
  refine vl_val rfl (.some rfl) (val_move rfl) ?_
  refine vl_invokeV (f := 111) (v := .bool (decide (p.n ≠ 0))) rfl rfl (.some rfl) rfl rfl (fun args w => by kernel_rfl) (fun w hw => tx4 (decide (p.n ≠ 0)) w) ?_
  refine vl_val rfl (.some rfl) (val_assign rfl) ?_
  refine vl_nil ?_
  refine vc_ret ?_
  refine ⟨_, [], _, res1 Tryd.results7 rfl, .nil, ?_⟩
  show _ = _
  rw [txL_4 hk]
  simp
set_option maxRecDepth 20000 in
theorem lSame9 (A B : Option Addr) (c d : Nat) (a b : List Vk) (ha : a.length ≤ 1000000000000) (w : World) (hr : Reads w A (flat a)) (hr2 : Reads w B (flat b)) : FnV Tryd.prog 10 [.slice A a.length c, .slice B b.length d] (.bool (decide (a = b))) w := by
  refine fn_enter Tryd.func10 rfl Tryd.ntmps10 rfl ?_
  refine vc_seq ?_
  refine vc_region ?_
  refine vl_val rfl (.some rfl) (val_assign rfl) ?_
  refine vl_nil ?_
  refine vc_seq ?_
  refine vc_seq ?_
  refine vc_region ?_
  refine vl_val rfl (.some rfl) (val_move rfl) ?_
  refine vl_val rfl (.some rfl) (val_lenSl Tryd.runUnderlying22 rfl) ?_
  refine vl_val rfl (.some rfl) (val_move rfl) ?_
  refine vl_val rfl (.some rfl) (val_lenSl Tryd.runUnderlying22 rfl) ?_
  refine vl_val rfl (.some rfl) (val_ne rfl rfl) ?_
  refine vl_nil ?_
  refine vc_cond rfl (fun hc0 => ?_) (fun hc0 => ?_)
  · (try replace hc0 := of_decide_eq_true hc0)
    refine vc_seq ?_
    refine vc_region ?_
    refine vl_val rfl (.some rfl) (val_assign rfl) ?_
    refine vl_nil ?_
    refine vc_ret ?_
    refine ⟨_, [], _, res1 Tryd.results10 rfl, .nil, ?_⟩
    show _ = _; rw [decide_eq_false (fun h => hc0 (by rw [h]))]
  · (try replace hc0 := of_decide_eq_false hc0)
    have hlen : a.length = b.length := by omega
    refine vc_skip ?_
    refine vc_seq ?_
    refine vc_seq ?_
    refine vc_region ?_
    refine vl_val rfl (.some rfl) (val_move rfl) ?_
    refine vl_val rfl (.some rfl) (val_lenSl Tryd.runUnderlying22 rfl) ?_
    refine vl_val rfl (.some rfl) (val_move rfl) ?_
    refine vl_nil ?_
    refine vc_block ?_
    refine vc_loopw (fun k E H => ∃ i : Nat, i ≤ a.length ∧ k = a.length - i ∧ a.take i = b.take i ∧ E = [(0, .slice A a.length c), (1, .slice B b.length d), (12, .int .i64 a.length), (13, .int .i64 i)] ∧ H = []) (a.length) ⟨_, _, _, ⟨0, by omega, rfl, rfl, rfl, rfl⟩, (by repeat (first | exact trivial | refine ⟨rfl, ?_⟩ | refine ⟨le_item rfl (by first | rfl | (congr 1; omega) | (simp; done) | (simp; omega)), ?_⟩)), (by repeat constructor)⟩ ?_
    intro k E H hI
    obtain ⟨i, hi, rfl, ht, rfl, rfl⟩ := hI
    refine vc_seq ?_
    refine vc_region ?_
    refine vl_val rfl (.some rfl) (val_lt rfl rfl) ?_
    refine vl_nil ?_
    refine vc_seq ?_
    refine vc_cond rfl (fun hc1 => ?_) (fun hc1 => ?_)
    · (try replace hc1 := of_decide_eq_true hc1)
      refine vc_skip ?_
      refine vc_seq ?_
      refine vc_block ?_
      refine vc_seq ?_
      refine vc_region ?_
      refine vl_val rfl (.some rfl) (val_move rfl) ?_
      refine vl_val rfl (.some rfl) (val_assign rfl) ?_
      refine vl_nil ?_
      refine vc_seq ?_
      refine vc_draws [0, 1, 2, 3, 4, 5, 6, 7, 8] [] [0, 1, 2, 3, 4, 5, 6, 7, 8] rfl (by kernel_rfl) (fun _ _ _ h => h) ?_
      refine vd_val rfl rfl rfl (.some rfl) (val_move rfl) ?_
      refine vd_val rfl rfl rfl (.some rfl) (val_move rfl) ?_
      refine vd_val rfl rfl rfl (.some rfl) (val_indexAddr Tryd.runUnderlying22 Tryd.sizeOf25 rfl rfl (rd_old hr rfl) (by omega) (by omega) (by rw [vflat_len]; omega)) ?_
      refine vd_val rfl rfl rfl (.some rfl) (val_loadAgg Tryd.isAgg25 Tryd.sizeOf25 rfl (cells_rd (us := [.int .i64 (a.getD i z3).k, .int .i64 (a.getD i z3).n, .string (a.getD i z3).s]) (rd_old hr rfl) (flat_get rfl (by omega))) rfl) ?_
      refine vd_val rfl rfl rfl (.some rfl) (val_move rfl) ?_
      refine vd_val rfl rfl rfl (.some rfl) (val_move rfl) ?_
      refine vd_val rfl rfl rfl (.some rfl) (val_indexAddr Tryd.runUnderlying22 Tryd.sizeOf25 rfl rfl (rd_old hr2 rfl) (by omega) (by omega) (by rw [vflat_len]; omega)) ?_
      refine vd_val rfl rfl rfl (.some rfl) (val_loadAgg Tryd.isAgg25 Tryd.sizeOf25 rfl (cells_rd (us := [.int .i64 (b.getD i z3).k, .int .i64 (b.getD i z3).n, .string (b.getD i z3).s]) (rd_old hr2 rfl) (flat_get rfl (by omega))) rfl) ?_
      refine vd_val rfl rfl rfl (.some rfl) (val_opO rfl rfl (fun w => run_eqGuard_agg w _ _ _ _ _ _ (by kernel_rfl)) (bin_agg_ne (vk_equal (a.getD i z3) (b.getD i z3)))) ?_
      refine vd_nil ?_
      refine vc_cond rfl (fun hc2 => ?_) (fun hc2 => ?_)
      · (try replace hc2 := of_decide_eq_true hc2)
        refine vc_seq ?_
        refine vc_region ?_
        refine vl_val rfl (.some rfl) (val_assign rfl) ?_
        refine vl_nil ?_
        refine vc_ret ?_
        refine ⟨_, [], _, res1 Tryd.results10 rfl, .nil, ?_⟩
        show _ = _; rw [decide_eq_false (ne_at z3 (i := i) (by simpa using hc2))]
      · (try replace hc2 := of_decide_eq_false hc2)
        refine vc_skip ?_
        refine vc_region ?_
        refine vl_val rfl (.some rfl) (val_add rfl rfl (by first | exact w_i64 (by omega) (by omega) | rfl)) ?_
        refine vl_val rfl (.some rfl) (val_move rfl) ?_
        refine vl_nil ?_
        exact ⟨a.length - (i + 1), _, _, _, by omega, (by repeat (first | exact trivial | refine ⟨rfl, ?_⟩ | refine ⟨le_item rfl (by first | rfl | (congr 1; omega) | (simp; done) | (simp; omega)), ?_⟩)), (by repeat constructor), ⟨i + 1, by omega, rfl, pre_eq z3 ht (by omega) hlen (by simpa using hc2), rfl, rfl⟩⟩
    · (try replace hc1 := of_decide_eq_false hc1)
      refine vc_exit ?_
      refine vc_seq ?_
      refine vc_region ?_
      refine vl_val rfl (.some rfl) (val_assign rfl) ?_
      refine vl_nil ?_
      refine vc_ret ?_
      refine ⟨_, [], _, res1 Tryd.results10 rfl, .nil, ?_⟩
      show _ = _; rw [decide_eq_true (by rw [List.take_of_length_le (by omega), List.take_of_length_le (by omega)] at ht; exact ht)]

theorem vText (p : Vk) (hg : goodV p = true) (hw : WV p) (w : World) : FnV Tryd.prog 7 [vk p] (.string (sL (txL p))) w := by
  have hr := good_rng hg
  have : p.k = 0 ∨ p.k = 1 ∨ p.k = 2 ∨ p.k = 3 ∨ p.k = 4 := by omega
  rcases this with h | h | h | h | h
  · exact vTx0 p h w
  · exact vTx1 p h hw w
  · exact vTx2 p h w
  · exact vTx3 p h (by have := hr.2.2 h; omega) w
  · exact vTx4 p h w




/-! Of which value a text is. -/
def tg (l : List UInt8) : Int := if l = [78, 85, 76, 76] then 0 else if l.head? = some 39 then 3 else if l.head? = some 84 ∨ l.head? = some 70 then 4 else if l.head? = some 78 ∨ l.head? = some 73 ∨ l[1]? = some 102 ∨ l[1]? = some 73 then 2 else 1
def okD (d : UInt8) : Prop := d.toNat = 45 ∨ (48 ≤ d.toNat ∧ d.toNat ≤ 57)
theorem okD_ne {d c : UInt8} (h : okD d) (hc : c.toNat ≠ 45) (hc2 : c.toNat < 48 ∨ 57 < c.toNat) : d ≠ c := fun e => by subst e; unfold okD at h; omega
theorem prL_all (x : Int) : ∀ d ∈ prL x, okD d := by
  intro d hd
  by_cases h : x < 0
  · rw [prL_neg h] at hd
    rcases List.mem_cons.1 hd with rfl | hd
    · exact .inl rfl
    · exact .inr (prN_all d hd)
  · rw [prL_pos h] at hd
    exact .inr (prN_all d hd)
theorem get_okD {l : List UInt8} (h : ∀ d ∈ l, okD d) {i : Nat} {c : UInt8} (hc : c.toNat ≠ 45) (hc2 : c.toNat < 48 ∨ 57 < c.toNat) : l[i]? ≠ some c := fun e => okD_ne (h c (List.mem_of_getElem? e)) hc hc2 rfl
theorem tg_dig {l : List UInt8} (h : ∀ d ∈ l, okD d) : tg l = 1 := by
  have hh : ∀ c : UInt8, c.toNat ≠ 45 → (c.toNat < 48 ∨ 57 < c.toNat) → l.head? ≠ some c := fun c h1 h2 => by rw [List.head?_eq_getElem?]; exact get_okD h h1 h2
  unfold tg
  rw [if_neg (fun e => by rw [e] at hh; exact hh 78 (by decide) (by decide) rfl), if_neg (hh 39 (by decide) (by decide)), if_neg, if_neg]
  · rintro (e | e | e | e)
    · exact hh 78 (by decide) (by decide) e
    · exact hh 73 (by decide) (by decide) e
    · exact get_okD h (by decide) (by decide) e
    · exact get_okD h (by decide) (by decide) e
  · rintro (e | e)
    · exact hh 84 (by decide) (by decide) e
    · exact hh 70 (by decide) (by decide) e
theorem tg_tx {p : Vk} (hg : goodV p = true) : tg (txL p) = p.k := by
  have hr := good_rng hg
  have : p.k = 0 ∨ p.k = 1 ∨ p.k = 2 ∨ p.k = 3 ∨ p.k = 4 := by omega
  rcases this with h | h | h | h | h
  · rw [txL_0 h, h]; rfl
  · rw [txL_1 h, h]; exact tg_dig (prL_all _)
  · rw [txL_2 h, h]
    have hc : canS p.n = p.n := by
      unfold goodV at hg
      rw [if_neg (by omega), if_neg (by omega), if_pos h] at hg
      simp only [Bool.and_eq_true, decide_eq_true_eq] at hg
      exact hg.2
    rcases print_cases p.n hc with ⟨e, _⟩ | ⟨e, _⟩ | ⟨e, _⟩ | e <;> rw [e]
    · decide
    · decide
    · decide
    · show tg (48 :: 102 :: hexS (ub p.n)) = 2
      unfold tg
      rw [if_neg (fun e => by cases e), if_neg (fun e => by cases e), if_neg (fun e => by rcases e with e | e <;> cases e), if_pos (.inr (.inr (.inl rfl)))]
  · rw [txL_3 h, h]
    unfold tg
    rw [if_neg (fun e => by cases e)]
    exact if_pos rfl
  · rw [txL_4 h, h]
    split <;> rfl
theorem good_4 {p : Vk} (hg : goodV p = true) (h : p.k = 4) : p.n = 0 ∨ p.n = 1 := by
  unfold goodV at hg
  rw [if_neg (by omega), if_neg (by omega), if_neg (by omega), if_neg (by omega), if_pos h] at hg
  simp only [Bool.and_eq_true, Bool.or_eq_true, decide_eq_true_eq] at hg
  exact hg.2
theorem good_2 {p : Vk} (hg : goodV p = true) (h : p.k = 2) : canS p.n = p.n := by
  unfold goodV at hg
  rw [if_neg (by omega), if_neg (by omega), if_pos h] at hg
  simp only [Bool.and_eq_true, decide_eq_true_eq] at hg
  exact hg.2
theorem vk_ext {p q : Vk} (h1 : p.k = q.k) (h2 : p.n = q.n) (h3 : p.s = q.s) : p = q := by
  obtain ⟨a, b, c⟩ := p; obtain ⟨d, e, f⟩ := q; simp only at h1 h2 h3; subst h1 h2 h3; rfl
theorem list_ba {a b : ByteArray} (h : a.data.toList = b.data.toList) : a = b := by rw [← sL_eta a, ← sL_eta b, h]
theorem tx_inj {p q : Vk} (hp : goodV p = true) (hq : goodV q = true) (wp : WV p) (wq : WV q) (h : txL p = txL q) : p = q := by
  have hk : p.k = q.k := by rw [← tg_tx hp, ← tg_tx hq, h]
  rcases good_kinds hp with ⟨h0, e1⟩ | ⟨h0, hs⟩ | ⟨h0, hn, _⟩
  · rcases good_kinds hq with ⟨_, e2⟩ | ⟨h2, _⟩ | ⟨h2, _⟩
    · rw [e1, e2]
    · omega
    · omega
  · have hs2 : q.s = ⟨#[]⟩ := by
      rcases good_kinds hq with ⟨h2, _⟩ | ⟨_, h2⟩ | ⟨h2, _⟩
      · omega
      · exact h2
      · omega
    refine vk_ext hk ?_ (hs.trans hs2.symm)
    rcases h0 with h0 | h0 | h0
    · rw [txL_1 h0, txL_1 (by omega)] at h
      have i1 : inW p.n := by unfold inW; unfold WV at wp; omega
      have i2 : inW q.n := by unfold inW; unfold WV at wq; omega
      rw [← sval_prL i1, ← sval_prL i2, h]
    · rw [txL_2 h0, txL_2 (by omega)] at h
      exact print_inj ⟨wp.1, wp.2, good_2 hp h0⟩ ⟨wq.1, wq.2, good_2 hq (by omega)⟩ (list_ba h)
    · rw [txL_4 h0, txL_4 (by omega)] at h
      rcases good_4 hp h0 with a | a <;> rcases good_4 hq (by omega) with b | b <;> rw [a, b] at h ⊢ <;> exact absurd h (by decide)
  · have h3 : q.k = 3 := by omega
    have hn2 : q.n = 0 := by
      rcases good_kinds hq with ⟨h2, _⟩ | ⟨h2, _⟩ | ⟨_, h2, _⟩
      · omega
      · omega
      · exact h2
    refine vk_ext hk (hn.trans hn2.symm) ?_
    rw [txL_3 h0, txL_3 h3] at h
    exact list_ba (dbl_inj (List.append_cancel_right (List.cons.inj h).2))
/-! The values that a text may be of. -/
def fitI (x : Int) : Int := if inI x then x else 0
def cW (l : List UInt8) : List Vk := if (parO l).isSome = true then [⟨1, fitI ((parO l).getD 0), ⟨#[]⟩⟩] else []
noncomputable def cF (l : List UInt8) : List Vk := if (parseS (sL l)).2 = true then [⟨2, (parseS (sL l)).1, ⟨#[]⟩⟩] else []
def cS (p : Vk) : List Vk := if p.k = 3 then [⟨3, 0, p.s⟩] else []
abbrev cE : List Vk := [⟨0, 0, ⟨#[]⟩⟩, ⟨4, 0, ⟨#[]⟩⟩, ⟨4, 1, ⟨#[]⟩⟩]
noncomputable def cand (p : Vk) : List Vk := ((cW (txL p) ++ cF (txL p)) ++ cS p) ++ cE
theorem parse_bd (s : ByteArray) : -9223372036854775808 ≤ (parseS s).1 ∧ (parseS s).1 < 9223372036854775808 := by
  by_cases h : ∃ n, okf n ∧ printS n = s
  · obtain ⟨n, h1, h2⟩ := h
    rw [parse_yes h1 h2]; exact ⟨h1.1, h1.2.1⟩
  · unfold parseS; rw [dif_neg h]; decide
theorem cand_wv {p : Vk} : ∀ x ∈ cand p, WV x := by
  intro x hx
  unfold cand at hx
  simp only [List.mem_append] at hx
  rcases hx with ((hx | hx) | hx) | hx
  · unfold cW at hx
    split at hx
    · rw [List.mem_singleton.1 hx]
      show _ ≤ fitI _ ∧ fitI _ < _
      unfold fitI
      split
      · assumption
      · decide
    · cases hx
  · unfold cF at hx
    split at hx
    · rw [List.mem_singleton.1 hx]; exact parse_bd _
    · cases hx
  · unfold cS at hx
    split at hx
    · rw [List.mem_singleton.1 hx]; exact ⟨by show (-9223372036854775808 : Int) ≤ 0; decide, by show (0 : Int) < 9223372036854775808; decide⟩
    · cases hx
  · simp only [List.mem_cons, List.not_mem_nil, or_false] at hx
    rcases hx with rfl | rfl | rfl <;> unfold WV <;> decide
theorem cand_mem {p : Vk} (hg : goodV p = true) (hw : WV p) : p ∈ cand p := by
  unfold cand
  simp only [List.mem_append]
  rcases good_kinds hg with ⟨h0, e1⟩ | ⟨h0, hs⟩ | ⟨h0, hn, _⟩
  · exact .inr (by rw [e1]; exact List.mem_cons_self ..)
  · rcases h0 with h0 | h0 | h0
    · refine .inl (.inl (.inl ?_))
      have i1 : inW p.n := by unfold inW; unfold WV at hw; omega
      have hi : inI p.n := hw
      unfold cW
      rw [txL_1 h0, parO_print i1, if_pos (show (some p.n).isSome = true from rfl), List.mem_singleton]
      exact vk_ext h0 (by show p.n = fitI p.n; unfold fitI; rw [if_pos hi]) hs
    · refine .inl (.inl (.inr ?_))
      have hp := parse_print hw.1 hw.2
      unfold cF
      rw [txL_2 h0, sL_eta, hp, if_pos rfl, List.mem_singleton]
      exact vk_ext h0 (good_2 hg h0).symm hs
    · refine .inr ?_
      rcases good_4 hg h0 with h | h
      · exact List.mem_cons_of_mem _ (by rw [vk_ext (q := ⟨4, 0, ⟨#[]⟩⟩) h0 h hs]; exact List.mem_cons_self ..)
      · exact List.mem_cons_of_mem _ (List.mem_cons_of_mem _ (by rw [vk_ext (q := ⟨4, 1, ⟨#[]⟩⟩) h0 h hs]; exact List.mem_cons_self ..))
  · refine .inl (.inr ?_)
    unfold cS
    rw [if_pos h0, List.mem_singleton]
    exact vk_ext h0 hn rfl
theorem tx_k3 {p : Vk} (hg : goodV p = true) (h : (txL p).getD 0 0 = 39) (hl : 1 < (txL p).length) : p.k = 3 := by
  rw [← tg_tx hg]
  cases e : txL p with
  | nil => rw [e] at hl; simp at hl
  | cons c l =>
    rw [e] at h
    have h : c = 39 := h
    subst h
    unfold tg
    rw [if_neg (fun e => by cases e)]
    exact if_pos rfl
theorem tx_len {p : Vk} (hg : goodV p = true) (hw : WV p) : (txL p).length ≤ 200 := by
  have hr := good_rng hg
  have : p.k = 0 ∨ p.k = 1 ∨ p.k = 2 ∨ p.k = 3 ∨ p.k = 4 := by omega
  rcases this with h | h | h | h | h
  · rw [txL_0 h]; decide
  · rw [txL_1 h]
    have i1 : inW p.n := by unfold inW; unfold WV at hw; omega
    have hn := inW_nat i1
    by_cases hx : p.n < 0
    · rw [prL_neg hx]; have := prN_len hn.1 (by decide) (by decide); simp only [List.length_cons]; omega
    · rw [prL_pos hx]; have := prN_len hn.2 (by decide) (by decide); omega
  · rw [txL_2 h]
    rcases print_cases p.n (good_2 hg h) with ⟨e, _⟩ | ⟨e, _⟩ | ⟨e, _⟩ | e <;> rw [e]
    · decide
    · decide
    · decide
    · show (48 :: 102 :: hexS (ub p.n)).length ≤ 200
      have : (hexS (ub p.n)).length = 16 := by simp [hexS]
      simp only [List.length_cons]; omega
  · rw [txL_3 h]
    have h1 := dbl_len p.s.data.toList
    have h2 := cnt_le p.s.data.toList
    have h3 := size_data p.s
    have h4 := hr.2.2 h
    simp only [List.length_cons, List.length_append, List.length_nil]; omega
  · rw [txL_4 h]; split <;> decide
theorem tx_mid {p : Vk} (h : p.k = 3) : ((txL p).take ((txL p).length - 1)).drop 1 = dblG p.s.data.toList := by
  rw [txL_3 h]
  simp only [List.length_cons, List.length_append, List.length_nil, Nat.add_sub_cancel]
  rw [List.take_succ_cons, List.drop_one, List.tail_cons, List.take_left]

theorem tx_is3 {p : Vk} (h : p.k = 3) : 1 < (txL p).length ∧ (txL p).getD 0 0 = 39 := by
  rw [txL_3 h]
  exact ⟨by simp only [List.length_cons, List.length_append, List.length_nil]; omega, rfl⟩
theorem notyet {K : List Vk} {i : Nat} {p : Vk} (h : p ∉ K.take i) (hi : i < K.length) (hne : p ≠ K.getD i z3) : p ∉ K.take (i + 1) := by
  rw [take_push z3 hi]
  intro hm
  rcases List.mem_append.1 hm with hm | hm
  · exact h hm
  · exact hne (List.mem_singleton.1 hm)

set_option maxRecDepth 20000 in
set_option maxHeartbeats 2000000 in
theorem vParse (p : Vk) (hg : goodV p = true) (hw : WV p) (w : World) (hm : ∃ m, w.cell? ⟨1, 0, none⟩ = some (.int .i64 m)) : FnV Tryd.prog 6 [.string (sL (txL p))] (.tuple #[vk p, .bool true]) w := by
  obtain ⟨m, hm⟩ := hm
  have htl := tx_len hg hw
  have hts := sL_size (txL p)
  have hpin := parO_inD (txL p)
  have hl1 : (cW (txL p)).length ≤ 1 := by unfold cW; split <;> simp
  have hl2 : (cF (txL p)).length ≤ 1 := by unfold cF; split <;> simp
  have hl3 : (cS p).length ≤ 1 := by unfold cS; split <;> simp
  have hl12 := @List.length_append _ (cW (txL p)) (cF (txL p))
  have hl123 := @List.length_append _ (cW (txL p) ++ cF (txL p)) (cS p)
  refine fn_enter Tryd.func6 rfl Tryd.ntmps6 rfl ?_
  refine vc_seq ?_
  refine vc_region ?_
  refine vl_alloc rfl rfl (.some rfl) Tryd.zeroValue25 (fun r2 => ?_)
  refine vl_val rfl (.some rfl) (val_assign rfl) ?_
  refine vl_nil ?_
  refine vc_seq ?_
  refine vc_region ?_
  refine vl_val rfl (.some rfl) (val_assign rfl) ?_
  refine vl_nilSl 25 3 ?_
  refine vl_nil ?_
  refine vc_cut (fun E H => ∃ E0 H0 F, Env.le E0 E ∧ Sub H0 H F ∧ (fun E H => ∃ (A9 : Option Addr) (c9 : Nat) (l9 : List Vk), l9 = cW (txL p) ∧ E = [(0, .string (sL (txL p))), (2, .pointer (some ⟨r2, 0, none⟩)), (4, .slice A9 l9.length c9)] ∧ H = [cells r2 [.int .i64 0, .int .i64 0, .string ⟨#[]⟩] 25, DS A9 c9 l9]) E0 H0) ?_ (fun E H h => ?_)
  ·
    refine vc_seq ?_
    refine vc_region ?_
    refine vl_val rfl (.some rfl) (val_move rfl) ?_
    refine vl_callV rfl rfl (.some rfl) Tryd.call16 rfl (fun w hw => wParse (txL p) (by omega) w) ?_
    refine vl_val rfl (.some rfl) (val_move rfl) ?_
    refine vl_val rfl (.some rfl) (val_extract rfl rfl) ?_
    refine vl_val rfl (.some rfl) (val_extract rfl rfl) ?_
    refine vl_alloc rfl rfl (.some rfl) Tryd.zeroValue51 (fun r5 => ?_)
    first | refine vl_store rfl rfl .none rfl rfl Tryd.sizeOf51 rfl (by repeat constructor) (by first | decide | exact Nat.le_refl _ | exact Nat.le_of_ble_eq_true rfl | (simp; omega)) ?_ | refine vl_storeSl rfl rfl .none rfl rfl Tryd.sizeOf51 rfl (by simp [Value.cells]) (by repeat constructor) (by first | decide | (simp [Value.cells]; omega)) ?_
    refine vl_val rfl (.some rfl) (val_assign rfl) ?_
    refine vl_nil ?_
    refine vc_seq ?_
    refine vc_region ?_
    refine vl_val rfl (.some rfl) (val_move rfl) ?_
    refine vl_nil ?_
    refine vc_cond rfl (fun hc0 => ?_) (fun hc0 => ?_)
    · (try replace hc0 := of_decide_eq_true hc0)
      refine vc_seq ?_
      refine vc_region ?_
      refine vl_val rfl (.some rfl) (val_loadAgg Tryd.isAgg51 Tryd.sizeOf51 rfl (by first | exact cells_whole (by repeat constructor) | exact cells_part (by repeat constructor) rfl) rfl) ?_
      refine vl_callV rfl rfl (.some rfl) Tryd.call17 rfl (fun w hw => wFits ((parO (txL p)).getD 0) hpin w) ?_
      refine vl_val rfl (.some rfl) (val_move rfl) ?_
      refine vl_val rfl (.some rfl) (val_extract rfl rfl) ?_
      refine vl_val rfl (.some rfl) (val_extract rfl rfl) ?_
      refine vl_val rfl (.some rfl) (val_assign rfl) ?_
      refine vl_val rfl (.some rfl) (val_assign rfl) ?_
      refine vl_nil ?_
      refine vc_region ?_
      refine vl_val rfl (.some rfl) (val_move rfl) ?_
      refine vl_val rfl (.some rfl) (val_move rfl) ?_
      refine vl_val rfl (.some rfl) (val_buildSt (pl := #[(0, 1), (1, 1), (2, 1)]) (cs := #[.int .i64 1, .int .i64 (fitI ((parO (txL p)).getD 0)), .string ⟨#[]⟩]) Tryd.runUnderlying25 Tryd.zeroValue25 (fun w => by kernel_rfl) rfl rfl) ?_
      refine vl_lit sT22 rfl rfl (.some rfl) rfl rfl rfl (by decide) (by decide) rfl rfl (fun r27 => ?_)
      refine vl_append (us := flat [(⟨1, fitI ((parO (txL p)).getD 0), ⟨#[]⟩⟩ : Vk)]) sT22 rfl rfl (.some rfl) rfl rfl (rd_sl (by repeat constructor)) rfl rfl (by omega) (by omega) (by repeat constructor) (fun A28 k28 => ?_)
      rw [show ([] : List Value) ++ flat [(⟨1, fitI ((parO (txL p)).getD 0), ⟨#[]⟩⟩ : Vk)] = flat (cW (txL p)) by unfold cW; rw [if_pos hc0]; rfl, show 0 + 1 = (cW (txL p)).length by unfold cW; rw [if_pos hc0]; rfl]
      refine vl_val rfl (.some rfl) (val_assign rfl) ?_
      refine vl_nil ?_
      first
        | exact ⟨_, _, _, (by repeat (first | exact trivial | refine ⟨rfl, ?_⟩ | refine ⟨le_item rfl (by first | rfl | (congr 1; omega) | (simp; done) | (simp; omega)), ?_⟩)), (by repeat constructor), ⟨A28, k28, cW (txL p), rfl, rfl, rfl⟩⟩
        | exact ⟨_, _, _, (by repeat (first | exact trivial | refine ⟨rfl, ?_⟩ | refine ⟨le_item rfl (by first | rfl | (congr 1; omega) | (simp; done) | (simp; omega)), ?_⟩)), (by repeat constructor), ⟨none, 0, [], hcw.symm, rfl, rfl⟩⟩
    · (try replace hc0 := of_decide_eq_false hc0)
      have hcw : cW (txL p) = [] := by unfold cW; rw [if_neg (by rw [hc0]; decide)]
      refine vc_skip ?_
      first
        | exact ⟨_, _, _, (by repeat (first | exact trivial | refine ⟨rfl, ?_⟩ | refine ⟨le_item rfl (by first | rfl | (congr 1; omega) | (simp; done) | (simp; omega)), ?_⟩)), (by repeat constructor), ⟨A28, k28, cW (txL p), rfl, rfl, rfl⟩⟩
        | exact ⟨_, _, _, (by repeat (first | exact trivial | refine ⟨rfl, ?_⟩ | refine ⟨le_item rfl (by first | rfl | (congr 1; omega) | (simp; done) | (simp; omega)), ?_⟩)), (by repeat constructor), ⟨none, 0, [], hcw.symm, rfl, rfl⟩⟩
  · obtain ⟨E0, H0, F, hE0, hH0, hJ⟩ := h
    obtain ⟨A9, c9, l9, rfl, rfl, rfl⟩ := hJ
    refine vc_weak hE0 hH0 ?_
    refine vc_cut (fun E H => ∃ E0 H0 F, Env.le E0 E ∧ Sub H0 H F ∧ (fun E H => ∃ (A9 : Option Addr) (c9 : Nat) (l9 : List Vk), l9 = cW (txL p) ++ cF (txL p) ∧ E = [(0, .string (sL (txL p))), (2, .pointer (some ⟨r2, 0, none⟩)), (4, .slice A9 l9.length c9)] ∧ H = [cells r2 [.int .i64 0, .int .i64 0, .string ⟨#[]⟩] 25, DS A9 c9 l9]) E0 H0) ?_ (fun E H h => ?_)
    ·
      refine vc_seq ?_
      refine vc_region ?_
      refine vl_val rfl (.some rfl) (val_move rfl) ?_
      refine vl_callV rfl rfl (.some rfl) Tryd.call18 rfl (fun w hw => oParse (sL (txL p)) w) ?_
      refine vl_val rfl (.some rfl) (val_move rfl) ?_
      refine vl_val rfl (.some rfl) (val_extract rfl rfl) ?_
      refine vl_val rfl (.some rfl) (val_extract rfl rfl) ?_
      refine vl_val rfl (.some rfl) (val_assign rfl) ?_
      refine vl_val rfl (.some rfl) (val_assign rfl) ?_
      refine vl_nil ?_
      refine vc_seq ?_
      refine vc_region ?_
      refine vl_val rfl (.some rfl) (val_move rfl) ?_
      refine vl_nil ?_
      refine vc_cond rfl (fun hc1 => ?_) (fun hc1 => ?_)
      · (try replace hc1 := of_decide_eq_true hc1)
        refine vc_region ?_
        refine vl_val rfl (.some rfl) (val_move rfl) ?_
        refine vl_val rfl (.some rfl) (val_move rfl) ?_
        refine vl_val rfl (.some rfl) (val_buildSt (pl := #[(0, 1), (1, 1), (2, 1)]) (cs := #[.int .i64 2, .int .i64 (parseS (sL (txL p))).1, .string ⟨#[]⟩]) Tryd.runUnderlying25 Tryd.zeroValue25 (fun w => by kernel_rfl) rfl rfl) ?_
        refine vl_lit sT22 rfl rfl (.some rfl) rfl rfl rfl (by decide) (by decide) rfl rfl (fun r38 => ?_)
        refine vl_append (us := flat [(⟨2, (parseS (sL (txL p))).1, ⟨#[]⟩⟩ : Vk)]) sT22 rfl rfl (.some rfl) rfl rfl (rd_sl (by repeat constructor)) rfl rfl (by omega) (by omega) (by repeat constructor) (fun A39 k39 => ?_)
        rw [vk_flat1, show (cW (txL p)).length + 1 = (cW (txL p) ++ [(⟨2, (parseS (sL (txL p))).1, ⟨#[]⟩⟩ : Vk)]).length by simp only [List.length_append, List.length_singleton], show cW (txL p) ++ [(⟨2, (parseS (sL (txL p))).1, ⟨#[]⟩⟩ : Vk)] = cW (txL p) ++ cF (txL p) by unfold cF; rw [if_pos hc1]]
        refine vl_val rfl (.some rfl) (val_assign rfl) ?_
        refine vl_nil ?_
        first
          | exact ⟨_, _, _, (by repeat (first | exact trivial | refine ⟨rfl, ?_⟩ | refine ⟨le_item rfl (by first | rfl | (congr 1; omega) | (simp; done) | (simp; omega)), ?_⟩)), (by repeat constructor), ⟨A39, k39, cW (txL p) ++ cF (txL p), rfl, rfl, rfl⟩⟩
          | exact ⟨_, _, _, (by repeat (first | exact trivial | refine ⟨rfl, ?_⟩ | refine ⟨le_item rfl (by first | rfl | (congr 1; omega) | (simp; done) | (simp; omega)), ?_⟩)), (by repeat constructor), ⟨A9, c9, cW (txL p), by rw [hcf, List.append_nil], rfl, rfl⟩⟩
      · (try replace hc1 := of_decide_eq_false hc1)
        have hcf : cF (txL p) = [] := by unfold cF; rw [if_neg (by rw [hc1]; decide)]
        refine vc_skip ?_
        first
          | exact ⟨_, _, _, (by repeat (first | exact trivial | refine ⟨rfl, ?_⟩ | refine ⟨le_item rfl (by first | rfl | (congr 1; omega) | (simp; done) | (simp; omega)), ?_⟩)), (by repeat constructor), ⟨A39, k39, cW (txL p) ++ cF (txL p), rfl, rfl, rfl⟩⟩
          | exact ⟨_, _, _, (by repeat (first | exact trivial | refine ⟨rfl, ?_⟩ | refine ⟨le_item rfl (by first | rfl | (congr 1; omega) | (simp; done) | (simp; omega)), ?_⟩)), (by repeat constructor), ⟨A9, c9, cW (txL p), by rw [hcf, List.append_nil], rfl, rfl⟩⟩
    · obtain ⟨E0, H0, F, hE0, hH0, hJ⟩ := h
      obtain ⟨A9, c9, l9, rfl, rfl, rfl⟩ := hJ
      refine vc_weak hE0 hH0 ?_
      refine vc_cut (fun E H => ∃ E0 H0 F, Env.le E0 E ∧ Sub H0 H F ∧ (fun E H => ∃ (A9 : Option Addr) (c9 : Nat) (l9 : List Vk), l9 = (cW (txL p) ++ cF (txL p)) ++ cS p ∧ E = [(0, .string (sL (txL p))), (2, .pointer (some ⟨r2, 0, none⟩)), (4, .slice A9 l9.length c9)] ∧ H = [cells r2 [.int .i64 0, .int .i64 0, .string ⟨#[]⟩] 25, DS A9 c9 l9]) E0 H0) ?_ (fun E H h => ?_)
      ·
        refine vc_seq ?_
        refine vc_region ?_
        refine vl_val rfl (.some rfl) (val_move rfl) ?_
        refine vl_val rfl (.some rfl) (val_lenStr Tryd.runUnderlying9 rfl) ?_
        refine vl_val rfl (.some rfl) (val_gt rfl rfl) ?_
        refine vl_val rfl (.some rfl) (val_move rfl) ?_
        refine vl_split (t := 43) rfl (fun hg43 => ?_) (fun hg43 => ?_)
        · (try replace hg43 := of_decide_eq_true hg43)
          
          refine vl_on rfl rfl rfl rfl ?_
          refine vl_val rfl (.some rfl) (val_move rfl) ?_
          refine vl_on rfl rfl rfl rfl ?_
          refine vl_val rfl (.some rfl) (val_indexStr Tryd.runUnderlying9 rfl rfl (by decide) (by rw [hts]; omega)) ?_
          refine vl_on rfl rfl rfl rfl ?_
          refine vl_val rfl (.some rfl) (val_eq rfl rfl) ?_
          refine vl_val rfl (.some rfl) (val_pick rfl rfl) ?_
          refine vl_nil ?_
          refine vc_cond rfl (fun hc2 => ?_) (fun hc2 => ?_)
          · (try replace hc2 := of_decide_eq_true hc2)
            rw [show Int.toNat (0 : Int) = 0 from rfl, bt_sL] at hc2
            have hk3 : p.k = 3 := tx_k3 hg (UInt8.toNat_inj.1 (by show _ = 39; omega)) (by omega)
            have hsz := good_rng hg
            refine vc_region ?_
            refine vl_val rfl (.some rfl) (val_move rfl) ?_
            refine vl_val rfl (.some rfl) (val_move rfl) ?_
            refine vl_val rfl (.some rfl) (val_move rfl) ?_
            refine vl_val rfl (.some rfl) (val_lenStr Tryd.runUnderlying9 rfl) ?_
            refine vl_val rfl (.some rfl) (val_sub rfl rfl (show _ = (((txL p).length - 1 : Nat) : Int) by rw [hts, w_i64 (by omega) (by omega)]; omega)) ?_
            refine vl_val rfl (.some rfl) (val_cutStr Tryd.runUnderlying9 rfl rfl rfl (by omega) (by omega) (by rw [hts]; omega)) ?_
            rw [Int.toNat_natCast, show Int.toNat (1 : Int) = 1 from rfl, sL_cut, tx_mid hk3]
            refine vl_callV rfl rfl (.some rfl) Tryd.call19 rfl (fun w hw => repA2 p.s.data.toList (by rw [size_data]; omega) w ⟨m, cell_old hm List.not_mem_nil w hw⟩) ?_
            rw [sL_eta]
            refine vl_val rfl (.some rfl) (val_buildSt (pl := #[(0, 1), (1, 1), (2, 1)]) (cs := #[.int .i64 3, .int .i64 0, .string p.s]) Tryd.runUnderlying25 Tryd.zeroValue25 (fun w => by kernel_rfl) rfl rfl) ?_
            refine vl_lit sT22 rfl rfl (.some rfl) rfl rfl rfl (by decide) (by decide) rfl rfl (fun r56 => ?_)
            refine vl_append (us := flat [(⟨3, 0, p.s⟩ : Vk)]) sT22 rfl rfl (.some rfl) rfl rfl (rd_sl (by repeat constructor)) rfl rfl (by omega) (by omega) (by repeat constructor) (fun A57 k57 => ?_)
            rw [vk_flat1, show (cW (txL p) ++ cF (txL p)).length + 1 = (cW (txL p) ++ cF (txL p) ++ [(⟨3, 0, p.s⟩ : Vk)]).length by simp only [List.length_append, List.length_singleton], show (cW (txL p) ++ cF (txL p)) ++ [(⟨3, 0, p.s⟩ : Vk)] = (cW (txL p) ++ cF (txL p)) ++ cS p by unfold cS; rw [if_pos hk3]]
            refine vl_val rfl (.some rfl) (val_assign rfl) ?_
            refine vl_nil ?_
            first
              | exact ⟨_, _, _, (by repeat (first | exact trivial | refine ⟨rfl, ?_⟩ | refine ⟨le_item rfl (by first | rfl | (congr 1; omega) | (simp; done) | (simp; omega)), ?_⟩)), (by repeat constructor), ⟨A57, k57, (cW (txL p) ++ cF (txL p)) ++ cS p, rfl, rfl, rfl⟩⟩
              | exact ⟨_, _, _, (by repeat (first | exact trivial | refine ⟨rfl, ?_⟩ | refine ⟨le_item rfl (by first | rfl | (congr 1; omega) | (simp; done) | (simp; omega)), ?_⟩)), (by repeat constructor), ⟨A9, c9, cW (txL p) ++ cF (txL p), by rw [hcs, List.append_nil], rfl, rfl⟩⟩
          · (try replace hc2 := of_decide_eq_false hc2)
            have hk3 : p.k ≠ 3 := fun h => hc2 (by rw [show Int.toNat (0 : Int) = 0 from rfl, bt_sL, (tx_is3 h).2]; rfl)
            have hcs : cS p = [] := by unfold cS; rw [if_neg hk3]
            refine vc_skip ?_
            first
              | exact ⟨_, _, _, (by repeat (first | exact trivial | refine ⟨rfl, ?_⟩ | refine ⟨le_item rfl (by first | rfl | (congr 1; omega) | (simp; done) | (simp; omega)), ?_⟩)), (by repeat constructor), ⟨A57, k57, (cW (txL p) ++ cF (txL p)) ++ cS p, rfl, rfl, rfl⟩⟩
              | exact ⟨_, _, _, (by repeat (first | exact trivial | refine ⟨rfl, ?_⟩ | refine ⟨le_item rfl (by first | rfl | (congr 1; omega) | (simp; done) | (simp; omega)), ?_⟩)), (by repeat constructor), ⟨A9, c9, cW (txL p) ++ cF (txL p), by rw [hcs, List.append_nil], rfl, rfl⟩⟩
        · (try replace hg43 := of_decide_eq_false hg43)
          
          refine vl_off rfl rfl rfl rfl (.some rfl) ?_
          refine vl_off rfl rfl rfl rfl (.some rfl) ?_
          refine vl_off rfl rfl rfl rfl (.some rfl) ?_
          refine vl_val rfl (.some rfl) (val_pick rfl rfl) ?_
          refine vl_nil ?_
          refine vc_cond rfl (fun h => by cases h) (fun _ => ?_)
          have hk3 : p.k ≠ 3 := fun h => by have := (tx_is3 h).1; rw [hts] at hg43; omega
          have hcs : cS p = [] := by unfold cS; rw [if_neg hk3]
          refine vc_skip ?_
          first
            | exact ⟨_, _, _, (by repeat (first | exact trivial | refine ⟨rfl, ?_⟩ | refine ⟨le_item rfl (by first | rfl | (congr 1; omega) | (simp; done) | (simp; omega)), ?_⟩)), (by repeat constructor), ⟨A57, k57, (cW (txL p) ++ cF (txL p)) ++ cS p, rfl, rfl, rfl⟩⟩
            | exact ⟨_, _, _, (by repeat (first | exact trivial | refine ⟨rfl, ?_⟩ | refine ⟨le_item rfl (by first | rfl | (congr 1; omega) | (simp; done) | (simp; omega)), ?_⟩)), (by repeat constructor), ⟨A9, c9, cW (txL p) ++ cF (txL p), by rw [hcs, List.append_nil], rfl, rfl⟩⟩
      · obtain ⟨E0, H0, F, hE0, hH0, hJ⟩ := h
        obtain ⟨A9, c9, l9, rfl, rfl, rfl⟩ := hJ
        refine vc_weak hE0 hH0 ?_
        refine vc_seq ?_
        refine vc_region ?_
        refine vl_val rfl (.some rfl) (val_move rfl) ?_
        refine vl_val rfl (.some rfl) (val_buildSt (pl := #[(0, 1), (1, 1), (2, 1)]) (cs := #[.int .i64 0, .int .i64 0, .string ⟨#[]⟩]) Tryd.runUnderlying25 Tryd.zeroValue25 (fun w => by kernel_rfl) rfl rfl) ?_
        refine vl_val rfl (.some rfl) (val_buildSt (pl := #[(0, 1), (1, 1), (2, 1)]) (cs := #[.int .i64 4, .int .i64 0, .string ⟨#[]⟩]) Tryd.runUnderlying25 Tryd.zeroValue25 (fun w => by kernel_rfl) rfl rfl) ?_
        refine vl_val rfl (.some rfl) (val_buildSt (pl := #[(0, 1), (1, 1), (2, 1)]) (cs := #[.int .i64 4, .int .i64 1, .string ⟨#[]⟩]) Tryd.runUnderlying25 Tryd.zeroValue25 (fun w => by kernel_rfl) rfl rfl) ?_
        refine vl_lit sT22 rfl rfl (.some rfl) rfl rfl rfl (by decide) (by decide) rfl rfl (fun r62 => ?_)
        refine vl_append (us := flat cE) sT22 rfl rfl (.some rfl) rfl rfl (rd_sl (by repeat constructor)) rfl rfl (by omega) (by omega) (by repeat constructor) (fun A63 k63 => ?_)
        rw [show flat ((cW (txL p) ++ cF (txL p)) ++ cS p) ++ flat cE = flat (cand p) by unfold cand flat; rw [List.flatMap_append (ys := cE)], show ((cW (txL p) ++ cF (txL p)) ++ cS p).length + 3 = (cand p).length by unfold cand; rw [List.length_append (bs := cE)]; rfl]
        refine vl_val rfl (.some rfl) (val_assign rfl) ?_
        refine vl_nil ?_
        refine vc_seq ?_
        refine vc_seq ?_
        refine vc_region ?_
        refine vl_val rfl (.some rfl) (val_move rfl) ?_
        refine vl_val rfl (.some rfl) (val_lenSl Tryd.runUnderlying22 rfl) ?_
        refine vl_val rfl (.some rfl) (val_move rfl) ?_
        refine vl_nil ?_
        refine vc_block ?_
        have hKl : (cand p).length ≤ 6 := by unfold cand; rw [List.length_append (bs := cE)]; simp only [List.length_cons, List.length_nil]; omega
        have hKw := cand_wv (p := p)
        have hKm := cand_mem hg hw
        generalize cand p = K at hKl hKw hKm ⊢
        refine vc_loopw (fun k E H => ∃ i : Nat, i ≤ K.length ∧ k = K.length - i ∧ p ∉ K.take i ∧ E = [(0, .string (sL (txL p))), (2, .pointer (some ⟨r2, 0, none⟩)), (64, .slice A63 K.length k63), (65, .int .i64 K.length), (66, .int .i64 i)] ∧ H = [cells r2 [.int .i64 0, .int .i64 0, .string ⟨#[]⟩] 25, DS A63 k63 K]) (K.length) ⟨_, _, _, ⟨0, by omega, rfl, by simp, rfl, rfl⟩, (by repeat (first | exact trivial | refine ⟨rfl, ?_⟩ | refine ⟨le_item rfl (by first | rfl | (congr 1; omega) | (simp; done) | (simp; omega)), ?_⟩)), (by repeat constructor)⟩ ?_
        intro k E H hI
        obtain ⟨i, hi, rfl, hnot, rfl, rfl⟩ := hI
        refine vc_seq ?_
        refine vc_region ?_
        refine vl_val rfl (.some rfl) (val_lt rfl rfl) ?_
        refine vl_nil ?_
        refine vc_seq ?_
        refine vc_cond rfl (fun hc3 => ?_) (fun hc3 => ?_)
        · (try replace hc3 := of_decide_eq_true hc3)
          refine vc_skip ?_
          refine vc_seq ?_
          refine vc_block ?_
          refine vc_seq ?_
          refine vc_region ?_
          refine vl_val rfl (.some rfl) (val_indexAddr Tryd.runUnderlying22 Tryd.sizeOf25 rfl rfl (rd_sl (by repeat constructor)) (by omega) (by omega) (by rw [vflat_len]; omega)) ?_
          refine vl_val rfl (.some rfl) (val_loadAgg Tryd.isAgg25 Tryd.sizeOf25 rfl (cells_rd (us := [.int .i64 (K.getD i z3).k, .int .i64 (K.getD i z3).n, .string (K.getD i z3).s]) (rd_sl (by repeat constructor)) (flat_get rfl (by omega))) rfl) ?_
          refine vl_alloc rfl rfl (.some rfl) Tryd.zeroValue25 (fun r12 => ?_)
          first | refine vl_store rfl rfl .none rfl rfl Tryd.sizeOf25 rfl (by repeat constructor) (by first | decide | exact Nat.le_refl _ | exact Nat.le_of_ble_eq_true rfl | (simp; omega)) ?_ | refine vl_storeSl rfl rfl .none rfl rfl Tryd.sizeOf25 rfl (by simp [Value.cells]) (by repeat constructor) (by first | decide | (simp [Value.cells]; omega)) ?_
          refine vl_nil ?_
          refine vc_seq ?_
          refine vc_region ?_
          refine vl_val rfl (.some rfl) (val_loadAgg Tryd.isAgg25 Tryd.sizeOf25 rfl (by first | exact cells_whole (by repeat constructor) | exact cells_part (by repeat constructor) rfl) rfl) ?_
          refine vl_callV rfl rfl (.some rfl) Tryd.call5 rfl (fun w hw => vGood (K.getD i z3) w) ?_
          refine vl_val rfl (.some rfl) (val_move rfl) ?_
          refine vl_split (t := 72) rfl (fun hg72 => ?_) (fun hg72 => ?_)
          · (try replace hg72 := of_decide_eq_true hg72)
            refine vl_on rfl rfl rfl rfl ?_
            refine vl_val rfl (.some rfl) (val_loadAgg Tryd.isAgg25 Tryd.sizeOf25 rfl (by first | exact cells_whole (by repeat constructor) | exact cells_part (by repeat constructor) rfl) rfl) ?_
            refine vl_on rfl rfl rfl rfl ?_
            refine vl_callV rfl rfl (.some rfl) Tryd.call7 rfl (fun w hw => vText (K.getD i z3) hg72 (hKw _ (getD_mem z3 (by omega))) w) ?_
            refine vl_on rfl rfl rfl rfl ?_
            refine vl_val rfl (.some rfl) (val_move rfl) ?_
            refine vl_on rfl rfl rfl rfl ?_
            refine vl_val rfl (.some rfl) (val_seq rfl rfl) ?_
            refine vl_val rfl (.some rfl) (val_pick rfl rfl) ?_
            refine vl_nil ?_
            refine vc_cond rfl (fun hc4 => ?_) (fun hc4 => ?_)
            · (try replace hc4 := of_decide_eq_true hc4)
              refine vc_seq ?_
              refine vc_region ?_
              refine vl_val rfl (.some rfl) (val_loadAgg Tryd.isAgg25 Tryd.sizeOf25 rfl (by first | exact cells_whole (by repeat constructor) | exact cells_part (by repeat constructor) rfl) rfl) ?_
              first | refine vl_store rfl rfl .none rfl rfl Tryd.sizeOf25 rfl (by repeat constructor) (by first | decide | exact Nat.le_refl _ | exact Nat.le_of_ble_eq_true rfl | (simp; omega)) ?_ | refine vl_storeSl rfl rfl .none rfl rfl Tryd.sizeOf25 rfl (by simp [Value.cells]) (by repeat constructor) (by first | decide | (simp [Value.cells]; omega)) ?_
              refine vl_val rfl (.some rfl) (val_assign rfl) ?_
              refine vl_nil ?_
              refine vc_ret ?_
              refine ⟨_, [], _, resC2 Tryd.results6 rfl (whole_agg Tryd.isAgg25 Tryd.sizeOf25 (cells_whole (by repeat constructor)) rfl) rfl, .nil, ?_⟩
              show _ = _
              rw [← tx_inj hg72 hg (hKw _ (getD_mem z3 (by omega))) hw (sL_inj.1 hc4)]
              rfl
            · (try replace hc4 := of_decide_eq_false hc4)
              refine vc_skip ?_
              refine vc_region ?_
              refine vl_val rfl (.some rfl) (val_add rfl rfl (by first | exact w_i64 (by omega) (by omega) | rfl)) ?_
              refine vl_val rfl (.some rfl) (val_move rfl) ?_
              refine vl_nil ?_
              exact ⟨K.length - (i + 1), _, _, _, by omega, (by repeat (first | exact trivial | refine ⟨rfl, ?_⟩ | refine ⟨le_item rfl (by first | rfl | (congr 1; omega) | (simp; done) | (simp; omega)), ?_⟩)), (by repeat constructor), ⟨i + 1, by omega, rfl, notyet hnot (by omega) (fun e => by first | exact absurd hg (by rw [e, hg72]; decide) | exact hc4 (by rw [← e])), rfl, rfl⟩⟩
          · (try replace hg72 := of_decide_eq_false hg72)
            refine vl_off rfl rfl rfl rfl (.some rfl) ?_
            refine vl_off rfl rfl rfl rfl (.some rfl) ?_
            refine vl_off rfl rfl rfl rfl (.some rfl) ?_
            refine vl_off rfl rfl rfl rfl (.some rfl) ?_
            refine vl_val rfl (.some rfl) (val_pick rfl rfl) ?_
            refine vl_nil ?_
            refine vc_cond rfl (fun h => by cases h) (fun _ => ?_)
            refine vc_skip ?_
            refine vc_region ?_
            refine vl_val rfl (.some rfl) (val_add rfl rfl (by first | exact w_i64 (by omega) (by omega) | rfl)) ?_
            refine vl_val rfl (.some rfl) (val_move rfl) ?_
            refine vl_nil ?_
            exact ⟨K.length - (i + 1), _, _, _, by omega, (by repeat (first | exact trivial | refine ⟨rfl, ?_⟩ | refine ⟨le_item rfl (by first | rfl | (congr 1; omega) | (simp; done) | (simp; omega)), ?_⟩)), (by repeat constructor), ⟨i + 1, by omega, rfl, notyet hnot (by omega) (fun e => by first | exact absurd hg (by rw [e, hg72]; decide) | exact hc4 (by rw [← e])), rfl, rfl⟩⟩
        · (try replace hc3 := of_decide_eq_false hc3)
          refine vc_exit ?_
          refine vc_seq ?_
          refine vc_region ?_
          refine vl_val rfl (.some rfl) (val_buildSt (pl := #[(0, 1), (1, 1), (2, 1)]) (cs := #[.int .i64 0, .int .i64 0, .string ⟨#[]⟩]) Tryd.runUnderlying25 Tryd.zeroValue25 (fun w => by kernel_rfl) rfl rfl) ?_
          first | refine vl_store rfl rfl .none rfl rfl Tryd.sizeOf25 rfl (by repeat constructor) (by first | decide | exact Nat.le_refl _ | exact Nat.le_of_ble_eq_true rfl | (simp; omega)) ?_ | refine vl_storeSl rfl rfl .none rfl rfl Tryd.sizeOf25 rfl (by simp [Value.cells]) (by repeat constructor) (by first | decide | (simp [Value.cells]; omega)) ?_
          refine vl_val rfl (.some rfl) (val_assign rfl) ?_
          refine vl_nil ?_
          refine vc_ret ?_
          refine ⟨_, [], _, resC2 Tryd.results6 rfl (whole_agg Tryd.isAgg25 Tryd.sizeOf25 (cells_whole (by repeat constructor)) rfl) rfl, .nil, ?_⟩
          exfalso
          obtain rfl : i = K.length := by omega
          rw [List.take_of_length_le (Nat.le_refl _)] at hnot
          exact hnot hKm




theorem lives_tx : sL (txL ⟨3, 0, sIt⟩) = ⟨#[39, 105, 116, 39, 39, 115, 39]⟩ := by decide +kernel
def gdL (l : List Vk) (i : Nat) : List Vk := (l.take i).filter goodV
theorem gdL_no {l : List Vk} {i : Nat} (h : i < l.length) (hg : goodV (l.getD i z3) = false) : gdL l (i + 1) = gdL l i := by
  unfold gdL
  rw [take_push z3 h, List.filter_append, List.filter_cons_of_neg (by rw [hg]; decide), List.filter_nil, List.append_nil]
theorem gdL_yes {l : List Vk} {i : Nat} (h : i < l.length) (hg : goodV (l.getD i z3) = true) : gdL l i ++ [l.getD i z3] = gdL l (i + 1) := by
  unfold gdL
  rw [take_push z3 h, List.filter_append, List.filter_cons_of_pos hg, List.filter_nil]
theorem gdL_in {l : List Vk} {i : Nat} : ∀ v ∈ gdL l i, goodV v = true ∧ v ∈ l := fun v hv => ⟨(List.mem_filter.1 hv).2, List.mem_of_mem_take (List.mem_filter.1 hv).1⟩
theorem gdL_len (l : List Vk) (i : Nat) : (gdL l i).length ≤ i := by
  have h1 := List.length_filter_le goodV (l.take i)
  have h2 := List.length_take_le i l
  unfold gdL; omega

set_option maxRecDepth 20000 in
set_option maxHeartbeats 400000 in
theorem vLives (w : World) : FnV Tryd.prog 4 [] (.bool true) w := by
  refine fn_enter Tryd.func4 rfl Tryd.ntmps4 rfl ?_
  refine vc_seq ?_
  refine vc_region ?_
  refine vl_val rfl (.some rfl) (val_assign rfl) ?_
  refine vl_nil ?_
  refine vc_seq ?_
  refine vc_region ?_
  refine vl_val rfl (.some rfl) (val_buildSt (pl := #[(0, 1), (1, 1), (2, 1)]) (cs := #[.int .i64 3, .int .i64 0, .string sIt]) Tryd.runUnderlying25 Tryd.zeroValue25 (fun w => by kernel_rfl) rfl rfl) ?_
  refine vl_callV rfl rfl (.some rfl) Tryd.call7 rfl (fun w hw => vText ⟨3, 0, sIt⟩ (by decide) (by unfold WV; decide) w) ?_
  rw [lives_tx]
  refine vl_val rfl (.some rfl) (val_seqt rfl rfl (by decide)) ?_
  refine vl_val rfl (.some rfl) (val_move rfl) ?_
  refine vl_on rfl rfl rfl rfl ?_
  refine vl_callV rfl rfl (.some rfl) Tryd.call11 rfl (fun w hw => vAnd _ _ w) ?_
  refine vl_on rfl rfl rfl rfl ?_
  refine vl_val rfl (.some rfl) (val_eqt rfl rfl (by decide)) ?_
  refine vl_val rfl (.some rfl) (val_pick rfl rfl) ?_
  refine vl_val rfl (.some rfl) (val_move rfl) ?_
  refine vl_on rfl rfl rfl rfl ?_
  refine vl_callV rfl rfl (.some rfl) Tryd.call12 rfl (fun w hw => vOr _ _ w) ?_
  refine vl_on rfl rfl rfl rfl ?_
  refine vl_val rfl (.some rfl) (val_eqt rfl rfl (by decide)) ?_
  refine vl_val rfl (.some rfl) (val_pick rfl rfl) ?_
  refine vl_val rfl (.some rfl) (val_move rfl) ?_
  refine vl_on rfl rfl rfl rfl ?_
  refine vl_val rfl (.some rfl) (val_buildSt (pl := #[(0, 1), (1, 1), (2, 1)]) (cs := #[.int .i64 0, .int .i64 0, .string ⟨#[]⟩]) Tryd.runUnderlying25 Tryd.zeroValue25 (fun w => by kernel_rfl) rfl rfl) ?_
  refine vl_on rfl rfl rfl rfl ?_
  refine vl_val rfl (.some rfl) (val_buildSt (pl := #[(0, 1), (1, 1), (2, 1)]) (cs := #[.int .i64 1, .int .i64 0, .string ⟨#[]⟩]) Tryd.runUnderlying25 Tryd.zeroValue25 (fun w => by kernel_rfl) rfl rfl) ?_
  refine vl_on rfl rfl rfl rfl ?_
  refine vl_callV rfl rfl (.some rfl) Tryd.call13 rfl (fun w hw => vCmp z3 ⟨1, 0, ⟨#[]⟩⟩ w) ?_
  refine vl_on rfl rfl rfl rfl ?_
  refine vl_val rfl (.some rfl) (val_eqt rfl rfl (by decide)) ?_
  refine vl_val rfl (.some rfl) (val_pick rfl rfl) ?_
  refine vl_val rfl (.some rfl) (val_move rfl) ?_
  refine vl_on rfl rfl rfl rfl ?_
  refine vl_val rfl (.some rfl) (val_buildSt (pl := #[(0, 1), (1, 1), (2, 1)]) (cs := #[.int .i64 0, .int .i64 0, .string ⟨#[]⟩]) Tryd.runUnderlying25 Tryd.zeroValue25 (fun w => by kernel_rfl) rfl rfl) ?_
  refine vl_on rfl rfl rfl rfl ?_
  refine vl_callV rfl rfl (.some rfl) Tryd.call5 rfl (fun w hw => vGood z3 w) ?_
  rw [show goodV z3 = true by decide]
  refine vl_val rfl (.some rfl) (val_pick rfl rfl) ?_
  refine vl_val rfl (.some rfl) (val_assign rfl) ?_
  refine vl_nil ?_
  refine vc_ret ?_
  refine ⟨_, [], _, res1 Tryd.results4 rfl, .nil, ?_⟩
  rfl
set_option maxRecDepth 20000 in
set_option maxHeartbeats 1000000 in
theorem law_ValueBack0 (A : Option Addr) (c : Nat) (l : List Vk) (w : World) (hm : ∃ m, w.cell? ⟨1, 0, none⟩ = some (.int .i64 m)) (hr : Reads w A (flat l)) (hwv : ∀ p ∈ l, WV p) : FnV Tryd.prog 3 [.slice A l.length c] (.bool true) w := by
  obtain ⟨m, hm⟩ := hm
  refine fn_enter Tryd.func3 rfl Tryd.ntmps3 rfl ?_
  refine vc_seq ?_
  refine vc_region ?_
  refine vl_val rfl (.some rfl) (val_assign rfl) ?_
  refine vl_nil ?_
  refine vc_seq ?_
  refine vc_seq ?_
  refine vc_region ?_
  refine vl_val rfl (.some rfl) (val_move rfl) ?_
  refine vl_val rfl (.some rfl) (val_lenSl Tryd.runUnderlying22 rfl) ?_
  refine vl_val rfl (.some rfl) (val_gt rfl rfl) ?_
  refine vl_nil ?_
  refine vc_cond rfl (fun hc0 => ?_) (fun hc0 => ?_)
  · (try replace hc0 := of_decide_eq_true hc0)
    refine vc_seq ?_
    refine vc_region ?_
    refine vl_callV rfl rfl (.some rfl) Tryd.call4 rfl (fun w hw => vLives w) ?_
    refine vl_val rfl (.some rfl) (val_assign rfl) ?_
    refine vl_nil ?_
    refine vc_ret ?_
    refine ⟨_, [], _, res1 Tryd.results3 rfl, .nil, ?_⟩
    rfl
  · (try replace hc0 := of_decide_eq_false hc0)
    have hl3 : l.length ≤ 300 := by omega
    refine vc_skip ?_
    refine vc_seq ?_
    refine vc_region ?_
    refine vl_val rfl (.some rfl) (val_assign rfl) ?_
    refine vl_nilSl 25 3 ?_
    refine vl_nil ?_
    refine vc_seq ?_
    refine vc_seq ?_
    refine vc_region ?_
    refine vl_val rfl (.some rfl) (val_move rfl) ?_
    refine vl_val rfl (.some rfl) (val_lenSl Tryd.runUnderlying22 rfl) ?_
    refine vl_val rfl (.some rfl) (val_move rfl) ?_
    refine vl_nil ?_
    refine vc_block ?_
    refine vc_loopw (fun k E H => ∃ (i : Nat) (A3 : Option Addr) (c3 : Nat), i ≤ l.length ∧ k = l.length - i ∧ E = [(3, .slice A3 (gdL l i).length c3), (14, .slice A l.length c), (15, .int .i64 l.length), (16, .int .i64 i)] ∧ H = [DS A3 c3 (gdL l i)]) (l.length) ⟨_, _, _, ⟨0, none, 0, by omega, rfl, rfl, rfl⟩, (by repeat (first | exact trivial | refine ⟨rfl, ?_⟩ | refine ⟨le_item rfl (by first | rfl | (congr 1; omega) | (simp; done) | (simp; omega)), ?_⟩)), (by repeat constructor)⟩ ?_
    intro k E H hI
    obtain ⟨i, A3, c3, hi, rfl, rfl, rfl⟩ := hI
    have hgl := gdL_len l i
    refine vc_seq ?_
    refine vc_region ?_
    refine vl_val rfl (.some rfl) (val_lt rfl rfl) ?_
    refine vl_nil ?_
    refine vc_seq ?_
    refine vc_cond rfl (fun hc1 => ?_) (fun hc1 => ?_)
    · (try replace hc1 := of_decide_eq_true hc1)
      have hi8 : i < l.length := by omega
      refine vc_skip ?_
      refine vc_seq ?_
      refine vc_block ?_
      refine vc_seq ?_
      refine vc_region ?_
      refine vl_val rfl (.some rfl) (val_indexAddr Tryd.runUnderlying22 Tryd.sizeOf25 rfl rfl (rd_old hr rfl) (by omega) (by omega) (by rw [vflat_len]; omega)) ?_
      refine vl_val rfl (.some rfl) (val_loadAgg Tryd.isAgg25 Tryd.sizeOf25 rfl (cells_rd (us := [.int .i64 (l.getD i z3).k, .int .i64 (l.getD i z3).n, .string (l.getD i z3).s]) (rd_old hr rfl) (flat_get rfl (by omega))) rfl) ?_
      refine vl_alloc rfl rfl (.some rfl) Tryd.zeroValue25 (fun r5 => ?_)
      first | refine vl_store rfl rfl .none rfl rfl Tryd.sizeOf25 rfl (by repeat constructor) (by first | decide | exact Nat.le_refl _ | exact Nat.le_of_ble_eq_true rfl | (simp; omega)) ?_ | refine vl_storeSl rfl rfl .none rfl rfl Tryd.sizeOf25 rfl (by simp [Value.cells]) (by repeat constructor) (by first | decide | (simp [Value.cells]; omega)) ?_
      refine vl_nil ?_
      refine vc_seq ?_
      refine vc_seq ?_
      refine vc_region ?_
      refine vl_val rfl (.some rfl) (val_loadAgg Tryd.isAgg25 Tryd.sizeOf25 rfl (by first | exact cells_whole (by repeat constructor) | exact cells_part (by repeat constructor) rfl) rfl) ?_
      refine vl_callV rfl rfl (.some rfl) Tryd.call5 rfl (fun w hw => vGood (l.getD i z3) w) ?_
      refine vl_val rfl (.some rfl) (val_not rfl) ?_
      refine vl_nil ?_
      refine vc_cond rfl (fun hc2 => ?_) (fun hc2 => ?_)
      · (try replace hc2 := of_decide_eq_true hc2)
        have hgd : goodV (l.getD i z3) = false := by simpa using hc2
        rw [show gdL l i = gdL l (i + 1) from (gdL_no hi8 hgd).symm]
        refine vc_exit ?_
        refine vc_region ?_
        refine vl_val rfl (.some rfl) (val_add rfl rfl (by first | exact w_i64 (by omega) (by omega) | rfl)) ?_
        refine vl_val rfl (.some rfl) (val_move rfl) ?_
        refine vl_nil ?_
        first
          | exact ⟨l.length - (i + 1), _, _, _, by omega, (by repeat (first | exact trivial | refine ⟨rfl, ?_⟩ | refine ⟨le_item rfl (by first | rfl | (congr 1; omega) | (simp; done) | (simp; omega)), ?_⟩)), (by repeat constructor), ⟨i + 1, A39, k39, by omega, rfl, rfl, rfl⟩⟩
          | exact ⟨l.length - (i + 1), _, _, _, by omega, (by repeat (first | exact trivial | refine ⟨rfl, ?_⟩ | refine ⟨le_item rfl (by first | rfl | (congr 1; omega) | (simp; done) | (simp; omega)), ?_⟩)), (by repeat constructor), ⟨i + 1, A3, c3, by omega, rfl, rfl, rfl⟩⟩
      · (try replace hc2 := of_decide_eq_false hc2)
        have hgd : goodV (l.getD i z3) = true := by simpa using hc2
        refine vc_skip ?_
        refine vc_seq ?_
        refine vc_region ?_
        refine vl_val rfl (.some rfl) (val_loadAgg Tryd.isAgg25 Tryd.sizeOf25 rfl (by first | exact cells_whole (by repeat constructor) | exact cells_part (by repeat constructor) rfl) rfl) ?_
        refine vl_callV rfl rfl (.some rfl) Tryd.call7 rfl (fun w hw => vText (l.getD i z3) hgd (hwv _ (getD_mem z3 hi8)) w) ?_
        refine vl_callV rfl rfl (.some rfl) Tryd.call6 rfl (fun w hw => vParse (l.getD i z3) hgd (hwv _ (getD_mem z3 hi8)) w ⟨m, cell_old hm List.not_mem_nil w hw⟩) ?_
        refine vl_val rfl (.some rfl) (val_move rfl) ?_
        refine vl_val rfl (.some rfl) (val_extract rfl rfl) ?_
        refine vl_val rfl (.some rfl) (val_extract rfl rfl) ?_
        refine vl_alloc rfl rfl (.some rfl) Tryd.zeroValue25 (fun r6 => ?_)
        first | refine vl_store rfl rfl .none rfl rfl Tryd.sizeOf25 rfl (by repeat constructor) (by first | decide | exact Nat.le_refl _ | exact Nat.le_of_ble_eq_true rfl | (simp; omega)) ?_ | refine vl_storeSl rfl rfl .none rfl rfl Tryd.sizeOf25 rfl (by simp [Value.cells]) (by repeat constructor) (by first | decide | (simp [Value.cells]; omega)) ?_
        refine vl_val rfl (.some rfl) (val_assign rfl) ?_
        refine vl_nil ?_
        refine vc_seq ?_
        refine vc_seq ?_
        refine vc_region ?_
        refine vl_val rfl (.some rfl) (val_move rfl) ?_
        refine vl_val rfl (.some rfl) (val_not rfl) ?_
        refine vl_val rfl (.some rfl) (val_move rfl) ?_
        refine vl_on rfl rfl rfl rfl ?_
        refine vl_val rfl (.some rfl) (val_loadAgg Tryd.isAgg25 Tryd.sizeOf25 rfl (by first | exact cells_whole (by repeat constructor) | exact cells_part (by repeat constructor) rfl) rfl) ?_
        refine vl_on rfl rfl rfl rfl ?_
        refine vl_val rfl (.some rfl) (val_loadAgg Tryd.isAgg25 Tryd.sizeOf25 rfl (by first | exact cells_whole (by repeat constructor) | exact cells_part (by repeat constructor) rfl) rfl) ?_
        refine vl_on rfl rfl rfl rfl ?_
        refine vl_val rfl (.some rfl) (valE (v' := .bool false) (v := .bool (!decide ((l.getD i z3) = (l.getD i z3)))) (congrArg Value.bool (by simp)) (val_opO rfl rfl (fun w => run_eqGuard_agg w _ _ _ _ _ _ (by kernel_rfl)) (bin_agg_ne (vk_equal (l.getD i z3) (l.getD i z3))))) ?_
        refine vl_val rfl (.some rfl) (val_pick rfl rfl) ?_
        refine vl_nil ?_
        refine vc_cond rfl (fun h => by cases h) (fun _ => ?_)
        refine vc_skip ?_
        refine vc_region ?_
        refine vl_val rfl (.some rfl) (val_move rfl) ?_
        refine vl_val rfl (.some rfl) (val_loadAgg Tryd.isAgg25 Tryd.sizeOf25 rfl (by first | exact cells_whole (by repeat constructor) | exact cells_part (by repeat constructor) rfl) rfl) ?_
        refine vl_lit sT22 rfl rfl (.some rfl) rfl rfl rfl (by decide) (by decide) rfl rfl (fun r38 => ?_)
        refine vl_append (us := flat [(l.getD i z3)]) sT22 rfl rfl (.some rfl) rfl rfl (rd_sl (by repeat constructor)) rfl rfl (by omega) (by omega) (by repeat constructor) (fun A39 k39 => ?_)
        rw [vk_flat1, show (gdL l i).length + 1 = (gdL l i ++ [(l.getD i z3)]).length by simp only [List.length_append, List.length_singleton], gdL_yes hi8 hgd]
        refine vl_val rfl (.some rfl) (val_assign rfl) ?_
        refine vl_nil ?_
        refine vc_region ?_
        refine vl_val rfl (.some rfl) (val_add rfl rfl (by first | exact w_i64 (by omega) (by omega) | rfl)) ?_
        refine vl_val rfl (.some rfl) (val_move rfl) ?_
        refine vl_nil ?_
        first
          | exact ⟨l.length - (i + 1), _, _, _, by omega, (by repeat (first | exact trivial | refine ⟨rfl, ?_⟩ | refine ⟨le_item rfl (by first | rfl | (congr 1; omega) | (simp; done) | (simp; omega)), ?_⟩)), (by repeat constructor), ⟨i + 1, A39, k39, by omega, rfl, rfl, rfl⟩⟩
          | exact ⟨l.length - (i + 1), _, _, _, by omega, (by repeat (first | exact trivial | refine ⟨rfl, ?_⟩ | refine ⟨le_item rfl (by first | rfl | (congr 1; omega) | (simp; done) | (simp; omega)), ?_⟩)), (by repeat constructor), ⟨i + 1, A3, c3, by omega, rfl, rfl, rfl⟩⟩
    · (try replace hc1 := of_decide_eq_false hc1)
      obtain rfl : i = l.length := by omega
      obtain ⟨G, hG⟩ : ∃ G, gdL l l.length = G := ⟨_, rfl⟩
      have hGn := gdL_len l l.length
      have hGi := gdL_in (l := l) (i := l.length)
      rw [hG] at hGn hGi ⊢
      have hGl : ∀ p ∈ G, p ∈ l := fun p hp => (hGi p hp).2
      have hEl : (encV G).length ≤ 10 + 100 * G.length := by rw [← outV_all]; exact outV_len G _ (Nat.le_refl _)
      have hLe := load_enc (l := G) (by omega) (fun v hv => ⟨(hGi v hv).1, hwv v (hGl v hv)⟩)
      obtain ⟨hL1, hL2⟩ := load9_some hLe
      refine vc_exit ?_
      refine vc_seq ?_
      refine vc_region ?_
      refine vl_val rfl (.some rfl) (val_move rfl) ?_
      refine vl_call (C := []) rfl rfl (.some rfl) Tryd.call9 rfl .nil (fun w hw => vBytes A3 c3 G (by omega) (fun p hp => hwv p (hGl p hp)) w (rdw (by first | exact rd_sl (by repeat constructor) | exact rd_slr (by repeat constructor) | exact rd_old (by assumption) rfl | exact rd_slq (by repeat constructor) | exact rd_nil) hw)) (fun v9 H9 h => ?_)
      obtain ⟨A43, c43, rfl, rfl⟩ := h
      show VL _ _ _ _ _ (_ :: _)
      refine vl_slCap (n := (encV G).length) (by repeat constructor) (fun hcap => ?_)
      refine vl_call (C := []) rfl rfl (.some rfl) Tryd.call8 rfl .nil (fun w hw => vLoad A43 c43 (encV G) (by omega) hcap w (rdw (by first | exact rd_sl (by repeat constructor) | exact rd_slr (by repeat constructor) | exact rd_old (by assumption) rfl | exact rd_slq (by repeat constructor) | exact rd_nil) hw)) (fun v9 H9 h => ?_)
      obtain ⟨A44, c44, rfl, rfl⟩ := h
      show VL _ _ _ _ _ (_ :: _)
      rw [hL1, hL2]
      refine vl_val rfl (.some rfl) (val_move rfl) ?_
      refine vl_val rfl (.some rfl) (val_extract rfl rfl) ?_
      refine vl_val rfl (.some rfl) (val_extract rfl rfl) ?_
      refine vl_val rfl (.some rfl) (val_assign rfl) ?_
      refine vl_val rfl (.some rfl) (val_assign rfl) ?_
      refine vl_nil ?_
      refine vc_seq ?_
      refine vc_region ?_
      refine vl_val rfl (.some rfl) (val_move rfl) ?_
      refine vl_val rfl (.some rfl) (valE (congrArg Value.bool (decide_eq_true rfl)) (val_eq rfl rfl)) ?_
      refine vl_val rfl (.some rfl) (val_move rfl) ?_
      refine vl_on rfl rfl rfl rfl ?_
      refine vl_val rfl (.some rfl) (val_move rfl) ?_
      refine vl_on rfl rfl rfl rfl ?_
      refine vl_val rfl (.some rfl) (val_move rfl) ?_
      refine vl_on rfl rfl rfl rfl ?_
      refine vl_callV rfl rfl (.some rfl) Tryd.call10 rfl (fun w hw => lSame9 _ _ _ _ G G (by omega) w (rdw (by first | exact rd_sl (by repeat constructor) | exact rd_slr (by repeat constructor) | exact rd_old (by assumption) rfl | exact rd_slq (by repeat constructor) | exact rd_nil) hw) (rdw (by first | exact rd_sl (by repeat constructor) | exact rd_slr (by repeat constructor) | exact rd_old (by assumption) rfl | exact rd_slq (by repeat constructor) | exact rd_nil) hw)) ?_
      rw [decide_eq_true rfl]
      refine vl_val rfl (.some rfl) (val_pick rfl rfl) ?_
      refine vl_val rfl (.some rfl) (val_move rfl) ?_
      refine vl_on rfl rfl rfl rfl ?_
      refine vl_callV rfl rfl (.some rfl) Tryd.call4 rfl (fun w hw => vLives w) ?_
      refine vl_val rfl (.some rfl) (val_pick rfl rfl) ?_
      refine vl_val rfl (.some rfl) (val_assign rfl) ?_
      refine vl_nil ?_
      refine vc_ret ?_
      refine ⟨_, [], _, res1 Tryd.results3 rfl, .nil, ?_⟩
      rfl

abbrev Vq := Int × Int × ByteArray × Unit
def vqC (v : Vq) : List Value := [.int .i64 v.1] ++ ([.int .i64 v.2.1] ++ ([.string v.2.2.1] ++ []))
def toVk (v : Vq) : Vk := ⟨v.1, v.2.1, v.2.2.1⟩
theorem flat_vq (l : List Vq) : flat (l.map toVk) = l.flatMap vqC := by
  unfold flat
  rw [List.flatMap_map]
  rfl
theorem law_ValueBack (A : Option Addr) (c : Nat) (l : List Vq) (w : World) (hr : Reads w A (l.flatMap vqC)) (g1 : l.length ≤ c) (g2 : c ≤ maxLen) (g3 : ∀ v ∈ l, (-9223372036854775808 ≤ v.1 ∧ v.1 < 9223372036854775808) ∧ (-9223372036854775808 ≤ v.2.1 ∧ v.2.1 < 9223372036854775808) ∧ v.2.2.1.size ≤ maxLen ∧ True) (hm : ∃ m, w.cell? ⟨1, 0, none⟩ = some (.int .i64 m)) : FnV Tryd.prog 3 [.slice A l.length c] (.bool true) w := by
  have h := law_ValueBack0 A c (l.map toVk) w hm (by rw [flat_vq]; exact hr) (fun p hp => by
    obtain ⟨v, hv, rfl⟩ := List.mem_map.1 hp
    exact (g3 v hv).2.1)
  rw [List.length_map] at h
  exact h


end Go.Proofs.YtclknendeeljaaaDoor.K
