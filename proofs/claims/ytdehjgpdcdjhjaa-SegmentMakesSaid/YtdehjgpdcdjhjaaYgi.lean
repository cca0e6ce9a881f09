/- Walks of the program's functions, printed by a program of this session; Lean checks them. -/
import Derived.Test.YtdehjgpdcdjhjaaYgg
namespace Go.Proofs.Ytdehjgpdcdjhjaa.K
open Go Go.RowKit Go.Proofs
set_option linter.unusedVariables false
set_option linter.unusedSimpArgs false


/-! Relations. -/
def isR (op : ByteArray) (low high : Int) : Bool := if op = ⟨#[61]⟩ then decide (low ≤ 0) && decide (0 ≤ high) else if op = ⟨#[60, 62]⟩ then decide (low ≠ 0) || decide (high ≠ 0) else if op = ⟨#[60]⟩ then decide (low < 0) else if op = ⟨#[60, 61]⟩ then decide (low ≤ 0) else if op = ⟨#[62]⟩ then decide (0 < high) else decide (0 ≤ high)
def opK (op : ByteArray) : Prop := op = ⟨#[61]⟩ ∨ op = ⟨#[60, 62]⟩ ∨ op = ⟨#[60]⟩ ∨ op = ⟨#[60, 61]⟩ ∨ op = ⟨#[62]⟩ ∨ op = ⟨#[62, 61]⟩
instance (op : ByteArray) : Decidable (opK op) := by unfold opK; infer_instance
def mayZ (z : Zn) (op : ByteArray) (v : Vk) (rows : Int) : Bool := if opK op then isR op (cmpV z.lo v) (cmpV z.hi v) && decide (v.k ≠ 0) && decide (z.n < rows) && decide (v.k = z.lo.k) else true
theorem bigR {X : Cx} {H : List Chunk} {vs : List Vc} {w : World} (h : In (big (vs.flatMap vcH)) H) (hw : Holds X.w0 X.M H w) {v : Vc} (hv : v ∈ vs) : Reads w v.A (tcells v.nu) ∧ Reads w v.B (icells .i64 v.ids) :=
  ⟨rd_big (n := v.nu.length) (c := v.c) (e := 4) (sz := 1) h (List.mem_flatMap.2 ⟨v, hv, by simp⟩) w hw, rd_big (n := v.ids.length) (c := v.d) (e := 3) (sz := 1) h (List.mem_flatMap.2 ⟨v, hv, by simp⟩) w hw⟩
theorem colsP_in {ks : List Int} {Ds : List (List Vk)} {RS : Rws} {c : Co × List Vk} (h : c ∈ colsP ks Ds RS) : c.1.nu.length = RS.length ∧ c.1.ids.length = RS.length := by
  unfold colsP at h
  obtain ⟨i, _, rfl⟩ := List.mem_map.1 h
  have := colF_len (ks.getD i 0) (Ds.getD i []) (colR RS i)
  rw [colR_len] at this
  exact this
theorem madeS_len {ks : List Int} {Ds : List (List Vk)} {RS : Rws} {n : Int} {vs : List Vc} {zs : List Zn} {e : Int} {Ds2 : List (List Vk)} (h : MadeS ks Ds RS n vs zs e Ds2) : (∀ v ∈ vs, v.nu.length ≤ 1000 ∧ v.ids.length ≤ 1000) ∧ vs.length ≤ 8 ∧ zs.length = vs.length := by
  unfold MadeS makeP at h
  split at h
  · simp only [Prod.mk.injEq, Sg.mk.injEq] at h
    obtain ⟨⟨_, _, h1, h2⟩, _⟩ := h
    have : vs = [] := List.map_eq_nil_iff.1 h1.symm
    subst this h2
    simp
  · rename_i h0
    have h0 : mayE ks Ds RS = 0 := by simpa using h0
    obtain ⟨hn, _, _⟩ := mayE_zero h0
    simp only [Prod.mk.injEq, Sg.mk.injEq] at h
    obtain ⟨⟨_, _, h1, h2⟩, _⟩ := h
    have hl : (colsP ks Ds RS).length = ks.length := by unfold colsP; rw [List.length_map, List.length_range]
    have hvl : vs.length = ks.length := by rw [← List.length_map (f := vcP), ← h1, List.length_map, hl]
    refine ⟨fun v hv => ?_, by omega, by rw [← h2, List.length_map, hl, hvl]⟩
    have : vcP v ∈ vs.map vcP := List.mem_map_of_mem hv
    rw [← h1] at this
    obtain ⟨c, hc, e⟩ := List.mem_map.1 this
    have hci := colsP_in hc
    simp only [Prod.mk.injEq] at e
    rw [← e.1, ← e.2]; omega
theorem sgR_of {X : Cx} {H : List Chunk} {vs : List Vc} {zs : List Zn} {Ac Az : Option Addr} {nc nz cc cz : Nat} {w : World} {T1 T2 : TypeId} (hl : ∀ v ∈ vs, v.nu.length ≤ 1000 ∧ v.ids.length ≤ 1000) (h1 : In (big (vs.flatMap vcH)) H) (h2 : In (sl Ac nc cc T1 2 (vs.flatMap vcC)) H) (h3 : In (sl Az nz cz T2 7 (zs.flatMap znC)) H) (hw : Holds X.w0 X.M H w) : SgR w Ac vs Az zs :=
  ⟨rd_sl h2 w hw, rd_sl h3 w hw, fun v hv => ⟨(bigR h1 hw hv).1, (bigR h1 hw hv).2, by have := hl v hv; omega, by have := hl v hv; omega⟩⟩

set_option maxRecDepth 20000 in
theorem gNum (n : Int) (w : World) : FnV Try.prog 23 [.int .i64 n] (vk ⟨1, n, ⟨#[]⟩⟩) w := by
  refine fn_enter Try.func23 rfl Try.ntmps23 rfl ?_
  refine vc_seq ?_
  refine vc_region ?_
  refine vl_alloc rfl rfl (.some rfl) Try.zeroValue62 (fun r2 => ?_)
  refine vl_nil ?_
  refine vc_seq ?_
  refine vc_region ?_
  refine vl_val rfl (.some rfl) (val_move rfl) ?_
  refine vl_val rfl (.some rfl) (val_buildSt (pl := #[(0, 1), (1, 1), (2, 1)]) (cs := #[.int .i64 1, .int .i64 n, .string ⟨#[]⟩]) Try.runUnderlying62 Try.zeroValue62 (fun w => by kernel_rfl) rfl rfl) ?_
  first | refine vl_store rfl rfl .none rfl rfl Try.sizeOf62 rfl (by repeat constructor) (by first | decide | exact Nat.le_refl _ | exact Nat.le_of_ble_eq_true rfl | (simp; omega)) ?_ | refine vl_storeSl rfl rfl .none rfl rfl Try.sizeOf62 rfl (by simp [Value.cells]) (by repeat constructor) (by first | decide | (simp [Value.cells]; omega)) ?_
  refine vl_nil ?_
  refine vc_ret ?_
  refine ⟨_, [], _, resC Try.results23 rfl (whole_agg Try.isAgg62 Try.sizeOf62 (cells_whole (by repeat constructor)) rfl), .nil, ?_⟩
  rfl
set_option maxRecDepth 20000 in
set_option maxHeartbeats 1000000 in
theorem gMayZ (z : Zn) (op : ByteArray) (v : Vk) (rows : Int) (w : World) : FnV Try.prog 19 [znV z, .string op, vk v, .int .i64 rows] (.bool (mayZ z op v rows)) w := by
  refine fn_enter Try.func19 rfl Try.ntmps19 rfl ?_
  refine vc_seq ?_
  refine vc_region ?_
  refine vl_box rfl rfl (.some rfl) rfl (fun r4 => ?_)
  refine vl_box rfl rfl (.some rfl) rfl (fun r6 => ?_)
  refine vl_val rfl (.some rfl) (val_assign rfl) ?_
  refine vl_nil ?_
  refine vc_seq ?_
  refine vc_draws [0, 1, 2, 4, 5, 6, 8, 9] [] [0, 1, 2, 4, 5, 6, 3, 7, 8, 9] rfl (by kernel_rfl) (fun _ _ _ h => h) ?_
  refine vd_val rfl rfl rfl (.some rfl) (by first | exact val_fieldAddr Try.runUnderlying64 rfl Try.sizeOf62 rfl | exact val_fieldAddrR Try.runUnderlying64 rfl Try.sizeOf62 rfl) ?_
  refine vd_val rfl rfl rfl (.some rfl) (val_loadAgg Try.isAgg62 Try.sizeOf62 rfl (cells_part (us := [.int .i64 (z.lo).k, .int .i64 (z.lo).n, .string (z.lo).s]) (by repeat constructor) rfl) rfl) ?_
  refine vd_val rfl rfl rfl (.some rfl) (val_loadAgg Try.isAgg62 Try.sizeOf62 rfl (by first | exact cells_whole (by repeat constructor) | exact cells_part (by repeat constructor) rfl) rfl) ?_
  refine vd_val rfl rfl rfl (.some rfl) (by first | exact val_fieldAddr Try.runUnderlying64 rfl Try.sizeOf62 rfl | exact val_fieldAddrR Try.runUnderlying64 rfl Try.sizeOf62 rfl) ?_
  refine vd_val rfl rfl rfl (.some rfl) (val_loadAgg Try.isAgg62 Try.sizeOf62 rfl (cells_part (us := [.int .i64 (z.hi).k, .int .i64 (z.hi).n, .string (z.hi).s]) (by repeat constructor) rfl) rfl) ?_
  refine vd_val rfl rfl rfl (.some rfl) (val_loadAgg Try.isAgg62 Try.sizeOf62 rfl (by first | exact cells_whole (by repeat constructor) | exact cells_part (by repeat constructor) rfl) rfl) ?_
  refine vd_op rfl rfl ?_
  refine vl_callV rfl rfl (.some rfl) Try.call47 rfl (fun w hw => vCmp z.lo v w) ?_
  refine vl_nil ?_
  refine ⟨fun _ => ⟨_, (by repeat (first | exact .nil | exact sub_self _ | exact sub_skip (sub_self _) | exact sub_skip (sub_skip (sub_self _)) | exact sub_skip (sub_skip (sub_skip (sub_self _))) | (apply Sub.cons; · repeat (first | exact .head | apply Take.tail))))⟩, ?_⟩
  refine vd_op rfl rfl ?_
  refine vl_callV rfl rfl (.some rfl) Try.call47 rfl (fun w hw => vCmp z.hi v w) ?_
  refine vl_nil ?_
  refine ⟨fun _ => ⟨_, (by repeat (first | exact .nil | exact sub_self _ | exact sub_skip (sub_self _) | exact sub_skip (sub_skip (sub_self _)) | exact sub_skip (sub_skip (sub_skip (sub_self _))) | (apply Sub.cons; · repeat (first | exact .head | apply Take.tail))))⟩, ?_⟩
  refine vd_val rfl rfl rfl (.some rfl) (val_assign rfl) ?_
  refine vd_val rfl rfl rfl (.some rfl) (val_assign rfl) ?_
  refine vd_nil ?_
  refine vc_seq ?_
  refine vc_region ?_
  refine vl_val rfl (.some rfl) (val_assign rfl) ?_
  refine vl_nil ?_
  refine vc_seq ?_
  refine vc_seq ?_
  refine vc_region ?_
  refine vl_val rfl (.some rfl) (val_move rfl) ?_
  refine vl_nil ?_
  refine vc_block ?_
  refine vc_seq ?_
  refine vc_region ?_
  refine vl_val rfl (.some rfl) (val_seq rfl rfl) ?_
  refine vl_val rfl (.some rfl) (val_assign rfl) ?_
  refine vl_nil ?_
  refine vc_cond rfl (fun hc0 => ?_) (fun hc0 => ?_)
  · (try replace hc0 := of_decide_eq_true hc0)
    refine vc_region ?_
    refine vl_val rfl (.some rfl) (val_move rfl) ?_
    refine vl_val rfl (.some rfl) (val_le rfl rfl) ?_
    refine vl_val rfl (.some rfl) (val_move rfl) ?_
    refine vl_split (t := 25) rfl (fun hg25 => ?_) (fun hg25 => ?_)
    · (try replace hg25 := of_decide_eq_true hg25)
      refine vl_on rfl rfl rfl rfl ?_
      refine vl_val rfl (.some rfl) (val_move rfl) ?_
      refine vl_on rfl rfl rfl rfl ?_
      refine vl_val rfl (.some rfl) (val_ge rfl rfl) ?_
      refine vl_val rfl (.some rfl) (val_pick rfl rfl) ?_
      refine vl_val rfl (.some rfl) (val_assign rfl) ?_
      refine vl_nil ?_
      refine vc_seq ?_
      refine vc_region ?_
      refine vl_val rfl (.some rfl) (val_move rfl) ?_
      refine vl_val rfl (.some rfl) (val_move rfl) ?_
      refine vl_split (t := 54) rfl (fun hg54 => ?_) (fun hg54 => ?_)
      · (try replace hg54 := of_decide_eq_true hg54)
        refine vl_on rfl rfl rfl rfl ?_
        refine vl_val rfl (.some rfl) (by first | exact val_fieldAddr Try.runUnderlying62 rfl Try.sizeOf3 rfl | exact val_fieldAddrR Try.runUnderlying62 rfl Try.sizeOf3 rfl) ?_
        refine vl_on rfl rfl rfl rfl ?_
        refine vl_val rfl (.some rfl) (val_load Try.isAgg3 rfl (by first | exact cell_cells (by repeat constructor) rfl | exact cell_rd (by first | exact rd_sl (by repeat constructor) | exact rd_old (by assumption) rfl) (by first | exact bcells_at (by omega) | exact ucells_at (by omega) | exact icells_at (by omega) | exact tcells_at (by omega) | exact bcells_get (by omega) | exact icells_get (by omega) | exact tcells_get (by omega) | exact ucells_get (by omega)) | exact cell_old (by assumption) (by simp [fps]))) ?_
        refine vl_on rfl rfl rfl rfl ?_
        refine vl_val rfl (.some rfl) (val_ne rfl rfl) ?_
        refine vl_val rfl (.some rfl) (val_pick rfl rfl) ?_
        refine vl_val rfl (.some rfl) (val_move rfl) ?_
        refine vl_split (t := 59) rfl (fun hg59 => ?_) (fun hg59 => ?_)
        · (try replace hg59 := of_decide_eq_true hg59)
          refine vl_on rfl rfl rfl rfl ?_
          refine vl_val rfl (.some rfl) (by first | exact val_fieldAddr Try.runUnderlying64 rfl Try.sizeOf3 rfl | exact val_fieldAddrR Try.runUnderlying64 rfl Try.sizeOf3 rfl) ?_
          refine vl_on rfl rfl rfl rfl ?_
          refine vl_val rfl (.some rfl) (val_load Try.isAgg3 rfl (by first | exact cell_cells (by repeat constructor) rfl | exact cell_rd (by first | exact rd_sl (by repeat constructor) | exact rd_old (by assumption) rfl) (by first | exact bcells_at (by omega) | exact ucells_at (by omega) | exact icells_at (by omega) | exact tcells_at (by omega) | exact bcells_get (by omega) | exact icells_get (by omega) | exact tcells_get (by omega) | exact ucells_get (by omega)) | exact cell_old (by assumption) (by simp [fps]))) ?_
          refine vl_on rfl rfl rfl rfl ?_
          refine vl_val rfl (.some rfl) (val_move rfl) ?_
          refine vl_on rfl rfl rfl rfl ?_
          refine vl_val rfl (.some rfl) (val_lt rfl rfl) ?_
          refine vl_val rfl (.some rfl) (val_pick rfl rfl) ?_
          refine vl_val rfl (.some rfl) (val_move rfl) ?_
          refine vl_split (t := 65) rfl (fun hg65 => ?_) (fun hg65 => ?_)
          · (try replace hg65 := of_decide_eq_true hg65)
            refine vl_on rfl rfl rfl rfl ?_
            refine vl_val rfl (.some rfl) (by first | exact val_fieldAddr Try.runUnderlying62 rfl Try.sizeOf3 rfl | exact val_fieldAddrR Try.runUnderlying62 rfl Try.sizeOf3 rfl) ?_
            refine vl_on rfl rfl rfl rfl ?_
            refine vl_val rfl (.some rfl) (val_load Try.isAgg3 rfl (by first | exact cell_cells (by repeat constructor) rfl | exact cell_rd (by first | exact rd_sl (by repeat constructor) | exact rd_old (by assumption) rfl) (by first | exact bcells_at (by omega) | exact ucells_at (by omega) | exact icells_at (by omega) | exact tcells_at (by omega) | exact bcells_get (by omega) | exact icells_get (by omega) | exact tcells_get (by omega) | exact ucells_get (by omega)) | exact cell_old (by assumption) (by simp [fps]))) ?_
            refine vl_on rfl rfl rfl rfl ?_
            refine vl_val rfl (.some rfl) (by first | exact val_fieldAddr Try.runUnderlying64 rfl Try.sizeOf62 rfl | exact val_fieldAddrR Try.runUnderlying64 rfl Try.sizeOf62 rfl) ?_
            refine vl_on rfl rfl rfl rfl ?_
            refine vl_val rfl (.some rfl) (by first | exact val_fieldAddr Try.runUnderlying62 rfl Try.sizeOf3 rfl | exact val_fieldAddrR Try.runUnderlying62 rfl Try.sizeOf3 rfl) ?_
            refine vl_on rfl rfl rfl rfl ?_
            refine vl_val rfl (.some rfl) (val_load Try.isAgg3 rfl (by first | exact cell_cells (by repeat constructor) rfl | exact cell_rd (by first | exact rd_sl (by repeat constructor) | exact rd_old (by assumption) rfl) (by first | exact bcells_at (by omega) | exact ucells_at (by omega) | exact icells_at (by omega) | exact tcells_at (by omega) | exact bcells_get (by omega) | exact icells_get (by omega) | exact tcells_get (by omega) | exact ucells_get (by omega)) | exact cell_old (by assumption) (by simp [fps]))) ?_
            refine vl_on rfl rfl rfl rfl ?_
            refine vl_val rfl (.some rfl) (val_eq rfl rfl) ?_
            refine vl_val rfl (.some rfl) (val_pick rfl rfl) ?_
            refine vl_val rfl (.some rfl) (val_assign rfl) ?_
            refine vl_nil ?_
            refine vc_ret ?_
            refine ⟨_, [], _, res1 Try.results19 rfl, .nil, ?_⟩
            show _ = _
            refine congrArg Value.bool ?_
            unfold mayZ opK isR
            first | (simp_all; done) | (simp_all <;> omega)
          · (try replace hg65 := of_decide_eq_false hg65)
            refine vl_off rfl rfl rfl rfl (.some rfl) ?_
            refine vl_off rfl rfl rfl rfl (.some rfl) ?_
            refine vl_off rfl rfl rfl rfl (.some rfl) ?_
            refine vl_off rfl rfl rfl rfl (.some rfl) ?_
            refine vl_off rfl rfl rfl rfl (.some rfl) ?_
            refine vl_off rfl rfl rfl rfl (.some rfl) ?_
            refine vl_val rfl (.some rfl) (val_pick rfl rfl) ?_
            refine vl_val rfl (.some rfl) (val_assign rfl) ?_
            refine vl_nil ?_
            refine vc_ret ?_
            refine ⟨_, [], _, res1 Try.results19 rfl, .nil, ?_⟩
            show _ = _
            refine congrArg Value.bool ?_
            unfold mayZ opK isR
            first | (simp_all; done) | (simp_all <;> omega)
        · (try replace hg59 := of_decide_eq_false hg59)
          refine vl_off rfl rfl rfl rfl (.some rfl) ?_
          refine vl_off rfl rfl rfl rfl (.some rfl) ?_
          refine vl_off rfl rfl rfl rfl (.some rfl) ?_
          refine vl_off rfl rfl rfl rfl (.some rfl) ?_
          refine vl_val rfl (.some rfl) (val_pick rfl rfl) ?_
          refine vl_val rfl (.some rfl) (val_move rfl) ?_
          refine vl_off rfl rfl rfl rfl (.some rfl) ?_
          refine vl_off rfl rfl rfl rfl (.some rfl) ?_
          refine vl_off rfl rfl rfl rfl (.some rfl) ?_
          refine vl_off rfl rfl rfl rfl (.some rfl) ?_
          refine vl_off rfl rfl rfl rfl (.some rfl) ?_
          refine vl_off rfl rfl rfl rfl (.some rfl) ?_
          refine vl_val rfl (.some rfl) (val_pick rfl rfl) ?_
          refine vl_val rfl (.some rfl) (val_assign rfl) ?_
          refine vl_nil ?_
          refine vc_ret ?_
          refine ⟨_, [], _, res1 Try.results19 rfl, .nil, ?_⟩
          show _ = _
          refine congrArg Value.bool ?_
          unfold mayZ opK isR
          first | (simp_all; done) | (simp_all <;> omega)
      · (try replace hg54 := of_decide_eq_false hg54)
        refine vl_off rfl rfl rfl rfl (.some rfl) ?_
        refine vl_off rfl rfl rfl rfl (.some rfl) ?_
        refine vl_off rfl rfl rfl rfl (.some rfl) ?_
        refine vl_val rfl (.some rfl) (val_pick rfl rfl) ?_
        refine vl_val rfl (.some rfl) (val_move rfl) ?_
        refine vl_off rfl rfl rfl rfl (.some rfl) ?_
        refine vl_off rfl rfl rfl rfl (.some rfl) ?_
        refine vl_off rfl rfl rfl rfl (.some rfl) ?_
        refine vl_off rfl rfl rfl rfl (.some rfl) ?_
        refine vl_val rfl (.some rfl) (val_pick rfl rfl) ?_
        refine vl_val rfl (.some rfl) (val_move rfl) ?_
        refine vl_off rfl rfl rfl rfl (.some rfl) ?_
        refine vl_off rfl rfl rfl rfl (.some rfl) ?_
        refine vl_off rfl rfl rfl rfl (.some rfl) ?_
        refine vl_off rfl rfl rfl rfl (.some rfl) ?_
        refine vl_off rfl rfl rfl rfl (.some rfl) ?_
        refine vl_off rfl rfl rfl rfl (.some rfl) ?_
        refine vl_val rfl (.some rfl) (val_pick rfl rfl) ?_
        refine vl_val rfl (.some rfl) (val_assign rfl) ?_
        refine vl_nil ?_
        refine vc_ret ?_
        refine ⟨_, [], _, res1 Try.results19 rfl, .nil, ?_⟩
        show _ = _
        refine congrArg Value.bool ?_
        unfold mayZ opK isR
        first | (simp_all; done) | (simp_all <;> omega)
    · (try replace hg25 := of_decide_eq_false hg25)
      refine vl_off rfl rfl rfl rfl (.some rfl) ?_
      refine vl_off rfl rfl rfl rfl (.some rfl) ?_
      refine vl_val rfl (.some rfl) (val_pick rfl rfl) ?_
      refine vl_val rfl (.some rfl) (val_assign rfl) ?_
      refine vl_nil ?_
      refine vc_seq ?_
      refine vc_region ?_
      refine vl_val rfl (.some rfl) (val_move rfl) ?_
      refine vl_val rfl (.some rfl) (val_move rfl) ?_
      refine vl_off rfl rfl rfl rfl (.some rfl) ?_
      refine vl_off rfl rfl rfl rfl (.some rfl) ?_
      refine vl_off rfl rfl rfl rfl (.some rfl) ?_
      refine vl_val rfl (.some rfl) (val_pick rfl rfl) ?_
      refine vl_val rfl (.some rfl) (val_move rfl) ?_
      refine vl_off rfl rfl rfl rfl (.some rfl) ?_
      refine vl_off rfl rfl rfl rfl (.some rfl) ?_
      refine vl_off rfl rfl rfl rfl (.some rfl) ?_
      refine vl_off rfl rfl rfl rfl (.some rfl) ?_
      refine vl_val rfl (.some rfl) (val_pick rfl rfl) ?_
      refine vl_val rfl (.some rfl) (val_move rfl) ?_
      refine vl_off rfl rfl rfl rfl (.some rfl) ?_
      refine vl_off rfl rfl rfl rfl (.some rfl) ?_
      refine vl_off rfl rfl rfl rfl (.some rfl) ?_
      refine vl_off rfl rfl rfl rfl (.some rfl) ?_
      refine vl_off rfl rfl rfl rfl (.some rfl) ?_
      refine vl_off rfl rfl rfl rfl (.some rfl) ?_
      refine vl_val rfl (.some rfl) (val_pick rfl rfl) ?_
      refine vl_val rfl (.some rfl) (val_assign rfl) ?_
      refine vl_nil ?_
      refine vc_ret ?_
      refine ⟨_, [], _, res1 Try.results19 rfl, .nil, ?_⟩
      show _ = _
      refine congrArg Value.bool ?_
      unfold mayZ opK isR
      first | (simp_all; done) | (simp_all <;> omega)
  · (try replace hc0 := of_decide_eq_false hc0)
    refine vc_seq ?_
    refine vc_region ?_
    refine vl_val rfl (.some rfl) (val_seq rfl rfl) ?_
    refine vl_val rfl (.some rfl) (val_assign rfl) ?_
    refine vl_nil ?_
    refine vc_cond rfl (fun hc1 => ?_) (fun hc1 => ?_)
    · (try replace hc1 := of_decide_eq_true hc1)
      refine vc_region ?_
      refine vl_val rfl (.some rfl) (val_move rfl) ?_
      refine vl_val rfl (.some rfl) (val_ne rfl rfl) ?_
      refine vl_val rfl (.some rfl) (val_move rfl) ?_
      refine vl_split (t := 33) rfl (fun hg33 => ?_) (fun hg33 => ?_)
      · (try replace hg33 := of_decide_eq_true hg33)
        refine vl_off rfl rfl rfl rfl (.some rfl) ?_
        refine vl_off rfl rfl rfl rfl (.some rfl) ?_
        refine vl_val rfl (.some rfl) (val_pick rfl rfl) ?_
        refine vl_val rfl (.some rfl) (val_assign rfl) ?_
        refine vl_nil ?_
        refine vc_seq ?_
        refine vc_region ?_
        refine vl_val rfl (.some rfl) (val_move rfl) ?_
        refine vl_val rfl (.some rfl) (val_move rfl) ?_
        refine vl_on rfl rfl rfl rfl ?_
        refine vl_val rfl (.some rfl) (by first | exact val_fieldAddr Try.runUnderlying62 rfl Try.sizeOf3 rfl | exact val_fieldAddrR Try.runUnderlying62 rfl Try.sizeOf3 rfl) ?_
        refine vl_on rfl rfl rfl rfl ?_
        refine vl_val rfl (.some rfl) (val_load Try.isAgg3 rfl (by first | exact cell_cells (by repeat constructor) rfl | exact cell_rd (by first | exact rd_sl (by repeat constructor) | exact rd_old (by assumption) rfl) (by first | exact bcells_at (by omega) | exact ucells_at (by omega) | exact icells_at (by omega) | exact tcells_at (by omega) | exact bcells_get (by omega) | exact icells_get (by omega) | exact tcells_get (by omega) | exact ucells_get (by omega)) | exact cell_old (by assumption) (by simp [fps]))) ?_
        refine vl_on rfl rfl rfl rfl ?_
        refine vl_val rfl (.some rfl) (val_ne rfl rfl) ?_
        refine vl_val rfl (.some rfl) (val_pick rfl rfl) ?_
        refine vl_val rfl (.some rfl) (val_move rfl) ?_
        refine vl_split (t := 59) rfl (fun hg59 => ?_) (fun hg59 => ?_)
        · (try replace hg59 := of_decide_eq_true hg59)
          refine vl_on rfl rfl rfl rfl ?_
          refine vl_val rfl (.some rfl) (by first | exact val_fieldAddr Try.runUnderlying64 rfl Try.sizeOf3 rfl | exact val_fieldAddrR Try.runUnderlying64 rfl Try.sizeOf3 rfl) ?_
          refine vl_on rfl rfl rfl rfl ?_
          refine vl_val rfl (.some rfl) (val_load Try.isAgg3 rfl (by first | exact cell_cells (by repeat constructor) rfl | exact cell_rd (by first | exact rd_sl (by repeat constructor) | exact rd_old (by assumption) rfl) (by first | exact bcells_at (by omega) | exact ucells_at (by omega) | exact icells_at (by omega) | exact tcells_at (by omega) | exact bcells_get (by omega) | exact icells_get (by omega) | exact tcells_get (by omega) | exact ucells_get (by omega)) | exact cell_old (by assumption) (by simp [fps]))) ?_
          refine vl_on rfl rfl rfl rfl ?_
          refine vl_val rfl (.some rfl) (val_move rfl) ?_
          refine vl_on rfl rfl rfl rfl ?_
          refine vl_val rfl (.some rfl) (val_lt rfl rfl) ?_
          refine vl_val rfl (.some rfl) (val_pick rfl rfl) ?_
          refine vl_val rfl (.some rfl) (val_move rfl) ?_
          refine vl_split (t := 65) rfl (fun hg65 => ?_) (fun hg65 => ?_)
          · (try replace hg65 := of_decide_eq_true hg65)
            refine vl_on rfl rfl rfl rfl ?_
            refine vl_val rfl (.some rfl) (by first | exact val_fieldAddr Try.runUnderlying62 rfl Try.sizeOf3 rfl | exact val_fieldAddrR Try.runUnderlying62 rfl Try.sizeOf3 rfl) ?_
            refine vl_on rfl rfl rfl rfl ?_
            refine vl_val rfl (.some rfl) (val_load Try.isAgg3 rfl (by first | exact cell_cells (by repeat constructor) rfl | exact cell_rd (by first | exact rd_sl (by repeat constructor) | exact rd_old (by assumption) rfl) (by first | exact bcells_at (by omega) | exact ucells_at (by omega) | exact icells_at (by omega) | exact tcells_at (by omega) | exact bcells_get (by omega) | exact icells_get (by omega) | exact tcells_get (by omega) | exact ucells_get (by omega)) | exact cell_old (by assumption) (by simp [fps]))) ?_
            refine vl_on rfl rfl rfl rfl ?_
            refine vl_val rfl (.some rfl) (by first | exact val_fieldAddr Try.runUnderlying64 rfl Try.sizeOf62 rfl | exact val_fieldAddrR Try.runUnderlying64 rfl Try.sizeOf62 rfl) ?_
            refine vl_on rfl rfl rfl rfl ?_
            refine vl_val rfl (.some rfl) (by first | exact val_fieldAddr Try.runUnderlying62 rfl Try.sizeOf3 rfl | exact val_fieldAddrR Try.runUnderlying62 rfl Try.sizeOf3 rfl) ?_
            refine vl_on rfl rfl rfl rfl ?_
            refine vl_val rfl (.some rfl) (val_load Try.isAgg3 rfl (by first | exact cell_cells (by repeat constructor) rfl | exact cell_rd (by first | exact rd_sl (by repeat constructor) | exact rd_old (by assumption) rfl) (by first | exact bcells_at (by omega) | exact ucells_at (by omega) | exact icells_at (by omega) | exact tcells_at (by omega) | exact bcells_get (by omega) | exact icells_get (by omega) | exact tcells_get (by omega) | exact ucells_get (by omega)) | exact cell_old (by assumption) (by simp [fps]))) ?_
            refine vl_on rfl rfl rfl rfl ?_
            refine vl_val rfl (.some rfl) (val_eq rfl rfl) ?_
            refine vl_val rfl (.some rfl) (val_pick rfl rfl) ?_
            refine vl_val rfl (.some rfl) (val_assign rfl) ?_
            refine vl_nil ?_
            refine vc_ret ?_
            refine ⟨_, [], _, res1 Try.results19 rfl, .nil, ?_⟩
            show _ = _
            refine congrArg Value.bool ?_
            unfold mayZ opK isR
            first | (simp_all; done) | (simp_all <;> omega)
          · (try replace hg65 := of_decide_eq_false hg65)
            refine vl_off rfl rfl rfl rfl (.some rfl) ?_
            refine vl_off rfl rfl rfl rfl (.some rfl) ?_
            refine vl_off rfl rfl rfl rfl (.some rfl) ?_
            refine vl_off rfl rfl rfl rfl (.some rfl) ?_
            refine vl_off rfl rfl rfl rfl (.some rfl) ?_
            refine vl_off rfl rfl rfl rfl (.some rfl) ?_
            refine vl_val rfl (.some rfl) (val_pick rfl rfl) ?_
            refine vl_val rfl (.some rfl) (val_assign rfl) ?_
            refine vl_nil ?_
            refine vc_ret ?_
            refine ⟨_, [], _, res1 Try.results19 rfl, .nil, ?_⟩
            show _ = _
            refine congrArg Value.bool ?_
            unfold mayZ opK isR
            first | (simp_all; done) | (simp_all <;> omega)
        · (try replace hg59 := of_decide_eq_false hg59)
          refine vl_off rfl rfl rfl rfl (.some rfl) ?_
          refine vl_off rfl rfl rfl rfl (.some rfl) ?_
          refine vl_off rfl rfl rfl rfl (.some rfl) ?_
          refine vl_off rfl rfl rfl rfl (.some rfl) ?_
          refine vl_val rfl (.some rfl) (val_pick rfl rfl) ?_
          refine vl_val rfl (.some rfl) (val_move rfl) ?_
          refine vl_off rfl rfl rfl rfl (.some rfl) ?_
          refine vl_off rfl rfl rfl rfl (.some rfl) ?_
          refine vl_off rfl rfl rfl rfl (.some rfl) ?_
          refine vl_off rfl rfl rfl rfl (.some rfl) ?_
          refine vl_off rfl rfl rfl rfl (.some rfl) ?_
          refine vl_off rfl rfl rfl rfl (.some rfl) ?_
          refine vl_val rfl (.some rfl) (val_pick rfl rfl) ?_
          refine vl_val rfl (.some rfl) (val_assign rfl) ?_
          refine vl_nil ?_
          refine vc_ret ?_
          refine ⟨_, [], _, res1 Try.results19 rfl, .nil, ?_⟩
          show _ = _
          refine congrArg Value.bool ?_
          unfold mayZ opK isR
          first | (simp_all; done) | (simp_all <;> omega)
      · (try replace hg33 := of_decide_eq_false hg33)
        refine vl_on rfl rfl rfl rfl ?_
        refine vl_val rfl (.some rfl) (val_move rfl) ?_
        refine vl_on rfl rfl rfl rfl ?_
        refine vl_val rfl (.some rfl) (val_ne rfl rfl) ?_
        refine vl_val rfl (.some rfl) (val_pick rfl rfl) ?_
        refine vl_val rfl (.some rfl) (val_assign rfl) ?_
        refine vl_nil ?_
        refine vc_seq ?_
        refine vc_region ?_
        refine vl_val rfl (.some rfl) (val_move rfl) ?_
        refine vl_val rfl (.some rfl) (val_move rfl) ?_
        refine vl_split (t := 54) rfl (fun hg54 => ?_) (fun hg54 => ?_)
        · (try replace hg54 := of_decide_eq_true hg54)
          refine vl_on rfl rfl rfl rfl ?_
          refine vl_val rfl (.some rfl) (by first | exact val_fieldAddr Try.runUnderlying62 rfl Try.sizeOf3 rfl | exact val_fieldAddrR Try.runUnderlying62 rfl Try.sizeOf3 rfl) ?_
          refine vl_on rfl rfl rfl rfl ?_
          refine vl_val rfl (.some rfl) (val_load Try.isAgg3 rfl (by first | exact cell_cells (by repeat constructor) rfl | exact cell_rd (by first | exact rd_sl (by repeat constructor) | exact rd_old (by assumption) rfl) (by first | exact bcells_at (by omega) | exact ucells_at (by omega) | exact icells_at (by omega) | exact tcells_at (by omega) | exact bcells_get (by omega) | exact icells_get (by omega) | exact tcells_get (by omega) | exact ucells_get (by omega)) | exact cell_old (by assumption) (by simp [fps]))) ?_
          refine vl_on rfl rfl rfl rfl ?_
          refine vl_val rfl (.some rfl) (val_ne rfl rfl) ?_
          refine vl_val rfl (.some rfl) (val_pick rfl rfl) ?_
          refine vl_val rfl (.some rfl) (val_move rfl) ?_
          refine vl_split (t := 59) rfl (fun hg59 => ?_) (fun hg59 => ?_)
          · (try replace hg59 := of_decide_eq_true hg59)
            refine vl_on rfl rfl rfl rfl ?_
            refine vl_val rfl (.some rfl) (by first | exact val_fieldAddr Try.runUnderlying64 rfl Try.sizeOf3 rfl | exact val_fieldAddrR Try.runUnderlying64 rfl Try.sizeOf3 rfl) ?_
            refine vl_on rfl rfl rfl rfl ?_
            refine vl_val rfl (.some rfl) (val_load Try.isAgg3 rfl (by first | exact cell_cells (by repeat constructor) rfl | exact cell_rd (by first | exact rd_sl (by repeat constructor) | exact rd_old (by assumption) rfl) (by first | exact bcells_at (by omega) | exact ucells_at (by omega) | exact icells_at (by omega) | exact tcells_at (by omega) | exact bcells_get (by omega) | exact icells_get (by omega) | exact tcells_get (by omega) | exact ucells_get (by omega)) | exact cell_old (by assumption) (by simp [fps]))) ?_
            refine vl_on rfl rfl rfl rfl ?_
            refine vl_val rfl (.some rfl) (val_move rfl) ?_
            refine vl_on rfl rfl rfl rfl ?_
            refine vl_val rfl (.some rfl) (val_lt rfl rfl) ?_
            refine vl_val rfl (.some rfl) (val_pick rfl rfl) ?_
            refine vl_val rfl (.some rfl) (val_move rfl) ?_
            refine vl_split (t := 65) rfl (fun hg65 => ?_) (fun hg65 => ?_)
            · (try replace hg65 := of_decide_eq_true hg65)
              refine vl_on rfl rfl rfl rfl ?_
              refine vl_val rfl (.some rfl) (by first | exact val_fieldAddr Try.runUnderlying62 rfl Try.sizeOf3 rfl | exact val_fieldAddrR Try.runUnderlying62 rfl Try.sizeOf3 rfl) ?_
              refine vl_on rfl rfl rfl rfl ?_
              refine vl_val rfl (.some rfl) (val_load Try.isAgg3 rfl (by first | exact cell_cells (by repeat constructor) rfl | exact cell_rd (by first | exact rd_sl (by repeat constructor) | exact rd_old (by assumption) rfl) (by first | exact bcells_at (by omega) | exact ucells_at (by omega) | exact icells_at (by omega) | exact tcells_at (by omega) | exact bcells_get (by omega) | exact icells_get (by omega) | exact tcells_get (by omega) | exact ucells_get (by omega)) | exact cell_old (by assumption) (by simp [fps]))) ?_
              refine vl_on rfl rfl rfl rfl ?_
              refine vl_val rfl (.some rfl) (by first | exact val_fieldAddr Try.runUnderlying64 rfl Try.sizeOf62 rfl | exact val_fieldAddrR Try.runUnderlying64 rfl Try.sizeOf62 rfl) ?_
              refine vl_on rfl rfl rfl rfl ?_
              refine vl_val rfl (.some rfl) (by first | exact val_fieldAddr Try.runUnderlying62 rfl Try.sizeOf3 rfl | exact val_fieldAddrR Try.runUnderlying62 rfl Try.sizeOf3 rfl) ?_
              refine vl_on rfl rfl rfl rfl ?_
              refine vl_val rfl (.some rfl) (val_load Try.isAgg3 rfl (by first | exact cell_cells (by repeat constructor) rfl | exact cell_rd (by first | exact rd_sl (by repeat constructor) | exact rd_old (by assumption) rfl) (by first | exact bcells_at (by omega) | exact ucells_at (by omega) | exact icells_at (by omega) | exact tcells_at (by omega) | exact bcells_get (by omega) | exact icells_get (by omega) | exact tcells_get (by omega) | exact ucells_get (by omega)) | exact cell_old (by assumption) (by simp [fps]))) ?_
              refine vl_on rfl rfl rfl rfl ?_
              refine vl_val rfl (.some rfl) (val_eq rfl rfl) ?_
              refine vl_val rfl (.some rfl) (val_pick rfl rfl) ?_
              refine vl_val rfl (.some rfl) (val_assign rfl) ?_
              refine vl_nil ?_
              refine vc_ret ?_
              refine ⟨_, [], _, res1 Try.results19 rfl, .nil, ?_⟩
              show _ = _
              refine congrArg Value.bool ?_
              unfold mayZ opK isR
              first | (simp_all; done) | (simp_all <;> omega)
            · (try replace hg65 := of_decide_eq_false hg65)
              refine vl_off rfl rfl rfl rfl (.some rfl) ?_
              refine vl_off rfl rfl rfl rfl (.some rfl) ?_
              refine vl_off rfl rfl rfl rfl (.some rfl) ?_
              refine vl_off rfl rfl rfl rfl (.some rfl) ?_
              refine vl_off rfl rfl rfl rfl (.some rfl) ?_
              refine vl_off rfl rfl rfl rfl (.some rfl) ?_
              refine vl_val rfl (.some rfl) (val_pick rfl rfl) ?_
              refine vl_val rfl (.some rfl) (val_assign rfl) ?_
              refine vl_nil ?_
              refine vc_ret ?_
              refine ⟨_, [], _, res1 Try.results19 rfl, .nil, ?_⟩
              show _ = _
              refine congrArg Value.bool ?_
              unfold mayZ opK isR
              first | (simp_all; done) | (simp_all <;> omega)
          · (try replace hg59 := of_decide_eq_false hg59)
            refine vl_off rfl rfl rfl rfl (.some rfl) ?_
            refine vl_off rfl rfl rfl rfl (.some rfl) ?_
            refine vl_off rfl rfl rfl rfl (.some rfl) ?_
            refine vl_off rfl rfl rfl rfl (.some rfl) ?_
            refine vl_val rfl (.some rfl) (val_pick rfl rfl) ?_
            refine vl_val rfl (.some rfl) (val_move rfl) ?_
            refine vl_off rfl rfl rfl rfl (.some rfl) ?_
            refine vl_off rfl rfl rfl rfl (.some rfl) ?_
            refine vl_off rfl rfl rfl rfl (.some rfl) ?_
            refine vl_off rfl rfl rfl rfl (.some rfl) ?_
            refine vl_off rfl rfl rfl rfl (.some rfl) ?_
            refine vl_off rfl rfl rfl rfl (.some rfl) ?_
            refine vl_val rfl (.some rfl) (val_pick rfl rfl) ?_
            refine vl_val rfl (.some rfl) (val_assign rfl) ?_
            refine vl_nil ?_
            refine vc_ret ?_
            refine ⟨_, [], _, res1 Try.results19 rfl, .nil, ?_⟩
            show _ = _
            refine congrArg Value.bool ?_
            unfold mayZ opK isR
            first | (simp_all; done) | (simp_all <;> omega)
        · (try replace hg54 := of_decide_eq_false hg54)
          refine vl_off rfl rfl rfl rfl (.some rfl) ?_
          refine vl_off rfl rfl rfl rfl (.some rfl) ?_
          refine vl_off rfl rfl rfl rfl (.some rfl) ?_
          refine vl_val rfl (.some rfl) (val_pick rfl rfl) ?_
          refine vl_val rfl (.some rfl) (val_move rfl) ?_
          refine vl_off rfl rfl rfl rfl (.some rfl) ?_
          refine vl_off rfl rfl rfl rfl (.some rfl) ?_
          refine vl_off rfl rfl rfl rfl (.some rfl) ?_
          refine vl_off rfl rfl rfl rfl (.some rfl) ?_
          refine vl_val rfl (.some rfl) (val_pick rfl rfl) ?_
          refine vl_val rfl (.some rfl) (val_move rfl) ?_
          refine vl_off rfl rfl rfl rfl (.some rfl) ?_
          refine vl_off rfl rfl rfl rfl (.some rfl) ?_
          refine vl_off rfl rfl rfl rfl (.some rfl) ?_
          refine vl_off rfl rfl rfl rfl (.some rfl) ?_
          refine vl_off rfl rfl rfl rfl (.some rfl) ?_
          refine vl_off rfl rfl rfl rfl (.some rfl) ?_
          refine vl_val rfl (.some rfl) (val_pick rfl rfl) ?_
          refine vl_val rfl (.some rfl) (val_assign rfl) ?_
          refine vl_nil ?_
          refine vc_ret ?_
          refine ⟨_, [], _, res1 Try.results19 rfl, .nil, ?_⟩
          show _ = _
          refine congrArg Value.bool ?_
          unfold mayZ opK isR
          first | (simp_all; done) | (simp_all <;> omega)
    · (try replace hc1 := of_decide_eq_false hc1)
      refine vc_seq ?_
      refine vc_region ?_
      refine vl_val rfl (.some rfl) (val_seq rfl rfl) ?_
      refine vl_val rfl (.some rfl) (val_assign rfl) ?_
      refine vl_nil ?_
      refine vc_cond rfl (fun hc2 => ?_) (fun hc2 => ?_)
      · (try replace hc2 := of_decide_eq_true hc2)
        refine vc_region ?_
        refine vl_val rfl (.some rfl) (val_move rfl) ?_
        refine vl_val rfl (.some rfl) (val_lt rfl rfl) ?_
        refine vl_val rfl (.some rfl) (val_assign rfl) ?_
        refine vl_nil ?_
        refine vc_seq ?_
        refine vc_region ?_
        refine vl_val rfl (.some rfl) (val_move rfl) ?_
        refine vl_val rfl (.some rfl) (val_move rfl) ?_
        refine vl_split (t := 54) rfl (fun hg54 => ?_) (fun hg54 => ?_)
        · (try replace hg54 := of_decide_eq_true hg54)
          refine vl_on rfl rfl rfl rfl ?_
          refine vl_val rfl (.some rfl) (by first | exact val_fieldAddr Try.runUnderlying62 rfl Try.sizeOf3 rfl | exact val_fieldAddrR Try.runUnderlying62 rfl Try.sizeOf3 rfl) ?_
          refine vl_on rfl rfl rfl rfl ?_
          refine vl_val rfl (.some rfl) (val_load Try.isAgg3 rfl (by first | exact cell_cells (by repeat constructor) rfl | exact cell_rd (by first | exact rd_sl (by repeat constructor) | exact rd_old (by assumption) rfl) (by first | exact bcells_at (by omega) | exact ucells_at (by omega) | exact icells_at (by omega) | exact tcells_at (by omega) | exact bcells_get (by omega) | exact icells_get (by omega) | exact tcells_get (by omega) | exact ucells_get (by omega)) | exact cell_old (by assumption) (by simp [fps]))) ?_
          refine vl_on rfl rfl rfl rfl ?_
          refine vl_val rfl (.some rfl) (val_ne rfl rfl) ?_
          refine vl_val rfl (.some rfl) (val_pick rfl rfl) ?_
          refine vl_val rfl (.some rfl) (val_move rfl) ?_
          refine vl_split (t := 59) rfl (fun hg59 => ?_) (fun hg59 => ?_)
          · (try replace hg59 := of_decide_eq_true hg59)
            refine vl_on rfl rfl rfl rfl ?_
            refine vl_val rfl (.some rfl) (by first | exact val_fieldAddr Try.runUnderlying64 rfl Try.sizeOf3 rfl | exact val_fieldAddrR Try.runUnderlying64 rfl Try.sizeOf3 rfl) ?_
            refine vl_on rfl rfl rfl rfl ?_
            refine vl_val rfl (.some rfl) (val_load Try.isAgg3 rfl (by first | exact cell_cells (by repeat constructor) rfl | exact cell_rd (by first | exact rd_sl (by repeat constructor) | exact rd_old (by assumption) rfl) (by first | exact bcells_at (by omega) | exact ucells_at (by omega) | exact icells_at (by omega) | exact tcells_at (by omega) | exact bcells_get (by omega) | exact icells_get (by omega) | exact tcells_get (by omega) | exact ucells_get (by omega)) | exact cell_old (by assumption) (by simp [fps]))) ?_
            refine vl_on rfl rfl rfl rfl ?_
            refine vl_val rfl (.some rfl) (val_move rfl) ?_
            refine vl_on rfl rfl rfl rfl ?_
            refine vl_val rfl (.some rfl) (val_lt rfl rfl) ?_
            refine vl_val rfl (.some rfl) (val_pick rfl rfl) ?_
            refine vl_val rfl (.some rfl) (val_move rfl) ?_
            refine vl_split (t := 65) rfl (fun hg65 => ?_) (fun hg65 => ?_)
            · (try replace hg65 := of_decide_eq_true hg65)
              refine vl_on rfl rfl rfl rfl ?_
              refine vl_val rfl (.some rfl) (by first | exact val_fieldAddr Try.runUnderlying62 rfl Try.sizeOf3 rfl | exact val_fieldAddrR Try.runUnderlying62 rfl Try.sizeOf3 rfl) ?_
              refine vl_on rfl rfl rfl rfl ?_
              refine vl_val rfl (.some rfl) (val_load Try.isAgg3 rfl (by first | exact cell_cells (by repeat constructor) rfl | exact cell_rd (by first | exact rd_sl (by repeat constructor) | exact rd_old (by assumption) rfl) (by first | exact bcells_at (by omega) | exact ucells_at (by omega) | exact icells_at (by omega) | exact tcells_at (by omega) | exact bcells_get (by omega) | exact icells_get (by omega) | exact tcells_get (by omega) | exact ucells_get (by omega)) | exact cell_old (by assumption) (by simp [fps]))) ?_
              refine vl_on rfl rfl rfl rfl ?_
              refine vl_val rfl (.some rfl) (by first | exact val_fieldAddr Try.runUnderlying64 rfl Try.sizeOf62 rfl | exact val_fieldAddrR Try.runUnderlying64 rfl Try.sizeOf62 rfl) ?_
              refine vl_on rfl rfl rfl rfl ?_
              refine vl_val rfl (.some rfl) (by first | exact val_fieldAddr Try.runUnderlying62 rfl Try.sizeOf3 rfl | exact val_fieldAddrR Try.runUnderlying62 rfl Try.sizeOf3 rfl) ?_
              refine vl_on rfl rfl rfl rfl ?_
              refine vl_val rfl (.some rfl) (val_load Try.isAgg3 rfl (by first | exact cell_cells (by repeat constructor) rfl | exact cell_rd (by first | exact rd_sl (by repeat constructor) | exact rd_old (by assumption) rfl) (by first | exact bcells_at (by omega) | exact ucells_at (by omega) | exact icells_at (by omega) | exact tcells_at (by omega) | exact bcells_get (by omega) | exact icells_get (by omega) | exact tcells_get (by omega) | exact ucells_get (by omega)) | exact cell_old (by assumption) (by simp [fps]))) ?_
              refine vl_on rfl rfl rfl rfl ?_
              refine vl_val rfl (.some rfl) (val_eq rfl rfl) ?_
              refine vl_val rfl (.some rfl) (val_pick rfl rfl) ?_
              refine vl_val rfl (.some rfl) (val_assign rfl) ?_
              refine vl_nil ?_
              refine vc_ret ?_
              refine ⟨_, [], _, res1 Try.results19 rfl, .nil, ?_⟩
              show _ = _
              refine congrArg Value.bool ?_
              unfold mayZ opK isR
              first | (simp_all; done) | (simp_all <;> omega)
            · (try replace hg65 := of_decide_eq_false hg65)
              refine vl_off rfl rfl rfl rfl (.some rfl) ?_
              refine vl_off rfl rfl rfl rfl (.some rfl) ?_
              refine vl_off rfl rfl rfl rfl (.some rfl) ?_
              refine vl_off rfl rfl rfl rfl (.some rfl) ?_
              refine vl_off rfl rfl rfl rfl (.some rfl) ?_
              refine vl_off rfl rfl rfl rfl (.some rfl) ?_
              refine vl_val rfl (.some rfl) (val_pick rfl rfl) ?_
              refine vl_val rfl (.some rfl) (val_assign rfl) ?_
              refine vl_nil ?_
              refine vc_ret ?_
              refine ⟨_, [], _, res1 Try.results19 rfl, .nil, ?_⟩
              show _ = _
              refine congrArg Value.bool ?_
              unfold mayZ opK isR
              first | (simp_all; done) | (simp_all <;> omega)
          · (try replace hg59 := of_decide_eq_false hg59)
            refine vl_off rfl rfl rfl rfl (.some rfl) ?_
            refine vl_off rfl rfl rfl rfl (.some rfl) ?_
            refine vl_off rfl rfl rfl rfl (.some rfl) ?_
            refine vl_off rfl rfl rfl rfl (.some rfl) ?_
            refine vl_val rfl (.some rfl) (val_pick rfl rfl) ?_
            refine vl_val rfl (.some rfl) (val_move rfl) ?_
            refine vl_off rfl rfl rfl rfl (.some rfl) ?_
            refine vl_off rfl rfl rfl rfl (.some rfl) ?_
            refine vl_off rfl rfl rfl rfl (.some rfl) ?_
            refine vl_off rfl rfl rfl rfl (.some rfl) ?_
            refine vl_off rfl rfl rfl rfl (.some rfl) ?_
            refine vl_off rfl rfl rfl rfl (.some rfl) ?_
            refine vl_val rfl (.some rfl) (val_pick rfl rfl) ?_
            refine vl_val rfl (.some rfl) (val_assign rfl) ?_
            refine vl_nil ?_
            refine vc_ret ?_
            refine ⟨_, [], _, res1 Try.results19 rfl, .nil, ?_⟩
            show _ = _
            refine congrArg Value.bool ?_
            unfold mayZ opK isR
            first | (simp_all; done) | (simp_all <;> omega)
        · (try replace hg54 := of_decide_eq_false hg54)
          refine vl_off rfl rfl rfl rfl (.some rfl) ?_
          refine vl_off rfl rfl rfl rfl (.some rfl) ?_
          refine vl_off rfl rfl rfl rfl (.some rfl) ?_
          refine vl_val rfl (.some rfl) (val_pick rfl rfl) ?_
          refine vl_val rfl (.some rfl) (val_move rfl) ?_
          refine vl_off rfl rfl rfl rfl (.some rfl) ?_
          refine vl_off rfl rfl rfl rfl (.some rfl) ?_
          refine vl_off rfl rfl rfl rfl (.some rfl) ?_
          refine vl_off rfl rfl rfl rfl (.some rfl) ?_
          refine vl_val rfl (.some rfl) (val_pick rfl rfl) ?_
          refine vl_val rfl (.some rfl) (val_move rfl) ?_
          refine vl_off rfl rfl rfl rfl (.some rfl) ?_
          refine vl_off rfl rfl rfl rfl (.some rfl) ?_
          refine vl_off rfl rfl rfl rfl (.some rfl) ?_
          refine vl_off rfl rfl rfl rfl (.some rfl) ?_
          refine vl_off rfl rfl rfl rfl (.some rfl) ?_
          refine vl_off rfl rfl rfl rfl (.some rfl) ?_
          refine vl_val rfl (.some rfl) (val_pick rfl rfl) ?_
          refine vl_val rfl (.some rfl) (val_assign rfl) ?_
          refine vl_nil ?_
          refine vc_ret ?_
          refine ⟨_, [], _, res1 Try.results19 rfl, .nil, ?_⟩
          show _ = _
          refine congrArg Value.bool ?_
          unfold mayZ opK isR
          first | (simp_all; done) | (simp_all <;> omega)
      · (try replace hc2 := of_decide_eq_false hc2)
        refine vc_seq ?_
        refine vc_region ?_
        refine vl_val rfl (.some rfl) (val_seq rfl rfl) ?_
        refine vl_val rfl (.some rfl) (val_assign rfl) ?_
        refine vl_nil ?_
        refine vc_cond rfl (fun hc3 => ?_) (fun hc3 => ?_)
        · (try replace hc3 := of_decide_eq_true hc3)
          refine vc_region ?_
          refine vl_val rfl (.some rfl) (val_move rfl) ?_
          refine vl_val rfl (.some rfl) (val_le rfl rfl) ?_
          refine vl_val rfl (.some rfl) (val_assign rfl) ?_
          refine vl_nil ?_
          refine vc_seq ?_
          refine vc_region ?_
          refine vl_val rfl (.some rfl) (val_move rfl) ?_
          refine vl_val rfl (.some rfl) (val_move rfl) ?_
          refine vl_split (t := 54) rfl (fun hg54 => ?_) (fun hg54 => ?_)
          · (try replace hg54 := of_decide_eq_true hg54)
            refine vl_on rfl rfl rfl rfl ?_
            refine vl_val rfl (.some rfl) (by first | exact val_fieldAddr Try.runUnderlying62 rfl Try.sizeOf3 rfl | exact val_fieldAddrR Try.runUnderlying62 rfl Try.sizeOf3 rfl) ?_
            refine vl_on rfl rfl rfl rfl ?_
            refine vl_val rfl (.some rfl) (val_load Try.isAgg3 rfl (by first | exact cell_cells (by repeat constructor) rfl | exact cell_rd (by first | exact rd_sl (by repeat constructor) | exact rd_old (by assumption) rfl) (by first | exact bcells_at (by omega) | exact ucells_at (by omega) | exact icells_at (by omega) | exact tcells_at (by omega) | exact bcells_get (by omega) | exact icells_get (by omega) | exact tcells_get (by omega) | exact ucells_get (by omega)) | exact cell_old (by assumption) (by simp [fps]))) ?_
            refine vl_on rfl rfl rfl rfl ?_
            refine vl_val rfl (.some rfl) (val_ne rfl rfl) ?_
            refine vl_val rfl (.some rfl) (val_pick rfl rfl) ?_
            refine vl_val rfl (.some rfl) (val_move rfl) ?_
            refine vl_split (t := 59) rfl (fun hg59 => ?_) (fun hg59 => ?_)
            · (try replace hg59 := of_decide_eq_true hg59)
              refine vl_on rfl rfl rfl rfl ?_
              refine vl_val rfl (.some rfl) (by first | exact val_fieldAddr Try.runUnderlying64 rfl Try.sizeOf3 rfl | exact val_fieldAddrR Try.runUnderlying64 rfl Try.sizeOf3 rfl) ?_
              refine vl_on rfl rfl rfl rfl ?_
              refine vl_val rfl (.some rfl) (val_load Try.isAgg3 rfl (by first | exact cell_cells (by repeat constructor) rfl | exact cell_rd (by first | exact rd_sl (by repeat constructor) | exact rd_old (by assumption) rfl) (by first | exact bcells_at (by omega) | exact ucells_at (by omega) | exact icells_at (by omega) | exact tcells_at (by omega) | exact bcells_get (by omega) | exact icells_get (by omega) | exact tcells_get (by omega) | exact ucells_get (by omega)) | exact cell_old (by assumption) (by simp [fps]))) ?_
              refine vl_on rfl rfl rfl rfl ?_
              refine vl_val rfl (.some rfl) (val_move rfl) ?_
              refine vl_on rfl rfl rfl rfl ?_
              refine vl_val rfl (.some rfl) (val_lt rfl rfl) ?_
              refine vl_val rfl (.some rfl) (val_pick rfl rfl) ?_
              refine vl_val rfl (.some rfl) (val_move rfl) ?_
              refine vl_split (t := 65) rfl (fun hg65 => ?_) (fun hg65 => ?_)
              · (try replace hg65 := of_decide_eq_true hg65)
                refine vl_on rfl rfl rfl rfl ?_
                refine vl_val rfl (.some rfl) (by first | exact val_fieldAddr Try.runUnderlying62 rfl Try.sizeOf3 rfl | exact val_fieldAddrR Try.runUnderlying62 rfl Try.sizeOf3 rfl) ?_
                refine vl_on rfl rfl rfl rfl ?_
                refine vl_val rfl (.some rfl) (val_load Try.isAgg3 rfl (by first | exact cell_cells (by repeat constructor) rfl | exact cell_rd (by first | exact rd_sl (by repeat constructor) | exact rd_old (by assumption) rfl) (by first | exact bcells_at (by omega) | exact ucells_at (by omega) | exact icells_at (by omega) | exact tcells_at (by omega) | exact bcells_get (by omega) | exact icells_get (by omega) | exact tcells_get (by omega) | exact ucells_get (by omega)) | exact cell_old (by assumption) (by simp [fps]))) ?_
                refine vl_on rfl rfl rfl rfl ?_
                refine vl_val rfl (.some rfl) (by first | exact val_fieldAddr Try.runUnderlying64 rfl Try.sizeOf62 rfl | exact val_fieldAddrR Try.runUnderlying64 rfl Try.sizeOf62 rfl) ?_
                refine vl_on rfl rfl rfl rfl ?_
                refine vl_val rfl (.some rfl) (by first | exact val_fieldAddr Try.runUnderlying62 rfl Try.sizeOf3 rfl | exact val_fieldAddrR Try.runUnderlying62 rfl Try.sizeOf3 rfl) ?_
                refine vl_on rfl rfl rfl rfl ?_
                refine vl_val rfl (.some rfl) (val_load Try.isAgg3 rfl (by first | exact cell_cells (by repeat constructor) rfl | exact cell_rd (by first | exact rd_sl (by repeat constructor) | exact rd_old (by assumption) rfl) (by first | exact bcells_at (by omega) | exact ucells_at (by omega) | exact icells_at (by omega) | exact tcells_at (by omega) | exact bcells_get (by omega) | exact icells_get (by omega) | exact tcells_get (by omega) | exact ucells_get (by omega)) | exact cell_old (by assumption) (by simp [fps]))) ?_
                refine vl_on rfl rfl rfl rfl ?_
                refine vl_val rfl (.some rfl) (val_eq rfl rfl) ?_
                refine vl_val rfl (.some rfl) (val_pick rfl rfl) ?_
                refine vl_val rfl (.some rfl) (val_assign rfl) ?_
                refine vl_nil ?_
                refine vc_ret ?_
                refine ⟨_, [], _, res1 Try.results19 rfl, .nil, ?_⟩
                show _ = _
                refine congrArg Value.bool ?_
                unfold mayZ opK isR
                first | (simp_all; done) | (simp_all <;> omega)
              · (try replace hg65 := of_decide_eq_false hg65)
                refine vl_off rfl rfl rfl rfl (.some rfl) ?_
                refine vl_off rfl rfl rfl rfl (.some rfl) ?_
                refine vl_off rfl rfl rfl rfl (.some rfl) ?_
                refine vl_off rfl rfl rfl rfl (.some rfl) ?_
                refine vl_off rfl rfl rfl rfl (.some rfl) ?_
                refine vl_off rfl rfl rfl rfl (.some rfl) ?_
                refine vl_val rfl (.some rfl) (val_pick rfl rfl) ?_
                refine vl_val rfl (.some rfl) (val_assign rfl) ?_
                refine vl_nil ?_
                refine vc_ret ?_
                refine ⟨_, [], _, res1 Try.results19 rfl, .nil, ?_⟩
                show _ = _
                refine congrArg Value.bool ?_
                unfold mayZ opK isR
                first | (simp_all; done) | (simp_all <;> omega)
            · (try replace hg59 := of_decide_eq_false hg59)
              refine vl_off rfl rfl rfl rfl (.some rfl) ?_
              refine vl_off rfl rfl rfl rfl (.some rfl) ?_
              refine vl_off rfl rfl rfl rfl (.some rfl) ?_
              refine vl_off rfl rfl rfl rfl (.some rfl) ?_
              refine vl_val rfl (.some rfl) (val_pick rfl rfl) ?_
              refine vl_val rfl (.some rfl) (val_move rfl) ?_
              refine vl_off rfl rfl rfl rfl (.some rfl) ?_
              refine vl_off rfl rfl rfl rfl (.some rfl) ?_
              refine vl_off rfl rfl rfl rfl (.some rfl) ?_
              refine vl_off rfl rfl rfl rfl (.some rfl) ?_
              refine vl_off rfl rfl rfl rfl (.some rfl) ?_
              refine vl_off rfl rfl rfl rfl (.some rfl) ?_
              refine vl_val rfl (.some rfl) (val_pick rfl rfl) ?_
              refine vl_val rfl (.some rfl) (val_assign rfl) ?_
              refine vl_nil ?_
              refine vc_ret ?_
              refine ⟨_, [], _, res1 Try.results19 rfl, .nil, ?_⟩
              show _ = _
              refine congrArg Value.bool ?_
              unfold mayZ opK isR
              first | (simp_all; done) | (simp_all <;> omega)
          · (try replace hg54 := of_decide_eq_false hg54)
            refine vl_off rfl rfl rfl rfl (.some rfl) ?_
            refine vl_off rfl rfl rfl rfl (.some rfl) ?_
            refine vl_off rfl rfl rfl rfl (.some rfl) ?_
            refine vl_val rfl (.some rfl) (val_pick rfl rfl) ?_
            refine vl_val rfl (.some rfl) (val_move rfl) ?_
            refine vl_off rfl rfl rfl rfl (.some rfl) ?_
            refine vl_off rfl rfl rfl rfl (.some rfl) ?_
            refine vl_off rfl rfl rfl rfl (.some rfl) ?_
            refine vl_off rfl rfl rfl rfl (.some rfl) ?_
            refine vl_val rfl (.some rfl) (val_pick rfl rfl) ?_
            refine vl_val rfl (.some rfl) (val_move rfl) ?_
            refine vl_off rfl rfl rfl rfl (.some rfl) ?_
            refine vl_off rfl rfl rfl rfl (.some rfl) ?_
            refine vl_off rfl rfl rfl rfl (.some rfl) ?_
            refine vl_off rfl rfl rfl rfl (.some rfl) ?_
            refine vl_off rfl rfl rfl rfl (.some rfl) ?_
            refine vl_off rfl rfl rfl rfl (.some rfl) ?_
            refine vl_val rfl (.some rfl) (val_pick rfl rfl) ?_
            refine vl_val rfl (.some rfl) (val_assign rfl) ?_
            refine vl_nil ?_
            refine vc_ret ?_
            refine ⟨_, [], _, res1 Try.results19 rfl, .nil, ?_⟩
            show _ = _
            refine congrArg Value.bool ?_
            unfold mayZ opK isR
            first | (simp_all; done) | (simp_all <;> omega)
        · (try replace hc3 := of_decide_eq_false hc3)
          refine vc_seq ?_
          refine vc_region ?_
          refine vl_val rfl (.some rfl) (val_seq rfl rfl) ?_
          refine vl_val rfl (.some rfl) (val_assign rfl) ?_
          refine vl_nil ?_
          refine vc_cond rfl (fun hc4 => ?_) (fun hc4 => ?_)
          · (try replace hc4 := of_decide_eq_true hc4)
            refine vc_region ?_
            refine vl_val rfl (.some rfl) (val_move rfl) ?_
            refine vl_val rfl (.some rfl) (val_gt rfl rfl) ?_
            refine vl_val rfl (.some rfl) (val_assign rfl) ?_
            refine vl_nil ?_
            refine vc_seq ?_
            refine vc_region ?_
            refine vl_val rfl (.some rfl) (val_move rfl) ?_
            refine vl_val rfl (.some rfl) (val_move rfl) ?_
            refine vl_split (t := 54) rfl (fun hg54 => ?_) (fun hg54 => ?_)
            · (try replace hg54 := of_decide_eq_true hg54)
              refine vl_on rfl rfl rfl rfl ?_
              refine vl_val rfl (.some rfl) (by first | exact val_fieldAddr Try.runUnderlying62 rfl Try.sizeOf3 rfl | exact val_fieldAddrR Try.runUnderlying62 rfl Try.sizeOf3 rfl) ?_
              refine vl_on rfl rfl rfl rfl ?_
              refine vl_val rfl (.some rfl) (val_load Try.isAgg3 rfl (by first | exact cell_cells (by repeat constructor) rfl | exact cell_rd (by first | exact rd_sl (by repeat constructor) | exact rd_old (by assumption) rfl) (by first | exact bcells_at (by omega) | exact ucells_at (by omega) | exact icells_at (by omega) | exact tcells_at (by omega) | exact bcells_get (by omega) | exact icells_get (by omega) | exact tcells_get (by omega) | exact ucells_get (by omega)) | exact cell_old (by assumption) (by simp [fps]))) ?_
              refine vl_on rfl rfl rfl rfl ?_
              refine vl_val rfl (.some rfl) (val_ne rfl rfl) ?_
              refine vl_val rfl (.some rfl) (val_pick rfl rfl) ?_
              refine vl_val rfl (.some rfl) (val_move rfl) ?_
              refine vl_split (t := 59) rfl (fun hg59 => ?_) (fun hg59 => ?_)
              · (try replace hg59 := of_decide_eq_true hg59)
                refine vl_on rfl rfl rfl rfl ?_
                refine vl_val rfl (.some rfl) (by first | exact val_fieldAddr Try.runUnderlying64 rfl Try.sizeOf3 rfl | exact val_fieldAddrR Try.runUnderlying64 rfl Try.sizeOf3 rfl) ?_
                refine vl_on rfl rfl rfl rfl ?_
                refine vl_val rfl (.some rfl) (val_load Try.isAgg3 rfl (by first | exact cell_cells (by repeat constructor) rfl | exact cell_rd (by first | exact rd_sl (by repeat constructor) | exact rd_old (by assumption) rfl) (by first | exact bcells_at (by omega) | exact ucells_at (by omega) | exact icells_at (by omega) | exact tcells_at (by omega) | exact bcells_get (by omega) | exact icells_get (by omega) | exact tcells_get (by omega) | exact ucells_get (by omega)) | exact cell_old (by assumption) (by simp [fps]))) ?_
                refine vl_on rfl rfl rfl rfl ?_
                refine vl_val rfl (.some rfl) (val_move rfl) ?_
                refine vl_on rfl rfl rfl rfl ?_
                refine vl_val rfl (.some rfl) (val_lt rfl rfl) ?_
                refine vl_val rfl (.some rfl) (val_pick rfl rfl) ?_
                refine vl_val rfl (.some rfl) (val_move rfl) ?_
                refine vl_split (t := 65) rfl (fun hg65 => ?_) (fun hg65 => ?_)
                · (try replace hg65 := of_decide_eq_true hg65)
                  refine vl_on rfl rfl rfl rfl ?_
                  refine vl_val rfl (.some rfl) (by first | exact val_fieldAddr Try.runUnderlying62 rfl Try.sizeOf3 rfl | exact val_fieldAddrR Try.runUnderlying62 rfl Try.sizeOf3 rfl) ?_
                  refine vl_on rfl rfl rfl rfl ?_
                  refine vl_val rfl (.some rfl) (val_load Try.isAgg3 rfl (by first | exact cell_cells (by repeat constructor) rfl | exact cell_rd (by first | exact rd_sl (by repeat constructor) | exact rd_old (by assumption) rfl) (by first | exact bcells_at (by omega) | exact ucells_at (by omega) | exact icells_at (by omega) | exact tcells_at (by omega) | exact bcells_get (by omega) | exact icells_get (by omega) | exact tcells_get (by omega) | exact ucells_get (by omega)) | exact cell_old (by assumption) (by simp [fps]))) ?_
                  refine vl_on rfl rfl rfl rfl ?_
                  refine vl_val rfl (.some rfl) (by first | exact val_fieldAddr Try.runUnderlying64 rfl Try.sizeOf62 rfl | exact val_fieldAddrR Try.runUnderlying64 rfl Try.sizeOf62 rfl) ?_
                  refine vl_on rfl rfl rfl rfl ?_
                  refine vl_val rfl (.some rfl) (by first | exact val_fieldAddr Try.runUnderlying62 rfl Try.sizeOf3 rfl | exact val_fieldAddrR Try.runUnderlying62 rfl Try.sizeOf3 rfl) ?_
                  refine vl_on rfl rfl rfl rfl ?_
                  refine vl_val rfl (.some rfl) (val_load Try.isAgg3 rfl (by first | exact cell_cells (by repeat constructor) rfl | exact cell_rd (by first | exact rd_sl (by repeat constructor) | exact rd_old (by assumption) rfl) (by first | exact bcells_at (by omega) | exact ucells_at (by omega) | exact icells_at (by omega) | exact tcells_at (by omega) | exact bcells_get (by omega) | exact icells_get (by omega) | exact tcells_get (by omega) | exact ucells_get (by omega)) | exact cell_old (by assumption) (by simp [fps]))) ?_
                  refine vl_on rfl rfl rfl rfl ?_
                  refine vl_val rfl (.some rfl) (val_eq rfl rfl) ?_
                  refine vl_val rfl (.some rfl) (val_pick rfl rfl) ?_
                  refine vl_val rfl (.some rfl) (val_assign rfl) ?_
                  refine vl_nil ?_
                  refine vc_ret ?_
                  refine ⟨_, [], _, res1 Try.results19 rfl, .nil, ?_⟩
                  show _ = _
                  refine congrArg Value.bool ?_
                  unfold mayZ opK isR
                  first | (simp_all; done) | (simp_all <;> omega)
                · (try replace hg65 := of_decide_eq_false hg65)
                  refine vl_off rfl rfl rfl rfl (.some rfl) ?_
                  refine vl_off rfl rfl rfl rfl (.some rfl) ?_
                  refine vl_off rfl rfl rfl rfl (.some rfl) ?_
                  refine vl_off rfl rfl rfl rfl (.some rfl) ?_
                  refine vl_off rfl rfl rfl rfl (.some rfl) ?_
                  refine vl_off rfl rfl rfl rfl (.some rfl) ?_
                  refine vl_val rfl (.some rfl) (val_pick rfl rfl) ?_
                  refine vl_val rfl (.some rfl) (val_assign rfl) ?_
                  refine vl_nil ?_
                  refine vc_ret ?_
                  refine ⟨_, [], _, res1 Try.results19 rfl, .nil, ?_⟩
                  show _ = _
                  refine congrArg Value.bool ?_
                  unfold mayZ opK isR
                  first | (simp_all; done) | (simp_all <;> omega)
              · (try replace hg59 := of_decide_eq_false hg59)
                refine vl_off rfl rfl rfl rfl (.some rfl) ?_
                refine vl_off rfl rfl rfl rfl (.some rfl) ?_
                refine vl_off rfl rfl rfl rfl (.some rfl) ?_
                refine vl_off rfl rfl rfl rfl (.some rfl) ?_
                refine vl_val rfl (.some rfl) (val_pick rfl rfl) ?_
                refine vl_val rfl (.some rfl) (val_move rfl) ?_
                refine vl_off rfl rfl rfl rfl (.some rfl) ?_
                refine vl_off rfl rfl rfl rfl (.some rfl) ?_
                refine vl_off rfl rfl rfl rfl (.some rfl) ?_
                refine vl_off rfl rfl rfl rfl (.some rfl) ?_
                refine vl_off rfl rfl rfl rfl (.some rfl) ?_
                refine vl_off rfl rfl rfl rfl (.some rfl) ?_
                refine vl_val rfl (.some rfl) (val_pick rfl rfl) ?_
                refine vl_val rfl (.some rfl) (val_assign rfl) ?_
                refine vl_nil ?_
                refine vc_ret ?_
                refine ⟨_, [], _, res1 Try.results19 rfl, .nil, ?_⟩
                show _ = _
                refine congrArg Value.bool ?_
                unfold mayZ opK isR
                first | (simp_all; done) | (simp_all <;> omega)
            · (try replace hg54 := of_decide_eq_false hg54)
              refine vl_off rfl rfl rfl rfl (.some rfl) ?_
              refine vl_off rfl rfl rfl rfl (.some rfl) ?_
              refine vl_off rfl rfl rfl rfl (.some rfl) ?_
              refine vl_val rfl (.some rfl) (val_pick rfl rfl) ?_
              refine vl_val rfl (.some rfl) (val_move rfl) ?_
              refine vl_off rfl rfl rfl rfl (.some rfl) ?_
              refine vl_off rfl rfl rfl rfl (.some rfl) ?_
              refine vl_off rfl rfl rfl rfl (.some rfl) ?_
              refine vl_off rfl rfl rfl rfl (.some rfl) ?_
              refine vl_val rfl (.some rfl) (val_pick rfl rfl) ?_
              refine vl_val rfl (.some rfl) (val_move rfl) ?_
              refine vl_off rfl rfl rfl rfl (.some rfl) ?_
              refine vl_off rfl rfl rfl rfl (.some rfl) ?_
              refine vl_off rfl rfl rfl rfl (.some rfl) ?_
              refine vl_off rfl rfl rfl rfl (.some rfl) ?_
              refine vl_off rfl rfl rfl rfl (.some rfl) ?_
              refine vl_off rfl rfl rfl rfl (.some rfl) ?_
              refine vl_val rfl (.some rfl) (val_pick rfl rfl) ?_
              refine vl_val rfl (.some rfl) (val_assign rfl) ?_
              refine vl_nil ?_
              refine vc_ret ?_
              refine ⟨_, [], _, res1 Try.results19 rfl, .nil, ?_⟩
              show _ = _
              refine congrArg Value.bool ?_
              unfold mayZ opK isR
              first | (simp_all; done) | (simp_all <;> omega)
          · (try replace hc4 := of_decide_eq_false hc4)
            refine vc_seq ?_
            refine vc_region ?_
            refine vl_val rfl (.some rfl) (val_seq rfl rfl) ?_
            refine vl_val rfl (.some rfl) (val_assign rfl) ?_
            refine vl_nil ?_
            refine vc_cond rfl (fun hc5 => ?_) (fun hc5 => ?_)
            · (try replace hc5 := of_decide_eq_true hc5)
              refine vc_region ?_
              refine vl_val rfl (.some rfl) (val_move rfl) ?_
              refine vl_val rfl (.some rfl) (val_ge rfl rfl) ?_
              refine vl_val rfl (.some rfl) (val_assign rfl) ?_
              refine vl_nil ?_
              refine vc_seq ?_
              refine vc_region ?_
              refine vl_val rfl (.some rfl) (val_move rfl) ?_
              refine vl_val rfl (.some rfl) (val_move rfl) ?_
              refine vl_split (t := 54) rfl (fun hg54 => ?_) (fun hg54 => ?_)
              · (try replace hg54 := of_decide_eq_true hg54)
                refine vl_on rfl rfl rfl rfl ?_
                refine vl_val rfl (.some rfl) (by first | exact val_fieldAddr Try.runUnderlying62 rfl Try.sizeOf3 rfl | exact val_fieldAddrR Try.runUnderlying62 rfl Try.sizeOf3 rfl) ?_
                refine vl_on rfl rfl rfl rfl ?_
                refine vl_val rfl (.some rfl) (val_load Try.isAgg3 rfl (by first | exact cell_cells (by repeat constructor) rfl | exact cell_rd (by first | exact rd_sl (by repeat constructor) | exact rd_old (by assumption) rfl) (by first | exact bcells_at (by omega) | exact ucells_at (by omega) | exact icells_at (by omega) | exact tcells_at (by omega) | exact bcells_get (by omega) | exact icells_get (by omega) | exact tcells_get (by omega) | exact ucells_get (by omega)) | exact cell_old (by assumption) (by simp [fps]))) ?_
                refine vl_on rfl rfl rfl rfl ?_
                refine vl_val rfl (.some rfl) (val_ne rfl rfl) ?_
                refine vl_val rfl (.some rfl) (val_pick rfl rfl) ?_
                refine vl_val rfl (.some rfl) (val_move rfl) ?_
                refine vl_split (t := 59) rfl (fun hg59 => ?_) (fun hg59 => ?_)
                · (try replace hg59 := of_decide_eq_true hg59)
                  refine vl_on rfl rfl rfl rfl ?_
                  refine vl_val rfl (.some rfl) (by first | exact val_fieldAddr Try.runUnderlying64 rfl Try.sizeOf3 rfl | exact val_fieldAddrR Try.runUnderlying64 rfl Try.sizeOf3 rfl) ?_
                  refine vl_on rfl rfl rfl rfl ?_
                  refine vl_val rfl (.some rfl) (val_load Try.isAgg3 rfl (by first | exact cell_cells (by repeat constructor) rfl | exact cell_rd (by first | exact rd_sl (by repeat constructor) | exact rd_old (by assumption) rfl) (by first | exact bcells_at (by omega) | exact ucells_at (by omega) | exact icells_at (by omega) | exact tcells_at (by omega) | exact bcells_get (by omega) | exact icells_get (by omega) | exact tcells_get (by omega) | exact ucells_get (by omega)) | exact cell_old (by assumption) (by simp [fps]))) ?_
                  refine vl_on rfl rfl rfl rfl ?_
                  refine vl_val rfl (.some rfl) (val_move rfl) ?_
                  refine vl_on rfl rfl rfl rfl ?_
                  refine vl_val rfl (.some rfl) (val_lt rfl rfl) ?_
                  refine vl_val rfl (.some rfl) (val_pick rfl rfl) ?_
                  refine vl_val rfl (.some rfl) (val_move rfl) ?_
                  refine vl_split (t := 65) rfl (fun hg65 => ?_) (fun hg65 => ?_)
                  · (try replace hg65 := of_decide_eq_true hg65)
                    refine vl_on rfl rfl rfl rfl ?_
                    refine vl_val rfl (.some rfl) (by first | exact val_fieldAddr Try.runUnderlying62 rfl Try.sizeOf3 rfl | exact val_fieldAddrR Try.runUnderlying62 rfl Try.sizeOf3 rfl) ?_
                    refine vl_on rfl rfl rfl rfl ?_
                    refine vl_val rfl (.some rfl) (val_load Try.isAgg3 rfl (by first | exact cell_cells (by repeat constructor) rfl | exact cell_rd (by first | exact rd_sl (by repeat constructor) | exact rd_old (by assumption) rfl) (by first | exact bcells_at (by omega) | exact ucells_at (by omega) | exact icells_at (by omega) | exact tcells_at (by omega) | exact bcells_get (by omega) | exact icells_get (by omega) | exact tcells_get (by omega) | exact ucells_get (by omega)) | exact cell_old (by assumption) (by simp [fps]))) ?_
                    refine vl_on rfl rfl rfl rfl ?_
                    refine vl_val rfl (.some rfl) (by first | exact val_fieldAddr Try.runUnderlying64 rfl Try.sizeOf62 rfl | exact val_fieldAddrR Try.runUnderlying64 rfl Try.sizeOf62 rfl) ?_
                    refine vl_on rfl rfl rfl rfl ?_
                    refine vl_val rfl (.some rfl) (by first | exact val_fieldAddr Try.runUnderlying62 rfl Try.sizeOf3 rfl | exact val_fieldAddrR Try.runUnderlying62 rfl Try.sizeOf3 rfl) ?_
                    refine vl_on rfl rfl rfl rfl ?_
                    refine vl_val rfl (.some rfl) (val_load Try.isAgg3 rfl (by first | exact cell_cells (by repeat constructor) rfl | exact cell_rd (by first | exact rd_sl (by repeat constructor) | exact rd_old (by assumption) rfl) (by first | exact bcells_at (by omega) | exact ucells_at (by omega) | exact icells_at (by omega) | exact tcells_at (by omega) | exact bcells_get (by omega) | exact icells_get (by omega) | exact tcells_get (by omega) | exact ucells_get (by omega)) | exact cell_old (by assumption) (by simp [fps]))) ?_
                    refine vl_on rfl rfl rfl rfl ?_
                    refine vl_val rfl (.some rfl) (val_eq rfl rfl) ?_
                    refine vl_val rfl (.some rfl) (val_pick rfl rfl) ?_
                    refine vl_val rfl (.some rfl) (val_assign rfl) ?_
                    refine vl_nil ?_
                    refine vc_ret ?_
                    refine ⟨_, [], _, res1 Try.results19 rfl, .nil, ?_⟩
                    show _ = _
                    refine congrArg Value.bool ?_
                    unfold mayZ opK isR
                    first | (simp_all; done) | (simp_all <;> omega)
                  · (try replace hg65 := of_decide_eq_false hg65)
                    refine vl_off rfl rfl rfl rfl (.some rfl) ?_
                    refine vl_off rfl rfl rfl rfl (.some rfl) ?_
                    refine vl_off rfl rfl rfl rfl (.some rfl) ?_
                    refine vl_off rfl rfl rfl rfl (.some rfl) ?_
                    refine vl_off rfl rfl rfl rfl (.some rfl) ?_
                    refine vl_off rfl rfl rfl rfl (.some rfl) ?_
                    refine vl_val rfl (.some rfl) (val_pick rfl rfl) ?_
                    refine vl_val rfl (.some rfl) (val_assign rfl) ?_
                    refine vl_nil ?_
                    refine vc_ret ?_
                    refine ⟨_, [], _, res1 Try.results19 rfl, .nil, ?_⟩
                    show _ = _
                    refine congrArg Value.bool ?_
                    unfold mayZ opK isR
                    first | (simp_all; done) | (simp_all <;> omega)
                · (try replace hg59 := of_decide_eq_false hg59)
                  refine vl_off rfl rfl rfl rfl (.some rfl) ?_
                  refine vl_off rfl rfl rfl rfl (.some rfl) ?_
                  refine vl_off rfl rfl rfl rfl (.some rfl) ?_
                  refine vl_off rfl rfl rfl rfl (.some rfl) ?_
                  refine vl_val rfl (.some rfl) (val_pick rfl rfl) ?_
                  refine vl_val rfl (.some rfl) (val_move rfl) ?_
                  refine vl_off rfl rfl rfl rfl (.some rfl) ?_
                  refine vl_off rfl rfl rfl rfl (.some rfl) ?_
                  refine vl_off rfl rfl rfl rfl (.some rfl) ?_
                  refine vl_off rfl rfl rfl rfl (.some rfl) ?_
                  refine vl_off rfl rfl rfl rfl (.some rfl) ?_
                  refine vl_off rfl rfl rfl rfl (.some rfl) ?_
                  refine vl_val rfl (.some rfl) (val_pick rfl rfl) ?_
                  refine vl_val rfl (.some rfl) (val_assign rfl) ?_
                  refine vl_nil ?_
                  refine vc_ret ?_
                  refine ⟨_, [], _, res1 Try.results19 rfl, .nil, ?_⟩
                  show _ = _
                  refine congrArg Value.bool ?_
                  unfold mayZ opK isR
                  first | (simp_all; done) | (simp_all <;> omega)
              · (try replace hg54 := of_decide_eq_false hg54)
                refine vl_off rfl rfl rfl rfl (.some rfl) ?_
                refine vl_off rfl rfl rfl rfl (.some rfl) ?_
                refine vl_off rfl rfl rfl rfl (.some rfl) ?_
                refine vl_val rfl (.some rfl) (val_pick rfl rfl) ?_
                refine vl_val rfl (.some rfl) (val_move rfl) ?_
                refine vl_off rfl rfl rfl rfl (.some rfl) ?_
                refine vl_off rfl rfl rfl rfl (.some rfl) ?_
                refine vl_off rfl rfl rfl rfl (.some rfl) ?_
                refine vl_off rfl rfl rfl rfl (.some rfl) ?_
                refine vl_val rfl (.some rfl) (val_pick rfl rfl) ?_
                refine vl_val rfl (.some rfl) (val_move rfl) ?_
                refine vl_off rfl rfl rfl rfl (.some rfl) ?_
                refine vl_off rfl rfl rfl rfl (.some rfl) ?_
                refine vl_off rfl rfl rfl rfl (.some rfl) ?_
                refine vl_off rfl rfl rfl rfl (.some rfl) ?_
                refine vl_off rfl rfl rfl rfl (.some rfl) ?_
                refine vl_off rfl rfl rfl rfl (.some rfl) ?_
                refine vl_val rfl (.some rfl) (val_pick rfl rfl) ?_
                refine vl_val rfl (.some rfl) (val_assign rfl) ?_
                refine vl_nil ?_
                refine vc_ret ?_
                refine ⟨_, [], _, res1 Try.results19 rfl, .nil, ?_⟩
                show _ = _
                refine congrArg Value.bool ?_
                unfold mayZ opK isR
                first | (simp_all; done) | (simp_all <;> omega)
            · (try replace hc5 := of_decide_eq_false hc5)
              refine vc_seq ?_
              refine vc_region ?_
              refine vl_val rfl (.some rfl) (val_assign rfl) ?_
              refine vl_nil ?_
              refine vc_ret ?_
              refine ⟨_, [], _, res1 Try.results19 rfl, .nil, ?_⟩
              show _ = _
              refine congrArg Value.bool ?_
              unfold mayZ opK isR
              first | (simp_all; done) | (simp_all <;> omega)


set_option maxRecDepth 20000 in
theorem sT23 : SlT Try.prog 23 53 1 24 (.slice none 0 0) := ⟨Try.underlying23, ⟨Try.t53, Try.type53, rfl, rfl, rfl⟩, rfl, Nat.lt_of_sub_eq_succ rfl⟩
set_option maxRecDepth 20000 in
theorem sT26 : SlT Try.prog 26 51 1 8 (.pointer none) := ⟨Try.underlying26, ⟨Try.t51, Try.type51, rfl, rfl, rfl⟩, rfl, Nat.lt_of_sub_eq_succ rfl⟩

abbrev d1 (r m : Nat) : Dd := ⟨r, m, 1, none, 0, []⟩
theorem oneDB (r m : Nat) : Eqv (DH r m 1 none 0 [] ++ []) [DB [d1 r m]] := by
  have e : DB [d1 r m] = big (DH r m 1 none 0 []) := by
    show big (ddH (d1 r m) ++ []) = _
    rw [List.append_nil, ddH_ok (d := d1 r m) ⟨Int.le_refl 1, (by decide : (1 : Int) ≤ 4)⟩]
  rw [e]
  exact (eqv_big _ []).symm
abbrev znL : Zn := (⟨1, ⟨1, 5, ⟨#[]⟩⟩, ⟨1, 7, ⟨#[]⟩⟩⟩ : Zn)
theorem lives_make : makeP [1] [[]] [[⟨1, 5, ⟨#[]⟩⟩], [z3], [⟨1, 7, ⟨#[]⟩⟩]] = ((0, ⟨3, [([false, true, false], [0, 0, 1])], [znL]⟩), [[⟨1, 5, ⟨#[]⟩⟩, ⟨1, 7, ⟨#[]⟩⟩]]) := by decide +kernel
theorem lives_good : decide (goodSg ⟨3, [([false, true, false], [0, 0, 1])], [znL]⟩) = true := by decide +kernel
theorem lives_may1 : mayZ znL ⟨#[61]⟩ ⟨1, 6, ⟨#[]⟩⟩ 3 = true := by decide +kernel
theorem lives_may2 : mayZ znL ⟨#[62]⟩ ⟨1, 7, ⟨#[]⟩⟩ 3 = false := by decide +kernel

def grQ (rows : List Rw) (b : Bool) : Prop := b = false → rows.length ≤ 6000 ∧ ∀ i, i < rows.length → (rows.getD i rw0).2.2.length ≤ 6000

set_option maxRecDepth 20000 in
set_option maxHeartbeats 1000000 in
theorem gLives (w : World) : FnV Try.prog 7 [] (.bool true) w := by
  refine fn_enter Try.func7 rfl Try.ntmps7 rfl ?_
  refine vc_seq ?_
  refine vc_region ?_
  refine vl_val rfl (.some rfl) (val_assign rfl) ?_
  refine vl_nil ?_
  refine vc_seq ?_
  refine vc_region ?_
  refine vl_call (C := []) rfl rfl (.some rfl) Try.call22 rfl .nil (fun w hw => dNew 1 (by decide) (by decide) w) (fun v9 H9 h => ?_)
  obtain ⟨r, m, rfl, rfl⟩ := h
  refine vl_eqv (oneDB r m) ?_
  refine vl_val rfl (.some rfl) (val_assign rfl) ?_
  refine vl_nil ?_
  refine vc_seq ?_
  refine vc_region ?_
  refine vl_lit sT22 rfl rfl (.some rfl) rfl rfl rfl (by decide) (by decide) rfl (flat_one rfl) (fun r6 => ?_)
  refine vl_callV rfl rfl (.some rfl) Try.call23 rfl (fun w hw => gNum _ w) ?_
  refine vl_lit sT53 rfl rfl (.some rfl) rfl rfl rfl (by decide) (by decide) rfl rfl (fun r8 => ?_)
  refine vl_val rfl (.some rfl) (val_buildSt (pl := #[(0, 1), (1, 1), (2, 1)]) (cs := #[.int .i64 0, .int .i64 0, .string ⟨#[]⟩]) Try.runUnderlying62 Try.zeroValue62 (fun w => by kernel_rfl) rfl rfl) ?_
  refine vl_lit sT53 rfl rfl (.some rfl) rfl rfl rfl (by decide) (by decide) rfl rfl (fun r10 => ?_)
  refine vl_callV rfl rfl (.some rfl) Try.call23 rfl (fun w hw => gNum _ w) ?_
  refine vl_lit sT53 rfl rfl (.some rfl) rfl rfl rfl (by decide) (by decide) rfl rfl (fun r12 => ?_)
  refine vl_lit sT23 rfl rfl (.some rfl) rfl rfl rfl (by decide) (by decide) rfl (flat_one rfl) (fun r13 => ?_)
  refine vl_val rfl (.some rfl) (val_move rfl) ?_
  refine vl_lit sT26 rfl rfl (.some rfl) rfl rfl rfl (by decide) (by decide) rfl (flat_one rfl) (fun r15 => ?_)
  refine vl_call (C := [DB [d1 r m]]) rfl rfl (.some rfl) Try.call9 rfl (by repeat constructor) (fun w hw => gMake (some ⟨r6, 0, none⟩) 1 [d1 r m] (some ⟨r13, 0, none⟩) 3 [((some ⟨r8, 0, none⟩), 1, [⟨1, 5, ⟨#[]⟩⟩]), ((some ⟨r10, 0, none⟩), 1, [z3]), ((some ⟨r12, 0, none⟩), 1, [⟨1, 7, ⟨#[]⟩⟩])] (some ⟨r15, 0, none⟩) 1 (by show 1 ≤ 1000000; decide) (by show 3 ≤ 4611686018427387904; decide) (by intro q hq; simp only [List.mem_cons, List.not_mem_nil, or_false] at hq; rcases hq with rfl | rfl | rfl <;> (show 1 ≤ 4611686018427387904; decide)) (by intro i; cases i <;> simp [List.getD]) w (readsM_sl (by repeat constructor) (by repeat constructor) hw) (readsM_sl (by repeat constructor) (by repeat constructor) hw) (by intro q hq; simp only [List.mem_cons, List.not_mem_nil, or_false] at hq; rcases hq with rfl | rfl | rfl <;> exact (readsM_sl (by repeat constructor) (by repeat constructor) hw)) (by have h := readsM_sl (C := [DB [d1 r m]]) (A := (some ⟨r15, 0, none⟩)) (n := 1) (c := 1) (sz := 1) (e := 51) (vs := [.pointer (some ⟨r, 0, none⟩)]) (by repeat constructor) (by repeat constructor) hw; exact h)) (fun v9 H9 h => ?_)
  obtain ⟨n, Ac, cc, vs, Az, cz, zs, e, ds2, rfl, rfl, hms, hdk⟩ := h
  show VL _ _ _ _ _ (_ :: _ :: _ :: _ :: _)
  have hmk : makeP [1] [[]] [[⟨1, 5, ⟨#[]⟩⟩], [z3], [⟨1, 7, ⟨#[]⟩⟩]] = _ := hms
  rw [lives_make] at hmk
  simp only [Prod.mk.injEq, Sg.mk.injEq] at hmk
  obtain ⟨⟨rfl, rfl, hvs, rfl⟩, _⟩ := hmk
  have hvl : vs.length = 1 := by have := congrArg List.length hvs; simpa using this.symm
  have hlv := (madeS_len hms).1
  refine vl_val rfl (.some rfl) (val_move rfl) ?_
  refine vl_val rfl (.some rfl) (val_extract rfl rfl) ?_
  refine vl_val rfl (.some rfl) (val_extract rfl rfl) ?_
  refine vl_alloc rfl rfl (.some rfl) Try.zeroValue34 (fun r2 => ?_)
  first | refine vl_store rfl rfl .none rfl rfl Try.sizeOf34 rfl (by repeat constructor) (by first | decide | exact Nat.le_refl _ | exact Nat.le_of_ble_eq_true rfl | (simp; omega)) ?_ | refine vl_storeSl rfl rfl .none rfl rfl Try.sizeOf34 rfl (by simp [Value.cells]) (by repeat constructor) (by first | decide | (simp [Value.cells]; omega)) ?_
  refine vl_val rfl (.some rfl) (val_assign rfl) ?_
  refine vl_nil ?_
  refine vc_seq ?_
  refine vc_seq ?_
  refine vc_draws [0, 1, 2, 3, 4, 5, 6, 7, 8, 9, 10, 11, 12, 15, 16, 17] [] [0, 1, 2, 3, 4, 5, 6, 7, 8, 9, 10, 11, 12, 13, 14, 15, 16, 17] rfl (by kernel_rfl) (fun _ _ _ h => h) ?_
  refine vd_val rfl rfl rfl (.some rfl) (val_move rfl) ?_
  refine vd_val rfl rfl rfl (.some rfl) (val_eqv (v' := .bool false) (congrArg Value.bool (decide_eq_false (fun h => h rfl))) (val_ne rfl rfl)) ?_
  refine vd_val rfl rfl rfl (.some rfl) (val_move rfl) ?_
  refine vd_on rfl rfl rfl rfl rfl rfl (.some rfl) (by first | exact val_fieldAddr Try.runUnderlying34 rfl Try.sizeOf32 rfl | exact val_fieldAddrR Try.runUnderlying34 rfl Try.sizeOf32 rfl) ?_
  refine vd_on rfl rfl rfl rfl rfl rfl (.some rfl) (val_load Try.isAgg32 rfl (by first | exact cell_cells (by repeat constructor) rfl | exact cell_rd (by first | exact rd_sl (by repeat constructor) | exact rd_old (by assumption) rfl) (by first | exact bcells_at (by omega) | exact ucells_at (by omega) | exact icells_at (by omega) | exact tcells_at (by omega) | exact bcells_get (by omega) | exact icells_get (by omega) | exact tcells_get (by omega) | exact ucells_get (by omega)) | exact cell_old (by assumption) (by simp [fps]))) ?_
  refine vd_on rfl rfl rfl rfl rfl rfl (.some rfl) (val_lenSl Try.runUnderlying32 rfl) ?_
  refine vd_on rfl rfl rfl rfl rfl rfl (.some rfl) (val_eqv (v' := .bool false) (congrArg Value.bool (decide_eq_false (fun h => h rfl))) (val_ne rfl rfl)) ?_
  refine vd_val rfl rfl rfl (.some rfl) (val_pick rfl rfl) ?_
  refine vd_val rfl rfl rfl (.some rfl) (val_move rfl) ?_
  refine vd_on rfl rfl rfl rfl rfl rfl (.some rfl) (by first | exact val_fieldAddr Try.runUnderlying34 rfl Try.sizeOf32 rfl | exact val_fieldAddrR Try.runUnderlying34 rfl Try.sizeOf32 rfl) ?_
  refine vd_on rfl rfl rfl rfl rfl rfl (.some rfl) (val_load Try.isAgg32 rfl (by first | exact cell_cells (by repeat constructor) rfl | exact cell_rd (by first | exact rd_sl (by repeat constructor) | exact rd_old (by assumption) rfl) (by first | exact bcells_at (by omega) | exact ucells_at (by omega) | exact icells_at (by omega) | exact tcells_at (by omega) | exact bcells_get (by omega) | exact icells_get (by omega) | exact tcells_get (by omega) | exact ucells_get (by omega)) | exact cell_old (by assumption) (by simp [fps]))) ?_
  refine vd_on rfl rfl rfl rfl rfl rfl (.some rfl) (val_indexAddr Try.runUnderlying32 Try.sizeOf64 rfl rfl (rd_sl (by repeat constructor)) (by decide) (by decide) (by decide)) ?_
  refine vd_on rfl rfl rfl rfl rfl rfl (.some rfl) (val_loadAgg Try.isAgg64 Try.sizeOf64 rfl (cells_rd (us := znC znL) (rd_sl (by repeat constructor)) rfl) rfl) ?_
  refine vd_op rfl rfl ?_
  refine vl_on rfl rfl rfl rfl ?_
  refine vl_callV rfl rfl (.some rfl) Try.call23 rfl (fun w hw => gNum _ w) ?_
  refine vl_nil ?_
  refine ⟨fun _ => ⟨_, (by repeat (first | exact .nil | exact sub_self _ | exact sub_skip (sub_self _) | exact sub_skip (sub_skip (sub_self _)) | exact sub_skip (sub_skip (sub_skip (sub_self _))) | (apply Sub.cons; · repeat (first | exact .head | apply Take.tail))))⟩, ?_⟩
  refine vd_op rfl rfl ?_
  refine vl_on rfl rfl rfl rfl ?_
  refine vl_callV rfl rfl (.some rfl) Try.call23 rfl (fun w hw => gNum _ w) ?_
  refine vl_nil ?_
  refine ⟨fun _ => ⟨_, (by repeat (first | exact .nil | exact sub_self _ | exact sub_skip (sub_self _) | exact sub_skip (sub_skip (sub_self _)) | exact sub_skip (sub_skip (sub_skip (sub_self _))) | (apply Sub.cons; · repeat (first | exact .head | apply Take.tail))))⟩, ?_⟩
  refine vd_on rfl rfl rfl rfl rfl rfl (.some rfl) (val_buildSt (pl := #[(0, 1), (1, 3), (4, 3)]) (cs := #[.int .i64 1, .int .i64 1, .int .i64 5, .string ⟨#[]⟩, .int .i64 1, .int .i64 7, .string ⟨#[]⟩]) Try.runUnderlying64 Try.zeroValue64 (fun w => by kernel_rfl) rfl rfl) ?_
  refine vd_on rfl rfl rfl rfl rfl rfl (.some rfl) (val_eqv (v' := .bool false) (v := .bool (!decide (znL = znL))) (congrArg Value.bool (by simp)) (val_opO rfl rfl (fun w => run_eqGuard_agg w _ _ _ _ _ _ (by kernel_rfl)) (bin_agg_ne (zn_equal znL znL)))) ?_
  refine vd_val rfl rfl rfl (.some rfl) (val_pick rfl rfl) ?_
  refine vd_nil ?_
  refine vc_cond rfl (fun h => by cases h) (fun _ => ?_)
  refine vc_skip ?_
  refine vc_seq ?_
  refine vc_draws [0, 2, 3, 4, 5, 6, 9, 10, 11, 12, 13, 14, 17, 18, 19] [] [0, 1, 2, 3, 4, 5, 6, 7, 8, 9, 10, 11, 12, 13, 14, 15, 16, 17, 18, 19] rfl (by kernel_rfl) (fun _ _ _ h => h) ?_
  refine vd_val rfl rfl rfl (.some rfl) (val_loadAgg Try.isAgg34 Try.sizeOf34 rfl (by first | exact cells_whole (by repeat constructor) | exact cells_part (by repeat constructor) rfl) rfl) ?_
  refine vd_op rfl rfl ?_
  refine vl_callV rfl rfl (.some rfl) Try.call24 rfl (fun w hw => gGood 3 Ac cc vs Az cz [znL] (by omega) (by decide) w (sgR_of hlv (by repeat constructor) (by repeat constructor) (by repeat constructor) hw)) ?_
  rw [← hvs, lives_good]
  refine vl_nil ?_
  refine ⟨fun _ => ⟨_, (by repeat (first | exact .nil | exact sub_self _ | exact sub_skip (sub_self _) | exact sub_skip (sub_skip (sub_self _)) | exact sub_skip (sub_skip (sub_skip (sub_self _))) | (apply Sub.cons; · repeat (first | exact .head | apply Take.tail))))⟩, ?_⟩
  refine vd_val rfl rfl rfl (.some rfl) (val_move rfl) ?_
  refine vd_on rfl rfl rfl rfl rfl rfl (.some rfl) (by first | exact val_fieldAddr Try.runUnderlying34 rfl Try.sizeOf32 rfl | exact val_fieldAddrR Try.runUnderlying34 rfl Try.sizeOf32 rfl) ?_
  refine vd_on rfl rfl rfl rfl rfl rfl (.some rfl) (val_load Try.isAgg32 rfl (by first | exact cell_cells (by repeat constructor) rfl | exact cell_rd (by first | exact rd_sl (by repeat constructor) | exact rd_old (by assumption) rfl) (by first | exact bcells_at (by omega) | exact ucells_at (by omega) | exact icells_at (by omega) | exact tcells_at (by omega) | exact bcells_get (by omega) | exact icells_get (by omega) | exact tcells_get (by omega) | exact ucells_get (by omega)) | exact cell_old (by assumption) (by simp [fps]))) ?_
  refine vd_on rfl rfl rfl rfl rfl rfl (.some rfl) (val_indexAddr Try.runUnderlying32 Try.sizeOf64 rfl rfl (rd_sl (by repeat constructor)) (by decide) (by decide) (by decide)) ?_
  refine vd_on rfl rfl rfl rfl rfl rfl (.some rfl) (val_loadAgg Try.isAgg64 Try.sizeOf64 rfl (cells_rd (us := znC znL) (rd_sl (by repeat constructor)) rfl) rfl) ?_
  refine vd_op rfl rfl ?_
  refine vl_on rfl rfl rfl rfl ?_
  refine vl_callV rfl rfl (.some rfl) Try.call23 rfl (fun w hw => gNum _ w) ?_
  refine vl_nil ?_
  refine ⟨fun _ => ⟨_, (by repeat (first | exact .nil | exact sub_self _ | exact sub_skip (sub_self _) | exact sub_skip (sub_skip (sub_self _)) | exact sub_skip (sub_skip (sub_skip (sub_self _))) | (apply Sub.cons; · repeat (first | exact .head | apply Take.tail))))⟩, ?_⟩
  refine vd_op rfl rfl ?_
  refine vl_on rfl rfl rfl rfl ?_
  refine vl_callV rfl rfl (.some rfl) Try.call19 rfl (fun w hw => gMayZ znL ⟨#[61]⟩ ⟨1, 6, ⟨#[]⟩⟩ 3 w) ?_
  rw [lives_may1]
  refine vl_nil ?_
  refine ⟨fun _ => ⟨_, (by repeat (first | exact .nil | exact sub_self _ | exact sub_skip (sub_self _) | exact sub_skip (sub_skip (sub_self _)) | exact sub_skip (sub_skip (sub_skip (sub_self _))) | (apply Sub.cons; · repeat (first | exact .head | apply Take.tail))))⟩, ?_⟩
  refine vd_val rfl rfl rfl (.some rfl) (val_pick rfl rfl) ?_
  refine vd_val rfl rfl rfl (.some rfl) (val_move rfl) ?_
  refine vd_on rfl rfl rfl rfl rfl rfl (.some rfl) (by first | exact val_fieldAddr Try.runUnderlying34 rfl Try.sizeOf32 rfl | exact val_fieldAddrR Try.runUnderlying34 rfl Try.sizeOf32 rfl) ?_
  refine vd_on rfl rfl rfl rfl rfl rfl (.some rfl) (val_load Try.isAgg32 rfl (by first | exact cell_cells (by repeat constructor) rfl | exact cell_rd (by first | exact rd_sl (by repeat constructor) | exact rd_old (by assumption) rfl) (by first | exact bcells_at (by omega) | exact ucells_at (by omega) | exact icells_at (by omega) | exact tcells_at (by omega) | exact bcells_get (by omega) | exact icells_get (by omega) | exact tcells_get (by omega) | exact ucells_get (by omega)) | exact cell_old (by assumption) (by simp [fps]))) ?_
  refine vd_on rfl rfl rfl rfl rfl rfl (.some rfl) (val_indexAddr Try.runUnderlying32 Try.sizeOf64 rfl rfl (rd_sl (by repeat constructor)) (by decide) (by decide) (by decide)) ?_
  refine vd_on rfl rfl rfl rfl rfl rfl (.some rfl) (val_loadAgg Try.isAgg64 Try.sizeOf64 rfl (cells_rd (us := znC znL) (rd_sl (by repeat constructor)) rfl) rfl) ?_
  refine vd_op rfl rfl ?_
  refine vl_on rfl rfl rfl rfl ?_
  refine vl_callV rfl rfl (.some rfl) Try.call23 rfl (fun w hw => gNum _ w) ?_
  refine vl_nil ?_
  refine ⟨fun _ => ⟨_, (by repeat (first | exact .nil | exact sub_self _ | exact sub_skip (sub_self _) | exact sub_skip (sub_skip (sub_self _)) | exact sub_skip (sub_skip (sub_skip (sub_self _))) | (apply Sub.cons; · repeat (first | exact .head | apply Take.tail))))⟩, ?_⟩
  refine vd_op rfl rfl ?_
  refine vl_on rfl rfl rfl rfl ?_
  refine vl_callV rfl rfl (.some rfl) Try.call19 rfl (fun w hw => gMayZ znL ⟨#[62]⟩ ⟨1, 7, ⟨#[]⟩⟩ 3 w) ?_
  rw [lives_may2]
  refine vl_nil ?_
  refine ⟨fun _ => ⟨_, (by repeat (first | exact .nil | exact sub_self _ | exact sub_skip (sub_self _) | exact sub_skip (sub_skip (sub_self _)) | exact sub_skip (sub_skip (sub_skip (sub_self _))) | (apply Sub.cons; · repeat (first | exact .head | apply Take.tail))))⟩, ?_⟩
  refine vd_on rfl rfl rfl rfl rfl rfl (.some rfl) (val_not rfl) ?_
  refine vd_val rfl rfl rfl (.some rfl) (val_pick rfl rfl) ?_
  refine vd_val rfl rfl rfl (.some rfl) (val_assign rfl) ?_
  refine vd_nil ?_
  refine vc_ret ?_
  refine ⟨_, [], _, res1 Try.results7 rfl, .nil, ?_⟩
  rfl
set_option maxRecDepth 20000 in
theorem gGreat (Ar : Option Addr) (cr : Nat) (rows : List Rw) (hrl : rows.length ≤ 4611686018427387904) (hll : ∀ q ∈ rows, q.2.2.length ≤ 4611686018427387904) (w : World) (hrd : Reads w Ar (rows.flatMap rowV)) : Fn Try.prog 6 [.slice Ar rows.length cr] [] (ret fun v H' => ∃ b, v = .bool b ∧ grQ rows b) w := by
  refine fn_enter Try.func6 rfl Try.ntmps6 rfl ?_
  refine vc_seq ?_
  refine vc_region ?_
  refine vl_val rfl (.some rfl) (val_assign rfl) ?_
  refine vl_nil ?_
  refine vc_seq ?_
  refine vc_region ?_
  refine vl_val rfl (.some rfl) (val_assign rfl) ?_
  refine vl_nil ?_
  refine vc_seq ?_
  refine vc_seq ?_
  refine vc_region ?_
  refine vl_val rfl (.some rfl) (val_move rfl) ?_
  refine vl_val rfl (.some rfl) (val_lenSl Try.runUnderlying23 rfl) ?_
  refine vl_val rfl (.some rfl) (val_move rfl) ?_
  refine vl_nil ?_
  refine vc_block ?_
  refine vc_loopw (fun k E H => ∃ i n : Nat, i ≤ rows.length ∧ k = rows.length - i ∧ (i ≤ n ∧ n ≤ 6000) ∧ (∀ j, j < i → (rows.getD j rw0).2.2.length ≤ 6000) ∧ E = [(3, .int .i64 n), (6, .slice Ar rows.length cr), (7, .int .i64 rows.length), (8, .int .i64 i)] ∧ H = []) (rows.length) ⟨_, _, _, ⟨0, 0, by omega, by omega, by omega, fun j h => absurd h (by omega), rfl, rfl⟩, (by repeat (first | exact trivial | refine ⟨rfl, ?_⟩ | refine ⟨le_item rfl (by first | rfl | (congr 1; omega) | (simp; done) | (simp; omega)), ?_⟩)), (by repeat constructor)⟩ ?_
  intro k E H hI
  obtain ⟨i, n, hi, rfl, hn, hall, rfl, rfl⟩ := hI
  refine vc_seq ?_
  refine vc_region ?_
  refine vl_val rfl (.some rfl) (val_lt rfl rfl) ?_
  refine vl_nil ?_
  refine vc_seq ?_
  refine vc_cond rfl (fun hc0 => ?_) (fun hc0 => ?_)
  · (try replace hc0 := of_decide_eq_true hc0)
    have hql := hll _ (mem_getD rw0 (show i < rows.length by omega))
    refine vc_skip ?_
    refine vc_seq ?_
    refine vc_block ?_
    refine vc_seq ?_
    refine vc_region ?_
    refine vl_val rfl (.some rfl) (val_indexAddr Try.runUnderlying23 Try.sizeOf53 rfl rfl (rd_old hrd rfl) (by omega) (by omega) (by rw [rowC_len]; omega)) ?_
    refine vl_val rfl (.some rfl) (val_load Try.isAgg53 rfl (cell_rd (rd_old hrd rfl) (rowC_at (by omega)))) ?_
    refine vl_val rfl (.some rfl) (val_assign rfl) ?_
    refine vl_nil ?_
    refine vc_seq ?_
    refine vc_region ?_
    refine vl_val rfl (.some rfl) (val_move rfl) ?_
    refine vl_val rfl (.some rfl) (val_move rfl) ?_
    refine vl_val rfl (.some rfl) (val_lenSl Try.runUnderlying53 rfl) ?_
    refine vl_val rfl (.some rfl) (val_add rfl rfl (by first | exact w_i64 (by omega) (by omega) | rfl)) ?_
    refine vl_val rfl (.some rfl) (val_add rfl rfl (by first | exact w_i64 (by omega) (by omega) | rfl)) ?_
    refine vl_val rfl (.some rfl) (val_assign rfl) ?_
    refine vl_nil ?_
    refine vc_seq ?_
    refine vc_region ?_
    refine vl_val rfl (.some rfl) (val_move rfl) ?_
    refine vl_val rfl (.some rfl) (val_gt rfl rfl) ?_
    refine vl_nil ?_
    refine vc_cond rfl (fun hc1 => ?_) (fun hc1 => ?_)
    · (try replace hc1 := of_decide_eq_true hc1)
      refine vc_seq ?_
      refine vc_region ?_
      refine vl_val rfl (.some rfl) (val_assign rfl) ?_
      refine vl_nil ?_
      refine vc_ret ?_
      refine ⟨_, [], _, res1 Try.results6 rfl, .nil, ?_⟩
      exact ⟨true, rfl, fun h => by cases h⟩
    · (try replace hc1 := of_decide_eq_false hc1)
      refine vc_skip ?_
      refine vc_region ?_
      refine vl_val rfl (.some rfl) (val_add rfl rfl (by first | exact w_i64 (by omega) (by omega) | rfl)) ?_
      refine vl_val rfl (.some rfl) (val_move rfl) ?_
      refine vl_nil ?_
      exact ⟨rows.length - (i + 1), _, _, _, by omega, (by repeat (first | exact trivial | refine ⟨rfl, ?_⟩ | refine ⟨le_item rfl (by first | rfl | (congr 1; omega) | (simp; done) | (simp; omega)), ?_⟩)), (by repeat constructor), ⟨i + 1, n + (1 + (rows.getD i rw0).2.2.length), by omega, by omega, by omega, ext_lt hall (by omega), rfl, rfl⟩⟩
  · (try replace hc0 := of_decide_eq_false hc0)
    obtain rfl : i = rows.length := by omega
    refine vc_exit ?_
    refine vc_seq ?_
    refine vc_region ?_
    refine vl_val rfl (.some rfl) (val_assign rfl) ?_
    refine vl_nil ?_
    refine vc_ret ?_
    refine ⟨_, [], _, res1 Try.results6 rfl, .nil, ?_⟩
    exact ⟨false, rfl, fun _ => ⟨by omega, hall⟩⟩
set_option maxRecDepth 20000 in
theorem dNewBad (kd : Int) (h : ¬ (1 ≤ kd ∧ kd ≤ 4)) (w : World) : FnV Try.prog 22 [.int .i64 kd] (.pointer none) w := by
  refine fn_enter Try.func22 rfl Try.ntmps22 rfl ?_
  refine vc_seq ?_
  refine vc_region ?_
  refine vl_val rfl (.some rfl) (val_assign rfl) ?_
  refine vl_nil ?_
  refine vc_seq ?_
  refine vc_seq ?_
  refine vc_region ?_
  refine vl_val rfl (.some rfl) (val_move rfl) ?_
  refine vl_val rfl (.some rfl) (val_lt rfl rfl) ?_
  refine vl_val rfl (.some rfl) (val_move rfl) ?_
  refine vl_split (t := 5) rfl (fun hg5 => ?_) (fun hg5 => ?_)
  · (try replace hg5 := of_decide_eq_true hg5)
    refine vl_off rfl rfl rfl rfl (.some rfl) ?_
    refine vl_off rfl rfl rfl rfl (.some rfl) ?_
    refine vl_val rfl (.some rfl) (val_pick rfl rfl) ?_
    refine vl_nil ?_
    refine vc_cond rfl (fun _ => ?_) (fun h => by cases h)
    refine vc_seq ?_
    refine vc_region ?_
    refine vl_val rfl (.some rfl) (val_assign rfl) ?_
    refine vl_nil ?_
    refine vc_ret ?_
    refine ⟨_, [], _, res1 Try.results22 rfl, .nil, ?_⟩
    rfl
  · (try replace hg5 := of_decide_eq_false hg5)
    refine vl_on rfl rfl rfl rfl ?_
    refine vl_val rfl (.some rfl) (val_move rfl) ?_
    refine vl_on rfl rfl rfl rfl ?_
    refine vl_val rfl (.some rfl) (val_gt rfl rfl) ?_
    refine vl_val rfl (.some rfl) (val_pick rfl rfl) ?_
    refine vl_nil ?_
    refine vc_cond rfl (fun hc0 => ?_) (fun hc0 => False.elim (by (try replace hc0 := of_decide_eq_false hc0); omega))
    (try replace hc0 := of_decide_eq_true hc0)
    refine vc_seq ?_
    refine vc_region ?_
    refine vl_val rfl (.some rfl) (val_assign rfl) ?_
    refine vl_nil ?_
    refine vc_ret ?_
    refine ⟨_, [], _, res1 Try.results22 rfl, .nil, ?_⟩
    rfl


set_option maxRecDepth 20000 in
theorem sT27 : SlT Try.prog 27 50 1 8 (.pointer none) := ⟨Try.underlying27, ⟨Try.t50, Try.type50, rfl, rfl, rfl⟩, rfl, Nat.lt_of_sub_eq_succ rfl⟩

theorem dNewA (k : Int) (w : World) : Fn Try.prog 22 [.int .i64 k] [] (ret fun u H' => ∃ d : Dd, (d.kd = k ∧ d.vs = [] ∧ u = ddP d) ∧ H' = ddH d) w := by
  by_cases hk : okK k
  · refine (dNew k hk.1 hk.2 w).out fun u H ⟨r, m, e1, e2⟩ => ⟨H, [], by rw [List.append_nil]; exact Eqv.refl _, ⟨r, m, k, none, 0, []⟩, ⟨rfl, rfl, ?_⟩, ?_⟩
    · rw [e1, ddP_ok (by exact hk)]
    · rw [e2, ddH_ok (by exact hk)]
  · refine (show Fn Try.prog 22 [.int .i64 k] [] (ret fun u _ => u = .pointer none) w from dNewBad k hk w).out fun u H e => ⟨[], H, Eqv.refl _, ⟨0, 0, k, none, 0, []⟩, ⟨rfl, rfl, ?_⟩, ?_⟩
    · rw [e, ddP_no (by exact hk)]
    · unfold ddH; rw [if_neg (by exact hk)]
theorem xNewA (k : Int) (w : World) : Fn Try.prog 25 [.int .i64 k] [] (ret fun u H' => ∃ d : Xd, (d.kd = k ∧ d.vs = [] ∧ u = xdP d) ∧ H' = xdH d) w := by
  by_cases hk : okK k
  · refine (xNew k hk.1 hk.2 w).out fun u H ⟨r, e1, e2⟩ => ⟨H, [], by rw [List.append_nil]; exact Eqv.refl _, ⟨r, k, none, 0, []⟩, ⟨rfl, rfl, ?_⟩, ?_⟩
    · rw [e1, xdP_ok (by exact hk)]
    · rw [e2, xdH_ok (by exact hk)]; rfl
  · refine (show Fn Try.prog 25 [.int .i64 k] [] (ret fun u _ => u = .pointer none) w from xNewBad k hk w).out fun u H e => ⟨[], H, Eqv.refl _, ⟨0, k, none, 0, []⟩, ⟨rfl, rfl, ?_⟩, ?_⟩
    · rw [e, xdP_no (by exact hk)]
    · unfold xdH; rw [if_neg (by exact hk)]
def FreshD (ks : List Int) (ds : List Dd) : Prop := ds.map (·.kd) = ks ∧ ∀ d ∈ ds, d.vs = []
def FreshX (ks : List Int) (xs : List Xd) : Prop := xs.map (·.kd) = ks ∧ ∀ d ∈ xs, d.vs = []
theorem freshD_step {ks : List Int} {ds : List Dd} {i : Nat} {d : Dd} (h : FreshD (ks.take i) ds) (hi : i < ks.length) (h1 : d.kd = ks.getD i 0) (h2 : d.vs = []) : FreshD (ks.take (i + 1)) (ds ++ [d]) := by
  refine ⟨?_, fun x hx => ?_⟩
  · rw [List.map_append, h.1, List.take_add_one, List.map_singleton, h1]; simp [List.getD, List.getElem?_eq_getElem hi]
  · rcases List.mem_append.1 hx with hx | hx
    · exact h.2 x hx
    · rw [List.mem_singleton.1 hx]; exact h2
theorem freshX_step {ks : List Int} {ds : List Xd} {i : Nat} {d : Xd} (h : FreshX (ks.take i) ds) (hi : i < ks.length) (h1 : d.kd = ks.getD i 0) (h2 : d.vs = []) : FreshX (ks.take (i + 1)) (ds ++ [d]) := by
  refine ⟨?_, fun x hx => ?_⟩
  · rw [List.map_append, h.1, List.take_add_one, List.map_singleton, h1]; simp [List.getD, List.getElem?_eq_getElem hi]
  · rcases List.mem_append.1 hx with hx | hx
    · exact h.2 x hx
    · rw [List.mem_singleton.1 hx]; exact h2
theorem freshD_len {ks : List Int} {ds : List Dd} (h : FreshD ks ds) : ds.length = ks.length := by rw [← h.1, List.length_map]
theorem freshX_len {ks : List Int} {ds : List Xd} (h : FreshX ks ds) : ds.length = ks.length := by rw [← h.1, List.length_map]

set_option maxRecDepth 20000 in
set_option maxHeartbeats 1000000 in
theorem gDicts (Ak : Option Addr) (ck : Nat) (ks : List Int) (hkl : ks.length ≤ 100) (w : World) (hk : Reads w Ak (icells .i64 ks)) : Fn Try.prog 8 [.slice Ak ks.length ck] [] (ret fun v H' => ∃ (Aa : Option Addr) (ca : Nat) (ds : List Dd) (Ab : Option Addr) (cb : Nat) (xs : List Xd), v = .tuple #[.slice Aa ds.length ca, .slice Ab xs.length cb] ∧ H' = [DB ds, XB xs, sl Aa ds.length ca 51 1 (ds.map ddP), sl Ab xs.length cb 50 1 (xs.map xdP)] ∧ FreshD ks ds ∧ FreshX ks xs) w := by
  refine fn_enter Try.func8 rfl Try.ntmps8 rfl ?_
  refine vc_seq ?_
  refine vc_region ?_
  refine vl_val rfl (.some rfl) (val_assign rfl) ?_
  refine vl_val rfl (.some rfl) (val_assign rfl) ?_
  refine vl_nil ?_
  refine vc_seq ?_
  refine vc_region ?_
  refine vl_val rfl (.some rfl) (val_assign rfl) ?_
  refine vl_nilSl 51 1 ?_
  refine vl_eqv (eqv_nil _) ?_
  refine vl_nil ?_
  refine vc_seq ?_
  refine vc_region ?_
  refine vl_val rfl (.some rfl) (val_assign rfl) ?_
  refine vl_nilSl 50 1 ?_
  refine vl_eqv (eqv_nil _) ?_
  refine vl_nil ?_
  refine vc_seq ?_
  refine vc_seq ?_
  refine vc_region ?_
  refine vl_val rfl (.some rfl) (val_move rfl) ?_
  refine vl_val rfl (.some rfl) (val_lenSl Try.runUnderlying22 rfl) ?_
  refine vl_val rfl (.some rfl) (val_move rfl) ?_
  refine vl_nil ?_
  refine vc_block ?_
  refine vc_loopw (fun k E H => ∃ (i : Nat) (Aa : Option Addr) (ca : Nat) (ds : List Dd) (Ab : Option Addr) (cb : Nat) (xs : List Xd), i ≤ ks.length ∧ k = ks.length - i ∧ FreshD (ks.take i) ds ∧ FreshX (ks.take i) xs ∧ E = [(4, .slice Aa ds.length ca), (5, .slice Ab xs.length cb), (8, .slice Ak ks.length ck), (9, .int .i64 ks.length), (10, .int .i64 i)] ∧ H = [DB ds, XB xs, sl Aa ds.length ca 51 1 (ds.map ddP), sl Ab xs.length cb 50 1 (xs.map xdP)]) (ks.length) ⟨_, _, _, ⟨0, none, 0, [], none, 0, [], by omega, by omega, ⟨rfl, fun d h => by cases h⟩, ⟨rfl, fun d h => by cases h⟩, rfl, rfl⟩, (by repeat (first | exact trivial | refine ⟨rfl, ?_⟩ | refine ⟨le_item rfl (by first | rfl | (congr 1; omega) | (simp; done) | (simp; omega)), ?_⟩)), (by repeat constructor)⟩ ?_
  intro k E H hI
  obtain ⟨i, Aa, ca, ds, Ab, cb, xs, hi, rfl, hfd, hfx, rfl, rfl⟩ := hI
  refine vc_seq ?_
  refine vc_region ?_
  refine vl_val rfl (.some rfl) (val_lt rfl rfl) ?_
  refine vl_nil ?_
  refine vc_seq ?_
  refine vc_cond rfl (fun hc0 => ?_) (fun hc0 => ?_)
  · (try replace hc0 := of_decide_eq_true hc0)
    have hi8 : i < ks.length := by omega
    have hdl := freshD_len hfd
    have hxl := freshX_len hfx
    rw [List.length_take] at hdl hxl
    refine vc_skip ?_
    refine vc_seq ?_
    refine vc_block ?_
    refine vc_seq ?_
    refine vc_region ?_
    refine vl_val rfl (.some rfl) (val_indexAddr Try.runUnderlying22 Try.sizeOf3 rfl rfl (rd_old hk rfl) (by omega) (by omega) (by rw [icells_length]; omega)) ?_
    refine vl_val rfl (.some rfl) (val_load Try.isAgg3 rfl (cell_rd (rd_old hk rfl) (icells_at (by omega)))) ?_
    refine vl_val rfl (.some rfl) (val_assign rfl) ?_
    refine vl_nil ?_
    refine vc_seq ?_
    refine vc_region ?_
    refine vl_val rfl (.some rfl) (val_move rfl) ?_
    refine vl_val rfl (.some rfl) (val_move rfl) ?_
    refine vl_call (C := []) rfl rfl (.some rfl) Try.call22 rfl .nil (fun w hw => dNewA _ w) (fun v9 H9 h => ?_)
    obtain ⟨d, ⟨hd1, hd2, rfl⟩, rfl⟩ := h
    refine vl_push ddH (by repeat constructor) ?_
    have hfd2 := freshD_step hfd hi8 hd1 hd2
    refine vl_lit sT26 rfl rfl (.some rfl) rfl rfl rfl (by decide) (by decide) rfl (flat_one rfl) (fun r17 => ?_)
    refine vl_append (us := [ddP d]) sT26 rfl rfl (.some rfl) rfl rfl (rd_sl (by repeat constructor)) rfl rfl (by omega) (by omega) (by repeat constructor) (fun A18 k18 => ?_)
    rw [show ds.map ddP ++ [ddP d] = (ds ++ [d]).map ddP by simp, show ds.length + 1 = (ds ++ [d]).length by simp]
    refine vl_val rfl (.some rfl) (val_assign rfl) ?_
    refine vl_nil ?_
    refine vc_region ?_
    refine vl_val rfl (.some rfl) (val_move rfl) ?_
    refine vl_val rfl (.some rfl) (val_move rfl) ?_
    refine vl_call (C := []) rfl rfl (.some rfl) Try.call25 rfl .nil (fun w hw => xNewA _ w) (fun v9 H9 h => ?_)
    obtain ⟨x, ⟨hx1, hx2, rfl⟩, rfl⟩ := h
    refine vl_push xdH (by repeat constructor) ?_
    have hfx2 := freshX_step hfx hi8 hx1 hx2
    refine vl_lit sT27 rfl rfl (.some rfl) rfl rfl rfl (by decide) (by decide) rfl (flat_one rfl) (fun r22 => ?_)
    refine vl_append (us := [xdP x]) sT27 rfl rfl (.some rfl) rfl rfl (rd_sl (by repeat constructor)) rfl rfl (by omega) (by omega) (by repeat constructor) (fun A23 k23 => ?_)
    rw [show xs.map xdP ++ [xdP x] = (xs ++ [x]).map xdP by simp, show xs.length + 1 = (xs ++ [x]).length by simp]
    refine vl_val rfl (.some rfl) (val_assign rfl) ?_
    refine vl_nil ?_
    refine vc_region ?_
    refine vl_val rfl (.some rfl) (val_add rfl rfl (by first | exact w_i64 (by omega) (by omega) | rfl)) ?_
    refine vl_val rfl (.some rfl) (val_move rfl) ?_
    refine vl_nil ?_
    exact ⟨ks.length - (i + 1), _, _, _, by omega, (by repeat (first | exact trivial | refine ⟨rfl, ?_⟩ | refine ⟨le_item rfl (by first | rfl | (congr 1; omega) | (simp; done) | (simp; omega)), ?_⟩)), (by repeat constructor), ⟨i + 1, A18, k18, ds ++ [d], A23, k23, xs ++ [x], by omega, by omega, hfd2, hfx2, rfl, rfl⟩⟩
  · (try replace hc0 := of_decide_eq_false hc0)
    obtain rfl : i = ks.length := by omega
    rw [List.take_length] at hfd hfx
    refine vc_exit ?_
    refine vc_seq ?_
    refine vc_region ?_
    refine vl_val rfl (.some rfl) (val_move rfl) ?_
    refine vl_val rfl (.some rfl) (val_move rfl) ?_
    refine vl_val rfl (.some rfl) (val_assign rfl) ?_
    refine vl_val rfl (.some rfl) (val_assign rfl) ?_
    refine vl_nil ?_
    refine vc_ret ?_
    refine ⟨_, [DB ds, XB xs, sl Aa ds.length ca 51 1 (ds.map ddP), sl Ab xs.length cb 50 1 (xs.map xdP)], _, res2 Try.results8 rfl rfl, (by repeat constructor), ?_⟩
    exact ⟨Aa, ca, ds, Ab, cb, xs, rfl, rfl, hfd, hfx⟩



/-! ### Rows out of a segment -/
def rowV1 (D : List Vk) (c : List Bool × List Int) (r : Nat) : Option Vk := if c.1.getD r false = true then some z3 else if 0 ≤ c.2.getD r 0 ∧ c.2.getD r 0 < D.length then some (D.getD (c.2.getD r 0).toNat z3) else none
def cellP (s : Sg) (Ds : List (List Vk)) (r i : Nat) : Option Vk := rowV1 (Ds.getD i []) (s.cs.getD i ([], [])) r
def rowsP (s : Sg) (Ds : List (List Vk)) : Int × List (List Vk) :=
  if ¬ goodSg s ∨ Ds.length ≠ s.cs.length then (2, [])
  else if ∃ r, r < s.n.toNat ∧ ∃ i, i < s.cs.length ∧ cellP s Ds r i = none then (6, [])
  else (0, (List.range s.n.toNat).map fun r => (List.range s.cs.length).map fun i => (cellP s Ds r i).getD z3)
theorem rowsP_arg {s : Sg} {Ds : List (List Vk)} (h : ¬ goodSg s ∨ Ds.length ≠ s.cs.length) : rowsP s Ds = (2, []) := by unfold rowsP; rw [if_pos h]
theorem rowsP_rng {s : Sg} {Ds : List (List Vk)} {r i : Nat} (h1 : goodSg s) (h2 : Ds.length = s.cs.length) (hr : r < s.n.toNat) (hi : i < s.cs.length) (h : cellP s Ds r i = none) : rowsP s Ds = (6, []) := by
  unfold rowsP
  rw [if_neg (by rintro (h | h); exact h h1; exact h h2), if_pos ⟨r, hr, i, hi, h⟩]
theorem rowsP_ok {s : Sg} {Ds : List (List Vk)} {rs : List (List Vk)} (h1 : goodSg s) (h2 : Ds.length = s.cs.length) (hl : rs.length = s.n.toNat) (hh : ∀ r, r < rs.length → (rs.getD r []).length = s.cs.length ∧ ∀ i, i < s.cs.length → cellP s Ds r i = some ((rs.getD r []).getD i z3)) : rowsP s Ds = (0, rs) := by
  unfold rowsP
  rw [if_neg (by rintro (h | h); exact h h1; exact h h2), if_neg]
  · refine congrArg (Prod.mk 0) (ext_getD [] (by rw [List.length_map, List.length_range, hl]) fun r hr => ?_)
    rw [List.length_map, List.length_range, ← hl] at hr
    obtain ⟨g1, g2⟩ := hh r hr
    have e : ((List.range s.n.toNat).map fun r => (List.range s.cs.length).map fun i => (cellP s Ds r i).getD z3).getD r [] = (List.range s.cs.length).map fun i => (cellP s Ds r i).getD z3 := by
      simp [List.getD, ← hl, hr]
    rw [e]
    refine ext_getD z3 (by rw [List.length_map, List.length_range, g1]) fun i hi => ?_
    rw [List.length_map, List.length_range] at hi
    have e2 : ((List.range s.cs.length).map fun i => (cellP s Ds r i).getD z3).getD i z3 = (cellP s Ds r i).getD z3 := by
      simp [List.getD, hi]
    rw [e2, g2 i hi]; rfl
  · rintro ⟨r, hr, i, hi, h⟩
    rw [(hh r (by omega)).2 i hi] at h; cases h
theorem set_getD {α : Type} (l : List α) (i j : Nat) (x d : α) : (l.set i x).getD j d = if i = j ∧ i < l.length then x else l.getD j d := by
  by_cases h : i = j
  · subst h
    by_cases hl : i < l.length
    · rw [if_pos ⟨rfl, hl⟩]; simp [List.getD, List.getElem?_set_self hl]
    · rw [if_neg (fun h => hl h.2), List.set_eq_of_length_le (by omega)]
  · rw [if_neg (fun h2 => h h2.1)]; simp [List.getD, List.getElem?_set_ne h]
/-- The row as far as it is read. -/
def RowSt (s : Sg) (Ds : List (List Vk)) (r i : Nat) (ρ : List Vk) : Prop := ρ.length = s.cs.length ∧ (∀ j, j < i → cellP s Ds r j = some (ρ.getD j z3)) ∧ ∀ j, i ≤ j → ρ.getD j z3 = z3
theorem rowSt_start (s : Sg) (Ds : List (List Vk)) (r : Nat) : RowSt s Ds r 0 (List.replicate s.cs.length z3) := ⟨List.length_replicate, fun j h => absurd h (Nat.not_lt_zero _), fun j _ => getDS_rep z3⟩
theorem rowSt_null {s : Sg} {Ds : List (List Vk)} {r i : Nat} {ρ : List Vk} (h : RowSt s Ds r i ρ) (hn : (s.cs.getD i ([], [])).1.getD r false = true) : RowSt s Ds r (i + 1) ρ := by
  obtain ⟨h1, h2, h3⟩ := h
  refine ⟨h1, ext_lt h2 ?_, fun j hj => h3 j (by omega)⟩
  unfold cellP rowV1
  rw [if_pos hn, h3 i (Nat.le_refl _)]
theorem rowSt_val {s : Sg} {Ds : List (List Vk)} {r i : Nat} {ρ : List Vk} (h : RowSt s Ds r i ρ) (hi : i < s.cs.length) (hn : ¬ (s.cs.getD i ([], [])).1.getD r false = true) (hv : 0 ≤ (s.cs.getD i ([], [])).2.getD r 0 ∧ (s.cs.getD i ([], [])).2.getD r 0 < (Ds.getD i []).length) : RowSt s Ds r (i + 1) (ρ.set i ((Ds.getD i []).getD ((s.cs.getD i ([], [])).2.getD r 0).toNat z3)) := by
  obtain ⟨h1, h2, h3⟩ := h
  refine ⟨by rw [List.length_set, h1], fun j hj => ?_, fun j hj => ?_⟩
  · rw [set_getD]
    by_cases e : i = j
    · subst e
      rw [if_pos ⟨rfl, by omega⟩]
      unfold cellP rowV1
      rw [if_neg hn, if_pos hv]
    · rw [if_neg (fun h => e h.1)]
      exact h2 j (by omega)
  · rw [set_getD, if_neg (fun h => by omega)]
    exact h3 j (by omega)
theorem rowSt_none {s : Sg} {Ds : List (List Vk)} {r i : Nat} (hn : ¬ (s.cs.getD i ([], [])).1.getD r false = true) (hv : ¬ (0 ≤ (s.cs.getD i ([], [])).2.getD r 0 ∧ (s.cs.getD i ([], [])).2.getD r 0 < (Ds.getD i []).length)) : cellP s Ds r i = none := by
  unfold cellP rowV1
  rw [if_neg hn, if_neg hv]

structure VcRM (w : World) (M : List Nat) (v : Vc) : Prop where
  nu : ReadsM w M v.A (tcells v.nu)
  ids : ReadsM w M v.B (icells .i64 v.ids)
  ln : v.nu.length < 4611686018427387904
  li : v.ids.length < 4611686018427387904
structure SgRM (w : World) (M : List Nat) (Ac : Option Addr) (vs : List Vc) (Az : Option Addr) (zs : List Zn) : Prop where
  cs : ReadsM w M Ac (vs.flatMap vcC)
  zs : ReadsM w M Az (zs.flatMap znC)
  col : ∀ v ∈ vs, VcRM w M v
theorem sgRM_R {X : Cx} {H : List Chunk} {vs : List Vc} {zs : List Zn} {Ac Az : Option Addr} {w : World} (h : SgRM X.w0 X.M Ac vs Az zs) (hw : Holds X.w0 X.M H w) : SgR w Ac vs Az zs :=
  ⟨rdw (rd_oldM h.cs) hw, rdw (rd_oldM h.zs) hw, fun v hv => ⟨rdw (rd_oldM (h.col v hv).nu) hw, rdw (rd_oldM (h.col v hv).ids) hw, (h.col v hv).ln, (h.col v hv).li⟩⟩
abbrev rwH (q : Rw) : List Chunk := [DS q.1 q.2.1 q.2.2]
theorem flat_rep (n : Nat) : (madeCells (Value.agg #[.int .i64 0, .int .i64 0, .string ⟨#[]⟩]).cells (n * 3)).toList = flat (List.replicate n z3) :=
  made_flat (f := fun p : Vk => [.int .i64 p.k, .int .i64 p.n, .string p.s]) (fun _ => rfl) z3 rfl (by decide) n
theorem eqv_rws (n : Nat) (F : List Chunk) : Eqv F (big ((List.replicate n rw0).flatMap rwH) :: F) := by
  refine eqv_triv ?_ (fun c hc w => ?_) F
  · induction n with
    | zero => rfl
    | succ n ih => rw [List.replicate_succ, List.flatMap_cons, fps_append, ih]; rfl
  · obtain ⟨t, ht, hc⟩ := List.mem_flatMap.1 hc
    rw [List.eq_of_mem_replicate ht] at hc
    rw [List.mem_singleton.1 hc]; exact sl_none _ _ w
theorem laid_row {l : List Rw} {r : Nat} {x : Rw} (h : r < l.length) : laid (l.flatMap rowV) (Int.toNat (r : Int) * 1) (rowV x) = (l.set r x).flatMap rowV :=
  laid_flat (f := rowV) (m := 1) (fun _ => rfl) rw0 (j := 0) h (Nat.le_refl _) rfl
theorem laid_val {l : List Vk} {i : Nat} {x : Vk} (h : i < l.length) : laid (flat l) (Int.toNat (i : Int) * 3) [.int .i64 x.k, .int .i64 x.n, .string x.s] = flat (l.set i x) :=
  laid_flat (f := fun p : Vk => [.int .i64 p.k, .int .i64 p.n, .string p.s]) (m := 3) (fun _ => rfl) z3 (j := 0) h (Nat.le_refl _) rfl

set_option maxRecDepth 20000 in
theorem gRows1 (ds : List Dd) (i : Nat) (hi : i < ds.length) (w : World) : FnR Try.prog 35 [ddP (ds.getD i dd0)] [DB ds] (.bool (decide ((if okK (ds.getD i dd0).kd then (ds.getD i dd0).kd else 0) = 0))) w := by
  refine fn_enter Try.func35 rfl Try.ntmps35 rfl ?_
  refine vc_seq ?_
  refine vc_region ?_
  refine vl_val rfl (.some rfl) (val_assign rfl) ?_
  refine vl_nil ?_
  refine vc_seq ?_
  refine vc_region ?_
  refine vl_val rfl (.some rfl) (val_move rfl) ?_
  refine vl_callR [DB ds] rfl rfl (.some rfl) Try.call36 rfl (by repeat constructor) (fun w hw => dbKindA hi w) ?_
  refine vl_val rfl (.some rfl) (val_eq rfl rfl) ?_
  refine vl_val rfl (.some rfl) (val_assign rfl) ?_
  refine vl_nil ?_
  refine vc_ret ?_
  refine ⟨_, [DB ds], _, res1 Try.results35 rfl, (by repeat constructor), ?_⟩
  exact ⟨rfl, rfl⟩
set_option maxRecDepth 20000 in
theorem gIdxD (ds : List Dd) (Ad : Option Addr) (cd : Nat) (hdl : ds.length ≤ 1000000) (hok : ∀ i, i < ds.length → okK (ds.getD i dd0).kd) (w : World) (hdp : ReadsM w (fps [DB ds]) Ad (ds.map ddP)) : FnR Try.prog 64 [.slice Ad ds.length cd, .func (.func 35) #[] #[]] [DB ds] (.int .i64 (-1)) w := by
  refine fn_enter Try.func64 rfl Try.ntmps64 rfl ?_
  refine vc_seq ?_
  refine vc_region ?_
  refine vl_val rfl (.some rfl) (val_assign rfl) ?_
  refine vl_nil ?_
  refine vc_seq ?_
  refine vc_seq ?_
  refine vc_region ?_
  refine vl_val rfl (.some rfl) (val_move rfl) ?_
  refine vl_val rfl (.some rfl) (val_lenSl Try.runUnderlying26 rfl) ?_
  refine vl_val rfl (.some rfl) (val_move rfl) ?_
  refine vl_nil ?_
  refine vc_block ?_
  refine vc_loopw (fun k E H => ∃ i : Nat, i ≤ ds.length ∧ k = ds.length - i ∧ E = [(0, .slice Ad ds.length cd), (1, .func (.func 35) #[] #[]), (7, .int .i64 ds.length), (8, .int .i64 i)] ∧ H = [DB ds]) (ds.length) ⟨_, _, _, ⟨0, by omega, rfl, rfl, rfl⟩, (by repeat (first | exact trivial | refine ⟨rfl, ?_⟩ | refine ⟨le_item rfl (by first | rfl | (congr 1; omega) | (simp; done) | (simp; omega)), ?_⟩)), (by repeat constructor)⟩ ?_
  intro k E H hI
  obtain ⟨i, hi, rfl, rfl, rfl⟩ := hI
  refine vc_seq ?_
  refine vc_region ?_
  refine vl_val rfl (.some rfl) (val_lt rfl rfl) ?_
  refine vl_nil ?_
  refine vc_seq ?_
  refine vc_cond rfl (fun hc0 => ?_) (fun hc0 => ?_)
  · (try replace hc0 := of_decide_eq_true hc0)
    have hi8 : i < ds.length := by omega
    refine vc_skip ?_
    refine vc_seq ?_
    refine vc_block ?_
    refine vc_seq ?_
    refine vc_region ?_
    refine vl_val rfl (.some rfl) (val_move rfl) ?_
    refine vl_val rfl (.some rfl) (val_assign rfl) ?_
    refine vl_nil ?_
    refine vc_seq ?_
    refine vc_region ?_
    refine vl_val rfl (.some rfl) (val_move rfl) ?_
    refine vl_val rfl (.some rfl) (val_move rfl) ?_
    refine vl_val rfl (.some rfl) (val_move rfl) ?_
    refine vl_val rfl (.some rfl) (val_indexAddr Try.runUnderlying26 Try.sizeOf51 rfl rfl (rd_oldM hdp) (by omega) (by omega) (by rw [List.length_map]; omega)) ?_
    refine vl_val rfl (.some rfl) (val_load Try.isAgg51 rfl (cell_rd (rd_oldM hdp) (map_at dd0 (by omega)))) ?_
    refine vl_callv (C := [DB ds]) (fs := []) (cs := []) (args := [ddP (ds.getD i dd0)]) rfl rfl (.some rfl) rfl Try.call35 rfl (by repeat constructor) (fun w' hw => gRows1 ds i hi8 w') (fun v9 H9 h => ?_)
    obtain ⟨rfl, rfl⟩ := h
    show VL _ _ _ _ _ (_ :: _)
    refine vl_nil ?_
    refine vc_cond rfl (fun hc1 => False.elim (by (try replace hc1 := of_decide_eq_true hc1); exact kz hc1 (hok i hi8))) (fun hc1 => ?_)
    (try replace hc1 := of_decide_eq_false hc1)
    refine vc_skip ?_
    refine vc_region ?_
    refine vl_val rfl (.some rfl) (val_add rfl rfl (by first | exact w_i64 (by omega) (by omega) | rfl)) ?_
    refine vl_val rfl (.some rfl) (val_move rfl) ?_
    refine vl_nil ?_
    exact ⟨ds.length - (i + 1), _, _, _, by omega, (by repeat (first | exact trivial | refine ⟨rfl, ?_⟩ | refine ⟨le_item rfl (by first | rfl | (congr 1; omega) | (simp; done) | (simp; omega)), ?_⟩)), (by repeat constructor), ⟨i + 1, by omega, rfl, rfl, rfl⟩⟩
  · (try replace hc0 := of_decide_eq_false hc0)
    refine vc_exit ?_
    refine vc_seq ?_
    refine vc_region ?_
    refine vl_val rfl (.some rfl) (val_assign rfl) ?_
    refine vl_nil ?_
    refine vc_ret ?_
    refine ⟨_, [DB ds], _, res1 Try.results64 rfl, (by repeat constructor), ?_⟩
    exact ⟨rfl, rfl⟩
set_option maxRecDepth 20000 in
theorem gHasD (ds : List Dd) (Ad : Option Addr) (cd : Nat) (hdl : ds.length ≤ 1000000) (hok : ∀ i, i < ds.length → okK (ds.getD i dd0).kd) (w : World) (hdp : ReadsM w (fps [DB ds]) Ad (ds.map ddP)) : FnR Try.prog 34 [.slice Ad ds.length cd, .func (.func 35) #[] #[]] [DB ds] (.bool false) w := by
  refine fn_enter Try.func34 rfl Try.ntmps34 rfl ?_
  refine vc_seq ?_
  refine vc_region ?_
  refine vl_val rfl (.some rfl) (val_assign rfl) ?_
  refine vl_nil ?_
  refine vc_seq ?_
  refine vc_region ?_
  refine vl_val rfl (.some rfl) (val_move rfl) ?_
  refine vl_val rfl (.some rfl) (val_move rfl) ?_
  refine vl_callR [DB ds] rfl rfl (.some rfl) Try.call64 rfl (by repeat constructor) (fun w hw => gIdxD ds Ad cd hdl hok w (readsM_old hdp (by repeat constructor) hw)) ?_
  refine vl_val rfl (.some rfl) (val_ge rfl rfl) ?_
  refine vl_val rfl (.some rfl) (val_assign rfl) ?_
  refine vl_nil ?_
  refine vc_ret ?_
  refine ⟨_, [DB ds], _, res1 Try.results34 rfl, (by repeat constructor), ?_⟩
  exact ⟨rfl, rfl⟩




theorem laid_rowE {l : List Rw} {r : Nat} {x : Rw} {us : List Value} (h : r < l.length) (hu : us = rowV x) : laid (l.flatMap rowV) (Int.toNat (r : Int) * 1) us = (l.set r x).flatMap rowV := by rw [hu]; exact laid_row h
theorem row_set_at {l : List Rw} {r m c : Nat} {A : Option Addr} {ρ : List Vk} (h : r < l.length) (hm : ρ.length = m) : ((l.set r (A, c, ρ)).flatMap rowV)[Int.toNat (r : Int) * 1]? = some (.slice A m c) := by
  have := rowC_at (l := l.set r (A, c, ρ)) (i := r) (by simpa using h)
  rw [this, set_getD, if_pos ⟨rfl, h⟩, hm]
theorem flat_set_rowV {l : List Rw} {r c : Nat} {A : Option Addr} {ρ ρ2 : List Vk} (h : ρ.length = ρ2.length) : (l.set r (A, c, ρ)).flatMap rowV = (l.set r (A, c, ρ2)).flatMap rowV := by
  by_cases hr : r < l.length
  · rw [← laid_row (x := (A, c, ρ)) hr, ← laid_row (x := (A, c, ρ2)) hr]
    show laid _ _ [Value.slice A ρ.length c] = laid _ _ [Value.slice A ρ2.length c]
    rw [h]
  · rw [List.set_eq_of_length_le (by omega), List.set_eq_of_length_le (by omega)]
def RowsSt (s : Sg) (Ds : List (List Vk)) (r : Nat) (rs : List Rw) : Prop := ∀ j, j < r → (rs.getD j rw0).2.2.length = s.cs.length ∧ ∀ i, i < s.cs.length → cellP s Ds j i = some ((rs.getD j rw0).2.2.getD i z3)
theorem rowsSt_step {s : Sg} {Ds : List (List Vk)} {r c : Nat} {A : Option Addr} {rs : List Rw} {ρ : List Vk} (h : RowsSt s Ds r rs) (hr : r < rs.length) (hs : RowSt s Ds r s.cs.length ρ) : RowsSt s Ds (r + 1) (rs.set r (A, c, ρ)) := by
  intro j hj
  rw [set_getD]
  by_cases e : r = j
  · subst e
    rw [if_pos ⟨rfl, hr⟩]
    exact ⟨hs.1, fun i hi => hs.2.1 i hi⟩
  · rw [if_neg (fun h => e h.1)]
    exact h j (by omega)
theorem rowsSt_end {s : Sg} {Ds : List (List Vk)} {rs : List Rw} (h1 : goodSg s) (h2 : Ds.length = s.cs.length) (hl : rs.length = s.n.toNat) (h : RowsSt s Ds rs.length rs) : rowsP s Ds = (0, rs.map (·.2.2)) := by
  refine rowsP_ok h1 h2 (by rw [List.length_map, hl]) fun r hr => ?_
  rw [List.length_map] at hr
  rw [map_getDs rw0 [] rfl]
  exact h r hr

set_option maxRecDepth 20000 in
set_option maxHeartbeats 2000000 in
theorem gRows (n : Int) (Ac : Option Addr) (cc : Nat) (vs : List Vc) (Az : Option Addr) (cz : Nat) (zs : List Zn) (hlc : vs.length < 4611686018427387904) (hlz : zs.length < 4611686018427387904) (ds : List Dd) (Ad : Option Addr) (cd : Nat) (hdl : ds.length ≤ 1000000) (hgk : goodSg (⟨n, vs.map vcP, zs⟩ : Sg) → ∀ i, i < ds.length → okK (ds.getD i dd0).kd) (w : World) (hrs : SgRM w (fps [DB ds]) Ac vs Az zs) (hdp : ReadsM w (fps [DB ds]) Ad (ds.map ddP)) : Fn Try.prog 12 [sgV n Ac cc vs Az cz zs, .slice Ad ds.length cd] [DB ds] (ret fun v H' => ∃ (Ao : Option Addr) (co : Nat) (rs : List Rw) (e : Int), v = .tuple #[.slice Ao rs.length co, .int .i64 e] ∧ H' = [DB ds, sl Ao rs.length co 53 1 (rs.flatMap rowV), big (rs.flatMap rwH)] ∧ rowsP (⟨n, vs.map vcP, zs⟩ : Sg) (ds.map (·.vs)) = (e, rs.map (·.2.2))) w := by
  have hml : (vs.map vcP).length = vs.length := List.length_map _
  have hmg : ∀ i, (vs.map vcP).getD i ([], []) = vcP (vs.getD i vc0) := fun i => map_getDs vc0 ([], []) rfl
  have hdv : (ds.map (·.vs)).length = ds.length := List.length_map _
  have hdg : ∀ i, (ds.map (·.vs)).getD i [] = (ds.getD i dd0).vs := fun i => map_getDs dd0 [] rfl
  refine fn_enter Try.func12 rfl Try.ntmps12 rfl ?_
  refine vc_seq ?_
  refine vc_region ?_
  refine vl_box rfl rfl (.some rfl) rfl (fun r2 => ?_)
  refine vl_val rfl (.some rfl) (val_assign rfl) ?_
  refine vl_val rfl (.some rfl) (val_assign rfl) ?_
  refine vl_nil ?_
  refine vc_seq ?_
  refine vc_seq ?_
  refine vc_region ?_
  refine vl_val rfl (.some rfl) (val_loadAgg Try.isAgg34 Try.sizeOf34 rfl (by first | exact cells_whole (by repeat constructor) | exact cells_part (by repeat constructor) rfl) rfl) ?_
  refine vl_callV rfl rfl (.some rfl) Try.call24 rfl (fun w hw => gGood n Ac cc vs Az cz zs hlc hlz w (sgRM_R hrs hw)) ?_
  refine vl_val rfl (.some rfl) (val_not rfl) ?_
  refine vl_val rfl (.some rfl) (val_move rfl) ?_
  refine vl_split (t := 15) rfl (fun hg15 => ?_) (fun hg15 => ?_)
  · (try replace hg15 := of_decide_eq_true hg15)
    have hng : ¬ goodSg (⟨n, vs.map vcP, zs⟩ : Sg) := by simpa using hg15
    refine vl_off rfl rfl rfl rfl (.some rfl) ?_
    refine vl_off rfl rfl rfl rfl (.some rfl) ?_
    refine vl_off rfl rfl rfl rfl (.some rfl) ?_
    refine vl_off rfl rfl rfl rfl (.some rfl) ?_
    refine vl_off rfl rfl rfl rfl (.some rfl) ?_
    refine vl_off rfl rfl rfl rfl (.some rfl) ?_
    refine vl_val rfl (.some rfl) (val_pick rfl rfl) ?_
    refine vl_val rfl (.some rfl) (val_move rfl) ?_
    refine vl_off rfl rfl rfl rfl (.some rfl) ?_
    refine vl_off rfl rfl rfl rfl (.some rfl) ?_
    refine vl_val rfl (.some rfl) (val_pick rfl rfl) ?_
    refine vl_nil ?_
    refine vc_cond rfl (fun _ => ?_) (fun h => by cases h)
    refine vc_seq ?_
    refine vc_region ?_
    refine vl_val rfl (.some rfl) (val_assign rfl) ?_
    refine vl_nilSl 53 1 ?_
    refine vl_eqv (eqv_nil _) ?_
    refine vl_val rfl (.some rfl) (val_assign rfl) ?_
    refine vl_nil ?_
    refine vc_ret ?_
    refine ⟨_, [DB ds, sl none 0 0 53 1 [], big []], _, res2 Try.results12 rfl rfl, (by repeat constructor), ?_⟩
    exact ⟨none, 0, [], _, rfl, rfl, rowsP_arg (by first | exact .inl hng | exact .inr (by show (ds.map (·.vs)).length ≠ (vs.map vcP).length; omega))⟩
  · (try replace hg15 := of_decide_eq_false hg15)
    have hgd : goodSg (⟨n, vs.map vcP, zs⟩ : Sg) := by simpa using hg15
    have hok := hgk hgd
    have hgd2 := hgd
    obtain ⟨⟨hn1, hn2⟩, ⟨hc1, hc2⟩, hz, hall⟩ := hgd2
    simp only [hml] at hn1 hn2 hc1 hc2 hz hall
    refine vl_on rfl rfl rfl rfl ?_
    refine vl_val rfl (.some rfl) (val_move rfl) ?_
    refine vl_on rfl rfl rfl rfl ?_
    refine vl_val rfl (.some rfl) (val_lenSl Try.runUnderlying26 rfl) ?_
    refine vl_on rfl rfl rfl rfl ?_
    refine vl_val rfl (.some rfl) (by first | exact val_fieldAddr Try.runUnderlying34 rfl Try.sizeOf31 rfl | exact val_fieldAddrR Try.runUnderlying34 rfl Try.sizeOf31 rfl) ?_
    refine vl_on rfl rfl rfl rfl ?_
    refine vl_val rfl (.some rfl) (val_load Try.isAgg31 rfl (by first | exact cell_cells (by repeat constructor) rfl | exact cell_rd (by first | exact rd_sl (by repeat constructor) | exact rd_old (by assumption) rfl) (by first | exact bcells_at (by omega) | exact ucells_at (by omega) | exact icells_at (by omega) | exact tcells_at (by omega) | exact bcells_get (by omega) | exact icells_get (by omega) | exact tcells_get (by omega) | exact ucells_get (by omega)) | exact cell_old (by assumption) (by simp [fps]))) ?_
    refine vl_on rfl rfl rfl rfl ?_
    refine vl_val rfl (.some rfl) (val_lenSl Try.runUnderlying31 rfl) ?_
    refine vl_on rfl rfl rfl rfl ?_
    refine vl_val rfl (.some rfl) (val_ne rfl rfl) ?_
    refine vl_val rfl (.some rfl) (val_pick rfl rfl) ?_
    refine vl_val rfl (.some rfl) (val_move rfl) ?_
    refine vl_split (t := 23) rfl (fun hg23 => ?_) (fun hg23 => ?_)
    · (try replace hg23 := of_decide_eq_true hg23)
      refine vl_off rfl rfl rfl rfl (.some rfl) ?_
      refine vl_off rfl rfl rfl rfl (.some rfl) ?_
      refine vl_val rfl (.some rfl) (val_pick rfl rfl) ?_
      refine vl_nil ?_
      refine vc_cond rfl (fun _ => ?_) (fun h => by cases h)
      refine vc_seq ?_
      refine vc_region ?_
      refine vl_val rfl (.some rfl) (val_assign rfl) ?_
      refine vl_nilSl 53 1 ?_
      refine vl_eqv (eqv_nil _) ?_
      refine vl_val rfl (.some rfl) (val_assign rfl) ?_
      refine vl_nil ?_
      refine vc_ret ?_
      refine ⟨_, [DB ds, sl none 0 0 53 1 [], big []], _, res2 Try.results12 rfl rfl, (by repeat constructor), ?_⟩
      exact ⟨none, 0, [], _, rfl, rfl, rowsP_arg (by first | exact .inl hng | exact .inr (by show (ds.map (·.vs)).length ≠ (vs.map vcP).length; omega))⟩
    · (try replace hg23 := of_decide_eq_false hg23)
      have hdc : ds.length = vs.length := by omega
      obtain ⟨N, rfl⟩ : ∃ N : Nat, n = (N : Int) := ⟨n.toNat, by omega⟩
      refine vl_on rfl rfl rfl rfl ?_
      refine vl_val rfl (.some rfl) (val_move rfl) ?_
      refine vl_on rfl rfl rfl rfl ?_
      refine vl_callR [DB ds] rfl rfl (.some rfl) Try.call34 rfl (by repeat constructor) (fun w hw => gHasD ds Ad cd hdl hok w (readsM_old hdp (by repeat constructor) hw)) ?_
      refine vl_val rfl (.some rfl) (val_pick rfl rfl) ?_
      refine vl_nil ?_
      refine vc_cond rfl (fun h => by cases h) (fun _ => ?_)
      refine vc_skip ?_
      refine vc_seq ?_
      refine vc_region ?_
      refine vl_val rfl (.some rfl) (by first | exact val_fieldAddr Try.runUnderlying34 rfl Try.sizeOf3 rfl | exact val_fieldAddrR Try.runUnderlying34 rfl Try.sizeOf3 rfl) ?_
      refine vl_val rfl (.some rfl) (val_load Try.isAgg3 rfl (by first | exact cell_cells (by repeat constructor) rfl | exact cell_rd (by first | exact rd_sl (by repeat constructor) | exact rd_old (by assumption) rfl) (by first | exact bcells_at (by omega) | exact ucells_at (by omega) | exact icells_at (by omega) | exact tcells_at (by omega) | exact bcells_get (by omega) | exact icells_get (by omega) | exact tcells_get (by omega) | exact ucells_get (by omega)) | exact cell_old (by assumption) (by simp [fps]))) ?_
      refine vl_makeSlice sT23 rfl rfl (.some rfl) rfl rfl (by omega) (by omega) (by omega) (vs := (List.replicate N rw0).flatMap rowV) (made_flat (f := rowV) (m := 1) (fun _ => rfl) rw0 rfl (by decide) _) (fun r29 => ?_)
      refine vl_eqv (eqv_rws N _) ?_
      refine vl_val rfl (.some rfl) (val_assign rfl) ?_
      refine vl_nil ?_
      refine vc_seq ?_
      refine vc_seq ?_
      refine vc_region ?_
      refine vl_val rfl (.some rfl) (val_move rfl) ?_
      refine vl_val rfl (.some rfl) (val_lenSl Try.runUnderlying23 rfl) ?_
      refine vl_val rfl (.some rfl) (val_move rfl) ?_
      refine vl_nil ?_
      refine vc_block ?_
      refine vc_loopw (fun k E H => ∃ (r : Nat) (rs : List Rw), r ≤ N ∧ k = N - r ∧ rs.length = N ∧ RowsSt (⟨(N : Int), vs.map vcP, zs⟩ : Sg) (ds.map (·.vs)) r rs ∧ E = [(1, .slice Ad ds.length cd), (2, .pointer (some ⟨r2, 0, none⟩)), (6, .slice (some ⟨r29, 0, none⟩) N N), (30, .slice (some ⟨r29, 0, none⟩) N N), (31, .int .i64 (N : Int)), (32, .int .i64 (r : Int))] ∧ H = [cells r2 [.int .i64 (N : Int), .slice Ac vs.length cc, .slice Az zs.length cz] 34, sl (some ⟨r29, 0, none⟩) N N 53 1 (rs.flatMap rowV), big (rs.flatMap rwH), DB ds]) (N) ⟨_, _, _, ⟨0, List.replicate N rw0, by omega, rfl, List.length_replicate, fun j h => absurd h (Nat.not_lt_zero _), rfl, rfl⟩, (by repeat (first | exact trivial | refine ⟨rfl, ?_⟩ | refine ⟨le_item rfl (by first | rfl | (congr 1; omega) | (simp; done) | (simp; omega)), ?_⟩)), (by repeat constructor)⟩ ?_
      intro k E H hI
      obtain ⟨r, rs, hr, rfl, hrl, hrs0, rfl, rfl⟩ := hI
      refine vc_seq ?_
      refine vc_region ?_
      refine vl_val rfl (.some rfl) (val_lt rfl rfl) ?_
      refine vl_nil ?_
      refine vc_seq ?_
      refine vc_cond rfl (fun hc1 => ?_) (fun hc1 => ?_)
      · (try replace hc1 := of_decide_eq_true hc1)
        have hr8 : r < N := by omega
        refine vc_skip ?_
        refine vc_seq ?_
        refine vc_block ?_
        refine vc_seq ?_
        refine vc_region ?_
        refine vl_val rfl (.some rfl) (val_move rfl) ?_
        refine vl_val rfl (.some rfl) (val_assign rfl) ?_
        refine vl_nil ?_
        refine vc_seq ?_
        refine vc_region ?_
        refine vl_val rfl (.some rfl) (val_move rfl) ?_
        refine vl_val rfl (.some rfl) (val_move rfl) ?_
        refine vl_val rfl (.some rfl) (val_move rfl) ?_
        refine vl_val rfl (.some rfl) (val_lenSl Try.runUnderlying26 rfl) ?_
        refine vl_makeSlice sT53 rfl rfl (.some rfl) rfl rfl (by omega) (by omega) (by omega) (vs := flat (List.replicate ds.length z3)) (flat_rep _) (fun r39 => ?_)
        refine vl_val rfl (.some rfl) (val_indexAddrA Try.runUnderlying23 Try.sizeOf53 rfl rfl (by omega) (by omega)) ?_
        refine vl_storeX (vs' := (rs.set r (some ⟨r39, 0, none⟩, ds.length, List.replicate ds.length z3)).flatMap rowV) rfl rfl .none rfl rfl Try.sizeOf53 rfl (by simp [Value.cells]) (laid_rowE (by omega) (show [Value.slice (some ⟨r39, 0, none⟩) ds.length ds.length] = [Value.slice (some ⟨r39, 0, none⟩) (List.replicate ds.length z3).length ds.length] by rw [List.length_replicate])) (by rw [rowC_len, Int.toNat_natCast]; show r * 1 + 1 ≤ _; omega) (by repeat constructor) ?_
        refine vl_open rwH rw0 (show r < rs.length by omega) (by repeat (first | exact .head | apply Take.tail)) ?_
        show VL _ _ _ _ _ (_ :: _ :: _)
        refine vl_nil ?_
        refine vc_seq ?_
        refine vc_region ?_
        refine vl_val rfl (.some rfl) (by first | exact val_fieldAddr Try.runUnderlying34 rfl Try.sizeOf31 rfl | exact val_fieldAddrR Try.runUnderlying34 rfl Try.sizeOf31 rfl) ?_
        refine vl_val rfl (.some rfl) (val_load Try.isAgg31 rfl (by first | exact cell_cells (by repeat constructor) rfl | exact cell_rd (by first | exact rd_sl (by repeat constructor) | exact rd_old (by assumption) rfl) (by first | exact bcells_at (by omega) | exact ucells_at (by omega) | exact icells_at (by omega) | exact tcells_at (by omega) | exact bcells_get (by omega) | exact icells_get (by omega) | exact tcells_get (by omega) | exact ucells_get (by omega)) | exact cell_old (by assumption) (by simp [fps]))) ?_
        refine vl_val rfl (.some rfl) (val_lenSl Try.runUnderlying31 rfl) ?_
        refine vl_val rfl (.some rfl) (val_move rfl) ?_
        refine vl_nil ?_
        refine vc_block ?_
        refine vc_loopw (fun k E H => ∃ (i : Nat) (ρ : List Vk), i ≤ ds.length ∧ k = ds.length - i ∧ RowSt (⟨(N : Int), vs.map vcP, zs⟩ : Sg) (ds.map (·.vs)) r i ρ ∧ E = [(1, .slice Ad ds.length cd), (2, .pointer (some ⟨r2, 0, none⟩)), (6, .slice (some ⟨r29, 0, none⟩) N N), (30, .slice (some ⟨r29, 0, none⟩) N N), (31, .int .i64 (N : Int)), (32, .int .i64 (r : Int)), (7, .int .i64 (r : Int)), (42, .slice Ac vs.length cc), (43, .int .i64 vs.length), (44, .int .i64 (i : Int))] ∧ H = [cells r2 [.int .i64 (N : Int), .slice Ac vs.length cc, .slice Az zs.length cz] 34, sl (some ⟨r29, 0, none⟩) N N 53 1 ((rs.set r (some ⟨r39, 0, none⟩, ds.length, List.replicate ds.length z3)).flatMap rowV), sl (some ⟨r39, 0, none⟩) ds.length ds.length 62 3 (flat ρ), big (restL rwH rs r), DB ds]) (ds.length) ⟨_, _, _, ⟨0, List.replicate ds.length z3, by omega, by omega, by have h := rowSt_start (⟨(N : Int), vs.map vcP, zs⟩ : Sg) (ds.map (·.vs)) r; rw [show (⟨(N : Int), vs.map vcP, zs⟩ : Sg).cs.length = ds.length from (by show (vs.map vcP).length = _; omega)] at h; exact h, rfl, rfl⟩, (by repeat (first | exact trivial | refine ⟨rfl, ?_⟩ | refine ⟨le_item rfl (by first | rfl | (congr 1; omega) | (simp; done) | (simp; omega)), ?_⟩)), (by repeat constructor)⟩ ?_
        intro k E H hI
        obtain ⟨i, ρ, hi, rfl, hst, rfl, rfl⟩ := hI
        refine vc_seq ?_
        refine vc_region ?_
        refine vl_val rfl (.some rfl) (val_lt rfl rfl) ?_
        refine vl_nil ?_
        refine vc_seq ?_
        refine vc_cond rfl (fun hc2 => ?_) (fun hc2 => ?_)
        · (try replace hc2 := of_decide_eq_true hc2)
          have hi8 : i < vs.length := by omega
          have hcr := hrs.col _ (mem_getD vc0 hi8)
          have hco := hall i hi8
          rw [hmg] at hco
          obtain ⟨⟨hk1, hk2, hk3⟩, hk4, hk5⟩ := hco
          have hk4 : (vs.getD i vc0).ids.length = N := by have h : (((vs.getD i vc0).ids.length : Nat) : Int) = (N : Int) := hk4; omega
          have hk1 : (vs.getD i vc0).nu.length = (vs.getD i vc0).ids.length := hk1
          refine vc_skip ?_
          refine vc_seq ?_
          refine vc_block ?_
          refine vc_seq ?_
          refine vc_region ?_
          refine vl_val rfl (.some rfl) (val_move rfl) ?_
          refine vl_val rfl (.some rfl) (val_indexAddr Try.runUnderlying31 Try.sizeOf81 rfl rfl (rd_oldM hrs.cs) (by omega) (by omega) (by rw [flatS_len vcC_len]; omega)) ?_
          refine vl_val rfl (.some rfl) (val_loadAgg Try.isAgg81 Try.sizeOf81 rfl (cells_rd (us := vcC (vs.getD i vc0)) (rd_oldM hrs.cs) (by rw [Int.toNat_natCast]; exact flat_atM vcC_len vc0 _ _ (by omega))) rfl) ?_
          refine vl_alloc rfl rfl (.some rfl) Try.zeroValue81 (fun r9 => ?_)
          refine vl_val rfl (.some rfl) (val_assign rfl) ?_
          first | refine vl_store rfl rfl .none rfl rfl Try.sizeOf81 rfl (by repeat constructor) (by first | decide | exact Nat.le_refl _ | exact Nat.le_of_ble_eq_true rfl | (simp; omega)) ?_ | refine vl_storeSl rfl rfl .none rfl rfl Try.sizeOf81 rfl (by simp [Value.cells]) (by repeat constructor) (by first | decide | (simp [Value.cells]; omega)) ?_
          refine vl_nil ?_
          refine vc_seq ?_
          refine vc_seq ?_
          refine vc_region ?_
          refine vl_val rfl (.some rfl) (by first | exact val_fieldAddr Try.runUnderlying81 rfl Try.sizeOf79 rfl | exact val_fieldAddrR Try.runUnderlying81 rfl Try.sizeOf79 rfl) ?_
          refine vl_val rfl (.some rfl) (val_load Try.isAgg79 rfl (cell_cells (v := .slice (vs.getD i vc0).A (vs.getD i vc0).nu.length (vs.getD i vc0).c) (by repeat constructor) rfl)) ?_
          refine vl_val rfl (.some rfl) (val_move rfl) ?_
          refine vl_val rfl (.some rfl) (val_indexAddr Try.runUnderlying79 Try.sizeOf4 rfl rfl (rd_oldM hcr.nu) (by omega) (by omega) (by rw [Int.toNat_natCast, tcells_length]; omega)) ?_
          refine vl_val rfl (.some rfl) (val_load Try.isAgg4 rfl (cell_rd (rd_oldM hcr.nu) (tcells_at (by omega)))) ?_
          refine vl_nil ?_
          refine vc_cond rfl (fun hc3 => ?_) (fun hc3 => ?_)
          · (try replace hc3 := of_decide_eq_true hc3)
            have hnu : ((⟨(N : Int), vs.map vcP, zs⟩ : Sg).cs.getD i ([], [])).1.getD r false = true := by show ((vs.map vcP).getD i ([], [])).1.getD r false = true; rw [hmg]; exact hc3
            refine vc_exit ?_
            refine vc_region ?_
            refine vl_val rfl (.some rfl) (val_add rfl rfl (by first | exact w_i64 (by omega) (by omega) | rfl)) ?_
            refine vl_val rfl (.some rfl) (val_move rfl) ?_
            refine vl_nil ?_
            first
              | exact ⟨ds.length - (i + 1), _, _, _, by omega, (by repeat (first | exact trivial | refine ⟨rfl, ?_⟩ | refine ⟨le_item rfl (by first | rfl | (congr 1; omega) | (simp; done) | (simp; omega)), ?_⟩)), (by repeat constructor), ⟨i + 1, ρ, by omega, rfl, rowSt_null hst hnu, rfl, rfl⟩⟩
              | exact ⟨ds.length - (i + 1), _, _, _, by omega, (by repeat (first | exact trivial | refine ⟨rfl, ?_⟩ | refine ⟨le_item rfl (by first | rfl | (congr 1; omega) | (simp; done) | (simp; omega)), ?_⟩)), (by repeat constructor), ⟨i + 1, ρ.set i _, by omega, rfl, hst2, rfl, rfl⟩⟩
          · (try replace hc3 := of_decide_eq_false hc3)
            have hnu : ¬ ((⟨(N : Int), vs.map vcP, zs⟩ : Sg).cs.getD i ([], [])).1.getD r false = true := by show ¬ ((vs.map vcP).getD i ([], [])).1.getD r false = true; rw [hmg, hc3]; decide
            refine vc_skip ?_
            refine vc_seq ?_
            refine vc_drawsT 16 [0, 1, 2, 3, 4, 5, 6, 7, 8, 10, 11, 12, 15] ([cells r9 (vcC (vs.getD i vc0)) 81]) (by repeat constructor) rfl (by kernel_rfl) rfl (fun _ _ _ h => h) ?_
            refine vt_val 0 rfl rfl (by kernel_rfl) rfl (.some rfl) (val_move rfl) ?_
            refine vt_val 1 rfl rfl (by kernel_rfl) rfl (.some rfl) (val_move rfl) ?_
            refine vt_val 2 rfl rfl (by kernel_rfl) rfl (.some rfl) (val_indexAddr Try.runUnderlying26 Try.sizeOf51 rfl rfl (rd_oldM hdp) (by omega) (by omega) (by rw [List.length_map]; omega)) ?_
            refine vt_val 3 rfl rfl (by kernel_rfl) rfl (.some rfl) (val_load Try.isAgg51 rfl (cell_rd (rd_oldM hdp) (map_at dd0 (by omega)))) ?_
            refine vt_val 4 rfl rfl (by kernel_rfl) rfl (.some rfl) (by first | exact val_fieldAddr Try.runUnderlying81 rfl Try.sizeOf22 rfl | exact val_fieldAddrR Try.runUnderlying81 rfl Try.sizeOf22 rfl) ?_
            refine vt_val 5 rfl rfl (by kernel_rfl) rfl (.some rfl) (val_load Try.isAgg22 rfl (cell_cells (v := .slice (vs.getD i vc0).B (vs.getD i vc0).ids.length (vs.getD i vc0).d) (by repeat constructor) rfl)) ?_
            refine vt_val 6 rfl rfl (by kernel_rfl) rfl (.some rfl) (val_move rfl) ?_
            refine vt_val 7 rfl rfl (by kernel_rfl) rfl (.some rfl) (val_indexAddr Try.runUnderlying22 Try.sizeOf3 rfl rfl (rd_oldM hcr.ids) (by omega) (by omega) (by rw [Int.toNat_natCast, icells_length]; omega)) ?_
            refine vt_val 8 rfl rfl (by kernel_rfl) rfl (.some rfl) (val_load Try.isAgg3 rfl (cell_rd (rd_oldM hcr.ids) (icells_at (by omega)))) ?_
            refine vt_fork2 9 13 (by kernel_rfl) ?_ ?_
            · refine vt_op rfl ?_
              refine vl_callR [DB ds] rfl rfl (.some rfl) Try.call37 rfl (by repeat constructor) (fun w hw => dbVal (show i < ds.length by omega) (hok i (by omega)) ((vs.getD i vc0).ids.getD r 0) w) ?_
              refine vl_nil ?_
              refine ⟨⟨_, (by repeat constructor)⟩, ?_⟩
              refine vt_val 10 rfl rfl (by kernel_rfl) rfl (.some rfl) (val_move rfl) ?_
              refine vt_val 11 rfl rfl (by kernel_rfl) rfl (.some rfl) (val_extract rfl rfl) ?_
              refine vt_val 12 rfl rfl (by kernel_rfl) rfl (.some rfl) (val_extract rfl rfl) ?_
              refine vt_fork1 13 (by kernel_rfl) ?_
              · refine vt_op rfl ?_
                refine vl_alloc rfl rfl (.some rfl) Try.zeroValue62 (fun r10 => ?_)
                refine vl_nil ?_
                refine ⟨⟨_, (by repeat constructor)⟩, ?_⟩
                refine vt_fork1 14 (by kernel_rfl) ?_
                · refine vt_op rfl ?_
                  first | refine vl_store rfl rfl .none rfl rfl Try.sizeOf62 rfl (by repeat constructor) (by first | decide | exact Nat.le_refl _ | exact Nat.le_of_ble_eq_true rfl | (simp; omega)) ?_ | refine vl_storeSl rfl rfl .none rfl rfl Try.sizeOf62 rfl (by simp [Value.cells]) (by repeat constructor) (by first | decide | (simp [Value.cells]; omega)) ?_
                  refine vl_nil ?_
                  refine ⟨⟨_, (by repeat constructor)⟩, ?_⟩
                  refine vt_val 15 rfl rfl (by kernel_rfl) rfl (.some rfl) (val_assign rfl) ?_
                  refine vt_nil (by kernel_rfl) ?_
                  refine vc_seq ?_
                  refine vc_seq ?_
                  refine vc_region ?_
                  refine vl_val rfl (.some rfl) (val_move rfl) ?_
                  refine vl_val rfl (.some rfl) (val_not rfl) ?_
                  refine vl_nil ?_
                  refine vc_cond rfl (fun hc4 => ?_) (fun hc4 => ?_)
                  · (try replace hc4 := of_decide_eq_true hc4)
                    have hrg : ¬ (0 ≤ ((⟨(N : Int), vs.map vcP, zs⟩ : Sg).cs.getD i ([], [])).2.getD r 0 ∧ ((⟨(N : Int), vs.map vcP, zs⟩ : Sg).cs.getD i ([], [])).2.getD r 0 < ((ds.map (·.vs)).getD i []).length) := by show ¬ (0 ≤ ((vs.map vcP).getD i ([], [])).2.getD r 0 ∧ ((vs.map vcP).getD i ([], [])).2.getD r 0 < _); rw [hmg, hdg]; exact of_decide_eq_false ((Bool.not_eq_true' _).mp hc4)
                    refine vc_seq ?_
                    refine vc_region ?_
                    refine vl_val rfl (.some rfl) (val_assign rfl) ?_
                    refine vl_nilSl 53 1 ?_
                    refine vl_eqv (eqv_nil _) ?_
                    refine vl_val rfl (.some rfl) (val_assign rfl) ?_
                    refine vl_nil ?_
                    refine vc_ret ?_
                    refine ⟨_, [DB ds, sl none 0 0 53 1 [], big []], _, res2 Try.results12 rfl rfl, (by repeat constructor), ?_⟩
                    exact ⟨none, 0, [], _, rfl, rfl, rowsP_rng hgd (by show (ds.map (·.vs)).length = (vs.map vcP).length; omega) (show r < Int.toNat (N : Int) by omega) (show i < (vs.map vcP).length by omega) (rowSt_none hnu hrg)⟩
                  · (try replace hc4 := of_decide_eq_false hc4)
                    have hrg : 0 ≤ ((⟨(N : Int), vs.map vcP, zs⟩ : Sg).cs.getD i ([], [])).2.getD r 0 ∧ ((⟨(N : Int), vs.map vcP, zs⟩ : Sg).cs.getD i ([], [])).2.getD r 0 < ((ds.map (·.vs)).getD i []).length := by show 0 ≤ ((vs.map vcP).getD i ([], [])).2.getD r 0 ∧ ((vs.map vcP).getD i ([], [])).2.getD r 0 < _; rw [hmg, hdg]; simpa using hc4
                    have hrg2 : 0 ≤ (vs.getD i vc0).ids.getD r 0 ∧ (vs.getD i vc0).ids.getD r 0 < (ds.getD i dd0).vs.length := by simpa using hc4
                    have hst2 := rowSt_val hst (show i < (vs.map vcP).length by omega) hnu hrg
                    have hve : (if 0 ≤ (vs.getD i vc0).ids.getD r 0 ∧ (vs.getD i vc0).ids.getD r 0 < (ds.getD i dd0).vs.length then (ds.getD i dd0).vs.getD ((vs.getD i vc0).ids.getD r 0).toNat z3 else z3) = ((ds.map (·.vs)).getD i []).getD (((⟨(N : Int), vs.map vcP, zs⟩ : Sg).cs.getD i ([], [])).2.getD r 0).toNat z3 := by rw [if_pos hrg2]; show _ = ((ds.map (·.vs)).getD i []).getD (((vs.map vcP).getD i ([], [])).2.getD r 0).toNat z3; rw [hmg, hdg]
                    refine vc_skip ?_
                    refine vc_draws [0, 1, 2, 3, 4, 5, 6] [7] [0, 1, 2, 3, 4, 5, 6, 7] rfl (by kernel_rfl) (fun _ _ _ h => h) ?_
                    refine vd_val rfl rfl rfl (.some rfl) (val_move rfl) ?_
                    refine vd_val rfl rfl rfl (.some rfl) (val_move rfl) ?_
                    refine vd_val rfl rfl rfl (.some rfl) (val_indexAddrA Try.runUnderlying23 Try.sizeOf53 rfl rfl (by omega) (by omega)) ?_
                    refine vd_val rfl rfl rfl (.some rfl) (val_load Try.isAgg53 rfl (cell_rd (rd_sl (by repeat constructor)) (row_set_at (show r < rs.length by omega) (List.length_replicate (n := ds.length))))) ?_
                    refine vd_val rfl rfl rfl (.some rfl) (val_move rfl) ?_
                    refine vd_val rfl rfl rfl (.some rfl) (val_loadAgg Try.isAgg62 Try.sizeOf62 rfl (cells_part (us := [.int .i64 (if 0 ≤ (vs.getD i vc0).ids.getD r 0 ∧ (vs.getD i vc0).ids.getD r 0 < (ds.getD i dd0).vs.length then (ds.getD i dd0).vs.getD ((vs.getD i vc0).ids.getD r 0).toNat z3 else z3).k, .int .i64 (if 0 ≤ (vs.getD i vc0).ids.getD r 0 ∧ (vs.getD i vc0).ids.getD r 0 < (ds.getD i dd0).vs.length then (ds.getD i dd0).vs.getD ((vs.getD i vc0).ids.getD r 0).toNat z3 else z3).n, .string (if 0 ≤ (vs.getD i vc0).ids.getD r 0 ∧ (vs.getD i vc0).ids.getD r 0 < (ds.getD i dd0).vs.length then (ds.getD i dd0).vs.getD ((vs.getD i vc0).ids.getD r 0).toNat z3 else z3).s]) (by repeat constructor) rfl) rfl) ?_
                    refine vd_val rfl rfl rfl (.some rfl) (val_indexAddrA Try.runUnderlying53 Try.sizeOf62 rfl rfl (by omega) (by omega)) ?_
                    refine vd_op rfl rfl ?_
                    refine vl_storeX (vs' := flat (ρ.set i (if 0 ≤ (vs.getD i vc0).ids.getD r 0 ∧ (vs.getD i vc0).ids.getD r 0 < (ds.getD i dd0).vs.length then (ds.getD i dd0).vs.getD ((vs.getD i vc0).ids.getD r 0).toNat z3 else z3))) rfl rfl .none rfl rfl Try.sizeOf62 rfl (by simp [Value.cells]) (laid_val (x := (if 0 ≤ (vs.getD i vc0).ids.getD r 0 ∧ (vs.getD i vc0).ids.getD r 0 < (ds.getD i dd0).vs.length then (ds.getD i dd0).vs.getD ((vs.getD i vc0).ids.getD r 0).toNat z3 else z3)) (by rw [hst.1]; show i < (vs.map vcP).length; omega)) (by rw [vflat_len, Int.toNat_natCast, hst.1]; show i * 3 + 3 ≤ (vs.map vcP).length * 3; omega) (by repeat constructor) ?_
                    rw [hve]
                    refine vl_nil ?_
                    refine ⟨fun h => (by cases h), ?_⟩
                    refine vd_nil ?_
                    refine vc_region ?_
                    refine vl_val rfl (.some rfl) (val_add rfl rfl (by first | exact w_i64 (by omega) (by omega) | rfl)) ?_
                    refine vl_val rfl (.some rfl) (val_move rfl) ?_
                    refine vl_nil ?_
                    first
                      | exact ⟨ds.length - (i + 1), _, _, _, by omega, (by repeat (first | exact trivial | refine ⟨rfl, ?_⟩ | refine ⟨le_item rfl (by first | rfl | (congr 1; omega) | (simp; done) | (simp; omega)), ?_⟩)), (by repeat constructor), ⟨i + 1, ρ, by omega, rfl, rowSt_null hst hnu, rfl, rfl⟩⟩
                      | exact ⟨ds.length - (i + 1), _, _, _, by omega, (by repeat (first | exact trivial | refine ⟨rfl, ?_⟩ | refine ⟨le_item rfl (by first | rfl | (congr 1; omega) | (simp; done) | (simp; omega)), ?_⟩)), (by repeat constructor), ⟨i + 1, ρ.set i _, by omega, rfl, hst2, rfl, rfl⟩⟩
            · refine vt_op rfl ?_
              refine vl_alloc rfl rfl (.some rfl) Try.zeroValue62 (fun r10 => ?_)
              refine vl_nil ?_
              refine ⟨⟨_, (by repeat constructor)⟩, ?_⟩
              refine vt_fork1 9 (by kernel_rfl) ?_
              · refine vt_op rfl ?_
                refine vl_callR [DB ds] rfl rfl (.some rfl) Try.call37 rfl (by repeat constructor) (fun w hw => dbVal (show i < ds.length by omega) (hok i (by omega)) ((vs.getD i vc0).ids.getD r 0) w) ?_
                refine vl_nil ?_
                refine ⟨⟨_, (by repeat constructor)⟩, ?_⟩
                refine vt_val 10 rfl rfl (by kernel_rfl) rfl (.some rfl) (val_move rfl) ?_
                refine vt_val 11 rfl rfl (by kernel_rfl) rfl (.some rfl) (val_extract rfl rfl) ?_
                refine vt_val 12 rfl rfl (by kernel_rfl) rfl (.some rfl) (val_extract rfl rfl) ?_
                refine vt_fork1 14 (by kernel_rfl) ?_
                · refine vt_op rfl ?_
                  first | refine vl_store rfl rfl .none rfl rfl Try.sizeOf62 rfl (by repeat constructor) (by first | decide | exact Nat.le_refl _ | exact Nat.le_of_ble_eq_true rfl | (simp; omega)) ?_ | refine vl_storeSl rfl rfl .none rfl rfl Try.sizeOf62 rfl (by simp [Value.cells]) (by repeat constructor) (by first | decide | (simp [Value.cells]; omega)) ?_
                  refine vl_nil ?_
                  refine ⟨⟨_, (by repeat constructor)⟩, ?_⟩
                  refine vt_val 15 rfl rfl (by kernel_rfl) rfl (.some rfl) (val_assign rfl) ?_
                  refine vt_nil (by kernel_rfl) ?_
                  refine vc_seq ?_
                  refine vc_seq ?_
                  refine vc_region ?_
                  refine vl_val rfl (.some rfl) (val_move rfl) ?_
                  refine vl_val rfl (.some rfl) (val_not rfl) ?_
                  refine vl_nil ?_
                  refine vc_cond rfl (fun hc4 => ?_) (fun hc4 => ?_)
                  · (try replace hc4 := of_decide_eq_true hc4)
                    have hrg : ¬ (0 ≤ ((⟨(N : Int), vs.map vcP, zs⟩ : Sg).cs.getD i ([], [])).2.getD r 0 ∧ ((⟨(N : Int), vs.map vcP, zs⟩ : Sg).cs.getD i ([], [])).2.getD r 0 < ((ds.map (·.vs)).getD i []).length) := by show ¬ (0 ≤ ((vs.map vcP).getD i ([], [])).2.getD r 0 ∧ ((vs.map vcP).getD i ([], [])).2.getD r 0 < _); rw [hmg, hdg]; exact of_decide_eq_false ((Bool.not_eq_true' _).mp hc4)
                    refine vc_seq ?_
                    refine vc_region ?_
                    refine vl_val rfl (.some rfl) (val_assign rfl) ?_
                    refine vl_nilSl 53 1 ?_
                    refine vl_eqv (eqv_nil _) ?_
                    refine vl_val rfl (.some rfl) (val_assign rfl) ?_
                    refine vl_nil ?_
                    refine vc_ret ?_
                    refine ⟨_, [DB ds, sl none 0 0 53 1 [], big []], _, res2 Try.results12 rfl rfl, (by repeat constructor), ?_⟩
                    exact ⟨none, 0, [], _, rfl, rfl, rowsP_rng hgd (by show (ds.map (·.vs)).length = (vs.map vcP).length; omega) (show r < Int.toNat (N : Int) by omega) (show i < (vs.map vcP).length by omega) (rowSt_none hnu hrg)⟩
                  · (try replace hc4 := of_decide_eq_false hc4)
                    have hrg : 0 ≤ ((⟨(N : Int), vs.map vcP, zs⟩ : Sg).cs.getD i ([], [])).2.getD r 0 ∧ ((⟨(N : Int), vs.map vcP, zs⟩ : Sg).cs.getD i ([], [])).2.getD r 0 < ((ds.map (·.vs)).getD i []).length := by show 0 ≤ ((vs.map vcP).getD i ([], [])).2.getD r 0 ∧ ((vs.map vcP).getD i ([], [])).2.getD r 0 < _; rw [hmg, hdg]; simpa using hc4
                    have hrg2 : 0 ≤ (vs.getD i vc0).ids.getD r 0 ∧ (vs.getD i vc0).ids.getD r 0 < (ds.getD i dd0).vs.length := by simpa using hc4
                    have hst2 := rowSt_val hst (show i < (vs.map vcP).length by omega) hnu hrg
                    have hve : (if 0 ≤ (vs.getD i vc0).ids.getD r 0 ∧ (vs.getD i vc0).ids.getD r 0 < (ds.getD i dd0).vs.length then (ds.getD i dd0).vs.getD ((vs.getD i vc0).ids.getD r 0).toNat z3 else z3) = ((ds.map (·.vs)).getD i []).getD (((⟨(N : Int), vs.map vcP, zs⟩ : Sg).cs.getD i ([], [])).2.getD r 0).toNat z3 := by rw [if_pos hrg2]; show _ = ((ds.map (·.vs)).getD i []).getD (((vs.map vcP).getD i ([], [])).2.getD r 0).toNat z3; rw [hmg, hdg]
                    refine vc_skip ?_
                    refine vc_draws [0, 1, 2, 3, 4, 5, 6] [7] [0, 1, 2, 3, 4, 5, 6, 7] rfl (by kernel_rfl) (fun _ _ _ h => h) ?_
                    refine vd_val rfl rfl rfl (.some rfl) (val_move rfl) ?_
                    refine vd_val rfl rfl rfl (.some rfl) (val_move rfl) ?_
                    refine vd_val rfl rfl rfl (.some rfl) (val_indexAddrA Try.runUnderlying23 Try.sizeOf53 rfl rfl (by omega) (by omega)) ?_
                    refine vd_val rfl rfl rfl (.some rfl) (val_load Try.isAgg53 rfl (cell_rd (rd_sl (by repeat constructor)) (row_set_at (show r < rs.length by omega) (List.length_replicate (n := ds.length))))) ?_
                    refine vd_val rfl rfl rfl (.some rfl) (val_move rfl) ?_
                    refine vd_val rfl rfl rfl (.some rfl) (val_loadAgg Try.isAgg62 Try.sizeOf62 rfl (cells_part (us := [.int .i64 (if 0 ≤ (vs.getD i vc0).ids.getD r 0 ∧ (vs.getD i vc0).ids.getD r 0 < (ds.getD i dd0).vs.length then (ds.getD i dd0).vs.getD ((vs.getD i vc0).ids.getD r 0).toNat z3 else z3).k, .int .i64 (if 0 ≤ (vs.getD i vc0).ids.getD r 0 ∧ (vs.getD i vc0).ids.getD r 0 < (ds.getD i dd0).vs.length then (ds.getD i dd0).vs.getD ((vs.getD i vc0).ids.getD r 0).toNat z3 else z3).n, .string (if 0 ≤ (vs.getD i vc0).ids.getD r 0 ∧ (vs.getD i vc0).ids.getD r 0 < (ds.getD i dd0).vs.length then (ds.getD i dd0).vs.getD ((vs.getD i vc0).ids.getD r 0).toNat z3 else z3).s]) (by repeat constructor) rfl) rfl) ?_
                    refine vd_val rfl rfl rfl (.some rfl) (val_indexAddrA Try.runUnderlying53 Try.sizeOf62 rfl rfl (by omega) (by omega)) ?_
                    refine vd_op rfl rfl ?_
                    refine vl_storeX (vs' := flat (ρ.set i (if 0 ≤ (vs.getD i vc0).ids.getD r 0 ∧ (vs.getD i vc0).ids.getD r 0 < (ds.getD i dd0).vs.length then (ds.getD i dd0).vs.getD ((vs.getD i vc0).ids.getD r 0).toNat z3 else z3))) rfl rfl .none rfl rfl Try.sizeOf62 rfl (by simp [Value.cells]) (laid_val (x := (if 0 ≤ (vs.getD i vc0).ids.getD r 0 ∧ (vs.getD i vc0).ids.getD r 0 < (ds.getD i dd0).vs.length then (ds.getD i dd0).vs.getD ((vs.getD i vc0).ids.getD r 0).toNat z3 else z3)) (by rw [hst.1]; show i < (vs.map vcP).length; omega)) (by rw [vflat_len, Int.toNat_natCast, hst.1]; show i * 3 + 3 ≤ (vs.map vcP).length * 3; omega) (by repeat constructor) ?_
                    rw [hve]
                    refine vl_nil ?_
                    refine ⟨fun h => (by cases h), ?_⟩
                    refine vd_nil ?_
                    refine vc_region ?_
                    refine vl_val rfl (.some rfl) (val_add rfl rfl (by first | exact w_i64 (by omega) (by omega) | rfl)) ?_
                    refine vl_val rfl (.some rfl) (val_move rfl) ?_
                    refine vl_nil ?_
                    first
                      | exact ⟨ds.length - (i + 1), _, _, _, by omega, (by repeat (first | exact trivial | refine ⟨rfl, ?_⟩ | refine ⟨le_item rfl (by first | rfl | (congr 1; omega) | (simp; done) | (simp; omega)), ?_⟩)), (by repeat constructor), ⟨i + 1, ρ, by omega, rfl, rowSt_null hst hnu, rfl, rfl⟩⟩
                      | exact ⟨ds.length - (i + 1), _, _, _, by omega, (by repeat (first | exact trivial | refine ⟨rfl, ?_⟩ | refine ⟨le_item rfl (by first | rfl | (congr 1; omega) | (simp; done) | (simp; omega)), ?_⟩)), (by repeat constructor), ⟨i + 1, ρ.set i _, by omega, rfl, hst2, rfl, rfl⟩⟩
        · (try replace hc2 := of_decide_eq_false hc2)
          obtain rfl : i = ds.length := by omega
          rw [flat_set_rowV (ρ := List.replicate ds.length z3) (ρ2 := ρ) (by rw [List.length_replicate, hst.1]; show _ = (vs.map vcP).length; omega)]
          have hρl : ρ.length = ds.length := by rw [hst.1]; show (vs.map vcP).length = _; omega
          refine vc_close1 rwH (x := (some ⟨r39, 0, none⟩, ds.length, ρ)) (show r < rs.length by omega) (c0 := sl (some ⟨r39, 0, none⟩) ds.length ds.length 62 3 (flat ρ)) (by show [DS _ _ ρ] = _; unfold DS; rw [hρl]) (by repeat (first | exact .head | apply Take.tail)) (by repeat (first | exact .head | apply Take.tail)) ?_
          refine vc_exit ?_
          refine vc_region ?_
          refine vl_val rfl (.some rfl) (val_add rfl rfl (by first | exact w_i64 (by omega) (by omega) | rfl)) ?_
          refine vl_val rfl (.some rfl) (val_move rfl) ?_
          refine vl_nil ?_
          exact ⟨N - (r + 1), _, _, _, by omega, (by repeat (first | exact trivial | refine ⟨rfl, ?_⟩ | refine ⟨le_item rfl (by first | rfl | (congr 1; omega) | (simp; done) | (simp; omega)), ?_⟩)), (by repeat constructor), ⟨r + 1, rs.set r (some ⟨r39, 0, none⟩, ds.length, ρ), by omega, rfl, by rw [List.length_set, hrl], rowsSt_step hrs0 (by omega) (by have h := hst; rw [show ds.length = (⟨(N : Int), vs.map vcP, zs⟩ : Sg).cs.length from (by show ds.length = (vs.map vcP).length; omega)] at h; exact h), rfl, rfl⟩⟩
      · (try replace hc1 := of_decide_eq_false hc1)
        have hrN : r = N := by omega
        subst hrN
        subst hrl
        refine vc_exit ?_
        refine vc_seq ?_
        refine vc_region ?_
        refine vl_val rfl (.some rfl) (val_move rfl) ?_
        refine vl_val rfl (.some rfl) (val_assign rfl) ?_
        refine vl_val rfl (.some rfl) (val_assign rfl) ?_
        refine vl_nil ?_
        refine vc_ret ?_
        refine ⟨_, [DB ds, sl (some ⟨r29, 0, none⟩) rs.length rs.length 53 1 (rs.flatMap rowV), big (rs.flatMap rwH)], _, res2 Try.results12 rfl rfl, (by repeat constructor), ?_⟩
        exact ⟨_, _, rs, _, rfl, rfl, rowsSt_end hgd (by show (ds.map (·.vs)).length = (vs.map vcP).length; omega) (by show rs.length = Int.toNat ((rs.length : Nat) : Int); omega) hrs0⟩


end Go.Proofs.Ytdehjgpdcdjhjaa.K
