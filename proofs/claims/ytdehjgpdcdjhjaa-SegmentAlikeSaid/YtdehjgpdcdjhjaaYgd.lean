/- Walks of the program's functions, printed by a program of this session; Lean checks them. -/
import Derived.Test.YtdehjgpdcdjhjaaMq
import Derived.Test.YtdehjgpdcdjhjaaYga
namespace Go.Proofs.Ytdehjgpdcdjhjaa.K
open Go Go.RowKit Go.Proofs
set_option linter.unusedVariables false
set_option linter.unusedSimpArgs false

/-! ### Segments, as data -/
structure Zn where
  n : Int
  lo : Vk
  hi : Vk
  deriving DecidableEq
abbrev zn0 : Zn := ⟨0, z3, z3⟩
structure Co where
  z : Zn
  nu : List Bool
  ids : List Int
  deriving DecidableEq
abbrev co0 : Co := ⟨zn0, [], []⟩
structure Sg where
  n : Int
  cs : List (List Bool × List Int)
  zs : List Zn
  deriving DecidableEq
abbrev sg0 : Sg := ⟨0, [], []⟩
abbrev Rws := List (List Vk)
def takeZ (z : Zn) (v : Vk) : Zn := if v.k = 0 then ⟨z.n + 1, z.lo, z.hi⟩ else ⟨z.n, if z.lo.k = 0 ∨ cmpV v z.lo < 0 then v else z.lo, if z.hi.k = 0 ∨ 0 < cmpV v z.hi then v else z.hi⟩
def takeC (kd : Int) (c : Co × List Vk) (v : Vk) : Co × List Vk := if v.k = 0 then (⟨takeZ c.1.z v, c.1.nu ++ [true], c.1.ids ++ [0]⟩, c.2) else (⟨takeZ c.1.z v, c.1.nu ++ [false], c.1.ids ++ [(dadd kd c.2 v).1.1]⟩, (dadd kd c.2 v).2)
def colF (kd : Int) (D : List Vk) (vs : List Vk) : Co × List Vk := vs.foldl (takeC kd) (co0, D)
theorem colF_nil (kd : Int) (D : List Vk) : colF kd D [] = (co0, D) := rfl
theorem colF_snoc (kd : Int) (D vs : List Vk) (v : Vk) : colF kd D (vs ++ [v]) = takeC kd (colF kd D vs) v := by unfold colF; rw [List.foldl_append]; rfl
def colR (rows : Rws) (i : Nat) : List Vk := rows.map fun r => r.getD i z3
theorem colR_len (rows : Rws) (i : Nat) : (colR rows i).length = rows.length := List.length_map _
theorem colR_at {rows : Rws} {i r : Nat} (h : r < rows.length) : (colR rows i).getD r z3 = (rows.getD r []).getD i z3 := by
  unfold colR
  simp [List.getD, List.getElem?_map, List.getElem?_eq_getElem h]
theorem colR_take {rows : Rws} {i r : Nat} (h : r < rows.length) : (colR rows i).take (r + 1) = (colR rows i).take r ++ [(rows.getD r []).getD i z3] := by
  rw [← colR_at h]
  exact take_snoc (us := colR rows i) (by rw [colR_len]; exact h) rfl
theorem takeC_len (kd : Int) (c : Co × List Vk) (v : Vk) : (takeC kd c v).1.nu.length = c.1.nu.length + 1 ∧ (takeC kd c v).1.ids.length = c.1.ids.length + 1 := by
  unfold takeC; split <;> simp
theorem foldC_len (kd : Int) : ∀ (vs : List Vk) (c : Co × List Vk), (vs.foldl (takeC kd) c).1.nu.length = c.1.nu.length + vs.length ∧ (vs.foldl (takeC kd) c).1.ids.length = c.1.ids.length + vs.length
  | [], c => ⟨rfl, rfl⟩
  | v :: vs, c => by
    have h := foldC_len kd vs (takeC kd c v)
    have h2 := takeC_len kd c v
    rw [List.foldl_cons, List.length_cons]; omega
theorem colF_len (kd : Int) (D vs : List Vk) : (colF kd D vs).1.nu.length = vs.length ∧ (colF kd D vs).1.ids.length = vs.length := by
  have := foldC_len kd vs (co0, D)
  unfold colF
  simp at this
  exact this
theorem takeC_n (kd : Int) (c : Co × List Vk) (v : Vk) : c.1.z.n ≤ (takeC kd c v).1.z.n ∧ (takeC kd c v).1.z.n ≤ c.1.z.n + 1 := by
  unfold takeC takeZ
  split <;> (simp <;> omega)
theorem foldC_n (kd : Int) : ∀ (vs : List Vk) (c : Co × List Vk), c.1.z.n ≤ (vs.foldl (takeC kd) c).1.z.n ∧ (vs.foldl (takeC kd) c).1.z.n ≤ c.1.z.n + vs.length
  | [], c => ⟨Int.le_refl _, by simp⟩
  | v :: vs, c => by
    have h := foldC_n kd vs (takeC kd c v)
    have h2 := takeC_n kd c v
    rw [List.foldl_cons, List.length_cons]; omega
theorem colF_n (kd : Int) (D vs : List Vk) : 0 ≤ (colF kd D vs).1.z.n ∧ (colF kd D vs).1.z.n ≤ vs.length := by
  have := foldC_n kd vs (co0, D)
  unfold colF
  simpa using this
abbrev okK (k : Int) : Prop := 1 ≤ k ∧ k ≤ 4
def fitsB (p : Vk) (kd : Int) : Bool := goodV p && (decide (p.k = kd) || decide (p.k = 0))
def rowBad (ks : List Int) (r : List Vk) : Prop := r.length ≠ ks.length ∨ ∃ i, i < ks.length ∧ fitsB (r.getD i z3) (ks.getD i 0) = false
instance (ks : List Int) (r : List Vk) : Decidable (rowBad ks r) := by unfold rowBad; infer_instance
def mayE (ks : List Int) (Ds : List (List Vk)) (rows : Rws) : Int :=
  if ks.length < 1 ∨ 8 < ks.length ∨ rows.length < 1 ∨ 1000 < rows.length then 2
  else if ∃ i, i < ks.length ∧ ¬ okK (ks.getD i 0) then 2
  else if ∃ i, i < rows.length ∧ rowBad ks (rows.getD i []) then 17
  else if ∃ i, i < ks.length ∧ roomT (ks.getD i 0) (Ds.getD i []) (colR rows i) = false then 7 else 0
section
variable {ks : List Int} {Ds : List (List Vk)} {rows : Rws}
theorem mayE_arg (h : ks.length < 1 ∨ 8 < ks.length ∨ rows.length < 1 ∨ 1000 < rows.length) : mayE ks Ds rows = 2 := by unfold mayE; rw [if_pos h]
theorem mayE_kind {i : Nat} (h : i < ks.length) (hk : ¬ okK (ks.getD i 0)) : mayE ks Ds rows = 2 := by
  unfold mayE
  split
  · rfl
  · rw [if_pos ⟨i, h, hk⟩]
theorem mayE_sch {i : Nat} (h0 : ¬ (ks.length < 1 ∨ 8 < ks.length ∨ rows.length < 1 ∨ 1000 < rows.length)) (h1 : ∀ i, i < ks.length → okK (ks.getD i 0)) (h : i < rows.length) (hb : rowBad ks (rows.getD i [])) : mayE ks Ds rows = 17 := by
  unfold mayE
  rw [if_neg h0, if_neg (fun ⟨i, h, hk⟩ => hk (h1 i h)), if_pos ⟨i, h, hb⟩]
theorem mayE_full {i : Nat} (h0 : ¬ (ks.length < 1 ∨ 8 < ks.length ∨ rows.length < 1 ∨ 1000 < rows.length)) (h1 : ∀ i, i < ks.length → okK (ks.getD i 0)) (h2 : ∀ i, i < rows.length → ¬ rowBad ks (rows.getD i [])) (h : i < ks.length) (hb : roomT (ks.getD i 0) (Ds.getD i []) (colR rows i) = false) : mayE ks Ds rows = 7 := by
  unfold mayE
  rw [if_neg h0, if_neg (fun ⟨i, h, hk⟩ => hk (h1 i h)), if_neg (fun ⟨i, h, hb⟩ => h2 i h hb), if_pos ⟨i, h, hb⟩]
theorem mayE_ok (h0 : ¬ (ks.length < 1 ∨ 8 < ks.length ∨ rows.length < 1 ∨ 1000 < rows.length)) (h1 : ∀ i, i < ks.length → okK (ks.getD i 0)) (h2 : ∀ i, i < rows.length → ¬ rowBad ks (rows.getD i [])) (h3 : ∀ i, i < ks.length → roomT (ks.getD i 0) (Ds.getD i []) (colR rows i) ≠ false) : mayE ks Ds rows = 0 := by
  unfold mayE
  rw [if_neg h0, if_neg (fun ⟨i, h, hk⟩ => hk (h1 i h)), if_neg (fun ⟨i, h, hb⟩ => h2 i h hb), if_neg (fun ⟨i, h, hb⟩ => h3 i h hb)]
theorem mayE_zero (h : mayE ks Ds rows = 0) : (1 ≤ ks.length ∧ ks.length ≤ 8 ∧ 1 ≤ rows.length ∧ rows.length ≤ 1000) ∧ (∀ i, i < ks.length → okK (ks.getD i 0)) ∧ (∀ i, i < rows.length → ¬ rowBad ks (rows.getD i [])) := by
  unfold mayE at h
  split at h
  · cases h
  · rename_i h0
    split at h
    · cases h
    · rename_i h1
      split at h
      · cases h
      · rename_i h2
        exact ⟨by omega, fun i hi => Decidable.byContradiction fun hk => h1 ⟨i, hi, hk⟩, fun i hi hb => h2 ⟨i, hi, hb⟩⟩
end
def colsP (ks : List Int) (Ds : List (List Vk)) (rows : Rws) : List (Co × List Vk) := (List.range ks.length).map fun i => colF (ks.getD i 0) (Ds.getD i []) (colR rows i)
def makeP (ks : List Int) (Ds : List (List Vk)) (rows : Rws) : (Int × Sg) × List (List Vk) := if mayE ks Ds rows ≠ 0 then ((mayE ks Ds rows, sg0), Ds) else ((0, ⟨rows.length, (colsP ks Ds rows).map fun c => (c.1.nu, c.1.ids), (colsP ks Ds rows).map (·.1.z)⟩), (colsP ks Ds rows).map (·.2))
/-! ### Segments, as they lie in memory -/
abbrev znC (z : Zn) : List Value := [.int .i64 z.n, .int .i64 z.lo.k, .int .i64 z.lo.n, .string z.lo.s, .int .i64 z.hi.k, .int .i64 z.hi.n, .string z.hi.s]
structure Vc where
  A : Option Addr
  c : Nat
  nu : List Bool
  B : Option Addr
  d : Nat
  ids : List Int
abbrev vc0 : Vc := ⟨none, 0, [], none, 0, []⟩
abbrev vcC (v : Vc) : List Value := [.slice v.A v.nu.length v.c, .slice v.B v.ids.length v.d]
abbrev BL (A : Option Addr) (n c : Nat) (l : List Bool) : Chunk := sl A n c 4 1 (tcells l)
abbrev IL (A : Option Addr) (n c : Nat) (l : List Int) : Chunk := sl A n c 3 1 (icells .i64 l)
abbrev vcH (v : Vc) : List Chunk := [BL v.A v.nu.length v.c v.nu, IL v.B v.ids.length v.d v.ids]
abbrev vcP (v : Vc) : List Bool × List Int := (v.nu, v.ids)
structure Ty where
  z : Zn
  v : Vc
abbrev ty0 : Ty := ⟨zn0, vc0⟩
abbrev tyC (t : Ty) : List Value := znC t.z ++ vcC t.v
abbrev tyH (t : Ty) : List Chunk := vcH t.v
abbrev coOf (t : Ty) : Co := ⟨t.z, t.v.nu, t.v.ids⟩
/-- A dictionary of the program's, and the pointer to it; of a kind that is none there is none. -/
structure Dd where
  r : Nat
  m : Nat
  kd : Int
  A : Option Addr
  c : Nat
  vs : List Vk
abbrev dd0 : Dd := ⟨0, 0, 0, none, 0, []⟩
def ddH (d : Dd) : List Chunk := if okK d.kd then DH d.r d.m d.kd d.A d.c d.vs else []
def ddP (d : Dd) : Value := .pointer (if okK d.kd then some ⟨d.r, 0, none⟩ else none)
theorem ddH_ok {d : Dd} (h : okK d.kd) : ddH d = DH d.r d.m d.kd d.A d.c d.vs := if_pos h
theorem ddP_ok {d : Dd} (h : okK d.kd) : ddP d = .pointer (some ⟨d.r, 0, none⟩) := by unfold ddP; rw [if_pos h]
theorem ddP_no {d : Dd} (h : ¬ okK d.kd) : ddP d = .pointer none := by unfold ddP; rw [if_neg h]
abbrev DB (ds : List Dd) : Chunk := big (ds.flatMap ddH)
/-- The reference's. -/
structure Xd where
  r : Nat
  kd : Int
  A : Option Addr
  c : Nat
  vs : List Vk
def xdH (d : Xd) : List Chunk := if okK d.kd then [RC d.r d.kd d.A d.vs.length d.c, DS d.A d.c d.vs] else []
def xdP (d : Xd) : Value := .pointer (if okK d.kd then some ⟨d.r, 0, none⟩ else none)
theorem xdH_ok {d : Xd} (h : okK d.kd) : xdH d = [RC d.r d.kd d.A d.vs.length d.c, DS d.A d.c d.vs] := if_pos h
theorem xdP_ok {d : Xd} (h : okK d.kd) : xdP d = .pointer (some ⟨d.r, 0, none⟩) := by unfold xdP; rw [if_pos h]
theorem xdP_no {d : Xd} (h : ¬ okK d.kd) : xdP d = .pointer none := by unfold xdP; rw [if_neg h]
abbrev XB (ds : List Xd) : Chunk := big (ds.flatMap xdH)
theorem ReadsM.less {w : World} {M M' : List Nat} {A : Option Addr} {vs : List Value} (h : ReadsM w M A vs) (hs : ∀ b ∈ M', b ∈ M) : ReadsM w M' A vs := fun j u hu => by
  obtain ⟨x, hx, hb, hc⟩ := h j u hu
  exact ⟨x, hx, fun hm => hb (hs _ hm), hc⟩
theorem fps_big (l : List Chunk) : fps [big l] = fps l := by show fps l ++ [] = _; rw [List.append_nil]
theorem fps_in {α : Type} {f : α → List Chunk} {l : List α} {i : Nat} (d : α) (h : i < l.length) {C : List Chunk} (hC : ∀ c ∈ C, c ∈ f (l.getD i d)) : ∀ b ∈ fps C, b ∈ fps [big (l.flatMap f)] := fun b hb => by
  rw [fps_big]
  obtain ⟨c, hc, hb⟩ := List.mem_flatMap.1 hb
  have e : l.getD i d ∈ l := by simp [List.getD, List.getElem?_eq_getElem h]
  exact List.mem_flatMap.2 ⟨c, List.mem_flatMap.2 ⟨_, e, hC c hc⟩, hb⟩

set_option maxRecDepth 20000 in
theorem dMade0 (w : World) : FnV Try.prog 40 [.pointer none] (.bool false) w := by
  refine fn_enter Try.func40 rfl Try.ntmps40 rfl ?_
  refine vc_seq ?_
  refine vc_region ?_
  refine vl_val rfl (.some rfl) (val_assign rfl) ?_
  refine vl_nil ?_
  refine vc_seq ?_
  refine vc_region ?_
  refine vl_val rfl (.some rfl) (val_move rfl) ?_
  refine vl_val rfl (.some rfl) (val_opO rfl rfl guard_ptr (bin_nil_ne Try.runUnderlying51)) ?_
  refine vl_val rfl (.some rfl) (val_move rfl) ?_
  refine vl_off rfl rfl rfl rfl (.some rfl) ?_
  refine vl_off rfl rfl rfl rfl (.some rfl) ?_
  refine vl_off rfl rfl rfl rfl (.some rfl) ?_
  refine vl_off rfl rfl rfl rfl (.some rfl) ?_
  refine vl_off rfl rfl rfl rfl (.some rfl) ?_
  refine vl_val rfl (.some rfl) (val_pick rfl rfl) ?_
  refine vl_val rfl (.some rfl) (val_assign rfl) ?_
  refine vl_nil ?_
  refine vc_ret ?_
  refine ⟨_, [], _, res1 Try.results40 rfl, .nil, ?_⟩
  rfl
set_option maxRecDepth 20000 in
theorem dKind0 (w : World) : FnV Try.prog 36 [.pointer none] (.int .i64 0) w := by
  refine fn_enter Try.func36 rfl Try.ntmps36 rfl ?_
  refine vc_seq ?_
  refine vc_region ?_
  refine vl_val rfl (.some rfl) (val_assign rfl) ?_
  refine vl_nil ?_
  refine vc_seq ?_
  refine vc_seq ?_
  refine vc_region ?_
  refine vl_val rfl (.some rfl) (val_move rfl) ?_
  refine vl_callV rfl rfl (.some rfl) Try.call40 rfl (fun w hw => dMade0 w) ?_
  refine vl_val rfl (.some rfl) (val_not rfl) ?_
  refine vl_nil ?_
  refine vc_cond rfl (fun hc0 => ?_) (fun hc0 => False.elim (by (try replace hc0 := of_decide_eq_false hc0); cases hc0))
  (try replace hc0 := of_decide_eq_true hc0)
  refine vc_seq ?_
  refine vc_region ?_
  refine vl_val rfl (.some rfl) (val_assign rfl) ?_
  refine vl_nil ?_
  refine vc_ret ?_
  refine ⟨_, [], _, res1 Try.results36 rfl, .nil, ?_⟩
  rfl
set_option maxRecDepth 20000 in
theorem vFits (p : Vk) (kd : Int) (hk : okK kd) (w : World) : FnV Try.prog 57 [vk p, .int .i64 kd] (.bool (fitsB p kd)) w := by
  obtain ⟨hk1, hk2⟩ := hk
  refine fn_enter Try.func57 rfl Try.ntmps57 rfl ?_
  refine vc_seq ?_
  refine vc_region ?_
  refine vl_box rfl rfl (.some rfl) rfl (fun r2 => ?_)
  refine vl_val rfl (.some rfl) (val_assign rfl) ?_
  refine vl_nil ?_
  refine vc_seq ?_
  refine vc_seq ?_
  refine vc_region ?_
  refine vl_val rfl (.some rfl) (val_move rfl) ?_
  refine vl_val rfl (.some rfl) (val_lt rfl rfl) ?_
  refine vl_val rfl (.some rfl) (val_move rfl) ?_
  refine vl_split (t := 7) rfl (fun hg7 => ?_) (fun hg7 => ?_)
  · (try replace hg7 := of_decide_eq_true hg7)
    refine vl_off rfl rfl rfl rfl (.some rfl) ?_
    refine vl_off rfl rfl rfl rfl (.some rfl) ?_
    refine vl_val rfl (.some rfl) (val_pick rfl rfl) ?_
    refine vl_nil ?_
    refine vc_cond rfl (fun _ => ?_) (fun h => by cases h)
    refine vc_seq ?_
    refine vc_region ?_
    refine vl_val rfl (.some rfl) (val_assign rfl) ?_
    refine vl_nil ?_
    refine vc_ret ?_
    refine ⟨_, [], _, res1 Try.results57 rfl, .nil, ?_⟩
    show _ = _
    first | (exfalso; omega) | (unfold fitsB; simp_all; done) | (unfold fitsB; simp_all <;> omega)
  · (try replace hg7 := of_decide_eq_false hg7)
    refine vl_on rfl rfl rfl rfl ?_
    refine vl_val rfl (.some rfl) (val_move rfl) ?_
    refine vl_on rfl rfl rfl rfl ?_
    refine vl_val rfl (.some rfl) (val_gt rfl rfl) ?_
    refine vl_val rfl (.some rfl) (val_pick rfl rfl) ?_
    refine vl_nil ?_
    refine vc_cond rfl (fun hc0 => ?_) (fun hc0 => ?_)
    · (try replace hc0 := of_decide_eq_true hc0)
      refine vc_seq ?_
      refine vc_region ?_
      refine vl_val rfl (.some rfl) (val_assign rfl) ?_
      refine vl_nil ?_
      refine vc_ret ?_
      refine ⟨_, [], _, res1 Try.results57 rfl, .nil, ?_⟩
      show _ = _
      first | (exfalso; omega) | (unfold fitsB; simp_all; done) | (unfold fitsB; simp_all <;> omega)
    · (try replace hc0 := of_decide_eq_false hc0)
      refine vc_skip ?_
      refine vc_seq ?_
      refine vc_region ?_
      refine vl_val rfl (.some rfl) (val_loadAgg Try.isAgg62 Try.sizeOf62 rfl (by first | exact cells_whole (by repeat constructor) | exact cells_part (by repeat constructor) rfl) rfl) ?_
      refine vl_callV rfl rfl (.some rfl) Try.call76 rfl (fun w hw => vGood _ w) ?_
      refine vl_val rfl (.some rfl) (val_move rfl) ?_
      refine vl_split (t := 13) rfl (fun hg13 => ?_) (fun hg13 => ?_)
      · (try replace hg13 := of_decide_eq_true hg13)
        refine vl_on rfl rfl rfl rfl ?_
        refine vl_val rfl (.some rfl) (by first | exact val_fieldAddr Try.runUnderlying62 rfl Try.sizeOf3 rfl | exact val_fieldAddrR Try.runUnderlying62 rfl Try.sizeOf3 rfl) ?_
        refine vl_on rfl rfl rfl rfl ?_
        refine vl_val rfl (.some rfl) (val_load Try.isAgg3 rfl (by first | exact cell_cells (by repeat constructor) rfl | exact cell_rd (by first | exact rd_sl (by repeat constructor) | exact rd_old (by assumption) rfl) (by first | exact bcells_at (by omega) | exact ucells_at (by omega) | exact icells_at (by omega) | exact tcells_at (by omega) | exact bcells_get (by omega) | exact icells_get (by omega) | exact tcells_get (by omega) | exact ucells_get (by omega)) | exact cell_old (by assumption) (by simp [fps]))) ?_
        refine vl_on rfl rfl rfl rfl ?_
        refine vl_val rfl (.some rfl) (val_move rfl) ?_
        refine vl_on rfl rfl rfl rfl ?_
        refine vl_val rfl (.some rfl) (val_eq rfl rfl) ?_
        refine vl_on rfl rfl rfl rfl ?_
        refine vl_val rfl (.some rfl) (val_move rfl) ?_
        refine vl_split (t := 18) rfl (fun hg18 => ?_) (fun hg18 => ?_)
        · (try replace hg18 := of_decide_eq_true hg18)
          refine vl_off rfl rfl rfl rfl (.some rfl) ?_
          refine vl_off rfl rfl rfl rfl (.some rfl) ?_
          refine vl_off rfl rfl rfl rfl (.some rfl) ?_
          refine vl_on rfl rfl rfl rfl ?_
          refine vl_val rfl (.some rfl) (val_pick rfl rfl) ?_
          refine vl_val rfl (.some rfl) (val_pick rfl rfl) ?_
          refine vl_val rfl (.some rfl) (val_assign rfl) ?_
          refine vl_nil ?_
          refine vc_ret ?_
          refine ⟨_, [], _, res1 Try.results57 rfl, .nil, ?_⟩
          show _ = _
          first | (exfalso; omega) | (unfold fitsB; simp_all; done) | (unfold fitsB; simp_all <;> omega)
        · (try replace hg18 := of_decide_eq_false hg18)
          refine vl_on rfl rfl rfl rfl ?_
          refine vl_val rfl (.some rfl) (by first | exact val_fieldAddr Try.runUnderlying62 rfl Try.sizeOf3 rfl | exact val_fieldAddrR Try.runUnderlying62 rfl Try.sizeOf3 rfl) ?_
          refine vl_on rfl rfl rfl rfl ?_
          refine vl_val rfl (.some rfl) (val_load Try.isAgg3 rfl (by first | exact cell_cells (by repeat constructor) rfl | exact cell_rd (by first | exact rd_sl (by repeat constructor) | exact rd_old (by assumption) rfl) (by first | exact bcells_at (by omega) | exact ucells_at (by omega) | exact icells_at (by omega) | exact tcells_at (by omega) | exact bcells_get (by omega) | exact icells_get (by omega) | exact tcells_get (by omega) | exact ucells_get (by omega)) | exact cell_old (by assumption) (by simp [fps]))) ?_
          refine vl_on rfl rfl rfl rfl ?_
          refine vl_val rfl (.some rfl) (val_eq rfl rfl) ?_
          refine vl_on rfl rfl rfl rfl ?_
          refine vl_val rfl (.some rfl) (val_pick rfl rfl) ?_
          refine vl_val rfl (.some rfl) (val_pick rfl rfl) ?_
          refine vl_val rfl (.some rfl) (val_assign rfl) ?_
          refine vl_nil ?_
          refine vc_ret ?_
          refine ⟨_, [], _, res1 Try.results57 rfl, .nil, ?_⟩
          show _ = _
          first | (exfalso; omega) | (unfold fitsB; simp_all; done) | (unfold fitsB; simp_all <;> omega)
      · (try replace hg13 := of_decide_eq_false hg13)
        refine vl_off rfl rfl rfl rfl (.some rfl) ?_
        refine vl_off rfl rfl rfl rfl (.some rfl) ?_
        refine vl_off rfl rfl rfl rfl (.some rfl) ?_
        refine vl_off rfl rfl rfl rfl (.some rfl) ?_
        refine vl_off rfl rfl rfl rfl (.some rfl) ?_
        refine vl_offU rfl rfl rfl rfl (.some rfl) ?_
        refine vl_offU rfl rfl rfl rfl (.some rfl) ?_
        refine vl_offU rfl rfl rfl rfl (.some rfl) ?_
        refine vl_off rfl rfl rfl rfl (.some rfl) ?_
        refine vl_val rfl (.some rfl) (val_pick rfl rfl) ?_
        refine vl_val rfl (.some rfl) (val_assign rfl) ?_
        refine vl_nil ?_
        refine vc_ret ?_
        refine ⟨_, [], _, res1 Try.results57 rfl, .nil, ?_⟩
        show _ = _
        first | (exfalso; omega) | (unfold fitsB; simp_all; done) | (unfold fitsB; simp_all <;> omega)
theorem dbKind {ds : List Dd} {i : Nat} (hi : i < ds.length) (hk : okK (ds.getD i dd0).kd) (w : World) : FnR Try.prog 36 [ddP (ds.getD i dd0)] [DB ds] (.int .i64 (ds.getD i dd0).kd) w := by
  rw [ddP_ok hk]
  exact FnR.inBig ddH dd0 hi (R0 := [DM _ _, DS _ _ _]) (by rw [ddH_ok hk]; exact .refl _) (dKind _ _ _ _ _ _ w)
theorem dbLen {ds : List Dd} {i : Nat} (hi : i < ds.length) (hk : okK (ds.getD i dd0).kd) (w : World) : FnR Try.prog 15 [ddP (ds.getD i dd0)] [DB ds] (.int .i64 (ds.getD i dd0).vs.length) w := by
  rw [ddP_ok hk]
  exact FnR.inBig ddH dd0 hi (R0 := [DM _ _, DS _ _ _]) (by rw [ddH_ok hk]; exact .refl _) (dLen _ _ _ _ _ _ w)
theorem dbRoom {ds : List Dd} {i : Nat} (hi : i < ds.length) (hk : okK (ds.getD i dd0).kd) (hl : (ds.getD i dd0).vs.length ≤ 512) (L : Option Addr) (cl : Nat) (us : List Vk) (hus : us.length ≤ 4611686018427387904) (w : World) (hL : ReadsM w (fps [DB ds]) L (flat us)) : FnR Try.prog 58 [ddP (ds.getD i dd0), .slice L us.length cl] [DB ds] (.bool (roomT (ds.getD i dd0).kd (ds.getD i dd0).vs us)) w := by
  rw [ddP_ok hk]
  refine FnR.inBig ddH dd0 hi (R0 := [DS _ _ _]) (by rw [ddH_ok hk]; exact .refl _) (dRoomT _ _ _ _ _ _ hl L cl us hus w (hL.less ?_))
  exact fps_in dd0 hi (by rw [ddH_ok hk]; intro c hc; simp only [List.mem_cons, List.not_mem_nil, or_false] at hc ⊢; rcases hc with rfl | rfl <;> simp)
theorem dbAdd {ds : List Dd} {i : Nat} (hi : i < ds.length) (hk : okK (ds.getD i dd0).kd) (p : Vk) (w : World) : Fn Try.prog 41 [ddP (ds.getD i dd0), vk p] [DB ds] (ret fun v H' => ∃ d, (v = .tuple #[.int .i64 (dadd (ds.getD i dd0).kd (ds.getD i dd0).vs p).1.1, .int .i64 (dadd (ds.getD i dd0).kd (ds.getD i dd0).vs p).1.2] ∧ (d.r = (ds.getD i dd0).r ∧ d.m = (ds.getD i dd0).m ∧ d.kd = (ds.getD i dd0).kd) ∧ d.vs = (dadd (ds.getD i dd0).kd (ds.getD i dd0).vs p).2) ∧ H' = [DB (ds.set i d)]) w := by
  rw [ddP_ok hk]
  refine Fn.inBig ddH dd0 hi ?_
  rw [ddH_ok hk]
  refine (dAdd (ds.getD i dd0).r (ds.getD i dd0).m (ds.getD i dd0).kd (ds.getD i dd0).A (ds.getD i dd0).c (ds.getD i dd0).vs p w).out fun v H ⟨A', c', e1, e2⟩ => ?_
  refine ⟨H, [], by rw [List.append_nil]; exact Eqv.refl _, ⟨(ds.getD i dd0).r, (ds.getD i dd0).m, (ds.getD i dd0).kd, A', c', _⟩, ⟨e1, ⟨rfl, rfl, rfl⟩, rfl⟩, ?_⟩
  rw [ddH_ok (by exact hk)]
  exact e2


set_option maxRecDepth 20000 in
theorem sT22 : SlT Try.prog 22 3 1 8 (.int .i64 0) := ⟨Try.underlying22, ⟨Try.t3, Try.type3, rfl, rfl, rfl⟩, rfl, Nat.lt_of_sub_eq_succ rfl⟩
set_option maxRecDepth 20000 in
theorem sT79 : SlT Try.prog 79 4 1 1 (.bool false) := ⟨Try.underlying79, ⟨Try.t4, Try.type4, rfl, rfl, rfl⟩, rfl, Nat.lt_of_sub_eq_succ rfl⟩

theorem le3 {P X Q us : List Value} {k : Nat} (j : Nat) (hP : P.length = k) (hj : j + us.length ≤ X.length) : k + j + us.length ≤ (P ++ (X ++ Q)).length := by
  rw [List.length_append, List.length_append]; omega
/-- The dictionaries, but that the one at i now has the values D. -/
def updD (ds : List Dd) (i : Nat) (D : List Vk) (ds2 : List Dd) : Prop := ds2.length = ds.length ∧ (∀ j, j ≠ i → ds2.getD j dd0 = ds.getD j dd0) ∧ ((ds2.getD i dd0).r = (ds.getD i dd0).r ∧ (ds2.getD i dd0).m = (ds.getD i dd0).m ∧ (ds2.getD i dd0).kd = (ds.getD i dd0).kd) ∧ (ds2.getD i dd0).vs = D
theorem updD_same (ds : List Dd) (i : Nat) : updD ds i (ds.getD i dd0).vs ds := ⟨rfl, fun _ _ => rfl, ⟨rfl, rfl, rfl⟩, rfl⟩
theorem updD_set {ds : List Dd} {i : Nat} {D : List Vk} {d : Dd} (hi : i < ds.length) (h1 : d.r = (ds.getD i dd0).r ∧ d.m = (ds.getD i dd0).m ∧ d.kd = (ds.getD i dd0).kd) (h2 : d.vs = D) : updD ds i D (ds.set i d) := by
  have e : (ds.set i d).getD i dd0 = d := by simp [List.getD, List.getElem?_set_self hi]
  refine ⟨List.length_set, fun j hj => ?_, ?_, ?_⟩
  · simp [List.getD, List.getElem?_set_ne (Ne.symm hj)]
  · rw [e]; exact h1
  · rw [e]; exact h2
def loT (z : Zn) (p : Vk) : Vk := if z.lo.k = 0 ∨ cmpV p z.lo < 0 then p else z.lo
def hiT (z : Zn) (p : Vk) : Vk := if z.hi.k = 0 ∨ 0 < cmpV p z.hi then p else z.hi
theorem tz0 {z : Zn} {p : Vk} (h : p.k = 0) : (⟨z.n + 1, z.lo, z.hi⟩ : Zn) = takeZ z p := by unfold takeZ; rw [if_pos h]
theorem tz1 {z : Zn} {p lo hi : Vk} (h : ¬ p.k = 0) (h1 : lo = loT z p) (h2 : hi = hiT z p) : (⟨z.n, lo, hi⟩ : Zn) = takeZ z p := by unfold takeZ; rw [if_neg h, h1, h2]; rfl
def idT (kd : Int) (D : List Vk) (p : Vk) : Int := if p.k = 0 then 0 else (dadd kd D p).1.1
theorem takeC_is (kd : Int) (c : Co × List Vk) (p : Vk) : takeC kd c p = (⟨takeZ c.1.z p, c.1.nu ++ [decide (p.k = 0)], c.1.ids ++ [idT kd c.2 p]⟩, if p.k = 0 then c.2 else (dadd kd c.2 p).2) := by
  unfold takeC idT
  by_cases h : p.k = 0
  · rw [if_pos h, if_pos h, if_pos h, decide_eq_true h]
  · rw [if_neg h, if_neg h, if_neg h, decide_eq_false h]

set_option maxRecDepth 20000 in
set_option maxHeartbeats 1000000 in
theorem gTake (A : Option Addr) (n c k : Nat) (P Q : List Value) (hP : P.length = k) (z : Zn) (v : Vc) (hz : 0 ≤ z.n ∧ z.n ≤ 1000000) (hv1 : v.nu.length ≤ 1000000) (hv2 : v.ids.length ≤ 1000000) (p : Vk) (ds : List Dd) (i : Nat) (hi : i < ds.length) (hk : okK (ds.getD i dd0).kd) (w : World) : Fn Try.prog 27 [.pointer (some ((adr A).add k)), vk p, ddP (ds.getD i dd0)] [sl A n c 83 9 (P ++ ((znC (z) ++ vcC (v)) ++ Q)), BL v.A v.nu.length v.c v.nu, IL v.B v.ids.length v.d v.ids, DB ds] (ret fun u H' => ∃ (z2 : Zn) (v2 : Vc) (ds2 : List Dd), (⟨z2, v2.nu, v2.ids⟩ : Co) = (takeC (ds.getD i dd0).kd (⟨z, v.nu, v.ids⟩, (ds.getD i dd0).vs) p).1 ∧ updD ds i (takeC (ds.getD i dd0).kd (⟨z, v.nu, v.ids⟩, (ds.getD i dd0).vs) p).2 ds2 ∧ H' = [sl A n c 83 9 (P ++ ((znC (z2) ++ vcC (v2)) ++ Q)), BL v2.A v2.nu.length v2.c v2.nu, IL v2.B v2.ids.length v2.d v2.ids, DB ds2]) w := by
  refine fn_enter Try.func27 rfl Try.ntmps27 rfl ?_
  refine vc_seq ?_
  refine vc_region ?_
  refine vl_box rfl rfl (.some rfl) rfl (fun r4 => ?_)
  refine vl_nil ?_
  refine vc_seq ?_
  refine vc_region ?_
  refine vl_val rfl (.some rfl) (val_assign rfl) ?_
  refine vl_nil ?_
  refine vc_cut (fun E H => ∃ E0 H0 F, Env.le E0 E ∧ Sub H0 H F ∧ (fun E H => ∃ (z2 : Zn) (ds2 : List Dd), (z2 = takeZ z p ∧ updD ds i (if p.k = 0 then (ds.getD i dd0).vs else (dadd (ds.getD i dd0).kd (ds.getD i dd0).vs p).2) ds2) ∧ E = [(0, .pointer (some ((adr A).add k))), (4, .pointer (some ⟨r4, 0, none⟩)), (6, .int .i64 (idT (ds.getD i dd0).kd (ds.getD i dd0).vs p))] ∧ H = [cells r4 [.int .i64 p.k, .int .i64 p.n, .string p.s] 62, sl A n c 83 9 (P ++ ((znC (z2) ++ vcC (v)) ++ Q)), BL v.A v.nu.length v.c v.nu, IL v.B v.ids.length v.d v.ids, DB ds2]) E0 H0) ?_ (fun E H h => ?_)
  ·
    refine vc_seq ?_
    refine vc_region ?_
    refine vl_val rfl (.some rfl) (by first | exact val_fieldAddr Try.runUnderlying62 rfl Try.sizeOf3 rfl | exact val_fieldAddrR Try.runUnderlying62 rfl Try.sizeOf3 rfl) ?_
    refine vl_val rfl (.some rfl) (val_load Try.isAgg3 rfl (by first | exact cell_cells (by repeat constructor) rfl | exact cell_rd (by first | exact rd_sl (by repeat constructor) | exact rd_old (by assumption) rfl) (by first | exact bcells_at (by omega) | exact ucells_at (by omega) | exact icells_at (by omega) | exact tcells_at (by omega) | exact bcells_get (by omega) | exact icells_get (by omega) | exact tcells_get (by omega) | exact ucells_get (by omega)) | exact cell_old (by assumption) (by simp [fps]))) ?_
    refine vl_val rfl (.some rfl) (val_eq rfl rfl) ?_
    refine vl_nil ?_
    refine vc_cond rfl (fun hc0 => ?_) (fun hc0 => ?_)
    · (try replace hc0 := of_decide_eq_true hc0)
      have hid : idT (ds.getD i dd0).kd (ds.getD i dd0).vs p = 0 := by unfold idT; rw [if_pos hc0]
      have hup : updD ds i (if p.k = 0 then (ds.getD i dd0).vs else (dadd (ds.getD i dd0).kd (ds.getD i dd0).vs p).2) ds := by rw [if_pos hc0]; exact updD_same ds i
      refine vc_region ?_
      refine vl_val rfl (.some rfl) (val_move rfl) ?_
      refine vl_val rfl (.some rfl) (val_nil rfl rfl) ?_
      refine vl_val rfl (.some rfl) (by first | exact val_fieldAddr Try.runUnderlying83 rfl Try.sizeOf64 rfl | exact val_fieldAddrR Try.runUnderlying83 rfl Try.sizeOf64 rfl) ?_
      refine vl_val rfl (.some rfl) (by first | exact val_fieldAddr Try.runUnderlying64 rfl Try.sizeOf3 rfl | exact val_fieldAddrR Try.runUnderlying64 rfl Try.sizeOf3 rfl) ?_
      refine vl_val rfl (.some rfl) (val_load Try.isAgg3 rfl (cell_rd (rd_sl (by repeat constructor)) (at3 0 hP rfl))) ?_
      refine vl_val rfl (.some rfl) (val_add rfl rfl (by first | exact w_i64 (by omega) (by omega) | rfl)) ?_
      refine vl_val rfl (.some rfl) (val_nil rfl rfl) ?_
      refine vl_val rfl (.some rfl) (by first | exact val_fieldAddr Try.runUnderlying83 rfl Try.sizeOf64 rfl | exact val_fieldAddrR Try.runUnderlying83 rfl Try.sizeOf64 rfl) ?_
      refine vl_val rfl (.some rfl) (by first | exact val_fieldAddr Try.runUnderlying64 rfl Try.sizeOf3 rfl | exact val_fieldAddrR Try.runUnderlying64 rfl Try.sizeOf3 rfl) ?_
      refine vl_storeX (vs' := P ++ ((znC ⟨z.n + 1, z.lo, z.hi⟩ ++ vcC v) ++ Q)) rfl rfl .none rfl rfl Try.sizeOf3 rfl (by simp [Value.cells]) (laid3 0 hP (Nat.le_of_ble_eq_true rfl)) (le3 0 hP (Nat.le_of_ble_eq_true rfl)) (by repeat constructor) ?_
      refine vl_nil ?_
      first
        | exact ⟨_, _, _, (by repeat (first | exact trivial | refine ⟨rfl, ?_⟩ | refine ⟨le_item rfl (by first | rfl | (congr 1; omega) | (simp; done) | (simp; omega)), ?_⟩)), (by repeat constructor), ⟨_, ds, ⟨tz0 hc0, hup⟩, rfl, rfl⟩⟩
        | exact ⟨_, _, _, (by repeat (first | exact trivial | refine ⟨rfl, ?_⟩ | refine ⟨le_item rfl (by first | rfl | (congr 1; omega) | (simp; done) | (simp; omega)), ?_⟩)), (by repeat constructor), ⟨_, ds.set i d, ⟨tz1 hc0 hlo hhi, hup⟩, rfl, rfl⟩⟩
    · (try replace hc0 := of_decide_eq_false hc0)
      have hid : idT (ds.getD i dd0).kd (ds.getD i dd0).vs p = (dadd (ds.getD i dd0).kd (ds.getD i dd0).vs p).1.1 := by unfold idT; rw [if_neg hc0]
      refine vc_seq ?_
      refine vc_region ?_
      refine vl_val rfl (.some rfl) (val_move rfl) ?_
      refine vl_val rfl (.some rfl) (val_loadAgg Try.isAgg62 Try.sizeOf62 rfl (by first | exact cells_whole (by repeat constructor) | exact cells_part (by repeat constructor) rfl) rfl) ?_
      refine vl_call (C := [DB ds]) rfl rfl (.some rfl) Try.call41 rfl (by repeat constructor) (fun w hw => dbAdd hi hk p w) (fun v9 H9 h => ?_)
      obtain ⟨d, ⟨rfl, hd1, hd2⟩, rfl⟩ := h
      show VL _ _ _ _ _ (_ :: _)
      refine vl_val rfl (.some rfl) (val_move rfl) ?_
      refine vl_val rfl (.some rfl) (val_extract rfl rfl) ?_
      refine vl_val rfl (.some rfl) (val_extract rfl rfl) ?_
      refine vl_val rfl (.some rfl) (val_assign rfl) ?_
      refine vl_nil ?_
      refine vc_cut (fun E H => ∃ E0 H0 F, Env.le E0 E ∧ Sub H0 H F ∧ (fun E H => ∃ lo2, lo2 = loT z p ∧ E = [(0, .pointer (some ((adr A).add k))), (4, .pointer (some ⟨r4, 0, none⟩)), (6, .int .i64 (dadd (ds.getD i dd0).kd (ds.getD i dd0).vs p).1.1)] ∧ H = [cells r4 [.int .i64 p.k, .int .i64 p.n, .string p.s] 62, sl A n c 83 9 (P ++ ((znC (⟨z.n, lo2, z.hi⟩) ++ vcC (v)) ++ Q)), BL v.A v.nu.length v.c v.nu, IL v.B v.ids.length v.d v.ids, DB (ds.set i d)]) E0 H0) ?_ (fun E H h => ?_)
      ·
        refine vc_seq ?_
        refine vc_draws [0, 1, 2, 3, 4, 5, 6, 7, 8, 9, 10, 11, 12, 13, 15, 16] [] [0, 1, 2, 3, 4, 5, 6, 7, 8, 9, 10, 11, 12, 13, 14, 15, 16] rfl (by kernel_rfl) (fun _ _ _ h => h) ?_
        refine vd_val rfl rfl rfl (.some rfl) (val_move rfl) ?_
        refine vd_val rfl rfl rfl (.some rfl) (val_nil rfl rfl) ?_
        refine vd_val rfl rfl rfl (.some rfl) (by first | exact val_fieldAddr Try.runUnderlying83 rfl Try.sizeOf64 rfl | exact val_fieldAddrR Try.runUnderlying83 rfl Try.sizeOf64 rfl) ?_
        refine vd_val rfl rfl rfl (.some rfl) (by first | exact val_fieldAddr Try.runUnderlying64 rfl Try.sizeOf62 rfl | exact val_fieldAddrR Try.runUnderlying64 rfl Try.sizeOf62 rfl) ?_
        refine vd_val rfl rfl rfl (.some rfl) (by first | exact val_fieldAddr Try.runUnderlying62 rfl Try.sizeOf3 rfl | exact val_fieldAddrR Try.runUnderlying62 rfl Try.sizeOf3 rfl) ?_
        refine vd_val rfl rfl rfl (.some rfl) (val_load Try.isAgg3 rfl (cell_rd (rd_sl (by repeat constructor)) (at3 1 hP rfl))) ?_
        refine vd_val rfl rfl rfl (.some rfl) (val_eq rfl rfl) ?_
        refine vd_val rfl rfl rfl (.some rfl) (val_move rfl) ?_
        refine vd_split (t := 32) rfl (fun hg32 => ?_) (fun hg32 => ?_)
        · (try replace hg32 := of_decide_eq_true hg32)
          refine vd_off rfl rfl rfl rfl rfl rfl (.some rfl) ?_
          refine vd_off rfl rfl rfl rfl rfl rfl (.some rfl) ?_
          refine vd_off rfl rfl rfl rfl rfl rfl (.some rfl) ?_
          refine vd_off rfl rfl rfl rfl rfl rfl (.some rfl) ?_
          refine vd_off rfl rfl rfl rfl rfl rfl (.some rfl) ?_
          refine vd_off rfl rfl rfl rfl rfl rfl (.some rfl) ?_
          refine vd_op rfl rfl ?_
          refine vl_off rfl rfl rfl rfl (.some rfl) ?_
          refine vl_nil ?_
          refine ⟨fun _ => ⟨_, (by repeat (first | exact .nil | exact sub_self _ | exact sub_skip (sub_self _) | exact sub_skip (sub_skip (sub_self _)) | exact sub_skip (sub_skip (sub_skip (sub_self _))) | (apply Sub.cons; · repeat (first | exact .head | apply Take.tail))))⟩, ?_⟩
          refine vd_off rfl rfl rfl rfl rfl rfl (.some rfl) ?_
          refine vd_val rfl rfl rfl (.some rfl) (val_pick rfl rfl) ?_
          refine vd_nil ?_
          refine vc_cond rfl (fun _ => ?_) (fun h => by cases h)
          have hlo : p = loT z p := by unfold loT; rw [if_pos (.inl hg32)]
          refine vc_region ?_
          refine vl_val rfl (.some rfl) (val_move rfl) ?_
          refine vl_val rfl (.some rfl) (val_loadAgg Try.isAgg62 Try.sizeOf62 rfl (by first | exact cells_whole (by repeat constructor) | exact cells_part (by repeat constructor) rfl) rfl) ?_
          refine vl_val rfl (.some rfl) (val_nil rfl rfl) ?_
          refine vl_val rfl (.some rfl) (by first | exact val_fieldAddr Try.runUnderlying83 rfl Try.sizeOf64 rfl | exact val_fieldAddrR Try.runUnderlying83 rfl Try.sizeOf64 rfl) ?_
          refine vl_val rfl (.some rfl) (by first | exact val_fieldAddr Try.runUnderlying64 rfl Try.sizeOf62 rfl | exact val_fieldAddrR Try.runUnderlying64 rfl Try.sizeOf62 rfl) ?_
          refine vl_storeX (vs' := P ++ ((znC ⟨z.n, p, z.hi⟩ ++ vcC v) ++ Q)) rfl rfl .none rfl rfl Try.sizeOf62 rfl (by simp [Value.cells]) (laid3 1 hP (Nat.le_of_ble_eq_true rfl)) (le3 1 hP (Nat.le_of_ble_eq_true rfl)) (by repeat constructor) ?_
          refine vl_nil ?_
          exact ⟨_, _, _, (by repeat (first | exact trivial | refine ⟨rfl, ?_⟩ | refine ⟨le_item rfl (by first | rfl | (congr 1; omega) | (simp; done) | (simp; omega)), ?_⟩)), (by repeat constructor), ⟨_, hlo, rfl, rfl⟩⟩
        · (try replace hg32 := of_decide_eq_false hg32)
          refine vd_on rfl rfl rfl rfl rfl rfl (.some rfl) (val_loadAgg Try.isAgg62 Try.sizeOf62 rfl (by first | exact cells_whole (by repeat constructor) | exact cells_part (by repeat constructor) rfl) rfl) ?_
          refine vd_on rfl rfl rfl rfl rfl rfl (.some rfl) (val_move rfl) ?_
          refine vd_on rfl rfl rfl rfl rfl rfl (.some rfl) (val_nil rfl rfl) ?_
          refine vd_on rfl rfl rfl rfl rfl rfl (.some rfl) (by first | exact val_fieldAddr Try.runUnderlying83 rfl Try.sizeOf64 rfl | exact val_fieldAddrR Try.runUnderlying83 rfl Try.sizeOf64 rfl) ?_
          refine vd_on rfl rfl rfl rfl rfl rfl (.some rfl) (by first | exact val_fieldAddr Try.runUnderlying64 rfl Try.sizeOf62 rfl | exact val_fieldAddrR Try.runUnderlying64 rfl Try.sizeOf62 rfl) ?_
          refine vd_on rfl rfl rfl rfl rfl rfl (.some rfl) (val_loadAgg Try.isAgg62 Try.sizeOf62 rfl (cells_rd (us := [.int .i64 (z.lo).k, .int .i64 (z.lo).n, .string (z.lo).s]) (rd_sl (by repeat constructor)) (drop3 1 hP (Nat.le_of_ble_eq_true rfl) rfl)) rfl) ?_
          refine vd_op rfl rfl ?_
          refine vl_on rfl rfl rfl rfl ?_
          refine vl_callV rfl rfl (.some rfl) Try.call47 rfl (fun w hw => vCmp p z.lo w) ?_
          refine vl_nil ?_
          refine ⟨fun _ => ⟨_, (by repeat (first | exact .nil | exact sub_self _ | exact sub_skip (sub_self _) | exact sub_skip (sub_skip (sub_self _)) | exact sub_skip (sub_skip (sub_skip (sub_self _))) | (apply Sub.cons; · repeat (first | exact .head | apply Take.tail))))⟩, ?_⟩
          refine vd_on rfl rfl rfl rfl rfl rfl (.some rfl) (val_lt rfl rfl) ?_
          refine vd_val rfl rfl rfl (.some rfl) (val_pick rfl rfl) ?_
          refine vd_nil ?_
          refine vc_cond rfl (fun hc1 => ?_) (fun hc1 => ?_)
          · (try replace hc1 := of_decide_eq_true hc1)
            have hlo : p = loT z p := by unfold loT; rw [if_pos (.inr hc1)]
            refine vc_region ?_
            refine vl_val rfl (.some rfl) (val_move rfl) ?_
            refine vl_val rfl (.some rfl) (val_loadAgg Try.isAgg62 Try.sizeOf62 rfl (by first | exact cells_whole (by repeat constructor) | exact cells_part (by repeat constructor) rfl) rfl) ?_
            refine vl_val rfl (.some rfl) (val_nil rfl rfl) ?_
            refine vl_val rfl (.some rfl) (by first | exact val_fieldAddr Try.runUnderlying83 rfl Try.sizeOf64 rfl | exact val_fieldAddrR Try.runUnderlying83 rfl Try.sizeOf64 rfl) ?_
            refine vl_val rfl (.some rfl) (by first | exact val_fieldAddr Try.runUnderlying64 rfl Try.sizeOf62 rfl | exact val_fieldAddrR Try.runUnderlying64 rfl Try.sizeOf62 rfl) ?_
            refine vl_storeX (vs' := P ++ ((znC ⟨z.n, p, z.hi⟩ ++ vcC v) ++ Q)) rfl rfl .none rfl rfl Try.sizeOf62 rfl (by simp [Value.cells]) (laid3 1 hP (Nat.le_of_ble_eq_true rfl)) (le3 1 hP (Nat.le_of_ble_eq_true rfl)) (by repeat constructor) ?_
            refine vl_nil ?_
            exact ⟨_, _, _, (by repeat (first | exact trivial | refine ⟨rfl, ?_⟩ | refine ⟨le_item rfl (by first | rfl | (congr 1; omega) | (simp; done) | (simp; omega)), ?_⟩)), (by repeat constructor), ⟨_, hlo, rfl, rfl⟩⟩
          · (try replace hc1 := of_decide_eq_false hc1)
            have hlo : z.lo = loT z p := by unfold loT; rw [if_neg (by rintro (h | h); exact hg32 h; exact hc1 h)]
            refine vc_skip ?_
            exact ⟨_, _, _, (by repeat (first | exact trivial | refine ⟨rfl, ?_⟩ | refine ⟨le_item rfl (by first | rfl | (congr 1; omega) | (simp; done) | (simp; omega)), ?_⟩)), (by repeat constructor), ⟨_, hlo, rfl, rfl⟩⟩
      · obtain ⟨E0, H0, F, hE0, hH0, hJ⟩ := h
        obtain ⟨lo2, hlo, rfl, rfl⟩ := hJ
        have hup : updD ds i (if p.k = 0 then (ds.getD i dd0).vs else (dadd (ds.getD i dd0).kd (ds.getD i dd0).vs p).2) (ds.set i d) := by rw [if_neg hc0]; exact updD_set hi hd1 hd2
        refine vc_weak hE0 hH0 ?_
        refine vc_seq ?_
        refine vc_draws [0, 1, 2, 3, 4, 5, 6, 7, 8, 9, 10, 11, 12, 13, 15, 16] [] [0, 1, 2, 3, 4, 5, 6, 7, 8, 9, 10, 11, 12, 13, 14, 15, 16] rfl (by kernel_rfl) (fun _ _ _ h => h) ?_
        refine vd_val rfl rfl rfl (.some rfl) (val_move rfl) ?_
        refine vd_val rfl rfl rfl (.some rfl) (val_nil rfl rfl) ?_
        refine vd_val rfl rfl rfl (.some rfl) (by first | exact val_fieldAddr Try.runUnderlying83 rfl Try.sizeOf64 rfl | exact val_fieldAddrR Try.runUnderlying83 rfl Try.sizeOf64 rfl) ?_
        refine vd_val rfl rfl rfl (.some rfl) (by first | exact val_fieldAddr Try.runUnderlying64 rfl Try.sizeOf62 rfl | exact val_fieldAddrR Try.runUnderlying64 rfl Try.sizeOf62 rfl) ?_
        refine vd_val rfl rfl rfl (.some rfl) (by first | exact val_fieldAddr Try.runUnderlying62 rfl Try.sizeOf3 rfl | exact val_fieldAddrR Try.runUnderlying62 rfl Try.sizeOf3 rfl) ?_
        refine vd_val rfl rfl rfl (.some rfl) (val_load Try.isAgg3 rfl (cell_rd (rd_sl (by repeat constructor)) (at3 4 hP rfl))) ?_
        refine vd_val rfl rfl rfl (.some rfl) (val_eq rfl rfl) ?_
        refine vd_val rfl rfl rfl (.some rfl) (val_move rfl) ?_
        refine vd_split (t := 54) rfl (fun hg54 => ?_) (fun hg54 => ?_)
        · (try replace hg54 := of_decide_eq_true hg54)
          refine vd_off rfl rfl rfl rfl rfl rfl (.some rfl) ?_
          refine vd_off rfl rfl rfl rfl rfl rfl (.some rfl) ?_
          refine vd_off rfl rfl rfl rfl rfl rfl (.some rfl) ?_
          refine vd_off rfl rfl rfl rfl rfl rfl (.some rfl) ?_
          refine vd_off rfl rfl rfl rfl rfl rfl (.some rfl) ?_
          refine vd_off rfl rfl rfl rfl rfl rfl (.some rfl) ?_
          refine vd_op rfl rfl ?_
          refine vl_off rfl rfl rfl rfl (.some rfl) ?_
          refine vl_nil ?_
          refine ⟨fun _ => ⟨_, (by repeat (first | exact .nil | exact sub_self _ | exact sub_skip (sub_self _) | exact sub_skip (sub_skip (sub_self _)) | exact sub_skip (sub_skip (sub_skip (sub_self _))) | (apply Sub.cons; · repeat (first | exact .head | apply Take.tail))))⟩, ?_⟩
          refine vd_off rfl rfl rfl rfl rfl rfl (.some rfl) ?_
          refine vd_val rfl rfl rfl (.some rfl) (val_pick rfl rfl) ?_
          refine vd_nil ?_
          refine vc_cond rfl (fun _ => ?_) (fun h => by cases h)
          have hhi : p = hiT z p := by unfold hiT; rw [if_pos (.inl hg54)]
          refine vc_region ?_
          refine vl_val rfl (.some rfl) (val_move rfl) ?_
          refine vl_val rfl (.some rfl) (val_loadAgg Try.isAgg62 Try.sizeOf62 rfl (by first | exact cells_whole (by repeat constructor) | exact cells_part (by repeat constructor) rfl) rfl) ?_
          refine vl_val rfl (.some rfl) (val_nil rfl rfl) ?_
          refine vl_val rfl (.some rfl) (by first | exact val_fieldAddr Try.runUnderlying83 rfl Try.sizeOf64 rfl | exact val_fieldAddrR Try.runUnderlying83 rfl Try.sizeOf64 rfl) ?_
          refine vl_val rfl (.some rfl) (by first | exact val_fieldAddr Try.runUnderlying64 rfl Try.sizeOf62 rfl | exact val_fieldAddrR Try.runUnderlying64 rfl Try.sizeOf62 rfl) ?_
          refine vl_storeX (vs' := P ++ ((znC ⟨z.n, lo2, p⟩ ++ vcC v) ++ Q)) rfl rfl .none rfl rfl Try.sizeOf62 rfl (by simp [Value.cells]) (laid3 4 hP (Nat.le_of_ble_eq_true rfl)) (le3 4 hP (Nat.le_of_ble_eq_true rfl)) (by repeat constructor) ?_
          refine vl_nil ?_
          first
            | exact ⟨_, _, _, (by repeat (first | exact trivial | refine ⟨rfl, ?_⟩ | refine ⟨le_item rfl (by first | rfl | (congr 1; omega) | (simp; done) | (simp; omega)), ?_⟩)), (by repeat constructor), ⟨_, ds, ⟨tz0 hc0, hup⟩, rfl, rfl⟩⟩
            | exact ⟨_, _, _, (by repeat (first | exact trivial | refine ⟨rfl, ?_⟩ | refine ⟨le_item rfl (by first | rfl | (congr 1; omega) | (simp; done) | (simp; omega)), ?_⟩)), (by repeat constructor), ⟨_, ds.set i d, ⟨tz1 hc0 hlo hhi, hup⟩, rfl, rfl⟩⟩
        · (try replace hg54 := of_decide_eq_false hg54)
          refine vd_on rfl rfl rfl rfl rfl rfl (.some rfl) (val_loadAgg Try.isAgg62 Try.sizeOf62 rfl (by first | exact cells_whole (by repeat constructor) | exact cells_part (by repeat constructor) rfl) rfl) ?_
          refine vd_on rfl rfl rfl rfl rfl rfl (.some rfl) (val_move rfl) ?_
          refine vd_on rfl rfl rfl rfl rfl rfl (.some rfl) (val_nil rfl rfl) ?_
          refine vd_on rfl rfl rfl rfl rfl rfl (.some rfl) (by first | exact val_fieldAddr Try.runUnderlying83 rfl Try.sizeOf64 rfl | exact val_fieldAddrR Try.runUnderlying83 rfl Try.sizeOf64 rfl) ?_
          refine vd_on rfl rfl rfl rfl rfl rfl (.some rfl) (by first | exact val_fieldAddr Try.runUnderlying64 rfl Try.sizeOf62 rfl | exact val_fieldAddrR Try.runUnderlying64 rfl Try.sizeOf62 rfl) ?_
          refine vd_on rfl rfl rfl rfl rfl rfl (.some rfl) (val_loadAgg Try.isAgg62 Try.sizeOf62 rfl (cells_rd (us := [.int .i64 (z.hi).k, .int .i64 (z.hi).n, .string (z.hi).s]) (rd_sl (by repeat constructor)) (drop3 4 hP (Nat.le_of_ble_eq_true rfl) rfl)) rfl) ?_
          refine vd_op rfl rfl ?_
          refine vl_on rfl rfl rfl rfl ?_
          refine vl_callV rfl rfl (.some rfl) Try.call47 rfl (fun w hw => vCmp p z.hi w) ?_
          refine vl_nil ?_
          refine ⟨fun _ => ⟨_, (by repeat (first | exact .nil | exact sub_self _ | exact sub_skip (sub_self _) | exact sub_skip (sub_skip (sub_self _)) | exact sub_skip (sub_skip (sub_skip (sub_self _))) | (apply Sub.cons; · repeat (first | exact .head | apply Take.tail))))⟩, ?_⟩
          refine vd_on rfl rfl rfl rfl rfl rfl (.some rfl) (val_gt rfl rfl) ?_
          refine vd_val rfl rfl rfl (.some rfl) (val_pick rfl rfl) ?_
          refine vd_nil ?_
          refine vc_cond rfl (fun hc2 => ?_) (fun hc2 => ?_)
          · (try replace hc2 := of_decide_eq_true hc2)
            have hhi : p = hiT z p := by unfold hiT; rw [if_pos (.inr hc2)]
            refine vc_region ?_
            refine vl_val rfl (.some rfl) (val_move rfl) ?_
            refine vl_val rfl (.some rfl) (val_loadAgg Try.isAgg62 Try.sizeOf62 rfl (by first | exact cells_whole (by repeat constructor) | exact cells_part (by repeat constructor) rfl) rfl) ?_
            refine vl_val rfl (.some rfl) (val_nil rfl rfl) ?_
            refine vl_val rfl (.some rfl) (by first | exact val_fieldAddr Try.runUnderlying83 rfl Try.sizeOf64 rfl | exact val_fieldAddrR Try.runUnderlying83 rfl Try.sizeOf64 rfl) ?_
            refine vl_val rfl (.some rfl) (by first | exact val_fieldAddr Try.runUnderlying64 rfl Try.sizeOf62 rfl | exact val_fieldAddrR Try.runUnderlying64 rfl Try.sizeOf62 rfl) ?_
            refine vl_storeX (vs' := P ++ ((znC ⟨z.n, lo2, p⟩ ++ vcC v) ++ Q)) rfl rfl .none rfl rfl Try.sizeOf62 rfl (by simp [Value.cells]) (laid3 4 hP (Nat.le_of_ble_eq_true rfl)) (le3 4 hP (Nat.le_of_ble_eq_true rfl)) (by repeat constructor) ?_
            refine vl_nil ?_
            first
              | exact ⟨_, _, _, (by repeat (first | exact trivial | refine ⟨rfl, ?_⟩ | refine ⟨le_item rfl (by first | rfl | (congr 1; omega) | (simp; done) | (simp; omega)), ?_⟩)), (by repeat constructor), ⟨_, ds, ⟨tz0 hc0, hup⟩, rfl, rfl⟩⟩
              | exact ⟨_, _, _, (by repeat (first | exact trivial | refine ⟨rfl, ?_⟩ | refine ⟨le_item rfl (by first | rfl | (congr 1; omega) | (simp; done) | (simp; omega)), ?_⟩)), (by repeat constructor), ⟨_, ds.set i d, ⟨tz1 hc0 hlo hhi, hup⟩, rfl, rfl⟩⟩
          · (try replace hc2 := of_decide_eq_false hc2)
            have hhi : z.hi = hiT z p := by unfold hiT; rw [if_neg (by rintro (h | h); exact hg54 h; exact hc2 h)]
            refine vc_skip ?_
            first
              | exact ⟨_, _, _, (by repeat (first | exact trivial | refine ⟨rfl, ?_⟩ | refine ⟨le_item rfl (by first | rfl | (congr 1; omega) | (simp; done) | (simp; omega)), ?_⟩)), (by repeat constructor), ⟨_, ds, ⟨tz0 hc0, hup⟩, rfl, rfl⟩⟩
              | exact ⟨_, _, _, (by repeat (first | exact trivial | refine ⟨rfl, ?_⟩ | refine ⟨le_item rfl (by first | rfl | (congr 1; omega) | (simp; done) | (simp; omega)), ?_⟩)), (by repeat constructor), ⟨_, ds.set i d, ⟨tz1 hc0 hlo hhi, hup⟩, rfl, rfl⟩⟩
  · obtain ⟨E0, H0, F, hE0, hH0, hJ⟩ := h
    obtain ⟨z2, ds2, ⟨hz2, hup⟩, rfl, rfl⟩ := hJ
    refine vc_weak hE0 hH0 ?_
    refine vc_seq ?_
    refine vc_drawsS [0, 1, 2, 3, 4, 5, 6, 7, 8, 13] [14] [0, 1, 2, 3, 4, 5, 6, 7, 8, 9, 10, 11, 12, 13, 14] [cells r4 [.int .i64 p.k, .int .i64 p.n, .string p.s] 62, sl A n c 83 9 (P ++ ((znC (z2) ++ vcC (v)) ++ Q))] (by repeat constructor) rfl (by kernel_rfl) (fun _ _ _ h => h) ?_
    refine vd_val rfl rfl rfl (.some rfl) (val_move rfl) ?_
    refine vd_val rfl rfl rfl (.some rfl) (val_move rfl) ?_
    refine vd_val rfl rfl rfl (.some rfl) (val_nil rfl rfl) ?_
    refine vd_val rfl rfl rfl (.some rfl) (by first | exact val_fieldAddr Try.runUnderlying83 rfl Try.sizeOf81 rfl | exact val_fieldAddrR Try.runUnderlying83 rfl Try.sizeOf81 rfl) ?_
    refine vd_val rfl rfl rfl (.some rfl) (by first | exact val_fieldAddr Try.runUnderlying81 rfl Try.sizeOf79 rfl | exact val_fieldAddrR Try.runUnderlying81 rfl Try.sizeOf79 rfl) ?_
    refine vd_val rfl rfl rfl (.some rfl) (val_load Try.isAgg79 rfl (cell_rd (rd_sl (by repeat constructor)) (at3 7 hP rfl))) ?_
    refine vd_val rfl rfl rfl (.some rfl) (by first | exact val_fieldAddr Try.runUnderlying62 rfl Try.sizeOf3 rfl | exact val_fieldAddrR Try.runUnderlying62 rfl Try.sizeOf3 rfl) ?_
    refine vd_val rfl rfl rfl (.some rfl) (val_load Try.isAgg3 rfl (by first | exact cell_cells (by repeat constructor) rfl | exact cell_rd (by first | exact rd_sl (by repeat constructor) | exact rd_old (by assumption) rfl) (by first | exact bcells_at (by omega) | exact ucells_at (by omega) | exact icells_at (by omega) | exact tcells_at (by omega) | exact bcells_get (by omega) | exact icells_get (by omega) | exact tcells_get (by omega) | exact ucells_get (by omega)) | exact cell_old (by assumption) (by simp [fps]))) ?_
    refine vd_val rfl rfl rfl (.some rfl) (val_eq rfl rfl) ?_
    refine vd_op rfl rfl ?_
    refine vl_lit sT79 rfl rfl (.some rfl) rfl rfl rfl (by decide) (by decide) rfl (flat_one rfl) (fun r78 => ?_)
    refine vl_nil ?_
    refine ⟨fun _ => ⟨_, (by repeat (first | exact .nil | exact sub_self _ | exact sub_skip (sub_self _) | exact sub_skip (sub_skip (sub_self _)) | exact sub_skip (sub_skip (sub_skip (sub_self _))) | (apply Sub.cons; · repeat (first | exact .head | apply Take.tail))))⟩, ?_⟩
    refine vd_op rfl rfl ?_
    refine vl_append sT79 rfl rfl (.some rfl) rfl rfl (by first | exact rd_sl (by repeat constructor) | exact rd_slr (by repeat constructor) | exact rd_old (by assumption) rfl) (by first | rfl | (simp; done) | (simp; omega) | (simp only [bcells_length, icells_length, ucells_length, tcells_length]; omega)) (by first | rfl | exact one_b _ | exact one_u _ | exact one_i _ | exact one_t _) (by omega) (by omega) (by repeat constructor) (fun A79 k79 => ?_)
    refine vl_nil ?_
    refine ⟨fun _ => ⟨_, (by repeat (first | exact .nil | exact sub_self _ | exact sub_skip (sub_self _) | exact sub_skip (sub_skip (sub_self _)) | exact sub_skip (sub_skip (sub_skip (sub_self _))) | (apply Sub.cons; · repeat (first | exact .head | apply Take.tail))))⟩, ?_⟩
    refine vd_op rfl rfl ?_
    refine vl_val rfl (.some rfl) (val_nil rfl rfl) ?_
    refine vl_nil ?_
    refine ⟨fun _ => ⟨_, (by repeat (first | exact .nil | exact sub_self _ | exact sub_skip (sub_self _) | exact sub_skip (sub_skip (sub_self _)) | exact sub_skip (sub_skip (sub_skip (sub_self _))) | (apply Sub.cons; · repeat (first | exact .head | apply Take.tail))))⟩, ?_⟩
    refine vd_op rfl rfl ?_
    refine vl_val rfl (.some rfl) (by first | exact val_fieldAddr Try.runUnderlying83 rfl Try.sizeOf81 rfl | exact val_fieldAddrR Try.runUnderlying83 rfl Try.sizeOf81 rfl) ?_
    refine vl_nil ?_
    refine ⟨fun _ => ⟨_, (by repeat (first | exact .nil | exact sub_self _ | exact sub_skip (sub_self _) | exact sub_skip (sub_skip (sub_self _)) | exact sub_skip (sub_skip (sub_skip (sub_self _))) | (apply Sub.cons; · repeat (first | exact .head | apply Take.tail))))⟩, ?_⟩
    refine vd_val rfl rfl rfl (.some rfl) (by first | exact val_fieldAddr Try.runUnderlying81 rfl Try.sizeOf79 rfl | exact val_fieldAddrR Try.runUnderlying81 rfl Try.sizeOf79 rfl) ?_
    refine vd_op rfl rfl ?_
    refine vl_storeX (vs' := P ++ ((znC z2 ++ [.slice A79 (v.nu.length + 1) k79, .slice v.B v.ids.length v.d]) ++ Q)) rfl rfl .none rfl rfl Try.sizeOf79 rfl (by simp [Value.cells]) (laid3 7 hP (Nat.le_of_ble_eq_true rfl)) (le3 7 hP (Nat.le_of_ble_eq_true rfl)) (by repeat constructor) ?_
    refine vl_nil ?_
    refine ⟨fun h => (by cases h), ?_⟩
    refine vd_nil ?_
    refine vc_region ?_
    refine vl_val rfl (.some rfl) (val_move rfl) ?_
    refine vl_val rfl (.some rfl) (val_move rfl) ?_
    refine vl_val rfl (.some rfl) (val_nil rfl rfl) ?_
    refine vl_val rfl (.some rfl) (by first | exact val_fieldAddr Try.runUnderlying83 rfl Try.sizeOf81 rfl | exact val_fieldAddrR Try.runUnderlying83 rfl Try.sizeOf81 rfl) ?_
    refine vl_val rfl (.some rfl) (by first | exact val_fieldAddr Try.runUnderlying81 rfl Try.sizeOf22 rfl | exact val_fieldAddrR Try.runUnderlying81 rfl Try.sizeOf22 rfl) ?_
    refine vl_val rfl (.some rfl) (val_load Try.isAgg22 rfl (cell_rd (rd_sl (by repeat constructor)) (at3 8 hP rfl))) ?_
    refine vl_val rfl (.some rfl) (val_move rfl) ?_
    refine vl_lit sT22 rfl rfl (.some rfl) rfl rfl rfl (by decide) (by decide) rfl (flat_one rfl) (fun r90 => ?_)
    refine vl_append sT22 rfl rfl (.some rfl) rfl rfl (by first | exact rd_sl (by repeat constructor) | exact rd_slr (by repeat constructor) | exact rd_old (by assumption) rfl) (by first | rfl | (simp; done) | (simp; omega) | (simp only [bcells_length, icells_length, ucells_length, tcells_length]; omega)) (by first | rfl | exact one_b _ | exact one_u _ | exact one_i _ | exact one_t _) (by omega) (by omega) (by repeat constructor) (fun A91 k91 => ?_)
    refine vl_val rfl (.some rfl) (val_nil rfl rfl) ?_
    refine vl_val rfl (.some rfl) (by first | exact val_fieldAddr Try.runUnderlying83 rfl Try.sizeOf81 rfl | exact val_fieldAddrR Try.runUnderlying83 rfl Try.sizeOf81 rfl) ?_
    refine vl_val rfl (.some rfl) (by first | exact val_fieldAddr Try.runUnderlying81 rfl Try.sizeOf22 rfl | exact val_fieldAddrR Try.runUnderlying81 rfl Try.sizeOf22 rfl) ?_
    refine vl_storeX (vs' := P ++ ((znC z2 ++ [.slice A79 (v.nu.length + 1) k79, .slice A91 (v.ids.length + 1) k91]) ++ Q)) rfl rfl .none rfl rfl Try.sizeOf22 rfl (by simp [Value.cells]) (laid3 8 hP (Nat.le_of_ble_eq_true rfl)) (le3 8 hP (Nat.le_of_ble_eq_true rfl)) (by repeat constructor) ?_
    refine vl_nil ?_
    refine ⟨_, [sl A n c 83 9 (P ++ ((znC z2 ++ [.slice A79 (v.nu.length + 1) k79, .slice A91 (v.ids.length + 1) k91]) ++ Q)), sl A79 (v.nu.length + 1) k79 4 1 (tcells v.nu ++ [.bool (decide (p.k = 0))]), sl A91 (v.ids.length + 1) k91 3 1 (icells .i64 v.ids ++ [.int .i64 (idT (ds.getD i dd0).kd (ds.getD i dd0).vs p)]), DB ds2], _, res0 Try.results27, (by repeat constructor), ?_⟩
    refine ⟨z2, ⟨A79, k79, v.nu ++ [decide (p.k = 0)], A91, k91, v.ids ++ [idT (ds.getD i dd0).kd (ds.getD i dd0).vs p]⟩, ds2, ?_, ?_, ?_⟩
    · rw [takeC_is, hz2]
    · rw [takeC_is]; exact hup
    · simp [tcells, icells, BL, IL]




abbrev Rw := Option Addr × Nat × List Vk
abbrev rowV (q : Rw) : List Value := [.slice q.1 q.2.2.length q.2.1]
abbrev rw0 : Rw := (none, 0, [])
theorem rowC_len (l : List Rw) : (l.flatMap rowV).length = l.length * 1 := by
  induction l with
  | nil => rfl
  | cons a l ih => rw [List.flatMap_cons, List.length_append, ih, List.length_cons]; simp; omega
theorem rowC_at {l : List Rw} {i : Nat} (h : i < l.length) : (l.flatMap rowV)[Int.toNat (i : Int) * 1]? = some (.slice (l.getD i rw0).1 (l.getD i rw0).2.2.length (l.getD i rw0).2.1) := by
  have := at_flat (f := rowV) (m := 1) (fun _ => rfl) rw0 (i := i) (j := 0) h (by decide)
  rw [Int.toNat_natCast]
  exact this
theorem mem_getD {α : Type} {l : List α} {i : Nat} (d : α) (h : i < l.length) : l.getD i d ∈ l := by simp [List.getD, List.getElem?_eq_getElem h]
theorem map_at {α β : Type} {f : α → β} {l : List α} {i : Nat} (d : α) (h : i < l.length) : (l.map f)[Int.toNat (i : Int) * 1]? = some (f (l.getD i d)) := by
  rw [Int.toNat_natCast, Nat.mul_one]; simp [List.getElem?_map, List.getD, List.getElem?_eq_getElem h]
theorem map_getDs {α β : Type} {f : α → β} {l : List α} {i : Nat} (d : α) (e : β) (h : f d = e) : (l.map f).getD i e = f (l.getD i d) := by
  by_cases hi : i < l.length
  · simp [List.getD, List.getElem?_map, List.getElem?_eq_getElem hi]
  · simp [List.getD, List.getElem?_map, List.getElem?_eq_none (Nat.not_lt.1 hi), h]
theorem dbKindA {ds : List Dd} {i : Nat} (hi : i < ds.length) (w : World) : FnR Try.prog 36 [ddP (ds.getD i dd0)] [DB ds] (.int .i64 (if okK (ds.getD i dd0).kd then (ds.getD i dd0).kd else 0)) w := by
  by_cases hk : okK (ds.getD i dd0).kd
  · rw [if_pos hk]; exact dbKind hi hk w
  · rw [if_neg hk, ddP_no hk]
    refine (Fn.frame (F := [DB ds]) (dKind0 w)).out fun v H ⟨H2, e1, e2⟩ => ?_
    subst e2
    exact ⟨[DB ds], H2, Eqv.perm List.perm_append_comm, e1, rfl⟩
theorem kz {k : Int} (h : (if okK k then k else 0) = 0) : ¬ okK k := fun hk => by rw [if_pos hk] at h; omega
theorem kz2 {k : Int} (h : ¬ (if okK k then k else 0) = 0) : okK k ∧ (if okK k then k else 0) = k := by
  by_cases hk : okK k
  · exact ⟨hk, if_pos hk⟩
  · exact absurd (if_neg hk) h
theorem ext_lt {P : Nat → Prop} {i : Nat} (h : ∀ j, j < i → P j) (hi : P i) : ∀ j, j < i + 1 → P j := fun j hj => by
  rcases Nat.lt_succ_iff_lt_or_eq.1 hj with h2 | h2
  · exact h j h2
  · rw [h2]; exact hi
theorem vk1 (acc : List Vk) (p : Vk) : flat acc ++ flat [p] = flat (acc ++ [p]) := by simp [flat]
theorem not_rowBad {ks : List Int} {r : List Vk} (h : r.length = ks.length) (h2 : ∀ j, j < ks.length → fitsB (r.getD j z3) (ks.getD j 0) = true) : ¬ rowBad ks r := by
  rintro (h1 | ⟨j, hj, h3⟩)
  · exact h1 h
  · rw [h2 j hj] at h3; cases h3
theorem rowBad_len {ks : List Int} {r : List Vk} (h : ¬ rowBad ks r) : r.length = ks.length := Decidable.byContradiction fun h2 => h (.inl h2)

set_option maxRecDepth 20000 in
set_option maxHeartbeats 1000000 in
theorem gMay (Ak : Option Addr) (ck : Nat) (ds : List Dd) (Ar : Option Addr) (cr : Nat) (rows : List Rw) (Ad : Option Addr) (cd : Nat) (hnl : ds.length ≤ 1000000) (hrl : rows.length ≤ 4611686018427387904) (hll : ∀ q ∈ rows, q.2.2.length ≤ 4611686018427387904) (h512 : ∀ i, (ds.getD i dd0).vs.length ≤ 512) (w : World) (hk : ReadsM w (fps [DB ds]) Ak (icells .i64 (ds.map (·.kd)))) (hrd : ReadsM w (fps [DB ds]) Ar (rows.flatMap rowV)) (hrow : ∀ q ∈ rows, ReadsM w (fps [DB ds]) q.1 (flat q.2.2)) (hdp : ReadsM w (fps [DB ds]) Ad (ds.map ddP)) : FnR Try.prog 26 [.slice Ak ds.length ck, .slice Ar rows.length cr, .slice Ad ds.length cd] [DB ds] (.int .i64 (mayE (ds.map (·.kd)) (ds.map (·.vs)) (rows.map (·.2.2)))) w := by
  obtain ⟨KS, hKS⟩ : ∃ KS, ds.map (·.kd) = KS := ⟨_, rfl⟩
  obtain ⟨DV, hDV⟩ : ∃ DV, ds.map (·.vs) = DV := ⟨_, rfl⟩
  obtain ⟨RS, hRS⟩ : ∃ RS, rows.map (·.2.2) = RS := ⟨_, rfl⟩
  have hKl : KS.length = ds.length := by rw [← hKS]; exact List.length_map _
  have hRl : RS.length = rows.length := by rw [← hRS]; exact List.length_map _
  have hKg : ∀ i, KS.getD i 0 = (ds.getD i dd0).kd := fun i => by rw [← hKS]; exact map_getDs dd0 0 rfl
  have hDg : ∀ i, DV.getD i [] = (ds.getD i dd0).vs := fun i => by rw [← hDV]; exact map_getDs dd0 [] rfl
  have hRg : ∀ i, RS.getD i [] = (rows.getD i rw0).2.2 := fun i => by rw [← hRS]; exact map_getDs rw0 [] rfl
  rw [hKS] at hk
  rw [hKS, hDV, hRS]
  refine fn_enter Try.func26 rfl Try.ntmps26 rfl ?_
  refine vc_seq ?_
  refine vc_region ?_
  refine vl_val rfl (.some rfl) (val_assign rfl) ?_
  refine vl_nil ?_
  refine vc_seq ?_
  refine vc_region ?_
  refine vl_val rfl (.some rfl) (val_move rfl) ?_
  refine vl_val rfl (.some rfl) (val_lenSl Try.runUnderlying22 rfl) ?_
  refine vl_val rfl (.some rfl) (val_assign rfl) ?_
  refine vl_nil ?_
  refine vc_seq ?_
  refine vc_seq ?_
  refine vc_region ?_
  refine vl_val rfl (.some rfl) (val_move rfl) ?_
  refine vl_val rfl (.some rfl) (val_move rfl) ?_
  refine vl_val rfl (.some rfl) (val_lenSl Try.runUnderlying26 rfl) ?_
  refine vl_val rfl (.some rfl) (val_ne rfl rfl) ?_
  refine vl_val rfl (.some rfl) (val_move rfl) ?_
  refine vl_split (t := 25) rfl (fun hg25 => ?_) (fun hg25 => ?_)
  · (try replace hg25 := of_decide_eq_true hg25)
    refine vl_off rfl rfl rfl rfl (.some rfl) ?_
    refine vl_off rfl rfl rfl rfl (.some rfl) ?_
    refine vl_val rfl (.some rfl) (val_pick rfl rfl) ?_
    refine vl_val rfl (.some rfl) (val_move rfl) ?_
    refine vl_off rfl rfl rfl rfl (.some rfl) ?_
    refine vl_off rfl rfl rfl rfl (.some rfl) ?_
    refine vl_val rfl (.some rfl) (val_pick rfl rfl) ?_
    refine vl_val rfl (.some rfl) (val_move rfl) ?_
    refine vl_off rfl rfl rfl rfl (.some rfl) ?_
    refine vl_off rfl rfl rfl rfl (.some rfl) ?_
    refine vl_off rfl rfl rfl rfl (.some rfl) ?_
    refine vl_val rfl (.some rfl) (val_pick rfl rfl) ?_
    refine vl_val rfl (.some rfl) (val_move rfl) ?_
    refine vl_off rfl rfl rfl rfl (.some rfl) ?_
    refine vl_off rfl rfl rfl rfl (.some rfl) ?_
    refine vl_off rfl rfl rfl rfl (.some rfl) ?_
    refine vl_val rfl (.some rfl) (val_pick rfl rfl) ?_
    refine vl_nil ?_
    refine vc_cond rfl (fun _ => ?_) (fun h => by cases h)
    refine vc_seq ?_
    refine vc_region ?_
    refine vl_val rfl (.some rfl) (val_assign rfl) ?_
    refine vl_nil ?_
    refine vc_ret ?_
    refine ⟨_, [DB ds], _, res1 Try.results26 rfl, (by repeat constructor), ?_⟩
    refine ⟨?_, rfl⟩
    rw [mayE_arg (by omega)]
  · (try replace hg25 := of_decide_eq_false hg25)
    refine vl_on rfl rfl rfl rfl ?_
    refine vl_val rfl (.some rfl) (val_move rfl) ?_
    refine vl_on rfl rfl rfl rfl ?_
    refine vl_val rfl (.some rfl) (val_lt rfl rfl) ?_
    refine vl_val rfl (.some rfl) (val_pick rfl rfl) ?_
    refine vl_val rfl (.some rfl) (val_move rfl) ?_
    refine vl_split (t := 29) rfl (fun hg29 => ?_) (fun hg29 => ?_)
    · (try replace hg29 := of_decide_eq_true hg29)
      refine vl_off rfl rfl rfl rfl (.some rfl) ?_
      refine vl_off rfl rfl rfl rfl (.some rfl) ?_
      refine vl_val rfl (.some rfl) (val_pick rfl rfl) ?_
      refine vl_val rfl (.some rfl) (val_move rfl) ?_
      refine vl_off rfl rfl rfl rfl (.some rfl) ?_
      refine vl_off rfl rfl rfl rfl (.some rfl) ?_
      refine vl_off rfl rfl rfl rfl (.some rfl) ?_
      refine vl_val rfl (.some rfl) (val_pick rfl rfl) ?_
      refine vl_val rfl (.some rfl) (val_move rfl) ?_
      refine vl_off rfl rfl rfl rfl (.some rfl) ?_
      refine vl_off rfl rfl rfl rfl (.some rfl) ?_
      refine vl_off rfl rfl rfl rfl (.some rfl) ?_
      refine vl_val rfl (.some rfl) (val_pick rfl rfl) ?_
      refine vl_nil ?_
      refine vc_cond rfl (fun _ => ?_) (fun h => by cases h)
      refine vc_seq ?_
      refine vc_region ?_
      refine vl_val rfl (.some rfl) (val_assign rfl) ?_
      refine vl_nil ?_
      refine vc_ret ?_
      refine ⟨_, [DB ds], _, res1 Try.results26 rfl, (by repeat constructor), ?_⟩
      refine ⟨?_, rfl⟩
      rw [mayE_arg (by omega)]
    · (try replace hg29 := of_decide_eq_false hg29)
      refine vl_on rfl rfl rfl rfl ?_
      refine vl_val rfl (.some rfl) (val_move rfl) ?_
      refine vl_on rfl rfl rfl rfl ?_
      refine vl_val rfl (.some rfl) (val_gt rfl rfl) ?_
      refine vl_val rfl (.some rfl) (val_pick rfl rfl) ?_
      refine vl_val rfl (.some rfl) (val_move rfl) ?_
      refine vl_split (t := 33) rfl (fun hg33 => ?_) (fun hg33 => ?_)
      · (try replace hg33 := of_decide_eq_true hg33)
        refine vl_off rfl rfl rfl rfl (.some rfl) ?_
        refine vl_off rfl rfl rfl rfl (.some rfl) ?_
        refine vl_off rfl rfl rfl rfl (.some rfl) ?_
        refine vl_val rfl (.some rfl) (val_pick rfl rfl) ?_
        refine vl_val rfl (.some rfl) (val_move rfl) ?_
        refine vl_off rfl rfl rfl rfl (.some rfl) ?_
        refine vl_off rfl rfl rfl rfl (.some rfl) ?_
        refine vl_off rfl rfl rfl rfl (.some rfl) ?_
        refine vl_val rfl (.some rfl) (val_pick rfl rfl) ?_
        refine vl_nil ?_
        refine vc_cond rfl (fun _ => ?_) (fun h => by cases h)
        refine vc_seq ?_
        refine vc_region ?_
        refine vl_val rfl (.some rfl) (val_assign rfl) ?_
        refine vl_nil ?_
        refine vc_ret ?_
        refine ⟨_, [DB ds], _, res1 Try.results26 rfl, (by repeat constructor), ?_⟩
        refine ⟨?_, rfl⟩
        rw [mayE_arg (by omega)]
      · (try replace hg33 := of_decide_eq_false hg33)
        refine vl_on rfl rfl rfl rfl ?_
        refine vl_val rfl (.some rfl) (val_move rfl) ?_
        refine vl_on rfl rfl rfl rfl ?_
        refine vl_val rfl (.some rfl) (val_lenSl Try.runUnderlying23 rfl) ?_
        refine vl_on rfl rfl rfl rfl ?_
        refine vl_val rfl (.some rfl) (val_lt rfl rfl) ?_
        refine vl_val rfl (.some rfl) (val_pick rfl rfl) ?_
        refine vl_val rfl (.some rfl) (val_move rfl) ?_
        refine vl_split (t := 38) rfl (fun hg38 => ?_) (fun hg38 => ?_)
        · (try replace hg38 := of_decide_eq_true hg38)
          refine vl_off rfl rfl rfl rfl (.some rfl) ?_
          refine vl_off rfl rfl rfl rfl (.some rfl) ?_
          refine vl_off rfl rfl rfl rfl (.some rfl) ?_
          refine vl_val rfl (.some rfl) (val_pick rfl rfl) ?_
          refine vl_nil ?_
          refine vc_cond rfl (fun _ => ?_) (fun h => by cases h)
          refine vc_seq ?_
          refine vc_region ?_
          refine vl_val rfl (.some rfl) (val_assign rfl) ?_
          refine vl_nil ?_
          refine vc_ret ?_
          refine ⟨_, [DB ds], _, res1 Try.results26 rfl, (by repeat constructor), ?_⟩
          refine ⟨?_, rfl⟩
          rw [mayE_arg (by omega)]
        · (try replace hg38 := of_decide_eq_false hg38)
          refine vl_on rfl rfl rfl rfl ?_
          refine vl_val rfl (.some rfl) (val_move rfl) ?_
          refine vl_on rfl rfl rfl rfl ?_
          refine vl_val rfl (.some rfl) (val_lenSl Try.runUnderlying23 rfl) ?_
          refine vl_on rfl rfl rfl rfl ?_
          refine vl_val rfl (.some rfl) (val_gt rfl rfl) ?_
          refine vl_val rfl (.some rfl) (val_pick rfl rfl) ?_
          refine vl_nil ?_
          refine vc_cond rfl (fun hc0 => ?_) (fun hc0 => ?_)
          · (try replace hc0 := of_decide_eq_true hc0)
            refine vc_seq ?_
            refine vc_region ?_
            refine vl_val rfl (.some rfl) (val_assign rfl) ?_
            refine vl_nil ?_
            refine vc_ret ?_
            refine ⟨_, [DB ds], _, res1 Try.results26 rfl, (by repeat constructor), ?_⟩
            refine ⟨?_, rfl⟩
            rw [mayE_arg (by omega)]
          · (try replace hc0 := of_decide_eq_false hc0)
            have h0 : ¬ (KS.length < 1 ∨ 8 < KS.length ∨ RS.length < 1 ∨ 1000 < RS.length) := by omega
            refine vc_skip ?_
            refine vc_seq ?_
            refine vc_seq ?_
            refine vc_region ?_
            refine vl_val rfl (.some rfl) (val_move rfl) ?_
            refine vl_val rfl (.some rfl) (val_lenSl Try.runUnderlying26 rfl) ?_
            refine vl_val rfl (.some rfl) (val_move rfl) ?_
            refine vl_nil ?_
            refine vc_block ?_
            refine vc_loopw (fun k E H => ∃ i : Nat, i ≤ ds.length ∧ k = ds.length - i ∧ (∀ j, j < i → okK (KS.getD j 0)) ∧ E = [(0, .slice Ak ds.length ck), (1, .slice Ar rows.length cr), (2, .slice Ad ds.length cd), (7, .int .i64 ds.length), (43, .slice Ad ds.length cd), (44, .int .i64 ds.length), (45, .int .i64 i)] ∧ H = [DB ds]) (ds.length) ⟨_, _, _, ⟨0, by omega, by omega, fun j h => absurd h (by omega), rfl, rfl⟩, (by repeat (first | exact trivial | refine ⟨rfl, ?_⟩ | refine ⟨le_item rfl (by first | rfl | (congr 1; omega) | (simp; done) | (simp; omega)), ?_⟩)), (by repeat constructor)⟩ ?_
            intro k E H hI
            obtain ⟨i, hi, rfl, hok, rfl, rfl⟩ := hI
            refine vc_seq ?_
            refine vc_region ?_
            refine vl_val rfl (.some rfl) (val_lt rfl rfl) ?_
            refine vl_nil ?_
            refine vc_seq ?_
            refine vc_cond rfl (fun hc1 => ?_) (fun hc1 => ?_)
            · (try replace hc1 := of_decide_eq_true hc1)
              have hi8 : i < ds.length := by omega
              refine vc_skip ?_
              refine vc_seq ?_
              refine vc_block ?_
              refine vc_seq ?_
              refine vc_region ?_
              refine vl_val rfl (.some rfl) (val_move rfl) ?_
              refine vl_val rfl (.some rfl) (val_indexAddr Try.runUnderlying26 Try.sizeOf51 rfl rfl (rd_oldM hdp) (by omega) (by omega) (by rw [List.length_map]; omega)) ?_
              refine vl_val rfl (.some rfl) (val_load Try.isAgg51 rfl (cell_rd (rd_oldM hdp) (map_at dd0 (by omega)))) ?_
              refine vl_val rfl (.some rfl) (val_assign rfl) ?_
              refine vl_val rfl (.some rfl) (val_assign rfl) ?_
              refine vl_nil ?_
              refine vc_seq ?_
              refine vc_draws [0, 2, 3, 4, 6, 7, 8, 9, 10, 11] [] [0, 1, 2, 3, 4, 6, 7, 8, 9, 5, 10, 11] rfl (by kernel_rfl) (fun _ _ _ h => h) ?_
              refine vd_val rfl rfl rfl (.some rfl) (val_move rfl) ?_
              refine vd_op rfl rfl ?_
              refine vl_callR [DB ds] rfl rfl (.some rfl) Try.call36 rfl (by repeat constructor) (fun w hw => dbKindA hi8 w) ?_
              refine vl_nil ?_
              refine ⟨fun _ => ⟨_, (by repeat (first | exact .nil | exact sub_self _ | exact sub_skip (sub_self _) | exact sub_skip (sub_skip (sub_self _)) | exact sub_skip (sub_skip (sub_skip (sub_self _))) | (apply Sub.cons; · repeat (first | exact .head | apply Take.tail))))⟩, ?_⟩
              refine vd_val rfl rfl rfl (.some rfl) (val_eq rfl rfl) ?_
              refine vd_val rfl rfl rfl (.some rfl) (val_move rfl) ?_
              refine vd_split (t := 53) rfl (fun hg53 => ?_) (fun hg53 => ?_)
              · (try replace hg53 := of_decide_eq_true hg53)
                have hnk := kz hg53
                refine vd_off rfl rfl rfl rfl rfl rfl (.some rfl) ?_
                refine vd_off rfl rfl rfl rfl rfl rfl (.some rfl) ?_
                refine vd_off rfl rfl rfl rfl rfl rfl (.some rfl) ?_
                refine vd_off rfl rfl rfl rfl rfl rfl (.some rfl) ?_
                refine vd_off rfl rfl rfl rfl rfl rfl (.some rfl) ?_
                refine vd_op rfl rfl ?_
                refine vl_off rfl rfl rfl rfl (.some rfl) ?_
                refine vl_nil ?_
                refine ⟨fun _ => ⟨_, (by repeat (first | exact .nil | exact sub_self _ | exact sub_skip (sub_self _) | exact sub_skip (sub_skip (sub_self _)) | exact sub_skip (sub_skip (sub_skip (sub_self _))) | (apply Sub.cons; · repeat (first | exact .head | apply Take.tail))))⟩, ?_⟩
                refine vd_off rfl rfl rfl rfl rfl rfl (.some rfl) ?_
                refine vd_val rfl rfl rfl (.some rfl) (val_pick rfl rfl) ?_
                refine vd_nil ?_
                refine vc_cond rfl (fun _ => ?_) (fun h => by cases h)
                refine vc_seq ?_
                refine vc_region ?_
                refine vl_val rfl (.some rfl) (val_assign rfl) ?_
                refine vl_nil ?_
                refine vc_ret ?_
                refine ⟨_, [DB ds], _, res1 Try.results26 rfl, (by repeat constructor), ?_⟩
                refine ⟨?_, rfl⟩
                rw [mayE_kind (i := i) (by omega) (by rw [hKg]; exact hnk)]
              · (try replace hg53 := of_decide_eq_false hg53)
                obtain ⟨hok8, hkk⟩ := kz2 hg53
                refine vd_on rfl rfl rfl rfl rfl rfl (.some rfl) (val_move rfl) ?_
                refine vd_on rfl rfl rfl rfl rfl rfl (.some rfl) (val_move rfl) ?_
                refine vd_on rfl rfl rfl rfl rfl rfl (.some rfl) (val_move rfl) ?_
                refine vd_on rfl rfl rfl rfl rfl rfl (.some rfl) (val_indexAddr Try.runUnderlying22 Try.sizeOf3 rfl rfl (rd_oldM hk) (by omega) (by omega) (by rw [icells_length]; omega)) ?_
                refine vd_on rfl rfl rfl rfl rfl rfl (.some rfl) (val_load Try.isAgg3 rfl (cell_rd (rd_oldM hk) (icells_at (by omega)))) ?_
                refine vd_op rfl rfl ?_
                refine vl_on rfl rfl rfl rfl ?_
                refine vl_callR [DB ds] rfl rfl (.some rfl) Try.call36 rfl (by repeat constructor) (fun w hw => dbKindA hi8 w) ?_
                refine vl_nil ?_
                refine ⟨fun _ => ⟨_, (by repeat (first | exact .nil | exact sub_self _ | exact sub_skip (sub_self _) | exact sub_skip (sub_skip (sub_self _)) | exact sub_skip (sub_skip (sub_skip (sub_self _))) | (apply Sub.cons; · repeat (first | exact .head | apply Take.tail))))⟩, ?_⟩
                refine vd_on rfl rfl rfl rfl rfl rfl (.some rfl) (val_eqv (v' := .bool false) (v := .bool (decide ((if okK (ds.getD i dd0).kd then (ds.getD i dd0).kd else 0) ≠ KS.getD i 0))) (congrArg Value.bool (decide_eq_false (fun h => h (by rw [hkk, hKg])))) (val_ne rfl rfl)) ?_
                refine vd_val rfl rfl rfl (.some rfl) (val_pick rfl rfl) ?_
                refine vd_nil ?_
                refine vc_cond rfl (fun h => by cases h) (fun _ => ?_)
                refine vc_skip ?_
                refine vc_region ?_
                refine vl_val rfl (.some rfl) (val_add rfl rfl (by first | exact w_i64 (by omega) (by omega) | rfl)) ?_
                refine vl_val rfl (.some rfl) (val_move rfl) ?_
                refine vl_nil ?_
                exact ⟨ds.length - (i + 1), _, _, _, by omega, (by repeat (first | exact trivial | refine ⟨rfl, ?_⟩ | refine ⟨le_item rfl (by first | rfl | (congr 1; omega) | (simp; done) | (simp; omega)), ?_⟩)), (by repeat constructor), ⟨i + 1, by omega, rfl, ext_lt hok (by rw [hKg]; exact hok8), rfl, rfl⟩⟩
            · (try replace hc1 := of_decide_eq_false hc1)
              obtain rfl : i = ds.length := by omega
              have hok2 : ∀ i, i < KS.length → okK (KS.getD i 0) := fun i hi => hok i (by omega)
              refine vc_exit ?_
              refine vc_seq ?_
              refine vc_seq ?_
              refine vc_region ?_
              refine vl_val rfl (.some rfl) (val_move rfl) ?_
              refine vl_val rfl (.some rfl) (val_lenSl Try.runUnderlying23 rfl) ?_
              refine vl_val rfl (.some rfl) (val_move rfl) ?_
              refine vl_nil ?_
              refine vc_block ?_
              refine vc_loopw (fun k E H => ∃ r : Nat, r ≤ rows.length ∧ k = rows.length - r ∧ (∀ j, j < r → ¬ rowBad KS (RS.getD j [])) ∧ E = [(0, .slice Ak ds.length ck), (1, .slice Ar rows.length cr), (2, .slice Ad ds.length cd), (7, .int .i64 ds.length), (63, .slice Ar rows.length cr), (64, .int .i64 rows.length), (65, .int .i64 r)] ∧ H = [DB ds]) (rows.length) ⟨_, _, _, ⟨0, by omega, by omega, fun j h => absurd h (by omega), rfl, rfl⟩, (by repeat (first | exact trivial | refine ⟨rfl, ?_⟩ | refine ⟨le_item rfl (by first | rfl | (congr 1; omega) | (simp; done) | (simp; omega)), ?_⟩)), (by repeat constructor)⟩ ?_
              intro k E H hI
              obtain ⟨r, hr, rfl, hgr, rfl, rfl⟩ := hI
              refine vc_seq ?_
              refine vc_region ?_
              refine vl_val rfl (.some rfl) (val_lt rfl rfl) ?_
              refine vl_nil ?_
              refine vc_seq ?_
              refine vc_cond rfl (fun hc3 => ?_) (fun hc3 => ?_)
              · (try replace hc3 := of_decide_eq_true hc3)
                have hr8 : r < rows.length := by omega
                have hq := hrow _ (mem_getD rw0 hr8)
                have hql := hll _ (mem_getD rw0 hr8)
                refine vc_skip ?_
                refine vc_seq ?_
                refine vc_block ?_
                refine vc_seq ?_
                refine vc_region ?_
                refine vl_val rfl (.some rfl) (val_indexAddr Try.runUnderlying23 Try.sizeOf53 rfl rfl (rd_oldM hrd) (by omega) (by omega) (by rw [rowC_len]; omega)) ?_
                refine vl_val rfl (.some rfl) (val_load Try.isAgg53 rfl (cell_rd (rd_oldM hrd) (rowC_at (by omega)))) ?_
                refine vl_val rfl (.some rfl) (val_assign rfl) ?_
                refine vl_nil ?_
                refine vc_seq ?_
                refine vc_seq ?_
                refine vc_region ?_
                refine vl_val rfl (.some rfl) (val_move rfl) ?_
                refine vl_val rfl (.some rfl) (val_lenSl Try.runUnderlying53 rfl) ?_
                refine vl_val rfl (.some rfl) (val_move rfl) ?_
                refine vl_val rfl (.some rfl) (val_ne rfl rfl) ?_
                refine vl_nil ?_
                refine vc_cond rfl (fun hc4 => ?_) (fun hc4 => ?_)
                · (try replace hc4 := of_decide_eq_true hc4)
                  have hrb : rowBad KS (RS.getD r []) := .inl (by rw [hRg]; omega)
                  refine vc_seq ?_
                  refine vc_region ?_
                  refine vl_val rfl (.some rfl) (val_assign rfl) ?_
                  refine vl_nil ?_
                  refine vc_ret ?_
                  refine ⟨_, [DB ds], _, res1 Try.results26 rfl, (by repeat constructor), ?_⟩
                  refine ⟨?_, rfl⟩
                  rw [mayE_sch h0 hok2 (i := r) (by omega) hrb]
                · (try replace hc4 := of_decide_eq_false hc4)
                  have hlen : (rows.getD r rw0).2.2.length = ds.length := by omega
                  refine vc_skip ?_
                  refine vc_seq ?_
                  refine vc_region ?_
                  refine vl_val rfl (.some rfl) (val_move rfl) ?_
                  refine vl_val rfl (.some rfl) (val_lenSl Try.runUnderlying53 rfl) ?_
                  refine vl_val rfl (.some rfl) (val_move rfl) ?_
                  refine vl_nil ?_
                  refine vc_block ?_
                  refine vc_loopw (fun k E H => ∃ i : Nat, i ≤ ds.length ∧ k = ds.length - i ∧ (∀ j, j < i → fitsB ((rows.getD r rw0).2.2.getD j z3) (KS.getD j 0) = true) ∧ E = [(0, .slice Ak ds.length ck), (1, .slice Ar rows.length cr), (2, .slice Ad ds.length cd), (7, .int .i64 ds.length), (63, .slice Ar rows.length cr), (64, .int .i64 rows.length), (65, .int .i64 r), (73, .slice (rows.getD r rw0).1 (rows.getD r rw0).2.2.length (rows.getD r rw0).2.1), (74, .int .i64 ds.length), (75, .int .i64 i)] ∧ H = [DB ds]) (ds.length) ⟨_, _, _, ⟨0, by omega, by omega, fun j h => absurd h (by omega), rfl, rfl⟩, (by repeat (first | exact trivial | refine ⟨rfl, ?_⟩ | refine ⟨le_item rfl (by first | rfl | (congr 1; omega) | (simp; done) | (simp; omega)), ?_⟩)), (by repeat constructor)⟩ ?_
                  intro k E H hI
                  obtain ⟨i, hi, rfl, hgf, rfl, rfl⟩ := hI
                  refine vc_seq ?_
                  refine vc_region ?_
                  refine vl_val rfl (.some rfl) (val_lt rfl rfl) ?_
                  refine vl_nil ?_
                  refine vc_seq ?_
                  refine vc_cond rfl (fun hc5 => ?_) (fun hc5 => ?_)
                  · (try replace hc5 := of_decide_eq_true hc5)
                    refine vc_skip ?_
                    refine vc_seq ?_
                    refine vc_block ?_
                    refine vc_seq ?_
                    refine vc_region ?_
                    refine vl_val rfl (.some rfl) (val_move rfl) ?_
                    refine vl_val rfl (.some rfl) (val_indexAddr Try.runUnderlying53 Try.sizeOf62 rfl rfl (rd_oldM hq) (by omega) (by omega) (by rw [vflat_len]; omega)) ?_
                    refine vl_val rfl (.some rfl) (val_loadAgg Try.isAgg62 Try.sizeOf62 rfl (cells_rd (us := [.int .i64 ((rows.getD r rw0).2.2.getD i z3).k, .int .i64 ((rows.getD r rw0).2.2.getD i z3).n, .string ((rows.getD r rw0).2.2.getD i z3).s]) (rd_oldM hq) (by rw [Int.toNat_natCast]; exact flat_at _ _ (by omega))) rfl) ?_
                    refine vl_alloc rfl rfl (.some rfl) Try.zeroValue62 (fun r13 => ?_)
                    refine vl_val rfl (.some rfl) (val_assign rfl) ?_
                    first | refine vl_store rfl rfl .none rfl rfl Try.sizeOf62 rfl (by repeat constructor) (by first | decide | exact Nat.le_refl _ | exact Nat.le_of_ble_eq_true rfl | (simp; omega)) ?_ | refine vl_storeSl rfl rfl .none rfl rfl Try.sizeOf62 rfl (by simp [Value.cells]) (by repeat constructor) (by first | decide | (simp [Value.cells]; omega)) ?_
                    refine vl_nil ?_
                    refine vc_seq ?_
                    refine vc_draws [0, 1, 2, 3, 4, 6] [] [0, 1, 2, 3, 4, 5, 6] rfl (by kernel_rfl) (fun _ _ _ h => h) ?_
                    refine vd_val rfl rfl rfl (.some rfl) (val_loadAgg Try.isAgg62 Try.sizeOf62 rfl (by first | exact cells_whole (by repeat constructor) | exact cells_part (by repeat constructor) rfl) rfl) ?_
                    refine vd_val rfl rfl rfl (.some rfl) (val_move rfl) ?_
                    refine vd_val rfl rfl rfl (.some rfl) (val_move rfl) ?_
                    refine vd_val rfl rfl rfl (.some rfl) (val_indexAddr Try.runUnderlying22 Try.sizeOf3 rfl rfl (rd_oldM hk) (by omega) (by omega) (by rw [icells_length]; omega)) ?_
                    refine vd_val rfl rfl rfl (.some rfl) (val_load Try.isAgg3 rfl (cell_rd (rd_oldM hk) (icells_at (by omega)))) ?_
                    refine vd_op rfl rfl ?_
                    refine vl_callV rfl rfl (.some rfl) Try.call57 rfl (fun w hw => vFits ((rows.getD r rw0).2.2.getD i z3) (KS.getD i 0) (hok2 i (by omega)) w) ?_
                    refine vl_nil ?_
                    refine ⟨fun _ => ⟨_, (by repeat (first | exact .nil | exact sub_self _ | exact sub_skip (sub_self _) | exact sub_skip (sub_skip (sub_self _)) | exact sub_skip (sub_skip (sub_skip (sub_self _))) | (apply Sub.cons; · repeat (first | exact .head | apply Take.tail))))⟩, ?_⟩
                    refine vd_val rfl rfl rfl (.some rfl) (val_not rfl) ?_
                    refine vd_nil ?_
                    refine vc_cond rfl (fun hc6 => ?_) (fun hc6 => ?_)
                    · (try replace hc6 := of_decide_eq_true hc6)
                      have hrb : rowBad KS (RS.getD r []) := .inr ⟨i, by omega, by rw [hRg]; simpa using hc6⟩
                      refine vc_seq ?_
                      refine vc_region ?_
                      refine vl_val rfl (.some rfl) (val_assign rfl) ?_
                      refine vl_nil ?_
                      refine vc_ret ?_
                      refine ⟨_, [DB ds], _, res1 Try.results26 rfl, (by repeat constructor), ?_⟩
                      refine ⟨?_, rfl⟩
                      rw [mayE_sch h0 hok2 (i := r) (by omega) hrb]
                    · (try replace hc6 := of_decide_eq_false hc6)
                      have hft : fitsB ((rows.getD r rw0).2.2.getD i z3) (KS.getD i 0) = true := by simpa using hc6
                      refine vc_skip ?_
                      refine vc_region ?_
                      refine vl_val rfl (.some rfl) (val_add rfl rfl (by first | exact w_i64 (by omega) (by omega) | rfl)) ?_
                      refine vl_val rfl (.some rfl) (val_move rfl) ?_
                      refine vl_nil ?_
                      exact ⟨ds.length - (i + 1), _, _, _, by omega, (by repeat (first | exact trivial | refine ⟨rfl, ?_⟩ | refine ⟨le_item rfl (by first | rfl | (congr 1; omega) | (simp; done) | (simp; omega)), ?_⟩)), (by repeat constructor), ⟨i + 1, by omega, rfl, ext_lt hgf hft, rfl, rfl⟩⟩
                  · (try replace hc5 := of_decide_eq_false hc5)
                    obtain rfl : i = ds.length := by omega
                    have hnb : ¬ rowBad KS (RS.getD r []) := not_rowBad (by rw [hRg]; omega) (fun j hj => by rw [hRg]; exact hgf j (by omega))
                    refine vc_exit ?_
                    refine vc_region ?_
                    refine vl_val rfl (.some rfl) (val_add rfl rfl (by first | exact w_i64 (by omega) (by omega) | rfl)) ?_
                    refine vl_val rfl (.some rfl) (val_move rfl) ?_
                    refine vl_nil ?_
                    exact ⟨rows.length - (r + 1), _, _, _, by omega, (by repeat (first | exact trivial | refine ⟨rfl, ?_⟩ | refine ⟨le_item rfl (by first | rfl | (congr 1; omega) | (simp; done) | (simp; omega)), ?_⟩)), (by repeat constructor), ⟨r + 1, by omega, rfl, ext_lt hgr hnb, rfl, rfl⟩⟩
              · (try replace hc3 := of_decide_eq_false hc3)
                obtain rfl : r = rows.length := by omega
                have hgr2 : ∀ i, i < RS.length → ¬ rowBad KS (RS.getD i []) := fun i hi => hgr i (by omega)
                refine vc_exit ?_
                refine vc_seq ?_
                refine vc_seq ?_
                refine vc_region ?_
                refine vl_val rfl (.some rfl) (val_move rfl) ?_
                refine vl_val rfl (.some rfl) (val_lenSl Try.runUnderlying26 rfl) ?_
                refine vl_val rfl (.some rfl) (val_move rfl) ?_
                refine vl_nil ?_
                refine vc_block ?_
                refine vc_loopw (fun k E H => ∃ i : Nat, i ≤ ds.length ∧ k = ds.length - i ∧ (∀ j, j < i → roomT (KS.getD j 0) (DV.getD j []) (colR RS j) ≠ false) ∧ E = [(0, .slice Ak ds.length ck), (1, .slice Ar rows.length cr), (2, .slice Ad ds.length cd), (7, .int .i64 ds.length), (89, .slice Ad ds.length cd), (90, .int .i64 ds.length), (91, .int .i64 i)] ∧ H = [DB ds]) (ds.length) ⟨_, _, _, ⟨0, by omega, by omega, fun j h => absurd h (by omega), rfl, rfl⟩, (by repeat (first | exact trivial | refine ⟨rfl, ?_⟩ | refine ⟨le_item rfl (by first | rfl | (congr 1; omega) | (simp; done) | (simp; omega)), ?_⟩)), (by repeat constructor)⟩ ?_
                intro k E H hI
                obtain ⟨i, hi, rfl, hrm, rfl, rfl⟩ := hI
                refine vc_seq ?_
                refine vc_region ?_
                refine vl_val rfl (.some rfl) (val_lt rfl rfl) ?_
                refine vl_nil ?_
                refine vc_seq ?_
                refine vc_cond rfl (fun hc7 => ?_) (fun hc7 => ?_)
                · (try replace hc7 := of_decide_eq_true hc7)
                  have hi8 : i < ds.length := by omega
                  refine vc_skip ?_
                  refine vc_seq ?_
                  refine vc_block ?_
                  refine vc_seq ?_
                  refine vc_region ?_
                  refine vl_val rfl (.some rfl) (val_move rfl) ?_
                  refine vl_val rfl (.some rfl) (val_indexAddr Try.runUnderlying26 Try.sizeOf51 rfl rfl (rd_oldM hdp) (by omega) (by omega) (by rw [List.length_map]; omega)) ?_
                  refine vl_val rfl (.some rfl) (val_load Try.isAgg51 rfl (cell_rd (rd_oldM hdp) (map_at dd0 (by omega)))) ?_
                  refine vl_val rfl (.some rfl) (val_assign rfl) ?_
                  refine vl_val rfl (.some rfl) (val_assign rfl) ?_
                  refine vl_nil ?_
                  refine vc_seq ?_
                  refine vc_region ?_
                  refine vl_val rfl (.some rfl) (val_assign rfl) ?_
                  refine vl_nilSl 62 3 ?_
                  refine vl_nil ?_
                  refine vc_seq ?_
                  refine vc_seq ?_
                  refine vc_region ?_
                  refine vl_val rfl (.some rfl) (val_move rfl) ?_
                  refine vl_val rfl (.some rfl) (val_lenSl Try.runUnderlying23 rfl) ?_
                  refine vl_val rfl (.some rfl) (val_move rfl) ?_
                  refine vl_nil ?_
                  refine vc_block ?_
                  refine vc_loopw (fun k E H => ∃ (r : Nat) (A16 : Option Addr) (c16 : Nat), r ≤ rows.length ∧ k = rows.length - r ∧ E = [(0, .slice Ak ds.length ck), (1, .slice Ar rows.length cr), (2, .slice Ad ds.length cd), (7, .int .i64 ds.length), (89, .slice Ad ds.length cd), (90, .int .i64 ds.length), (91, .int .i64 i), (14, .int .i64 i), (15, ddP (ds.getD i dd0)), (16, .slice A16 ((colR RS i).take r).length c16), (96, .slice Ar rows.length cr), (97, .int .i64 rows.length), (98, .int .i64 r)] ∧ H = [DS A16 c16 ((colR RS i).take r), DB ds]) (rows.length) ⟨_, _, _, ⟨0, none, 0, by omega, by omega, rfl, rfl⟩, (by repeat (first | exact trivial | refine ⟨rfl, ?_⟩ | refine ⟨le_item rfl (by first | rfl | (congr 1; omega) | (simp; done) | (simp; omega)), ?_⟩)), (by repeat constructor)⟩ ?_
                  intro k E H hI
                  obtain ⟨r, A16, c16, hr, rfl, rfl, rfl⟩ := hI
                  refine vc_seq ?_
                  refine vc_region ?_
                  refine vl_val rfl (.some rfl) (val_lt rfl rfl) ?_
                  refine vl_nil ?_
                  refine vc_seq ?_
                  refine vc_cond rfl (fun hc8 => ?_) (fun hc8 => ?_)
                  · (try replace hc8 := of_decide_eq_true hc8)
                    have hr8 : r < rows.length := by omega
                    have hq := hrow _ (mem_getD rw0 hr8)
                    have hlen := rowBad_len (hgr2 r (by omega))
                    rw [hRg] at hlen
                    have hct := colR_take (rows := RS) (i := i) (r := r) (by omega)
                    rw [hRg] at hct
                    have htl : ((colR RS i).take r).length ≤ 1000 := by rw [List.length_take, colR_len]; omega
                    refine vc_skip ?_
                    refine vc_seq ?_
                    refine vc_block ?_
                    refine vc_seq ?_
                    refine vc_region ?_
                    refine vl_val rfl (.some rfl) (val_indexAddr Try.runUnderlying23 Try.sizeOf53 rfl rfl (rd_oldM hrd) (by omega) (by omega) (by rw [rowC_len]; omega)) ?_
                    refine vl_val rfl (.some rfl) (val_load Try.isAgg53 rfl (cell_rd (rd_oldM hrd) (rowC_at (by omega)))) ?_
                    refine vl_val rfl (.some rfl) (val_assign rfl) ?_
                    refine vl_nil ?_
                    refine vc_region ?_
                    refine vl_val rfl (.some rfl) (val_move rfl) ?_
                    refine vl_val rfl (.some rfl) (val_move rfl) ?_
                    refine vl_val rfl (.some rfl) (val_move rfl) ?_
                    refine vl_val rfl (.some rfl) (val_indexAddr Try.runUnderlying53 Try.sizeOf62 rfl rfl (rd_oldM hq) (by omega) (by omega) (by rw [vflat_len]; omega)) ?_
                    refine vl_val rfl (.some rfl) (val_loadAgg Try.isAgg62 Try.sizeOf62 rfl (cells_rd (us := [.int .i64 ((rows.getD r rw0).2.2.getD i z3).k, .int .i64 ((rows.getD r rw0).2.2.getD i z3).n, .string ((rows.getD r rw0).2.2.getD i z3).s]) (rd_oldM hq) (by rw [Int.toNat_natCast]; exact flat_at _ _ (by omega))) rfl) ?_
                    refine vl_lit sT53 rfl rfl (.some rfl) rfl rfl rfl (by decide) (by decide) rfl rfl (fun r107 => ?_)
                    refine vl_append (us := flat [(rows.getD r rw0).2.2.getD i z3]) sT53 rfl rfl (.some rfl) rfl rfl (rd_sl (by repeat constructor)) rfl rfl (by omega) (by omega) (by repeat constructor) (fun A108 k108 => ?_)
                    rw [show flat ((colR RS i).take r) ++ flat [(rows.getD r rw0).2.2.getD i z3] = flat ((colR RS i).take (r + 1)) by rw [hct]; exact vk1 _ _, show ((colR RS i).take r).length + 1 = ((colR RS i).take (r + 1)).length by rw [hct]; simp]
                    refine vl_val rfl (.some rfl) (val_assign rfl) ?_
                    refine vl_nil ?_
                    refine vc_region ?_
                    refine vl_val rfl (.some rfl) (val_add rfl rfl (by first | exact w_i64 (by omega) (by omega) | rfl)) ?_
                    refine vl_val rfl (.some rfl) (val_move rfl) ?_
                    refine vl_nil ?_
                    exact ⟨rows.length - (r + 1), _, _, _, by omega, (by repeat (first | exact trivial | refine ⟨rfl, ?_⟩ | refine ⟨le_item rfl (by first | rfl | (congr 1; omega) | (simp; done) | (simp; omega)), ?_⟩)), (by repeat constructor), ⟨r + 1, A108, k108, by omega, rfl, rfl, rfl⟩⟩
                  · (try replace hc8 := of_decide_eq_false hc8)
                    obtain rfl : r = rows.length := by omega
                    rw [show (colR RS i).take rows.length = colR RS i by rw [← hRl, ← colR_len RS i]; exact List.take_length]
                    refine vc_exit ?_
                    refine vc_seq ?_
                    refine vc_region ?_
                    refine vl_val rfl (.some rfl) (val_move rfl) ?_
                    refine vl_val rfl (.some rfl) (val_move rfl) ?_
                    refine vl_callR [DB ds] rfl rfl (.some rfl) Try.call58 rfl (by repeat constructor) (fun w hw => dbRoom hi8 (by rw [← hKg]; exact hok2 i (by omega)) (h512 i) A16 c16 (colR RS i) (by rw [colR_len]; omega) w (by have h := readsM_sl (C := [DB ds]) (vs := flat (colR RS i)) (by repeat constructor) (by repeat constructor) hw; exact h)) ?_
                    rw [← hKg, ← hDg]
                    refine vl_val rfl (.some rfl) (val_not rfl) ?_
                    refine vl_nil ?_
                    refine vc_cond rfl (fun hc9 => ?_) (fun hc9 => ?_)
                    · (try replace hc9 := of_decide_eq_true hc9)
                      have hrf : roomT (KS.getD i 0) (DV.getD i []) (colR RS i) = false := by simpa using hc9
                      refine vc_seq ?_
                      refine vc_region ?_
                      refine vl_val rfl (.some rfl) (val_assign rfl) ?_
                      refine vl_nil ?_
                      refine vc_ret ?_
                      refine ⟨_, [DB ds], _, res1 Try.results26 rfl, (by repeat constructor), ?_⟩
                      refine ⟨?_, rfl⟩
                      rw [mayE_full h0 hok2 hgr2 (i := i) (by omega) hrf]
                    · (try replace hc9 := of_decide_eq_false hc9)
                      have hrt : roomT (KS.getD i 0) (DV.getD i []) (colR RS i) ≠ false := by simpa using hc9
                      refine vc_skip ?_
                      refine vc_region ?_
                      refine vl_val rfl (.some rfl) (val_add rfl rfl (by first | exact w_i64 (by omega) (by omega) | rfl)) ?_
                      refine vl_val rfl (.some rfl) (val_move rfl) ?_
                      refine vl_nil ?_
                      exact ⟨ds.length - (i + 1), _, _, _, by omega, (by repeat (first | exact trivial | refine ⟨rfl, ?_⟩ | refine ⟨le_item rfl (by first | rfl | (congr 1; omega) | (simp; done) | (simp; omega)), ?_⟩)), (by repeat constructor), ⟨i + 1, by omega, rfl, ext_lt hrm hrt, rfl, rfl⟩⟩
                · (try replace hc7 := of_decide_eq_false hc7)
                  obtain rfl : i = ds.length := by omega
                  refine vc_exit ?_
                  refine vc_seq ?_
                  refine vc_region ?_
                  refine vl_val rfl (.some rfl) (val_assign rfl) ?_
                  refine vl_nil ?_
                  refine vc_ret ?_
                  refine ⟨_, [DB ds], _, res1 Try.results26 rfl, (by repeat constructor), ?_⟩
                  refine ⟨?_, rfl⟩
                  rw [mayE_ok h0 hok2 hgr2 (fun i hi => hrm i (by omega))]


end Go.Proofs.Ytdehjgpdcdjhjaa.K
