/- Walks of the program's functions, printed by a program of this session; Lean checks them. -/
import Derived.Test.YtibfngjfjddaiaaCpack
namespace Go.Proofs.Ytibfngjfjddaiaa.K
open Go Go.RowKit Go.Proofs
set_option linter.unusedVariables false
set_option linter.unusedSimpArgs false
set_option maxRecDepth 20000 in
theorem sT95 : SlT Try.prog 95 96 1 8 (.int .u64 0) := ⟨Try.underlying95, ⟨Try.t96, Try.type96, rfl, rfl, rfl⟩, rfl, Nat.lt_of_sub_eq_succ rfl⟩
/-- What is thrown at bytes that are none. -/
abbrev wrongV : Value := .iface 127 (.agg #[])
abbrev wrongCh : List PanicEntry := [{ v := wrongV, recovered := false }]
/-- The worlds in which all old memory is as it was. -/
def Ext (w w' : World) : Prop := ∀ b, b < w.heap.size → w'.heap[b]? = w.heap[b]?
theorem Ext.reads {w w' : World} (h : Ext w w') {A : Option Addr} {vs : List Value} (hr : Reads w A vs) : Reads w' A vs := fun j u hu => by
  obtain ⟨x, rfl, hx⟩ := hr j u hu
  exact ⟨x, rfl, by rw [World.cell?_of_block (w := w) (h _ (World.block_lt_of_cell? _ _ hx))]; exact hx⟩
theorem Ext.cell {w w' : World} (h : Ext w w') {a : Addr} {v : Value} (hc : w.cell? a = some v) : w'.cell? a = some v := by
  rw [World.cell?_of_block (w := w) (h _ (World.block_lt_of_cell? _ _ hc))]; exact hc

/-- What a reader tells: all numbers, or that bytes are none. -/
def toldCaughtU (res : Option (List Nat)) : Ending → List Chunk → Prop := fun e H' => match res with
  | some l => ∃ A c, e = .returned (.slice A l.length c) ∧ H' = [UW A l.length c l]
  | none => e = .panicked wrongCh
def gaveCaughtU (res : Option (List Nat)) (v : Value) (H' : List Chunk) : Prop := match res with
  | some l => ∃ A c, v = .tuple #[.slice A l.length c, .int .i64 0] ∧ H' = [UW A l.length c l]
  | none => v = .tuple #[.slice none 0 0, .int .i64 8] ∧ H' = []
set_option maxRecDepth 20000 in
theorem cCaughtUR (a b : Nat) (va vb : Value) (w : World) : FnD Try.prog 97 [.pointer (some ⟨a, 0, none⟩), .pointer (some ⟨b, 0, none⟩)] .returning [cells a [va] 95, cells b [vb] 29] (fun e u' H' => e = .returned (.tuple #[]) ∧ u' = .returning ∧ H' = [cells a [va] 95, cells b [vb] 29]) w := by
  refine fnD_enter Try.func97 rfl Try.ntmps97 rfl (fun c₀ cs hc => ?_)
  have hc0 : ({ c₀ with mode := .returning } : Frame) = c₀ := by cases c₀; simp at hc; subst hc; rfl
  refine vs_seqS ?_
  refine vls_recover rfl rfl (.some rfl) (fun a w => rfl) (v := .nilIface) (cs' := c₀ :: cs) (by simp [recoverD, hc]) ?_
  refine vls_nil (show VS _ _ _ _ _ _ from ?_)
  refine vs_of ?_
  refine vc_block ?_
  refine vc_seq ?_
  refine vc_region ?_
  refine vl_val rfl (.some rfl) (val_opO rfl rfl guard_ifnil (bin_ifnil_eq Try.runUnderlying20)) ?_
  refine vl_nil ?_
  refine vc_cond rfl (fun _ => ?_) (fun h => by cases h)
  refine vc_region ?_
  refine vl_val rfl (.some rfl) (val_assign rfl) ?_
  refine vl_nil ?_
  have := raw_endS (P := Try.prog) (w := w) (M := fps [cells a [va] 95, cells b [vb] 29]) (n := 11) (fn := Try.f97) (c₀ := c₀) (cs := cs) (R := fun e u' H' => e = .returned (.tuple #[]) ∧ u' = .returning ∧ H' = [cells a [va] 95, cells b [vb] 29]) (u' := .returning) (e := .normal) (E := [(2, .nilIface), (7, .bool true), (5, .nilIface), (0, .pointer (some ⟨a, 0, none⟩)), (1, .pointer (some ⟨b, 0, none⟩))]) (H := [cells a [va] 95, cells b [vb] 29]) ⟨_, _, [], res0 Try.results97, sub_self _, rfl, rfl, rfl⟩
  rw [hc0] at this
  exact this
set_option maxRecDepth 20000 in
theorem cCaughtUP (a b : Nat) (va vb : Value) (w : World) : FnD Try.prog 97 [.pointer (some ⟨a, 0, none⟩), .pointer (some ⟨b, 0, none⟩)] (.panicking wrongCh) [cells a [va] 95, cells b [vb] 29] (fun e u' H' => e = .returned (.tuple #[]) ∧ settle u' = .returning ∧ H' = [cells a [.slice none 0 0] 95, cells b [.int .i64 8] 29]) w := by
  refine fnD_enter Try.func97 rfl Try.ntmps97 rfl (fun c₀ cs hc => ?_)
  refine vs_seqS ?_
  refine vls_recover rfl rfl (.some rfl) (fun a w => rfl) (v := wrongV) (cs' := { c₀ with mode := .panicking [{ v := wrongV, recovered := true }] } :: cs) (by simp [recoverD, hc]) ?_
  refine vls_nil (show VS _ _ _ _ _ _ from ?_)
  refine vs_of ?_
  refine vc_block ?_
  refine vc_seq ?_
  refine vc_region ?_
  refine vl_val rfl (.some rfl) (val_opO rfl rfl guard_iface (bin_iface_eq Try.runUnderlying20)) ?_
  refine vl_nil ?_
  refine vc_cond rfl (fun h => by cases h) (fun _ => ?_)
  refine vc_seq ?_
  refine vc_region ?_
  refine vl_val rfl (.some rfl) (val_isType Try.runUnderlying127 rfl Try.zeroValue127 rfl) ?_
  refine vl_val rfl (.some rfl) (val_extract rfl rfl) ?_
  refine vl_val rfl (.some rfl) (val_extract rfl rfl) ?_
  refine vl_nil ?_
  refine vc_cond rfl (fun _ => ?_) (fun h => by cases h)
  refine vc_seq ?_
  refine vc_region ?_
  refine vl_alloc rfl rfl (.some rfl) Try.zeroValue127 (fun r3 => ?_)
  refine vl_store rfl rfl .none rfl rfl Try.sizeOf127 rfl (by repeat (first | exact .head | apply In.tail | apply Take.tail | apply Upd.tail)) (Nat.le_refl _) ?_
  refine vl_nil ?_
  refine vc_region ?_
  refine vl_store rfl rfl .none rfl rfl Try.sizeOf95 rfl (by repeat (first | exact .head | apply In.tail | apply Take.tail | apply Upd.tail)) (Nat.le_refl _) ?_
  refine vl_store rfl rfl .none rfl rfl Try.sizeOf29 rfl (by repeat (first | exact .head | apply In.tail | apply Take.tail | apply Upd.tail)) (Nat.le_refl _) ?_
  refine vl_nil ?_
  exact raw_endS (u' := .panicking [{ v := wrongV, recovered := true }]) ⟨_, [cells a [.slice none 0 0] 95, cells b [.int .i64 8] 29], _, res0 Try.results97, (by repeat (first | exact .nil | (apply Sub.cons; · repeat (first | exact .head | apply Take.tail)))), rfl, rfl, rfl⟩
set_option maxRecDepth 20000 in
theorem cCaughtU (f : FuncId) (caps : List Value) (res : Option (List Nat)) (w : World) (hc : ∀ args w, (callFunc f args).run Try.prog w = .ok (.enter f args) w) (hf : ∀ w', Ext w w' → Fn Try.prog f caps [] (toldCaughtU res) w') :
    Fn Try.prog 86 [.func (.func f) #[] caps.toArray] [] (ret (gaveCaughtU res)) w := by
  refine fn_enterD Try.func86 rfl Try.ntmps86 rfl ?_
  refine vw_seq ?_
  refine vc_region ?_
  refine vl_alloc rfl rfl (.some rfl) Try.zeroValue95 (fun r2 => ?_)
  refine vl_alloc rfl rfl (.some rfl) Try.zeroValue29 (fun r3 => ?_)
  refine vl_nil (show VW _ _ _ _ _ from ?_)
  refine vw_seqD ?_
  refine vlw_op (Q := fun _ _ _ => False) (no_lets fun _ _ h => h) ?_ (fun _ _ _ h => h.elim)
  · refine vl_val rfl (.some rfl) (val_mkFunc (us := []) rfl rfl) ?_
    refine vl_nil (show VLW _ _ _ _ _ _ from ?_)
    refine vlw_defer rfl rfl rfl (fs := []) (cs := [.pointer (some ⟨r2, 0, none⟩), .pointer (some ⟨r3, 0, none⟩)]) rfl (args := []) rfl ?_
    refine vlw_nil (show VW _ _ _ _ _ from ?_)
    refine vw_of ?_
    refine vc_seq ?_
    refine vc_region ?_
    refine vl_val rfl (.some rfl) (val_move rfl) ?_
    refine vl_callA (C := []) (R := toldCaughtU res) (run_callv (fs := []) (cs := caps) (args := []) rfl rfl hc rfl) rfl (.some rfl) .nil (fun w' hw => by
      rw [show ([] : List Value) ++ [] ++ caps = caps from rfl]
      exact hf w' (fun b hb => hw.old b hb (by simp [fps]))) (fun v H' hr => ?_) (fun ch H' hr => ?_) (fun H' h => by cases res with
        | none => cases h
        | some l => obtain ⟨A, c, h, _⟩ := h; cases h)
    · cases res with
      | none => cases hr
      | some l =>
        obtain ⟨A, c, hv, rfl⟩ := hr
        cases hv
        show VL _ _ _ _ _ (_ :: _ :: _)
        refine vl_store rfl rfl .none rfl rfl Try.sizeOf95 rfl (by repeat (first | exact .head | apply In.tail | apply Take.tail | apply Upd.tail)) (Nat.le_refl _) ?_
        refine vl_store rfl rfl .none rfl rfl Try.sizeOf29 rfl (by repeat (first | exact .head | apply In.tail | apply Take.tail | apply Upd.tail)) (Nat.le_refl _) ?_
        refine vl_nil ?_
        refine vc_ret ?_
        intro a w' ha hw
        refine leaves_one (C := [cells r2 [.slice A l.length c] 95, cells r3 [.int .i64 0] 29]) ha hw rfl (by simp) Try.call97 (by repeat (first | exact .nil | (apply Sub.cons; · repeat (first | exact .head | apply Take.tail)))) (fun w => cCaughtUR r2 r3 _ _ w) (fun v u' H' h => ?_) (fun _ _ _ h => by cases h.1) (fun _ _ h => by cases h.1)
        obtain ⟨h1, h2, rfl⟩ := h
        refine .inl ⟨by rw [h2]; rfl, _, fun a w ha hw => resCC Try.results86 rfl rfl (whole_cell Try.isAgg95 (cell_cells (by repeat (first | exact .head | apply In.tail | apply Take.tail | apply Upd.tail)) rfl)) (whole_cell Try.isAgg29 (cell_cells (by repeat (first | exact .head | apply In.tail | apply Take.tail | apply Upd.tail)) rfl)) a w ha hw, [UW A l.length c l], _, (by repeat (first | exact .nil | (apply Sub.cons; · repeat (first | exact .head | apply Take.tail)))), A, c, rfl, rfl⟩
    · cases res with
      | some l => obtain ⟨A, c, h, _⟩ := hr; cases h
      | none =>
        cases hr
        intro a w' ha hw
        refine leaves_one (C := [cells r2 [.slice none 0 0] 95, cells r3 [.int .i64 0] 29]) ha hw rfl (by simp) Try.call97 (sub_app H' (by repeat (first | exact .nil | (apply Sub.cons; · repeat (first | exact .head | apply Take.tail))))) (fun w => cCaughtUP r2 r3 _ _ w) (fun v u' H2 h => ?_) (fun _ _ _ h => by cases h.1) (fun _ _ h => by cases h.1)
        obtain ⟨h1, h2, rfl⟩ := h
        exact .inl ⟨h2, _, fun a w ha hw => resCC Try.results86 rfl rfl (whole_cell Try.isAgg95 (cell_cells (by repeat (first | exact .head | apply In.tail | apply Take.tail | apply Upd.tail)) rfl)) (whole_cell Try.isAgg29 (cell_cells (by repeat (first | exact .head | apply In.tail | apply Take.tail | apply Upd.tail)) rfl)) a w ha hw, [], _, .nil, rfl, rfl⟩

theorem shl_u64 {x s : Nat} {q : Int} (hx : x ≤ 1) (hq : q = (s : Int)) (hs : s < 64) : IntKind.u64.wrap ((x : Int) * 2 ^ (min (Int.toNat q) IntKind.u64.bits)) = ((x * 2 ^ s : Nat) : Int) := by
  have e : min (Int.toNat q) IntKind.u64.bits = s := by simp only [IntKind.bits]; omega
  have e2 : (x : Int) * 2 ^ s = ((x * 2 ^ s : Nat) : Int) := by simp
  have h1 := Nat.mul_le_mul hx (Nat.pow_le_pow_right (n := 2) (by decide) (show s ≤ 63 by omega))
  rw [e, e2]
  exact w_u64 (by omega) (by simp at h1; omega)
theorem or_bits {f : Nat → Bool} {j : Nat} (h : j < 64) : IntKind.u64.wrap ((BitVec.ofInt IntKind.u64.bits (bitsN f j : Int) ||| BitVec.ofInt IntKind.u64.bits (((f j).toNat * 2 ^ j : Nat) : Int)).toNat : Int) = ((bitsN f (j + 1) : Nat) : Int) := by
  have hl := bitsN_lt f (j + 1)
  have hp := Nat.pow_le_pow_right (n := 2) (by decide) (show j + 1 ≤ 64 by omega)
  exact or_apart (k := .u64) rfl (bitsN_lt f j) (Nat.lt_of_lt_of_le hl (by simpa [IntKind.bits] using hp))
/-- The bit at a place, as the program reads it. -/
theorem bit_read {b : List UInt8} {p : Nat} : IntKind.u8.wrap ((BitVec.ofInt IntKind.u8.bits (((b.getD (p / 8) 0).toNat / 2 ^ (p % 8) : Nat) : Int) &&& BitVec.ofInt IntKind.u8.bits 1).toNat : Int) = ((getBit b p).toNat : Int) := by
  have := (b.getD (p / 8) 0).toNat_lt
  rw [and1_u8 (Nat.lt_of_le_of_lt (Nat.div_le_self _ _) this)]
  unfold getBit
  rw [Nat.toNat_testBit]
theorem bcells_div {b : List UInt8} {i : Int} {p : Nat} (hp : i = ((p / 8 : Nat) : Int)) (h : p / 8 < b.length) : (bcells b)[Int.toNat i * 1]? = some (.int .u8 ((b.getD (p / 8) 0).toNat : Int)) := by
  rw [hp, Int.toNat_natCast, Nat.mul_one]; exact bcells_get h
def unpG (n : Nat) (b : List UInt8) (i : Nat) : Nat := bitsN (fun t => getBit b (i * n + t)) n
theorem unpS_is (n m : Nat) (b : List UInt8) : unpackS n m b = if b.length ≠ (n * m + 7) / 8 then none else if ∀ p, p < 8 * b.length → m * n ≤ p → getBit b p = false then some ((List.range m).map (unpG n b)) else none := rfl
theorem unpG_lt {n i : Nat} {b : List UInt8} (h : n ≤ 64) : unpG n b i < 18446744073709551616 := by
  have h1 := bitsN_lt (fun t => getBit b (i * n + t)) n
  have h2 := Nat.pow_le_pow_right (n := 2) (by decide) h
  exact Nat.lt_of_lt_of_le h1 (by simpa using h2)
theorem unpackS_lt {n m : Nat} {b : List UInt8} {l : List Nat} (h : n ≤ 64) (e : unpackS n m b = some l) : (∀ u ∈ l, u < 18446744073709551616) ∧ l.length = m := by
  rw [unpS_is] at e
  split at e
  · cases e
  · split at e
    · cases e
      refine ⟨fun u hu => ?_, by simp⟩
      obtain ⟨i, _, rfl⟩ := List.mem_map.1 hu
      exact unpG_lt h
    · cases e

def unpL (w n : Int) (b : List UInt8) : List Nat := (unpO w n b).getD []
theorem unp_bad {w n : Int} {b : List UInt8} (h : ¬ ((0 ≤ w ∧ w ≤ 64) ∧ 0 ≤ n ∧ n ≤ 100000)) : unpL w n b = [] ∧ unpE w n b = 2 := by
  unfold unpL unpO unpE
  rw [if_neg h, if_neg h]
  exact ⟨rfl, rfl⟩
theorem unp_none {w n : Nat} {b : List UInt8} (h : w ≤ 64) (h2 : n ≤ 100000) (e : unpackS w n b = none) : unpL w n b = [] ∧ unpE w n b = 8 := by
  unfold unpL unpO unpE
  rw [if_pos (by omega), if_pos (by omega), Int.toNat_natCast, Int.toNat_natCast, e]
  exact ⟨rfl, rfl⟩
theorem unp_some {w n : Nat} {b : List UInt8} {l : List Nat} (h : w ≤ 64) (h2 : n ≤ 100000) (e : unpackS w n b = some l) : unpL w n b = l ∧ unpE w n b = 0 := by
  unfold unpL unpO unpE
  rw [if_pos (by omega), if_pos (by omega), Int.toNat_natCast, Int.toNat_natCast, e]
  exact ⟨rfl, rfl⟩

set_option maxRecDepth 20000 in
theorem cBit (x0 : Nat) (A : Option Addr) (c : Nat) (b : List UInt8) (p : Int) (hb : b.length ≤ 1000000000000) (hp : 0 ≤ p) (hp2 : p < 8 * b.length) (w : World) (h0 : w.cell? ⟨x0, 0, none⟩ = some (.slice A b.length c)) (hr : Reads w A (bcells b)) : FnV Try.prog 88 [.int .i64 p, .pointer (some ⟨x0, 0, none⟩)] (.int .u64 ((getBit b p.toNat).toNat)) w := by
  obtain ⟨p, rfl⟩ : ∃ q : Nat, p = q := ⟨p.toNat, by omega⟩
  rw [Int.toNat_natCast]
  refine fn_enter Try.func88 rfl Try.ntmps88 rfl ?_
  refine vc_seq ?_
  refine vc_region ?_
  refine vl_val rfl (.some rfl) (val_assign rfl) ?_
  refine vl_nil ?_
  refine vc_seq ?_
  refine vc_region ?_
  refine vl_val rfl (.some rfl) (val_load Try.isAgg59 rfl (by first | exact cell_cells (by repeat (first | exact .head | apply In.tail | apply Take.tail | apply Upd.tail)) rfl | exact cell_rd (rd_sl (by repeat (first | exact .head | apply In.tail | apply Take.tail | apply Upd.tail))) (by first | exact bcells_at (by omega) | exact ucells_at (by omega) | exact icells_at (by omega) | exact tcells_at (by omega) | exact bcells_get (by omega) | exact icells_get (by omega) | exact tcells_get (by omega) | exact ucells_get (by omega)) | exact cell_rd (rd_old (by assumption) rfl) (by first | exact bcells_at (by omega) | exact ucells_at (by omega) | exact icells_at (by omega) | exact tcells_at (by omega) | exact bcells_get (by omega) | exact icells_get (by omega) | exact tcells_get (by omega) | exact ucells_get (by omega)) | exact cell_old (by assumption) (by simp [fps]))) ?_
  refine vl_val rfl (.some rfl) (val_move rfl) ?_
  refine vl_val rfl (.some rfl) (val_quo rfl rfl (by omega) (by first | exact quo_nn (by omega) (w_i64 (by omega) (by omega)) | rfl)) ?_
  refine vl_val rfl (.some rfl) (val_indexAddr Try.runUnderlying59 Try.sizeOf5 rfl rfl (by first | exact rd_sl (by repeat (first | exact .head | apply In.tail | apply Take.tail | apply Upd.tail)) | exact rd_slr (by repeat (first | exact .head | apply In.tail | apply Take.tail | apply Upd.tail)) | exact rd_old (by assumption) rfl) (by omega) (by omega) (by first | omega | (simp only [bcells_length, icells_length, ucells_length, tcells_length]; omega) | (simp only [bcells_length, icells_length, ucells_length, tcells_length, fillG_length]; omega) | (simp; omega))) ?_
  refine vl_val rfl (.some rfl) (val_load Try.isAgg5 rfl (cell_rd (rd_old hr rfl) (bcells_div (p := p) (by omega) (by omega)))) ?_
  refine vl_val rfl (.some rfl) (val_move rfl) ?_
  refine vl_val rfl (.some rfl) (val_rem rfl rfl (by omega) (by first | exact rem_nn (by omega) | rfl)) ?_
  refine vl_val rfl (.some rfl) (val_shr rfl rfl (by omega) (show _ = (((b.getD (p / 8) 0).toNat / 2 ^ (p % 8) : Nat) : Int) by rw [show (p : Int) % 8 = ((p % 8 : Nat) : Int) by omega]; exact shr_nat (by simp [IntKind.bits]; omega))) ?_
  refine vl_val rfl (.some rfl) (val_and rfl rfl bit_read) ?_
  refine vl_val rfl (.some rfl) (val_convInt Try.runUnderlying5 Try.runUnderlying96 rfl (w_u64 (by omega) (by cases getBit b p <;> decide))) ?_
  refine vl_val rfl (.some rfl) (val_assign rfl) ?_
  refine vl_nil ?_
  refine vc_ret ?_
  refine ⟨_, [], _, res1 Try.results88 rfl, .nil, ?_⟩
  rfl
set_option maxRecDepth 20000 in
theorem cUnp1 (x0 x1 x2 n m : Nat) (A : Option Addr) (c : Nat) (b : List UInt8) (hn : n ≤ 64) (hm : m ≤ 100000) (hb : b.length ≤ 1000000000000) (w : World) (h0 : w.cell? ⟨x0, 0, none⟩ = some (.slice A b.length c))(h1 : w.cell? ⟨x1, 0, none⟩ = some (.int .i64 n))(h2 : w.cell? ⟨x2, 0, none⟩ = some (.int .i64 m)) (hr : Reads w A (bcells b)) : Fn Try.prog 87 [.pointer (some ⟨x0, 0, none⟩), .pointer (some ⟨x1, 0, none⟩), .pointer (some ⟨x2, 0, none⟩)] [] (toldCaughtU (unpackS n m b)) w := by
  have hwl : n * m ≤ 64 * 100000 := Nat.mul_le_mul hn hm
  have hcm : n * m = m * n := Nat.mul_comm _ _
  refine fn_enter Try.func87 rfl Try.ntmps87 rfl ?_
  refine vc_seq ?_
  refine vc_region ?_
  refine vl_val rfl (.some rfl) (val_assign rfl) ?_
  refine vl_nil ?_
  refine vc_seq ?_
  refine vc_seq ?_
  refine vc_region ?_
  refine vl_val rfl (.some rfl) (val_load Try.isAgg59 rfl (by first | exact cell_cells (by repeat (first | exact .head | apply In.tail | apply Take.tail | apply Upd.tail)) rfl | exact cell_rd (rd_sl (by repeat (first | exact .head | apply In.tail | apply Take.tail | apply Upd.tail))) (by first | exact bcells_at (by omega) | exact ucells_at (by omega) | exact icells_at (by omega) | exact tcells_at (by omega) | exact bcells_get (by omega) | exact icells_get (by omega) | exact tcells_get (by omega) | exact ucells_get (by omega)) | exact cell_rd (rd_old (by assumption) rfl) (by first | exact bcells_at (by omega) | exact ucells_at (by omega) | exact icells_at (by omega) | exact tcells_at (by omega) | exact bcells_get (by omega) | exact icells_get (by omega) | exact tcells_get (by omega) | exact ucells_get (by omega)) | exact cell_old (by assumption) (by simp [fps]))) ?_
  refine vl_val rfl (.some rfl) (val_lenSl Try.runUnderlying59 rfl) ?_
  refine vl_val rfl (.some rfl) (val_load Try.isAgg3 rfl (by first | exact cell_cells (by repeat (first | exact .head | apply In.tail | apply Take.tail | apply Upd.tail)) rfl | exact cell_rd (rd_sl (by repeat (first | exact .head | apply In.tail | apply Take.tail | apply Upd.tail))) (by first | exact bcells_at (by omega) | exact ucells_at (by omega) | exact icells_at (by omega) | exact tcells_at (by omega) | exact bcells_get (by omega) | exact icells_get (by omega) | exact tcells_get (by omega) | exact ucells_get (by omega)) | exact cell_rd (rd_old (by assumption) rfl) (by first | exact bcells_at (by omega) | exact ucells_at (by omega) | exact icells_at (by omega) | exact tcells_at (by omega) | exact bcells_get (by omega) | exact icells_get (by omega) | exact tcells_get (by omega) | exact ucells_get (by omega)) | exact cell_old (by assumption) (by simp [fps]))) ?_
  refine vl_val rfl (.some rfl) (val_load Try.isAgg3 rfl (by first | exact cell_cells (by repeat (first | exact .head | apply In.tail | apply Take.tail | apply Upd.tail)) rfl | exact cell_rd (rd_sl (by repeat (first | exact .head | apply In.tail | apply Take.tail | apply Upd.tail))) (by first | exact bcells_at (by omega) | exact ucells_at (by omega) | exact icells_at (by omega) | exact tcells_at (by omega) | exact bcells_get (by omega) | exact icells_get (by omega) | exact tcells_get (by omega) | exact ucells_get (by omega)) | exact cell_rd (rd_old (by assumption) rfl) (by first | exact bcells_at (by omega) | exact ucells_at (by omega) | exact icells_at (by omega) | exact tcells_at (by omega) | exact bcells_get (by omega) | exact icells_get (by omega) | exact tcells_get (by omega) | exact ucells_get (by omega)) | exact cell_old (by assumption) (by simp [fps]))) ?_
  refine vl_val rfl (.some rfl) (val_mul rfl rfl (by first | exact w_i64 (by omega) (by omega) | rfl)) ?_
  refine vl_val rfl (.some rfl) (val_add rfl rfl (by first | exact w_i64 (by omega) (by omega) | rfl)) ?_
  refine vl_val rfl (.some rfl) (val_quo rfl rfl (by omega) (by first | exact quo_nn (by omega) (w_i64 (by omega) (by omega)) | rfl)) ?_
  refine vl_val rfl (.some rfl) (val_ne rfl rfl) ?_
  refine vl_nil ?_
  refine vc_cond rfl (fun hc0 => ?_) (fun hc0 => ?_)
  · (try replace hc0 := of_decide_eq_true hc0)
    refine vc_region ?_
    refine vl_val rfl (.some rfl) (val_buildSt (pl := #[]) (cs := #[]) Try.runUnderlying127 Try.zeroValue127 (fun w => by kernel_rfl) rfl rfl) ?_
    refine vl_val rfl (.some rfl) (val_mkIface Try.runUnderlying127 rfl rfl) ?_
    refine vl_panic (fE := fun _ => []) rfl rfl rfl ?_
    refine ⟨[], _, .nil, ?_⟩
    have hnone : unpackS n m b = none := by rw [unpS_is, if_pos (by omega)]
    rw [hnone]; rfl
  · (try replace hc0 := of_decide_eq_false hc0)
    have hlen : b.length = (n * m + 7) / 8 := by omega
    refine vc_skip ?_
    refine vc_seq ?_
    refine vc_region ?_
    refine vl_val rfl (.some rfl) (val_mkFunc rfl rfl) ?_
    refine vl_val rfl (.some rfl) (val_assign rfl) ?_
    refine vl_nil ?_
    refine vc_seq ?_
    refine vc_region ?_
    refine vl_val rfl (.some rfl) (val_assign rfl) ?_
    refine vl_nilSl 96 1 ?_
    refine vl_nil ?_
    refine vc_seq ?_
    refine vc_seq ?_
    refine vc_region ?_
    refine vl_val rfl (.some rfl) (val_load Try.isAgg3 rfl (by first | exact cell_cells (by repeat (first | exact .head | apply In.tail | apply Take.tail | apply Upd.tail)) rfl | exact cell_rd (rd_sl (by repeat (first | exact .head | apply In.tail | apply Take.tail | apply Upd.tail))) (by first | exact bcells_at (by omega) | exact ucells_at (by omega) | exact icells_at (by omega) | exact tcells_at (by omega) | exact bcells_get (by omega) | exact icells_get (by omega) | exact tcells_get (by omega) | exact ucells_get (by omega)) | exact cell_rd (rd_old (by assumption) rfl) (by first | exact bcells_at (by omega) | exact ucells_at (by omega) | exact icells_at (by omega) | exact tcells_at (by omega) | exact bcells_get (by omega) | exact icells_get (by omega) | exact tcells_get (by omega) | exact ucells_get (by omega)) | exact cell_old (by assumption) (by simp [fps]))) ?_
    refine vl_val rfl (.some rfl) (val_move rfl) ?_
    refine vl_nil ?_
    refine vc_block ?_
    refine vc_loopw (fun k E H => ∃ (i q : Nat) (l : List Nat) (B : Option Addr) (d : Nat), i ≤ m ∧ k = m - i ∧ q = i ∧ l = (List.range i).map (unpG n b) ∧ E = [(0, .pointer (some ⟨x0, 0, none⟩)), (1, .pointer (some ⟨x1, 0, none⟩)), (2, .pointer (some ⟨x2, 0, none⟩)), (4, .func (.func 88) #[] #[.pointer (some ⟨x0, 0, none⟩)]), (5, .slice B q d), (21, .int .i64 m), (22, .int .i64 i)] ∧ H = [UW B q d l]) (m) ⟨_, _, _, ⟨0, 0, [], none, 0, by omega, rfl, rfl, rfl, rfl, rfl⟩, (by repeat (first | exact trivial | refine ⟨rfl, ?_⟩ | refine ⟨le_item rfl (by first | rfl | (congr 1; omega) | (simp; done) | (simp; omega)), ?_⟩)), (by repeat (first | exact .nil | (apply Sub.cons; · repeat (first | exact .head | apply Take.tail))))⟩ ?_
    intro k E H hI
    obtain ⟨i, q, l, B, d, hi, rfl, hq, hl, rfl, rfl⟩ := hI
    refine vc_seq ?_
    refine vc_region ?_
    refine vl_val rfl (.some rfl) (val_lt rfl rfl) ?_
    refine vl_nil ?_
    refine vc_seq ?_
    refine vc_cond rfl (fun hc1 => ?_) (fun hc1 => ?_)
    · (try replace hc1 := of_decide_eq_true hc1)
      have hi' : i < m := by omega
      have hrow := row_le (w := n) (i := i) (n := m) hi
      refine vc_skip ?_
      refine vc_seq ?_
      refine vc_block ?_
      refine vc_seq ?_
      refine vc_region ?_
      refine vl_val rfl (.some rfl) (val_move rfl) ?_
      refine vl_val rfl (.some rfl) (val_assign rfl) ?_
      refine vl_nil ?_
      refine vc_seq ?_
      refine vc_region ?_
      refine vl_val rfl (.some rfl) (val_assign rfl) ?_
      refine vl_nil ?_
      refine vc_seq ?_
      refine vc_seq ?_
      refine vc_region ?_
      refine vl_val rfl (.some rfl) (val_load Try.isAgg3 rfl (by first | exact cell_cells (by repeat (first | exact .head | apply In.tail | apply Take.tail | apply Upd.tail)) rfl | exact cell_rd (rd_sl (by repeat (first | exact .head | apply In.tail | apply Take.tail | apply Upd.tail))) (by first | exact bcells_at (by omega) | exact ucells_at (by omega) | exact icells_at (by omega) | exact tcells_at (by omega) | exact bcells_get (by omega) | exact icells_get (by omega) | exact tcells_get (by omega) | exact ucells_get (by omega)) | exact cell_rd (rd_old (by assumption) rfl) (by first | exact bcells_at (by omega) | exact ucells_at (by omega) | exact icells_at (by omega) | exact tcells_at (by omega) | exact bcells_get (by omega) | exact icells_get (by omega) | exact tcells_get (by omega) | exact ucells_get (by omega)) | exact cell_old (by assumption) (by simp [fps]))) ?_
      refine vl_val rfl (.some rfl) (val_move rfl) ?_
      refine vl_nil ?_
      refine vc_block ?_
      refine vc_loopw (fun k E H => ∃ j : Nat, j ≤ n ∧ k = n - j ∧ E = [(0, .pointer (some ⟨x0, 0, none⟩)), (1, .pointer (some ⟨x1, 0, none⟩)), (2, .pointer (some ⟨x2, 0, none⟩)), (4, .func (.func 88) #[] #[.pointer (some ⟨x0, 0, none⟩)]), (5, .slice B q d), (21, .int .i64 m), (22, .int .i64 i), (6, .int .i64 i), (7, .int .u64 (bitsN (fun t => getBit b (i * n + t)) j : Nat)), (25, .int .i64 n), (26, .int .i64 j)] ∧ H = [UW B q d l]) (n) ⟨_, _, _, ⟨0, by omega, rfl, rfl, rfl⟩, (by repeat (first | exact trivial | refine ⟨rfl, ?_⟩ | refine ⟨le_item rfl (by first | rfl | (congr 1; omega) | (simp; done) | (simp; omega)), ?_⟩)), (by repeat (first | exact .nil | (apply Sub.cons; · repeat (first | exact .head | apply Take.tail))))⟩ ?_
      intro k E H hI
      obtain ⟨j, hj, rfl, rfl, rfl⟩ := hI
      refine vc_seq ?_
      refine vc_region ?_
      refine vl_val rfl (.some rfl) (val_lt rfl rfl) ?_
      refine vl_nil ?_
      refine vc_seq ?_
      refine vc_cond rfl (fun hc2 => ?_) (fun hc2 => ?_)
      · (try replace hc2 := of_decide_eq_true hc2)
        have hj' : j < n := by omega
        have hrl := row_lt hi' hj'
        refine vc_skip ?_
        refine vc_seq ?_
        refine vc_block ?_
        refine vc_seq ?_
        refine vc_region ?_
        refine vl_val rfl (.some rfl) (val_move rfl) ?_
        refine vl_val rfl (.some rfl) (val_assign rfl) ?_
        refine vl_nil ?_
        refine vc_region ?_
        refine vl_val rfl (.some rfl) (val_move rfl) ?_
        refine vl_val rfl (.some rfl) (val_move rfl) ?_
        refine vl_val rfl (.some rfl) (val_move rfl) ?_
        refine vl_val rfl (.some rfl) (val_load Try.isAgg3 rfl (by first | exact cell_cells (by repeat (first | exact .head | apply In.tail | apply Take.tail | apply Upd.tail)) rfl | exact cell_rd (rd_sl (by repeat (first | exact .head | apply In.tail | apply Take.tail | apply Upd.tail))) (by first | exact bcells_at (by omega) | exact ucells_at (by omega) | exact icells_at (by omega) | exact tcells_at (by omega) | exact bcells_get (by omega) | exact icells_get (by omega) | exact tcells_get (by omega) | exact ucells_get (by omega)) | exact cell_rd (rd_old (by assumption) rfl) (by first | exact bcells_at (by omega) | exact ucells_at (by omega) | exact icells_at (by omega) | exact tcells_at (by omega) | exact bcells_get (by omega) | exact icells_get (by omega) | exact tcells_get (by omega) | exact ucells_get (by omega)) | exact cell_old (by assumption) (by simp [fps]))) ?_
        refine vl_val rfl (.some rfl) (val_mul rfl rfl (by first | exact w_i64 (by omega) (by omega) | rfl)) ?_
        refine vl_val rfl (.some rfl) (val_move rfl) ?_
        refine vl_val rfl (.some rfl) (val_add rfl rfl (by first | exact w_i64 (by omega) (by omega) | rfl)) ?_
        refine vl_callvV (fs := []) (cs := [.pointer (some ⟨x0, 0, none⟩)]) rfl rfl (.some rfl) rfl Try.call88 rfl (fun w' hw => cBit x0 A c b _ hb (by omega) (by omega) w' (cell_old h0 (by simp [fps]) w' hw) (rdw (rd_old hr rfl) hw)) ?_
        rw [show Int.toNat ((i : Int) * (n : Int) + (j : Int)) = i * n + j by omega]
        refine vl_val rfl (.some rfl) (val_move rfl) ?_
        refine vl_val rfl (.some rfl) (val_shl rfl rfl (by omega) (shl_u64 (s := j) (by cases getBit b (i * n + j) <;> decide) rfl (by omega))) ?_
        refine vl_val rfl (.some rfl) (val_or rfl rfl (or_bits (f := fun t => getBit b (i * n + t)) (by omega))) ?_
        refine vl_val rfl (.some rfl) (val_assign rfl) ?_
        refine vl_nil ?_
        refine vc_region ?_
        refine vl_val rfl (.some rfl) (val_add rfl rfl (by first | exact w_i64 (by omega) (by omega) | rfl)) ?_
        refine vl_val rfl (.some rfl) (val_move rfl) ?_
        refine vl_nil ?_
        exact ⟨n - (j + 1), _, _, _, by omega, (by repeat (first | exact trivial | refine ⟨rfl, ?_⟩ | refine ⟨le_item rfl (by first | rfl | (congr 1; omega) | (simp; done) | (simp; omega)), ?_⟩)), (by repeat (first | exact .nil | (apply Sub.cons; · repeat (first | exact .head | apply Take.tail)))), ⟨j + 1, by omega, rfl, rfl, rfl⟩⟩
      · (try replace hc2 := of_decide_eq_false hc2)
        obtain rfl : n = j := by omega
        refine vc_exit ?_
        refine vc_region ?_
        refine vl_val rfl (.some rfl) (val_move rfl) ?_
        refine vl_val rfl (.some rfl) (val_move rfl) ?_
        refine vl_lit sT95 rfl rfl (.some rfl) rfl rfl rfl (by decide) (by decide) rfl (flat_one rfl) (fun r43 => ?_)
        refine vl_append sT95 rfl rfl (.some rfl) rfl rfl (by first | exact rd_sl (by repeat (first | exact .head | apply In.tail | apply Take.tail | apply Upd.tail)) | exact rd_slr (by repeat (first | exact .head | apply In.tail | apply Take.tail | apply Upd.tail)) | exact rd_old (by assumption) rfl) (by first | rfl | (simp; done) | (simp; omega) | (simp only [bcells_length, icells_length, ucells_length, tcells_length]; omega)) (by first | rfl | exact one_b _ | exact one_u _ | exact one_i _ | exact one_t _) (by omega) (by omega) (by repeat (first | exact .head | apply In.tail | apply Take.tail | apply Upd.tail)) (fun A44 k44 => ?_)
        refine vl_val rfl (.some rfl) (val_assign rfl) ?_
        refine vl_nil ?_
        refine vc_region ?_
        refine vl_val rfl (.some rfl) (val_add rfl rfl (by first | exact w_i64 (by omega) (by omega) | rfl)) ?_
        refine vl_val rfl (.some rfl) (val_move rfl) ?_
        refine vl_nil ?_
        rw [upush]
        exact ⟨m - (i + 1), _, _, _, by omega, (by repeat (first | exact trivial | refine ⟨rfl, ?_⟩ | refine ⟨le_item rfl (by first | rfl | (congr 1; omega) | (simp; done) | (simp; omega)), ?_⟩)), (by repeat (first | exact .nil | (apply Sub.cons; · repeat (first | exact .head | apply Take.tail)))), ⟨i + 1, q + 1, _, _, _, by omega, rfl, by omega, by rw [hl, List.range_succ, List.map_append]; rfl, rfl, rfl⟩⟩
    · (try replace hc1 := of_decide_eq_false hc1)
      obtain rfl : m = i := by omega
      refine vc_exit ?_
      refine vc_seq ?_
      refine vc_seq ?_
      refine vc_region ?_
      refine vl_val rfl (.some rfl) (val_load Try.isAgg3 rfl (by first | exact cell_cells (by repeat (first | exact .head | apply In.tail | apply Take.tail | apply Upd.tail)) rfl | exact cell_rd (rd_sl (by repeat (first | exact .head | apply In.tail | apply Take.tail | apply Upd.tail))) (by first | exact bcells_at (by omega) | exact ucells_at (by omega) | exact icells_at (by omega) | exact tcells_at (by omega) | exact bcells_get (by omega) | exact icells_get (by omega) | exact tcells_get (by omega) | exact ucells_get (by omega)) | exact cell_rd (rd_old (by assumption) rfl) (by first | exact bcells_at (by omega) | exact ucells_at (by omega) | exact icells_at (by omega) | exact tcells_at (by omega) | exact bcells_get (by omega) | exact icells_get (by omega) | exact tcells_get (by omega) | exact ucells_get (by omega)) | exact cell_old (by assumption) (by simp [fps]))) ?_
      refine vl_val rfl (.some rfl) (val_load Try.isAgg3 rfl (by first | exact cell_cells (by repeat (first | exact .head | apply In.tail | apply Take.tail | apply Upd.tail)) rfl | exact cell_rd (rd_sl (by repeat (first | exact .head | apply In.tail | apply Take.tail | apply Upd.tail))) (by first | exact bcells_at (by omega) | exact ucells_at (by omega) | exact icells_at (by omega) | exact tcells_at (by omega) | exact bcells_get (by omega) | exact icells_get (by omega) | exact tcells_get (by omega) | exact ucells_get (by omega)) | exact cell_rd (rd_old (by assumption) rfl) (by first | exact bcells_at (by omega) | exact ucells_at (by omega) | exact icells_at (by omega) | exact tcells_at (by omega) | exact bcells_get (by omega) | exact icells_get (by omega) | exact tcells_get (by omega) | exact ucells_get (by omega)) | exact cell_old (by assumption) (by simp [fps]))) ?_
      refine vl_val rfl (.some rfl) (val_mul rfl rfl (by first | exact w_i64 (by omega) (by omega) | rfl)) ?_
      refine vl_val rfl (.some rfl) (val_assign rfl) ?_
      refine vl_nil ?_
      refine vc_block ?_
      refine vc_loopw (fun k E H => ∃ a : Nat, m * n ≤ a ∧ a ≤ 8 * b.length ∧ k = 8 * b.length - a ∧ (∀ p, m * n ≤ p → p < a → getBit b p = false) ∧ E = [(0, .pointer (some ⟨x0, 0, none⟩)), (1, .pointer (some ⟨x1, 0, none⟩)), (2, .pointer (some ⟨x2, 0, none⟩)), (4, .func (.func 88) #[] #[.pointer (some ⟨x0, 0, none⟩)]), (5, .slice B q d), (9, .int .i64 a)] ∧ H = [UW B q d l]) (8 * b.length - m * n) ⟨_, _, _, ⟨m * n, by omega, by omega, rfl, fun p h1 h2 => absurd h2 (by omega), rfl, rfl⟩, (by repeat (first | exact trivial | refine ⟨rfl, ?_⟩ | refine ⟨le_item rfl (by first | rfl | (congr 1; omega) | (simp; done) | (simp; omega)), ?_⟩)), (by repeat (first | exact .nil | (apply Sub.cons; · repeat (first | exact .head | apply Take.tail))))⟩ ?_
      intro k E H hI
      obtain ⟨a, ha, hab, rfl, hz, rfl, rfl⟩ := hI
      refine vc_seq ?_
      refine vc_seq ?_
      refine vc_region ?_
      refine vl_val rfl (.some rfl) (val_move rfl) ?_
      refine vl_val rfl (.some rfl) (val_load Try.isAgg59 rfl (by first | exact cell_cells (by repeat (first | exact .head | apply In.tail | apply Take.tail | apply Upd.tail)) rfl | exact cell_rd (rd_sl (by repeat (first | exact .head | apply In.tail | apply Take.tail | apply Upd.tail))) (by first | exact bcells_at (by omega) | exact ucells_at (by omega) | exact icells_at (by omega) | exact tcells_at (by omega) | exact bcells_get (by omega) | exact icells_get (by omega) | exact tcells_get (by omega) | exact ucells_get (by omega)) | exact cell_rd (rd_old (by assumption) rfl) (by first | exact bcells_at (by omega) | exact ucells_at (by omega) | exact icells_at (by omega) | exact tcells_at (by omega) | exact bcells_get (by omega) | exact icells_get (by omega) | exact tcells_get (by omega) | exact ucells_get (by omega)) | exact cell_old (by assumption) (by simp [fps]))) ?_
      refine vl_val rfl (.some rfl) (val_lenSl Try.runUnderlying59 rfl) ?_
      refine vl_val rfl (.some rfl) (val_mul rfl rfl (by first | exact w_i64 (by omega) (by omega) | rfl)) ?_
      refine vl_val rfl (.some rfl) (val_lt rfl rfl) ?_
      refine vl_nil ?_
      refine vc_cond rfl (fun hc3 => ?_) (fun hc3 => ?_)
      · (try replace hc3 := of_decide_eq_true hc3)
        refine vc_skip ?_
        refine vc_seq ?_
        refine vc_block ?_
        refine vc_seq ?_
        refine vc_region ?_
        refine vl_val rfl (.some rfl) (val_move rfl) ?_
        refine vl_val rfl (.some rfl) (val_move rfl) ?_
        refine vl_callvV (fs := []) (cs := [.pointer (some ⟨x0, 0, none⟩)]) rfl rfl (.some rfl) rfl Try.call88 rfl (fun w' hw => cBit x0 A c b _ hb (by omega) (by omega) w' (cell_old h0 (by simp [fps]) w' hw) (rdw (rd_old hr rfl) hw)) ?_
        rw [show Int.toNat (a : Int) = a by omega]
        refine vl_val rfl (.some rfl) (val_gt rfl rfl) ?_
        refine vl_nil ?_
        refine vc_cond rfl (fun hc4 => ?_) (fun hc4 => ?_)
        · (try replace hc4 := of_decide_eq_true hc4)
          have hbit : getBit b a = true := by cases hq : getBit b a with
            | true => rfl
            | false => rw [hq] at hc4; exact absurd hc4 (by decide)
          refine vc_region ?_
          refine vl_val rfl (.some rfl) (val_buildSt (pl := #[]) (cs := #[]) Try.runUnderlying127 Try.zeroValue127 (fun w => by kernel_rfl) rfl rfl) ?_
          refine vl_val rfl (.some rfl) (val_mkIface Try.runUnderlying127 rfl rfl) ?_
          refine vl_panic (fE := fun _ => []) rfl rfl rfl ?_
          refine ⟨[], _, .nil, ?_⟩
          have hnone : unpackS n m b = none := by rw [unpS_is, if_neg (by omega), if_neg (fun h => by have := h a (by omega) ha; rw [hbit] at this; cases this)]
          rw [hnone]; rfl
        · (try replace hc4 := of_decide_eq_false hc4)
          have hbit : getBit b a = false := by cases hq : getBit b a with
            | false => rfl
            | true => rw [hq] at hc4; exact absurd (by decide) hc4
          refine vc_skip ?_
          refine vc_region ?_
          refine vl_val rfl (.some rfl) (val_move rfl) ?_
          refine vl_val rfl (.some rfl) (val_add rfl rfl (by first | exact w_i64 (by omega) (by omega) | rfl)) ?_
          refine vl_val rfl (.some rfl) (val_assign rfl) ?_
          refine vl_nil ?_
          exact ⟨8 * b.length - (a + 1), _, _, _, by omega, (by repeat (first | exact trivial | refine ⟨rfl, ?_⟩ | refine ⟨le_item rfl (by first | rfl | (congr 1; omega) | (simp; done) | (simp; omega)), ?_⟩)), (by repeat (first | exact .nil | (apply Sub.cons; · repeat (first | exact .head | apply Take.tail)))), ⟨a + 1, by omega, by omega, rfl, fun p h1 h2 => by
            rcases Nat.lt_or_ge p a with h | h
            · exact hz p h1 h
            · obtain rfl : p = a := by omega
              exact hbit, rfl, rfl⟩⟩
      · (try replace hc3 := of_decide_eq_false hc3)
        refine vc_exit ?_
        refine vc_seq ?_
        refine vc_region ?_
        refine vl_val rfl (.some rfl) (val_move rfl) ?_
        refine vl_val rfl (.some rfl) (val_assign rfl) ?_
        refine vl_nil ?_
        refine vc_ret ?_
        refine ⟨_, [UW B q d l], _, res1 Try.results87 rfl, (by repeat (first | exact .nil | (apply Sub.cons; · repeat (first | exact .head | apply Take.tail)))), ?_⟩
        have hsome : unpackS n m b = some l := by rw [unpS_is, if_neg (by omega), if_pos (fun p h1 h2 => hz p h2 (by omega)), hl]
        rw [hsome]
        obtain rfl : q = l.length := by rw [hl]; simp; omega
        exact ⟨B, d, rfl, rfl⟩
set_option maxRecDepth 20000 in
theorem cUnpack (width cnt : Int) (A : Option Addr) (c : Nat) (b : List UInt8) (hb : b.length ≤ 1000000000) (w : World) (hr : Reads w A (bcells b)) : Fn Try.prog 68 [.int .i64 width, .int .i64 cnt, .slice A b.length c] [] (ret fun v H' => ∃ A' c', v = .tuple #[.slice A' (unpL width cnt b).length c', .int .i64 (unpE width cnt b)] ∧ H' = [UW A' (unpL width cnt b).length c' (unpL width cnt b)]) w := by
  refine fn_enter Try.func68 rfl Try.ntmps68 rfl ?_
  refine vc_seq ?_
  refine vc_region ?_
  refine vl_box rfl rfl (.some rfl) rfl (fun r3 => ?_)
  refine vl_box rfl rfl (.some rfl) rfl (fun r4 => ?_)
  refine vl_box rfl rfl (.some rfl) rfl (fun r5 => ?_)
  refine vl_val rfl (.some rfl) (val_assign rfl) ?_
  refine vl_val rfl (.some rfl) (val_assign rfl) ?_
  refine vl_nil ?_
  refine vc_seq ?_
  refine vc_seq ?_
  refine vc_region ?_
  refine vl_val rfl (.some rfl) (val_load Try.isAgg3 rfl (by first | exact cell_cells (by repeat (first | exact .head | apply In.tail | apply Take.tail | apply Upd.tail)) rfl | exact cell_rd (rd_sl (by repeat (first | exact .head | apply In.tail | apply Take.tail | apply Upd.tail))) (by first | exact bcells_at (by omega) | exact ucells_at (by omega) | exact icells_at (by omega) | exact tcells_at (by omega) | exact bcells_get (by omega) | exact icells_get (by omega) | exact tcells_get (by omega) | exact ucells_get (by omega)) | exact cell_rd (rd_old (by assumption) rfl) (by first | exact bcells_at (by omega) | exact ucells_at (by omega) | exact icells_at (by omega) | exact tcells_at (by omega) | exact bcells_get (by omega) | exact icells_get (by omega) | exact tcells_get (by omega) | exact ucells_get (by omega)) | exact cell_old (by assumption) (by simp [fps]))) ?_
  refine vl_val rfl (.some rfl) (val_lt rfl rfl) ?_
  refine vl_val rfl (.some rfl) (val_move rfl) ?_
  refine vl_split (t := 10) rfl (fun hg10 => ?_) (fun hg10 => ?_)
  · (try replace hg10 := of_decide_eq_true hg10)
    refine vl_off rfl rfl rfl rfl (.some rfl) ?_
    refine vl_off rfl rfl rfl rfl (.some rfl) ?_
    refine vl_val rfl (.some rfl) (val_pick rfl rfl) ?_
    refine vl_val rfl (.some rfl) (val_move rfl) ?_
    refine vl_off rfl rfl rfl rfl (.some rfl) ?_
    refine vl_off rfl rfl rfl rfl (.some rfl) ?_
    refine vl_val rfl (.some rfl) (val_pick rfl rfl) ?_
    refine vl_val rfl (.some rfl) (val_move rfl) ?_
    refine vl_off rfl rfl rfl rfl (.some rfl) ?_
    refine vl_off rfl rfl rfl rfl (.some rfl) ?_
    refine vl_val rfl (.some rfl) (val_pick rfl rfl) ?_
    refine vl_nil ?_
    refine vc_cond rfl (fun _ => ?_) (fun h => by cases h)
    refine vc_seq ?_
    refine vc_region ?_
    refine vl_val rfl (.some rfl) (val_assign rfl) ?_
    refine vl_nilSl 96 1 ?_
    refine vl_val rfl (.some rfl) (val_assign rfl) ?_
    refine vl_nil ?_
    refine vc_ret ?_
    refine ⟨_, [UW none 0 0 []], _, res2 Try.results68 rfl rfl, (by repeat (first | exact .nil | (apply Sub.cons; · repeat (first | exact .head | apply Take.tail)))), ?_⟩
    obtain ⟨e1, e2⟩ := unp_bad (w := width) (n := cnt) (b := b) (by omega)
    show ∃ A' c', _ ∧ _
    rw [e1, e2]
    exact ⟨none, 0, rfl, rfl⟩
  · (try replace hg10 := of_decide_eq_false hg10)
    refine vl_on rfl rfl rfl rfl ?_
    refine vl_val rfl (.some rfl) (val_load Try.isAgg3 rfl (by first | exact cell_cells (by repeat (first | exact .head | apply In.tail | apply Take.tail | apply Upd.tail)) rfl | exact cell_rd (rd_sl (by repeat (first | exact .head | apply In.tail | apply Take.tail | apply Upd.tail))) (by first | exact bcells_at (by omega) | exact ucells_at (by omega) | exact icells_at (by omega) | exact tcells_at (by omega) | exact bcells_get (by omega) | exact icells_get (by omega) | exact tcells_get (by omega) | exact ucells_get (by omega)) | exact cell_rd (rd_old (by assumption) rfl) (by first | exact bcells_at (by omega) | exact ucells_at (by omega) | exact icells_at (by omega) | exact tcells_at (by omega) | exact bcells_get (by omega) | exact icells_get (by omega) | exact tcells_get (by omega) | exact ucells_get (by omega)) | exact cell_old (by assumption) (by simp [fps]))) ?_
    refine vl_on rfl rfl rfl rfl ?_
    refine vl_val rfl (.some rfl) (val_gt rfl rfl) ?_
    refine vl_val rfl (.some rfl) (val_pick rfl rfl) ?_
    refine vl_val rfl (.some rfl) (val_move rfl) ?_
    refine vl_split (t := 14) rfl (fun hg14 => ?_) (fun hg14 => ?_)
    · (try replace hg14 := of_decide_eq_true hg14)
      refine vl_off rfl rfl rfl rfl (.some rfl) ?_
      refine vl_off rfl rfl rfl rfl (.some rfl) ?_
      refine vl_val rfl (.some rfl) (val_pick rfl rfl) ?_
      refine vl_val rfl (.some rfl) (val_move rfl) ?_
      refine vl_off rfl rfl rfl rfl (.some rfl) ?_
      refine vl_off rfl rfl rfl rfl (.some rfl) ?_
      refine vl_val rfl (.some rfl) (val_pick rfl rfl) ?_
      refine vl_nil ?_
      refine vc_cond rfl (fun _ => ?_) (fun h => by cases h)
      refine vc_seq ?_
      refine vc_region ?_
      refine vl_val rfl (.some rfl) (val_assign rfl) ?_
      refine vl_nilSl 96 1 ?_
      refine vl_val rfl (.some rfl) (val_assign rfl) ?_
      refine vl_nil ?_
      refine vc_ret ?_
      refine ⟨_, [UW none 0 0 []], _, res2 Try.results68 rfl rfl, (by repeat (first | exact .nil | (apply Sub.cons; · repeat (first | exact .head | apply Take.tail)))), ?_⟩
      obtain ⟨e1, e2⟩ := unp_bad (w := width) (n := cnt) (b := b) (by omega)
      show ∃ A' c', _ ∧ _
      rw [e1, e2]
      exact ⟨none, 0, rfl, rfl⟩
    · (try replace hg14 := of_decide_eq_false hg14)
      refine vl_on rfl rfl rfl rfl ?_
      refine vl_val rfl (.some rfl) (val_load Try.isAgg3 rfl (by first | exact cell_cells (by repeat (first | exact .head | apply In.tail | apply Take.tail | apply Upd.tail)) rfl | exact cell_rd (rd_sl (by repeat (first | exact .head | apply In.tail | apply Take.tail | apply Upd.tail))) (by first | exact bcells_at (by omega) | exact ucells_at (by omega) | exact icells_at (by omega) | exact tcells_at (by omega) | exact bcells_get (by omega) | exact icells_get (by omega) | exact tcells_get (by omega) | exact ucells_get (by omega)) | exact cell_rd (rd_old (by assumption) rfl) (by first | exact bcells_at (by omega) | exact ucells_at (by omega) | exact icells_at (by omega) | exact tcells_at (by omega) | exact bcells_get (by omega) | exact icells_get (by omega) | exact tcells_get (by omega) | exact ucells_get (by omega)) | exact cell_old (by assumption) (by simp [fps]))) ?_
      refine vl_on rfl rfl rfl rfl ?_
      refine vl_val rfl (.some rfl) (val_lt rfl rfl) ?_
      refine vl_val rfl (.some rfl) (val_pick rfl rfl) ?_
      refine vl_val rfl (.some rfl) (val_move rfl) ?_
      refine vl_split (t := 18) rfl (fun hg18 => ?_) (fun hg18 => ?_)
      · (try replace hg18 := of_decide_eq_true hg18)
        refine vl_off rfl rfl rfl rfl (.some rfl) ?_
        refine vl_off rfl rfl rfl rfl (.some rfl) ?_
        refine vl_val rfl (.some rfl) (val_pick rfl rfl) ?_
        refine vl_nil ?_
        refine vc_cond rfl (fun _ => ?_) (fun h => by cases h)
        refine vc_seq ?_
        refine vc_region ?_
        refine vl_val rfl (.some rfl) (val_assign rfl) ?_
        refine vl_nilSl 96 1 ?_
        refine vl_val rfl (.some rfl) (val_assign rfl) ?_
        refine vl_nil ?_
        refine vc_ret ?_
        refine ⟨_, [UW none 0 0 []], _, res2 Try.results68 rfl rfl, (by repeat (first | exact .nil | (apply Sub.cons; · repeat (first | exact .head | apply Take.tail)))), ?_⟩
        obtain ⟨e1, e2⟩ := unp_bad (w := width) (n := cnt) (b := b) (by omega)
        show ∃ A' c', _ ∧ _
        rw [e1, e2]
        exact ⟨none, 0, rfl, rfl⟩
      · (try replace hg18 := of_decide_eq_false hg18)
        refine vl_on rfl rfl rfl rfl ?_
        refine vl_val rfl (.some rfl) (val_load Try.isAgg3 rfl (by first | exact cell_cells (by repeat (first | exact .head | apply In.tail | apply Take.tail | apply Upd.tail)) rfl | exact cell_rd (rd_sl (by repeat (first | exact .head | apply In.tail | apply Take.tail | apply Upd.tail))) (by first | exact bcells_at (by omega) | exact ucells_at (by omega) | exact icells_at (by omega) | exact tcells_at (by omega) | exact bcells_get (by omega) | exact icells_get (by omega) | exact tcells_get (by omega) | exact ucells_get (by omega)) | exact cell_rd (rd_old (by assumption) rfl) (by first | exact bcells_at (by omega) | exact ucells_at (by omega) | exact icells_at (by omega) | exact tcells_at (by omega) | exact bcells_get (by omega) | exact icells_get (by omega) | exact tcells_get (by omega) | exact ucells_get (by omega)) | exact cell_old (by assumption) (by simp [fps]))) ?_
        refine vl_on rfl rfl rfl rfl ?_
        refine vl_val rfl (.some rfl) (val_gt rfl rfl) ?_
        refine vl_val rfl (.some rfl) (val_pick rfl rfl) ?_
        refine vl_nil ?_
        refine vc_cond rfl (fun hc0 => ?_) (fun hc0 => ?_)
        · (try replace hc0 := of_decide_eq_true hc0)
          refine vc_seq ?_
          refine vc_region ?_
          refine vl_val rfl (.some rfl) (val_assign rfl) ?_
          refine vl_nilSl 96 1 ?_
          refine vl_val rfl (.some rfl) (val_assign rfl) ?_
          refine vl_nil ?_
          refine vc_ret ?_
          refine ⟨_, [UW none 0 0 []], _, res2 Try.results68 rfl rfl, (by repeat (first | exact .nil | (apply Sub.cons; · repeat (first | exact .head | apply Take.tail)))), ?_⟩
          obtain ⟨e1, e2⟩ := unp_bad (w := width) (n := cnt) (b := b) (by omega)
          show ∃ A' c', _ ∧ _
          rw [e1, e2]
          exact ⟨none, 0, rfl, rfl⟩
        · (try replace hc0 := of_decide_eq_false hc0)
          obtain ⟨n, rfl⟩ : ∃ n : Nat, width = n := ⟨width.toNat, by omega⟩
          obtain ⟨m, rfl⟩ : ∃ m : Nat, cnt = m := ⟨cnt.toNat, by omega⟩
          have hn : n ≤ 64 := by omega
          have hm : m ≤ 100000 := by omega
          refine vc_skip ?_
          refine vc_seq ?_
          refine vc_region ?_
          refine vl_val rfl (.some rfl) (val_mkFunc rfl rfl) ?_
          refine vl_call (C := []) rfl rfl (.some rfl) Try.call86 rfl .nil (fun w' hw => cCaughtU 87 [.pointer (some ⟨r5, 0, none⟩), .pointer (some ⟨r3, 0, none⟩), .pointer (some ⟨r4, 0, none⟩)] (unpackS n m b) w' Try.call87 (fun w2 hx => cUnp1 r5 r3 r4 n m A c b hn hm (by omega) w2 (hx.cell (cell_cells (i := 0) (by repeat (first | exact .head | apply In.tail | apply Take.tail | apply Upd.tail)) rfl w' hw)) (hx.cell (cell_cells (i := 0) (by repeat (first | exact .head | apply In.tail | apply Take.tail | apply Upd.tail)) rfl w' hw)) (hx.cell (cell_cells (i := 0) (by repeat (first | exact .head | apply In.tail | apply Take.tail | apply Upd.tail)) rfl w' hw)) (hx.reads (rdw (rd_old hr rfl) hw)))) (fun v H' h => ?_)
          have hv : ∃ A' c', v = .tuple #[.slice A' (unpL n m b).length c', .int .i64 (unpE n m b)] ∧ ((unpackS n m b = none ∧ H' = [] ∧ A' = none ∧ c' = 0) ∨ H' = [UW A' (unpL n m b).length c' (unpL n m b)]) := by
            cases he : unpackS n m b with
            | none =>
              rw [he] at h
              obtain ⟨rfl, rfl⟩ := h
              obtain ⟨e1, e2⟩ := unp_none hn hm he
              rw [e1, e2]
              exact ⟨none, 0, rfl, .inl ⟨rfl, rfl, rfl, rfl⟩⟩
            | some l =>
              rw [he] at h
              obtain ⟨A2, c2, rfl, rfl⟩ := h
              obtain ⟨e1, e2⟩ := unp_some hn hm he
              rw [e1, e2]
              exact ⟨A2, c2, rfl, .inr rfl⟩
          obtain ⟨A', c', rfl, hH⟩ := hv
          refine vl_nilSl 96 1 ?_
          refine vl_val rfl (.some rfl) (val_extract rfl rfl) ?_
          refine vl_val rfl (.some rfl) (val_extract rfl rfl) ?_
          refine vl_val rfl (.some rfl) (val_assign rfl) ?_
          refine vl_val rfl (.some rfl) (val_assign rfl) ?_
          refine vl_nil ?_
          refine vc_ret ?_
          rcases hH with ⟨he, rfl, rfl, rfl⟩ | rfl
          · refine ⟨_, [UW none 0 0 []], _, res2 Try.results68 rfl rfl, (by repeat (first | exact .nil | (apply Sub.cons; · repeat (first | exact .head | apply Take.tail)))), ?_⟩
            obtain ⟨e1, e2⟩ := unp_none hn hm he
            exact ⟨none, 0, by rw [e1]; rfl, by rw [e1]; rfl⟩
          · refine ⟨_, [UW A' (unpL n m b).length c' (unpL n m b)], _, res2 Try.results68 rfl rfl, (by repeat (first | exact .nil | (apply Sub.cons; · repeat (first | exact .head | apply Take.tail)))), ?_⟩
            exact ⟨A', c', rfl, rfl⟩
set_option maxRecDepth 20000 in
theorem rUnpack (width cnt : Int) (A : Option Addr) (c : Nat) (b : List UInt8) (hb : b.length ≤ 1000000000) (w : World) (hr : Reads w A (bcells b)) : Fn Try.prog 72 [.int .i64 width, .int .i64 cnt, .slice A b.length c] [] (ret fun v H' => ∃ A' c', v = .tuple #[.slice A' (unpL width cnt b).length c', .int .i64 (unpE width cnt b)] ∧ H' = [UW A' (unpL width cnt b).length c' (unpL width cnt b)]) w := by
  refine fn_enter Try.func72 rfl Try.ntmps72 rfl ?_
  refine vc_seq ?_
  refine vc_region ?_
  refine vl_val rfl (.some rfl) (val_assign rfl) ?_
  refine vl_val rfl (.some rfl) (val_assign rfl) ?_
  refine vl_nil ?_
  refine vc_seq ?_
  refine vc_seq ?_
  refine vc_region ?_
  refine vl_val rfl (.some rfl) (val_move rfl) ?_
  refine vl_val rfl (.some rfl) (val_lt rfl rfl) ?_
  refine vl_val rfl (.some rfl) (val_move rfl) ?_
  refine vl_split (t := 15) rfl (fun hg15 => ?_) (fun hg15 => ?_)
  · (try replace hg15 := of_decide_eq_true hg15)
    refine vl_off rfl rfl rfl rfl (.some rfl) ?_
    refine vl_off rfl rfl rfl rfl (.some rfl) ?_
    refine vl_val rfl (.some rfl) (val_pick rfl rfl) ?_
    refine vl_val rfl (.some rfl) (val_move rfl) ?_
    refine vl_off rfl rfl rfl rfl (.some rfl) ?_
    refine vl_off rfl rfl rfl rfl (.some rfl) ?_
    refine vl_val rfl (.some rfl) (val_pick rfl rfl) ?_
    refine vl_val rfl (.some rfl) (val_move rfl) ?_
    refine vl_off rfl rfl rfl rfl (.some rfl) ?_
    refine vl_off rfl rfl rfl rfl (.some rfl) ?_
    refine vl_val rfl (.some rfl) (val_pick rfl rfl) ?_
    refine vl_nil ?_
    refine vc_cond rfl (fun _ => ?_) (fun h => by cases h)
    refine vc_seq ?_
    refine vc_region ?_
    refine vl_val rfl (.some rfl) (val_assign rfl) ?_
    refine vl_nilSl 96 1 ?_
    refine vl_val rfl (.some rfl) (val_assign rfl) ?_
    refine vl_nil ?_
    refine vc_ret ?_
    refine ⟨_, [UW none 0 0 []], _, res2 Try.results72 rfl rfl, (by repeat (first | exact .nil | (apply Sub.cons; · repeat (first | exact .head | apply Take.tail)))), ?_⟩
    obtain ⟨e1, e2⟩ := unp_bad (w := width) (n := cnt) (b := b) (by omega)
    show ∃ A' c', _ ∧ _
    rw [e1, e2]
    exact ⟨none, 0, rfl, rfl⟩
  · (try replace hg15 := of_decide_eq_false hg15)
    refine vl_on rfl rfl rfl rfl ?_
    refine vl_val rfl (.some rfl) (val_move rfl) ?_
    refine vl_on rfl rfl rfl rfl ?_
    refine vl_val rfl (.some rfl) (val_gt rfl rfl) ?_
    refine vl_val rfl (.some rfl) (val_pick rfl rfl) ?_
    refine vl_val rfl (.some rfl) (val_move rfl) ?_
    refine vl_split (t := 19) rfl (fun hg19 => ?_) (fun hg19 => ?_)
    · (try replace hg19 := of_decide_eq_true hg19)
      refine vl_off rfl rfl rfl rfl (.some rfl) ?_
      refine vl_off rfl rfl rfl rfl (.some rfl) ?_
      refine vl_val rfl (.some rfl) (val_pick rfl rfl) ?_
      refine vl_val rfl (.some rfl) (val_move rfl) ?_
      refine vl_off rfl rfl rfl rfl (.some rfl) ?_
      refine vl_off rfl rfl rfl rfl (.some rfl) ?_
      refine vl_val rfl (.some rfl) (val_pick rfl rfl) ?_
      refine vl_nil ?_
      refine vc_cond rfl (fun _ => ?_) (fun h => by cases h)
      refine vc_seq ?_
      refine vc_region ?_
      refine vl_val rfl (.some rfl) (val_assign rfl) ?_
      refine vl_nilSl 96 1 ?_
      refine vl_val rfl (.some rfl) (val_assign rfl) ?_
      refine vl_nil ?_
      refine vc_ret ?_
      refine ⟨_, [UW none 0 0 []], _, res2 Try.results72 rfl rfl, (by repeat (first | exact .nil | (apply Sub.cons; · repeat (first | exact .head | apply Take.tail)))), ?_⟩
      obtain ⟨e1, e2⟩ := unp_bad (w := width) (n := cnt) (b := b) (by omega)
      show ∃ A' c', _ ∧ _
      rw [e1, e2]
      exact ⟨none, 0, rfl, rfl⟩
    · (try replace hg19 := of_decide_eq_false hg19)
      refine vl_on rfl rfl rfl rfl ?_
      refine vl_val rfl (.some rfl) (val_move rfl) ?_
      refine vl_on rfl rfl rfl rfl ?_
      refine vl_val rfl (.some rfl) (val_lt rfl rfl) ?_
      refine vl_val rfl (.some rfl) (val_pick rfl rfl) ?_
      refine vl_val rfl (.some rfl) (val_move rfl) ?_
      refine vl_split (t := 23) rfl (fun hg23 => ?_) (fun hg23 => ?_)
      · (try replace hg23 := of_decide_eq_true hg23)
        refine vl_off rfl rfl rfl rfl (.some rfl) ?_
        refine vl_off rfl rfl rfl rfl (.some rfl) ?_
        refine vl_val rfl (.some rfl) (val_pick rfl rfl) ?_
        refine vl_nil ?_
        refine vc_cond rfl (fun _ => ?_) (fun h => by cases h)
        refine vc_seq ?_
        refine vc_region ?_
        refine vl_val rfl (.some rfl) (val_assign rfl) ?_
        refine vl_nilSl 96 1 ?_
        refine vl_val rfl (.some rfl) (val_assign rfl) ?_
        refine vl_nil ?_
        refine vc_ret ?_
        refine ⟨_, [UW none 0 0 []], _, res2 Try.results72 rfl rfl, (by repeat (first | exact .nil | (apply Sub.cons; · repeat (first | exact .head | apply Take.tail)))), ?_⟩
        obtain ⟨e1, e2⟩ := unp_bad (w := width) (n := cnt) (b := b) (by omega)
        show ∃ A' c', _ ∧ _
        rw [e1, e2]
        exact ⟨none, 0, rfl, rfl⟩
      · (try replace hg23 := of_decide_eq_false hg23)
        refine vl_on rfl rfl rfl rfl ?_
        refine vl_val rfl (.some rfl) (val_move rfl) ?_
        refine vl_on rfl rfl rfl rfl ?_
        refine vl_val rfl (.some rfl) (val_gt rfl rfl) ?_
        refine vl_val rfl (.some rfl) (val_pick rfl rfl) ?_
        refine vl_nil ?_
        refine vc_cond rfl (fun hc0 => ?_) (fun hc0 => ?_)
        · (try replace hc0 := of_decide_eq_true hc0)
          refine vc_seq ?_
          refine vc_region ?_
          refine vl_val rfl (.some rfl) (val_assign rfl) ?_
          refine vl_nilSl 96 1 ?_
          refine vl_val rfl (.some rfl) (val_assign rfl) ?_
          refine vl_nil ?_
          refine vc_ret ?_
          refine ⟨_, [UW none 0 0 []], _, res2 Try.results72 rfl rfl, (by repeat (first | exact .nil | (apply Sub.cons; · repeat (first | exact .head | apply Take.tail)))), ?_⟩
          obtain ⟨e1, e2⟩ := unp_bad (w := width) (n := cnt) (b := b) (by omega)
          show ∃ A' c', _ ∧ _
          rw [e1, e2]
          exact ⟨none, 0, rfl, rfl⟩
        · (try replace hc0 := of_decide_eq_false hc0)
          obtain ⟨n, rfl⟩ : ∃ n : Nat, width = n := ⟨width.toNat, by omega⟩
          obtain ⟨m, rfl⟩ : ∃ m : Nat, cnt = m := ⟨cnt.toNat, by omega⟩
          have hn : n ≤ 64 := by omega
          have hm : m ≤ 100000 := by omega
          have hwl : n * m ≤ 64 * 100000 := Nat.mul_le_mul hn hm
          have hcm : n * m = m * n := Nat.mul_comm _ _
          refine vc_skip ?_
          refine vc_seq ?_
          refine vc_seq ?_
          refine vc_region ?_
          refine vl_val rfl (.some rfl) (val_move rfl) ?_
          refine vl_val rfl (.some rfl) (val_lenSl Try.runUnderlying59 rfl) ?_
          refine vl_val rfl (.some rfl) (val_move rfl) ?_
          refine vl_val rfl (.some rfl) (val_move rfl) ?_
          refine vl_val rfl (.some rfl) (val_mul rfl rfl (by first | exact w_i64 (by omega) (by omega) | rfl)) ?_
          refine vl_val rfl (.some rfl) (val_add rfl rfl (by first | exact w_i64 (by omega) (by omega) | rfl)) ?_
          refine vl_val rfl (.some rfl) (val_quo rfl rfl (by omega) (by first | exact quo_nn (by omega) (w_i64 (by omega) (by omega)) | rfl)) ?_
          refine vl_val rfl (.some rfl) (val_ne rfl rfl) ?_
          refine vl_nil ?_
          refine vc_cond rfl (fun hc1 => ?_) (fun hc1 => ?_)
          · (try replace hc1 := of_decide_eq_true hc1)
            refine vc_seq ?_
            refine vc_region ?_
            refine vl_val rfl (.some rfl) (val_assign rfl) ?_
            refine vl_nilSl 96 1 ?_
            refine vl_val rfl (.some rfl) (val_assign rfl) ?_
            refine vl_nil ?_
            refine vc_ret ?_
            refine ⟨_, [UW none 0 0 []], _, res2 Try.results72 rfl rfl, (by repeat (first | exact .nil | (apply Sub.cons; · repeat (first | exact .head | apply Take.tail)))), ?_⟩
            obtain ⟨e1, e2⟩ := unp_none hn hm (b := b) (by rw [unpS_is, if_pos (by omega)])
            show ∃ A' c', _ ∧ _
            rw [e1, e2]
            exact ⟨none, 0, rfl, rfl⟩
          · (try replace hc1 := of_decide_eq_false hc1)
            have hlen : b.length = (n * m + 7) / 8 := by omega
            refine vc_skip ?_
            refine vc_seq ?_
            refine vc_region ?_
            refine vl_val rfl (.some rfl) (val_assign rfl) ?_
            refine vl_nilSl 96 1 ?_
            refine vl_nil ?_
            refine vc_seq ?_
            refine vc_region ?_
            refine vl_val rfl (.some rfl) (val_assign rfl) ?_
            refine vl_nil ?_
            refine vc_seq ?_
            refine vc_seq ?_
            refine vc_region ?_
            refine vl_val rfl (.some rfl) (val_assign rfl) ?_
            refine vl_nil ?_
            refine vc_block ?_
            refine vc_loopw (fun k E H => ∃ (i q a : Nat) (l : List Nat) (B : Option Addr) (d : Nat), i ≤ m ∧ k = m - i ∧ q = i ∧ a = i * n ∧ l = (List.range i).map (unpG n b) ∧ E = [(0, .int .i64 n), (1, .int .i64 m), (2, .slice A b.length c), (8, .slice B q d), (9, .int .i64 a), (10, .int .i64 i)] ∧ H = [UW B q d l]) (m) ⟨_, _, _, ⟨0, 0, 0, [], none, 0, by omega, rfl, rfl, by simp, rfl, rfl, rfl⟩, (by repeat (first | exact trivial | refine ⟨rfl, ?_⟩ | refine ⟨le_item rfl (by first | rfl | (congr 1; omega) | (simp; done) | (simp; omega)), ?_⟩)), (by repeat (first | exact .nil | (apply Sub.cons; · repeat (first | exact .head | apply Take.tail))))⟩ ?_
            intro k E H hI
            obtain ⟨i, q, a, l, B, d, hi, rfl, hq, ha, hl, rfl, rfl⟩ := hI
            refine vc_seq ?_
            refine vc_seq ?_
            refine vc_region ?_
            refine vl_val rfl (.some rfl) (val_move rfl) ?_
            refine vl_val rfl (.some rfl) (val_move rfl) ?_
            refine vl_val rfl (.some rfl) (val_lt rfl rfl) ?_
            refine vl_nil ?_
            refine vc_cond rfl (fun hc2 => ?_) (fun hc2 => ?_)
            · (try replace hc2 := of_decide_eq_true hc2)
              have hi' : i < m := by omega
              have hrow := row_le (w := n) (i := i) (n := m) hi
              refine vc_skip ?_
              refine vc_seq ?_
              refine vc_block ?_
              refine vc_seq ?_
              refine vc_region ?_
              refine vl_val rfl (.some rfl) (val_assign rfl) ?_
              refine vl_nil ?_
              refine vc_seq ?_
              refine vc_seq ?_
              refine vc_region ?_
              refine vl_val rfl (.some rfl) (val_assign rfl) ?_
              refine vl_nil ?_
              refine vc_block ?_
              refine vc_loopw (fun k E H => ∃ j a : Nat, j ≤ n ∧ k = n - j ∧ a = i * n + j ∧ E = [(0, .int .i64 n), (1, .int .i64 m), (2, .slice A b.length c), (8, .slice B q d), (9, .int .i64 a), (10, .int .i64 i), (11, .int .u64 (bitsN (fun t => getBit b (i * n + t)) j : Nat)), (12, .int .i64 j)] ∧ H = [UW B q d l]) (n) ⟨_, _, _, ⟨0, a, by omega, rfl, by omega, rfl, rfl⟩, (by repeat (first | exact trivial | refine ⟨rfl, ?_⟩ | refine ⟨le_item rfl (by first | rfl | (congr 1; omega) | (simp; done) | (simp; omega)), ?_⟩)), (by repeat (first | exact .nil | (apply Sub.cons; · repeat (first | exact .head | apply Take.tail))))⟩ ?_
              intro k E H hI
              obtain ⟨j, a, hj, rfl, hae, rfl, rfl⟩ := hI
              refine vc_seq ?_
              refine vc_seq ?_
              refine vc_region ?_
              refine vl_val rfl (.some rfl) (val_move rfl) ?_
              refine vl_val rfl (.some rfl) (val_move rfl) ?_
              refine vl_val rfl (.some rfl) (val_lt rfl rfl) ?_
              refine vl_nil ?_
              refine vc_cond rfl (fun hc3 => ?_) (fun hc3 => ?_)
              · (try replace hc3 := of_decide_eq_true hc3)
                have hj' : j < n := by omega
                have hrl := row_lt hi' hj'
                refine vc_skip ?_
                refine vc_seq ?_
                refine vc_block ?_
                refine vc_seq ?_
                refine vc_seq ?_
                refine vc_region ?_
                refine vl_val rfl (.some rfl) (val_move rfl) ?_
                refine vl_val rfl (.some rfl) (val_move rfl) ?_
                refine vl_val rfl (.some rfl) (val_quo rfl rfl (by omega) (by first | exact quo_nn (by omega) (w_i64 (by omega) (by omega)) | rfl)) ?_
                refine vl_val rfl (.some rfl) (val_indexAddr Try.runUnderlying59 Try.sizeOf5 rfl rfl (by first | exact rd_sl (by repeat (first | exact .head | apply In.tail | apply Take.tail | apply Upd.tail)) | exact rd_slr (by repeat (first | exact .head | apply In.tail | apply Take.tail | apply Upd.tail)) | exact rd_old (by assumption) rfl) (by omega) (by omega) (by first | omega | (simp only [bcells_length, icells_length, ucells_length, tcells_length]; omega) | (simp only [bcells_length, icells_length, ucells_length, tcells_length, fillG_length]; omega) | (simp; omega))) ?_
                refine vl_val rfl (.some rfl) (val_load Try.isAgg5 rfl (cell_rd (rd_old hr rfl) (bcells_div (p := a) (by omega) (by omega)))) ?_
                refine vl_val rfl (.some rfl) (val_move rfl) ?_
                refine vl_val rfl (.some rfl) (val_rem rfl rfl (by omega) (by first | exact rem_nn (by omega) | rfl)) ?_
                refine vl_val rfl (.some rfl) (val_convInt Try.runUnderlying3 Try.runUnderlying37 rfl (by first | exact w_u64 (by omega) (by omega) | rfl)) ?_
                refine vl_val rfl (.some rfl) (val_shr rfl rfl (by omega) (show _ = (((b.getD (a / 8) 0).toNat / 2 ^ (a % 8) : Nat) : Int) by rw [show (a : Int) % 8 = ((a % 8 : Nat) : Int) by omega]; exact shr_nat (by simp [IntKind.bits]; omega))) ?_
                refine vl_val rfl (.some rfl) (val_and rfl rfl bit_read) ?_
                refine vl_val rfl (.some rfl) (val_eq rfl rfl) ?_
                refine vl_nil ?_
                refine vc_cond rfl (fun hc4 => ?_) (fun hc4 => ?_)
                · (try replace hc4 := of_decide_eq_true hc4)
                  have hbit : getBit b a = true := by cases hq : getBit b a with
                    | true => rfl
                    | false => rw [hq] at hc4; exact absurd hc4 (by decide)
                  refine vc_region ?_
                  refine vl_val rfl (.some rfl) (val_move rfl) ?_
                  refine vl_val rfl (.some rfl) (val_move rfl) ?_
                  refine vl_val rfl (.some rfl) (val_convInt Try.runUnderlying3 Try.runUnderlying37 rfl (by first | exact w_u64 (by omega) (by omega) | rfl)) ?_
                  refine vl_val rfl (.some rfl) (val_shl rfl rfl (by omega) (show _ = ((1 * 2 ^ j : Nat) : Int) from shl_u64 (x := 1) (s := j) (by omega) rfl (by omega))) ?_
                  refine vl_val rfl (.some rfl) (val_or rfl rfl (show _ = ((bitsN (fun t => getBit b (i * n + t)) (j + 1) : Nat) : Int) by have h := or_bits (f := fun t => getBit b (i * n + t)) (j := j) (by omega); rw [← hae, hbit] at h; exact h)) ?_
                  refine vl_val rfl (.some rfl) (val_assign rfl) ?_
                  refine vl_nil ?_
                  refine vc_region ?_
                  refine vl_val rfl (.some rfl) (val_move rfl) ?_
                  refine vl_val rfl (.some rfl) (val_add rfl rfl (by first | exact w_i64 (by omega) (by omega) | rfl)) ?_
                  refine vl_val rfl (.some rfl) (val_assign rfl) ?_
                  refine vl_nil ?_
                  refine vc_region ?_
                  refine vl_val rfl (.some rfl) (val_move rfl) ?_
                  refine vl_val rfl (.some rfl) (val_add rfl rfl (by first | exact w_i64 (by omega) (by omega) | rfl)) ?_
                  refine vl_val rfl (.some rfl) (val_assign rfl) ?_
                  refine vl_nil ?_
                  exact ⟨n - (j + 1), _, _, _, by omega, (by repeat (first | exact trivial | refine ⟨rfl, ?_⟩ | refine ⟨le_item rfl (by first | rfl | (congr 1; omega) | (simp; done) | (simp; omega)), ?_⟩)), (by repeat (first | exact .nil | (apply Sub.cons; · repeat (first | exact .head | apply Take.tail)))), ⟨j + 1, a + 1, by omega, rfl, by omega, rfl, rfl⟩⟩
                · (try replace hc4 := of_decide_eq_false hc4)
                  have hbit : getBit b a = false := by cases hq : getBit b a with
                    | false => rfl
                    | true => rw [hq] at hc4; exact absurd rfl hc4
                  have hsk : bitsN (fun t => getBit b (i * n + t)) j = bitsN (fun t => getBit b (i * n + t)) (j + 1) := by
                    show _ = bitsN (fun t => getBit b (i * n + t)) j + (getBit b (i * n + j)).toNat * 2 ^ j
                    rw [← hae, hbit]; simp
                  rw [hsk]
                  refine vc_skip ?_
                  refine vc_region ?_
                  refine vl_val rfl (.some rfl) (val_move rfl) ?_
                  refine vl_val rfl (.some rfl) (val_add rfl rfl (by first | exact w_i64 (by omega) (by omega) | rfl)) ?_
                  refine vl_val rfl (.some rfl) (val_assign rfl) ?_
                  refine vl_nil ?_
                  refine vc_region ?_
                  refine vl_val rfl (.some rfl) (val_move rfl) ?_
                  refine vl_val rfl (.some rfl) (val_add rfl rfl (by first | exact w_i64 (by omega) (by omega) | rfl)) ?_
                  refine vl_val rfl (.some rfl) (val_assign rfl) ?_
                  refine vl_nil ?_
                  exact ⟨n - (j + 1), _, _, _, by omega, (by repeat (first | exact trivial | refine ⟨rfl, ?_⟩ | refine ⟨le_item rfl (by first | rfl | (congr 1; omega) | (simp; done) | (simp; omega)), ?_⟩)), (by repeat (first | exact .nil | (apply Sub.cons; · repeat (first | exact .head | apply Take.tail)))), ⟨j + 1, a + 1, by omega, rfl, by omega, rfl, rfl⟩⟩
              · (try replace hc3 := of_decide_eq_false hc3)
                obtain rfl : n = j := by omega
                refine vc_exit ?_
                refine vc_region ?_
                refine vl_val rfl (.some rfl) (val_move rfl) ?_
                refine vl_val rfl (.some rfl) (val_move rfl) ?_
                refine vl_lit sT95 rfl rfl (.some rfl) rfl rfl rfl (by decide) (by decide) rfl (flat_one rfl) (fun r65 => ?_)
                refine vl_append sT95 rfl rfl (.some rfl) rfl rfl (by first | exact rd_sl (by repeat (first | exact .head | apply In.tail | apply Take.tail | apply Upd.tail)) | exact rd_slr (by repeat (first | exact .head | apply In.tail | apply Take.tail | apply Upd.tail)) | exact rd_old (by assumption) rfl) (by first | rfl | (simp; done) | (simp; omega) | (simp only [bcells_length, icells_length, ucells_length, tcells_length]; omega)) (by first | rfl | exact one_b _ | exact one_u _ | exact one_i _ | exact one_t _) (by omega) (by omega) (by repeat (first | exact .head | apply In.tail | apply Take.tail | apply Upd.tail)) (fun A66 k66 => ?_)
                refine vl_val rfl (.some rfl) (val_assign rfl) ?_
                refine vl_nil ?_
                refine vc_region ?_
                refine vl_val rfl (.some rfl) (val_move rfl) ?_
                refine vl_val rfl (.some rfl) (val_add rfl rfl (by first | exact w_i64 (by omega) (by omega) | rfl)) ?_
                refine vl_val rfl (.some rfl) (val_assign rfl) ?_
                refine vl_nil ?_
                rw [upush]
                exact ⟨m - (i + 1), _, _, _, by omega, (by repeat (first | exact trivial | refine ⟨rfl, ?_⟩ | refine ⟨le_item rfl (by first | rfl | (congr 1; omega) | (simp; done) | (simp; omega)), ?_⟩)), (by repeat (first | exact .nil | (apply Sub.cons; · repeat (first | exact .head | apply Take.tail)))), ⟨i + 1, q + 1, i * n + n, _, _, _, by omega, rfl, by omega, by rw [Nat.add_mul, Nat.one_mul], by rw [hl, List.range_succ, List.map_append]; rfl, rfl, rfl⟩⟩
            · (try replace hc2 := of_decide_eq_false hc2)
              obtain rfl : m = i := by omega
              refine vc_exit ?_
              refine vc_seq ?_
              refine vc_block ?_
              refine vc_loopw (fun k E H => ∃ a : Nat, m * n ≤ a ∧ a ≤ 8 * b.length ∧ k = 8 * b.length - a ∧ (∀ p, m * n ≤ p → p < a → getBit b p = false) ∧ E = [(0, .int .i64 n), (1, .int .i64 m), (2, .slice A b.length c), (8, .slice B q d), (9, .int .i64 a)] ∧ H = [UW B q d l]) (8 * b.length - a) ⟨_, _, _, ⟨a, by omega, by omega, rfl, fun p h1 h2 => absurd h2 (by omega), rfl, rfl⟩, (by repeat (first | exact trivial | refine ⟨rfl, ?_⟩ | refine ⟨le_item rfl (by first | rfl | (congr 1; omega) | (simp; done) | (simp; omega)), ?_⟩)), (by repeat (first | exact .nil | (apply Sub.cons; · repeat (first | exact .head | apply Take.tail))))⟩ ?_
              intro k E H hI
              obtain ⟨a, ha2, hab, rfl, hz, rfl, rfl⟩ := hI
              refine vc_seq ?_
              refine vc_seq ?_
              refine vc_region ?_
              refine vl_val rfl (.some rfl) (val_move rfl) ?_
              refine vl_val rfl (.some rfl) (val_move rfl) ?_
              refine vl_val rfl (.some rfl) (val_lenSl Try.runUnderlying59 rfl) ?_
              refine vl_val rfl (.some rfl) (val_mul rfl rfl (by first | exact w_i64 (by omega) (by omega) | rfl)) ?_
              refine vl_val rfl (.some rfl) (val_lt rfl rfl) ?_
              refine vl_nil ?_
              refine vc_cond rfl (fun hc5 => ?_) (fun hc5 => ?_)
              · (try replace hc5 := of_decide_eq_true hc5)
                refine vc_skip ?_
                refine vc_seq ?_
                refine vc_block ?_
                refine vc_seq ?_
                refine vc_region ?_
                refine vl_val rfl (.some rfl) (val_move rfl) ?_
                refine vl_val rfl (.some rfl) (val_move rfl) ?_
                refine vl_val rfl (.some rfl) (val_quo rfl rfl (by omega) (by first | exact quo_nn (by omega) (w_i64 (by omega) (by omega)) | rfl)) ?_
                refine vl_val rfl (.some rfl) (val_indexAddr Try.runUnderlying59 Try.sizeOf5 rfl rfl (by first | exact rd_sl (by repeat (first | exact .head | apply In.tail | apply Take.tail | apply Upd.tail)) | exact rd_slr (by repeat (first | exact .head | apply In.tail | apply Take.tail | apply Upd.tail)) | exact rd_old (by assumption) rfl) (by omega) (by omega) (by first | omega | (simp only [bcells_length, icells_length, ucells_length, tcells_length]; omega) | (simp only [bcells_length, icells_length, ucells_length, tcells_length, fillG_length]; omega) | (simp; omega))) ?_
                refine vl_val rfl (.some rfl) (val_load Try.isAgg5 rfl (cell_rd (rd_old hr rfl) (bcells_div (p := a) (by omega) (by omega)))) ?_
                refine vl_val rfl (.some rfl) (val_move rfl) ?_
                refine vl_val rfl (.some rfl) (val_rem rfl rfl (by omega) (by first | exact rem_nn (by omega) | rfl)) ?_
                refine vl_val rfl (.some rfl) (val_convInt Try.runUnderlying3 Try.runUnderlying37 rfl (by first | exact w_u64 (by omega) (by omega) | rfl)) ?_
                refine vl_val rfl (.some rfl) (val_shr rfl rfl (by omega) (show _ = (((b.getD (a / 8) 0).toNat / 2 ^ (a % 8) : Nat) : Int) by rw [show (a : Int) % 8 = ((a % 8 : Nat) : Int) by omega]; exact shr_nat (by simp [IntKind.bits]; omega))) ?_
                refine vl_val rfl (.some rfl) (val_and rfl rfl bit_read) ?_
                refine vl_val rfl (.some rfl) (val_eq rfl rfl) ?_
                refine vl_nil ?_
                refine vc_cond rfl (fun hc6 => ?_) (fun hc6 => ?_)
                · (try replace hc6 := of_decide_eq_true hc6)
                  have hbit : getBit b a = true := by cases hq : getBit b a with
                    | true => rfl
                    | false => rw [hq] at hc6; exact absurd hc6 (by decide)
                  refine vc_seq ?_
                  refine vc_region ?_
                  refine vl_val rfl (.some rfl) (val_assign rfl) ?_
                  refine vl_nilSl 96 1 ?_
                  refine vl_val rfl (.some rfl) (val_assign rfl) ?_
                  refine vl_nil ?_
                  refine vc_ret ?_
                  refine ⟨_, [UW none 0 0 []], _, res2 Try.results72 rfl rfl, (by repeat (first | exact .nil | (apply Sub.cons; · repeat (first | exact .head | apply Take.tail)))), ?_⟩
                  obtain ⟨e1, e2⟩ := unp_none hn hm (b := b) (by rw [unpS_is, if_neg (by omega), if_neg (fun h => by have := h a (by omega) ha2; rw [hbit] at this; cases this)])
                  show ∃ A' c', _ ∧ _
                  rw [e1, e2]
                  exact ⟨none, 0, rfl, rfl⟩
                · (try replace hc6 := of_decide_eq_false hc6)
                  have hbit : getBit b a = false := by cases hq : getBit b a with
                    | false => rfl
                    | true => rw [hq] at hc6; exact absurd rfl hc6
                  refine vc_skip ?_
                  refine vc_region ?_
                  refine vl_val rfl (.some rfl) (val_move rfl) ?_
                  refine vl_val rfl (.some rfl) (val_add rfl rfl (by first | exact w_i64 (by omega) (by omega) | rfl)) ?_
                  refine vl_val rfl (.some rfl) (val_assign rfl) ?_
                  refine vl_nil ?_
                  exact ⟨8 * b.length - (a + 1), _, _, _, by omega, (by repeat (first | exact trivial | refine ⟨rfl, ?_⟩ | refine ⟨le_item rfl (by first | rfl | (congr 1; omega) | (simp; done) | (simp; omega)), ?_⟩)), (by repeat (first | exact .nil | (apply Sub.cons; · repeat (first | exact .head | apply Take.tail)))), ⟨a + 1, by omega, by omega, rfl, fun p h1 h2 => by
                    rcases Nat.lt_or_ge p a with h | h
                    · exact hz p h1 h
                    · obtain rfl : p = a := by omega
                      exact hbit, rfl, rfl⟩⟩
              · (try replace hc5 := of_decide_eq_false hc5)
                refine vc_exit ?_
                refine vc_seq ?_
                refine vc_region ?_
                refine vl_val rfl (.some rfl) (val_move rfl) ?_
                refine vl_val rfl (.some rfl) (val_assign rfl) ?_
                refine vl_val rfl (.some rfl) (val_assign rfl) ?_
                refine vl_nil ?_
                refine vc_ret ?_
                refine ⟨_, [UW B q d l], _, res2 Try.results72 rfl rfl, (by repeat (first | exact .nil | (apply Sub.cons; · repeat (first | exact .head | apply Take.tail)))), ?_⟩
                have hsome : unpackS n m b = some l := by rw [unpS_is, if_neg (by omega), if_pos (fun p h1 h2 => hz p h2 (by omega)), hl]
                obtain ⟨e1, e2⟩ := unp_some hn hm hsome
                obtain rfl : q = l.length := by rw [hl]; simp; omega
                show ∃ A' c', _ ∧ _
                rw [e1, e2]
                exact ⟨B, d, rfl, rfl⟩

end Go.Proofs.Ytibfngjfjddaiaa.K
