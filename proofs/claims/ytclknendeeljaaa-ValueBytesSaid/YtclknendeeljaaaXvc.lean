/- Walks of the program's functions, printed by a program of this session; Lean checks them. -/
import Derived.Test.YtclknendeeljaaaCl
import Derived.Test.YtclknendeeljaaaXvb
namespace Go.Proofs.Ytclknendeeljaaa.K
open Go Go.RowKit Go.Proofs
set_option linter.unusedVariables false
set_option linter.unusedSimpArgs false


theorem zig_zag (u : Nat) : zigS (zagS u) = u := by unfold zagS zigS; split <;> split <;> omega
def txtV (l : List UInt8) : ByteArray := ⟨l.toArray⟩
theorem txt_size (l : List UInt8) : (txtV l).size = l.length := by simp [txtV, ByteArray.size]
/-- One value out of bytes, and what is left. -/
def oneV (b : List UInt8) : Option (Vk × List UInt8) :=
  if (getN b).2 = 0 then none else
  if (getN b).1 = 0 then some (z3, b.drop (getN b).2) else
  if 4 < (getN b).1 then none else
  if (getN (b.drop (getN b).2)).2 = 0 then none else
  if (getN b).1 = 3 then
    (if 64 < (getN (b.drop (getN b).2)).1 ∨ ((b.drop (getN b).2).drop (getN (b.drop (getN b).2)).2).length < (getN (b.drop (getN b).2)).1 then none
     else some (⟨3, 0, txtV (((b.drop (getN b).2).drop (getN (b.drop (getN b).2)).2).take (getN (b.drop (getN b).2)).1)⟩, ((b.drop (getN b).2).drop (getN (b.drop (getN b).2)).2).drop (getN (b.drop (getN b).2)).1))
  else if goodV ⟨((getN b).1 : Nat), zagS (getN (b.drop (getN b).2)).1, ⟨#[]⟩⟩ = true then some (⟨((getN b).1 : Nat), zagS (getN (b.drop (getN b).2)).1, ⟨#[]⟩⟩, (b.drop (getN b).2).drop (getN (b.drop (getN b).2)).2) else none
def manyV : Nat → Nat → List UInt8 → Option (List Vk)
  | _, 0, b => if b.length = 0 then some [] else none
  | 0, _ + 1, _ => none
  | q + 1, c + 1, b => match oneV b with
    | none => none
    | some (v, r) => (manyV q c r).map (v :: ·)
def loadV (b : List UInt8) : Option (List Vk) := if (getN b).2 = 0 then none else manyV b.length (getN b).1 (b.drop (getN b).2)
theorem good_txt {l : List UInt8} (h : l.length ≤ 64) : goodV ⟨3, 0, txtV l⟩ = true := by
  unfold goodV
  rw [if_neg (show ¬ (3 : Int) = 0 by decide), if_neg (show ¬ (3 : Int) = 1 by decide), if_neg (show ¬ (3 : Int) = 2 by decide), if_pos rfl, txt_size]; simp [h]
theorem one_is {b r : List UInt8} {v : Vk} (h : oneV b = some (v, r)) : r.length < b.length ∧ goodV v = true ∧ b = putV v ++ r := by
  unfold oneV at h
  split at h
  · cases h
  · rename_i h1
    have hb := getN_bd b
    have hp := put_get h1
    split at h
    · rename_i h2
      cases h
      rw [h2] at hp
      refine ⟨by rw [List.length_drop]; omega, by decide, ?_⟩
      show b = (putN 0 ++ []) ++ _
      rw [List.append_nil]; exact hp
    · rename_i h2
      split at h
      · cases h
      · rename_i h3
        split at h
        · cases h
        · rename_i h4
          have hb2 := getN_bd (b.drop (getN b).2)
          have hp2 := put_get h4
          rw [List.length_drop] at hb2
          split at h
          · rename_i h5
            split at h
            · cases h
            · rename_i h6
              rw [List.length_drop, List.length_drop] at h6
              cases h
              have hlen : (((b.drop (getN b).2).drop (getN (b.drop (getN b).2)).2).take (getN (b.drop (getN b).2)).1).length = (getN (b.drop (getN b).2)).1 := by rw [List.length_take, List.length_drop, List.length_drop]; omega
              refine ⟨by rw [List.length_drop, List.length_drop, List.length_drop]; omega, good_txt (by rw [hlen]; omega), ?_⟩
              have hp' : b = putN 3 ++ b.drop (getN b).2 := by rw [h5] at hp; exact hp
              have key : b.drop (getN b).2 = putN (getN (b.drop (getN b).2)).1 ++ (((b.drop (getN b).2).drop (getN (b.drop (getN b).2)).2).take (getN (b.drop (getN b).2)).1 ++ ((b.drop (getN b).2).drop (getN (b.drop (getN b).2)).2).drop (getN (b.drop (getN b).2)).1) := by rw [List.take_append_drop]; exact hp2
              show b = (putN 3 ++ (putN (txtV (((b.drop (getN b).2).drop (getN (b.drop (getN b).2)).2).take (getN (b.drop (getN b).2)).1)).size ++ ((b.drop (getN b).2).drop (getN (b.drop (getN b).2)).2).take (getN (b.drop (getN b).2)).1)) ++ _
              rw [txt_size, hlen, List.append_assoc, List.append_assoc, ← key]
              exact hp'
          · rename_i h5
            split at h
            · rename_i h6
              cases h
              refine ⟨by rw [List.length_drop, List.length_drop]; omega, h6, ?_⟩
              unfold putV
              rw [if_neg (show ¬ (((getN b).1 : Nat) : Int) = 0 by omega), if_neg (show ¬ (((getN b).1 : Nat) : Int) = 3 by omega)]
              show b = (putN (((getN b).1 : Nat) : Int).toNat ++ putN (zigS (zagS _))) ++ _
              rw [zig_zag, Int.toNat_natCast, List.append_assoc, ← hp2]
              exact hp
            · cases h
def InvV (b : List UInt8) (acc : List Vk) (c : Nat) (b2 : List UInt8) : Prop := ∃ q, b2.length ≤ q ∧ (manyV q c b2).map (acc ++ ·) = loadV b
theorem inv_none {b b2 : List UInt8} {acc : List Vk} {c : Nat} (h : InvV b acc (c + 1) b2) (h1 : oneV b2 = none) : loadV b = none := by
  obtain ⟨q, _, e⟩ := h
  rw [← e]
  cases q with
  | zero => rfl
  | succ q => show (match oneV b2 with | none => none | some (v, r) => (manyV q c r).map (v :: ·)).map _ = none; rw [h1]; rfl
theorem inv_step {b b2 r : List UInt8} {acc : List Vk} {c : Nat} {v : Vk} (h : InvV b acc (c + 1) b2) (h1 : oneV b2 = some (v, r)) : InvV b (acc ++ [v]) c r := by
  obtain ⟨q, hq, e⟩ := h
  have hl := (one_is h1).1
  cases q with
  | zero => omega
  | succ q =>
    refine ⟨q, by omega, ?_⟩
    rw [← e]
    show _ = (match oneV b2 with | none => none | some (v, r) => (manyV q c r).map (v :: ·)).map _
    rw [h1]
    show _ = ((manyV q c r).map (v :: ·)).map _
    rw [Option.map_map]
    congr 1
    funext l
    simp
theorem inv_end {b b2 : List UInt8} {acc : List Vk} (h : InvV b acc 0 b2) : loadV b = if b2.length = 0 then some acc else none := by
  obtain ⟨q, _, e⟩ := h
  rw [← e]
  cases q <;> (unfold manyV; split <;> simp)
theorem inv_start {b : List UInt8} (h : (getN b).2 ≠ 0) : InvV b [] (getN b).1 (b.drop (getN b).2) := by
  refine ⟨b.length, by rw [List.length_drop]; omega, ?_⟩
  unfold loadV
  rw [if_neg h]
  simp
theorem many_count : ∀ (q c : Nat) (b : List UInt8) (l : List Vk), manyV q c b = some l → c ≤ b.length
  | _, 0, b, l, _ => Nat.zero_le _
  | 0, c + 1, b, l, h => by cases h
  | q + 1, c + 1, b, l, h => by
    have h : (match oneV b with | none => none | some (v, r) => (manyV q c r).map (v :: ·)) = some l := h
    cases h1 : oneV b with
    | none => rw [h1] at h; cases h
    | some p =>
      obtain ⟨v, r⟩ := p
      rw [h1] at h
      have hl := (one_is h1).1
      cases h2 : manyV q c r with
      | none => rw [show (match some (v, r) with | none => none | some (v, r) => (manyV q c r).map (v :: ·)) = (manyV q c r).map (v :: ·) from rfl, h2] at h; cases h
      | some l2 => have := many_count q c r l2 h2; omega
theorem load_count {b : List UInt8} (h : b.length < (getN b).1) : loadV b = none := by
  unfold loadV
  split
  · rfl
  · cases h1 : manyV b.length (getN b).1 (b.drop (getN b).2) with
    | none => rfl
    | some l => have := many_count _ _ _ _ h1; rw [List.length_drop] at this; omega
def loadL9 (b : List UInt8) : List Vk := (loadV b).getD []
def loadE9 (b : List UInt8) : Int := if (loadV b).isSome then 0 else 8
theorem load9_none {b : List UInt8} (h : loadV b = none) : loadL9 b = [] ∧ loadE9 b = 8 := by unfold loadL9 loadE9; rw [h]; exact ⟨rfl, rfl⟩
theorem load9_some {b : List UInt8} {l : List Vk} (h : loadV b = some l) : loadL9 b = l ∧ loadE9 b = 0 := by unfold loadL9 loadE9; rw [h]; exact ⟨rfl, rfl⟩

set_option maxRecDepth 20000 in
theorem vNext (x0 x1 : Nat) (A : Option Addr) (c : Nat) (b : List UInt8) (bad : Bool) (hb : b.length ≤ 1000000000) (hbc : b.length ≤ c) (w : World) (hr : ReadsM w (fps [cells x0 [.slice A b.length c] 43, cells x1 [.bool bad] 4]) A (bcells b)) : Fn Try.prog 78 [.pointer (some ⟨x0, 0, none⟩), .pointer (some ⟨x1, 0, none⟩)] [cells x0 [.slice A b.length c] 43, cells x1 [.bool bad] 4] (ret fun v H' => v = .int .u64 (getN b).1 ∧ H' = [cells x0 [.slice (cutA A c (getN b).2 1) (b.drop (getN b).2).length (c - (getN b).2)] 43, cells x1 [.bool (bad || decide ((getN b).2 = 0))] 4]) w := by
  have hbd := getN_bd b
  refine fn_enter Try.func78 rfl Try.ntmps78 rfl ?_
  refine vc_seq ?_
  refine vc_region ?_
  refine vl_val rfl (.some rfl) (val_assign rfl) ?_
  refine vl_nil ?_
  refine vc_seq ?_
  refine vc_region ?_
  refine vl_val rfl (.some rfl) (val_load Try.isAgg43 rfl (by first | exact cell_cells (by repeat (first | exact .head | apply In.tail | apply Take.tail | apply Upd.tail)) rfl | exact cell_rd (rd_sl (by repeat (first | exact .head | apply In.tail | apply Take.tail | apply Upd.tail))) (by first | exact bcells_at (by omega) | exact ucells_at (by omega) | exact icells_at (by omega) | exact tcells_at (by omega) | exact bcells_get (by omega) | exact icells_get (by omega) | exact tcells_get (by omega) | exact ucells_get (by omega)) | exact cell_rd (rd_old (by assumption) rfl) (by first | exact bcells_at (by omega) | exact ucells_at (by omega) | exact icells_at (by omega) | exact tcells_at (by omega) | exact bcells_get (by omega) | exact icells_get (by omega) | exact tcells_get (by omega) | exact ucells_get (by omega)) | exact cell_old (by assumption) (by simp [fps]))) ?_
  refine vl_callV rfl rfl (.some rfl) Try.call69 rfl (fun w' hw => cGet _ _ b (by omega) w' (rdw (rd_oldM hr) hw)) ?_
  refine vl_val rfl (.some rfl) (val_move rfl) ?_
  refine vl_val rfl (.some rfl) (val_extract rfl rfl) ?_
  refine vl_val rfl (.some rfl) (val_extract rfl rfl) ?_
  refine vl_val rfl (.some rfl) (val_assign rfl) ?_
  refine vl_val rfl (.some rfl) (val_assign rfl) ?_
  refine vl_nil ?_
  refine vc_seq ?_
  refine vc_region ?_
  refine vl_val rfl (.some rfl) (val_load Try.isAgg4 rfl (by first | exact cell_cells (by repeat (first | exact .head | apply In.tail | apply Take.tail | apply Upd.tail)) rfl | exact cell_rd (rd_sl (by repeat (first | exact .head | apply In.tail | apply Take.tail | apply Upd.tail))) (by first | exact bcells_at (by omega) | exact ucells_at (by omega) | exact icells_at (by omega) | exact tcells_at (by omega) | exact bcells_get (by omega) | exact icells_get (by omega) | exact tcells_get (by omega) | exact ucells_get (by omega)) | exact cell_rd (rd_old (by assumption) rfl) (by first | exact bcells_at (by omega) | exact ucells_at (by omega) | exact icells_at (by omega) | exact tcells_at (by omega) | exact bcells_get (by omega) | exact icells_get (by omega) | exact tcells_get (by omega) | exact ucells_get (by omega)) | exact cell_old (by assumption) (by simp [fps]))) ?_
  refine vl_val rfl (.some rfl) (val_move rfl) ?_
  refine vl_split (t := 11) rfl (fun hg11 => ?_) (fun hg11 => ?_)
  · (try replace hg11 := of_decide_eq_true hg11)
    refine vl_off rfl rfl rfl rfl (.some rfl) ?_
    refine vl_off rfl rfl rfl rfl (.some rfl) ?_
    refine vl_val rfl (.some rfl) (val_pick rfl rfl) ?_
    first | refine vl_store rfl rfl .none rfl rfl Try.sizeOf4 rfl (by repeat (first | exact .head | apply In.tail | apply Take.tail | apply Upd.tail)) (by first | decide | exact Nat.le_refl _ | exact Nat.le_of_ble_eq_true rfl | (simp; omega)) ?_ | refine vl_storeSl rfl rfl .none rfl rfl Try.sizeOf4 rfl (by simp [Value.cells]) (by repeat (first | exact .head | apply In.tail | apply Take.tail | apply Upd.tail)) (by first | decide | (simp [Value.cells]; omega)) ?_
    refine vl_nil ?_
    refine vc_seq ?_
    refine vc_region ?_
    refine vl_val rfl (.some rfl) (val_load Try.isAgg43 rfl (by first | exact cell_cells (by repeat (first | exact .head | apply In.tail | apply Take.tail | apply Upd.tail)) rfl | exact cell_rd (rd_sl (by repeat (first | exact .head | apply In.tail | apply Take.tail | apply Upd.tail))) (by first | exact bcells_at (by omega) | exact ucells_at (by omega) | exact icells_at (by omega) | exact tcells_at (by omega) | exact bcells_get (by omega) | exact icells_get (by omega) | exact tcells_get (by omega) | exact ucells_get (by omega)) | exact cell_rd (rd_old (by assumption) rfl) (by first | exact bcells_at (by omega) | exact ucells_at (by omega) | exact icells_at (by omega) | exact tcells_at (by omega) | exact bcells_get (by omega) | exact icells_get (by omega) | exact tcells_get (by omega) | exact ucells_get (by omega)) | exact cell_old (by assumption) (by simp [fps]))) ?_
    refine vl_val rfl (.some rfl) (val_move rfl) ?_
    refine vl_val rfl (.some rfl) (val_cutFrom Try.runUnderlying43 Try.sizeOf5 rfl rfl (by omega) (by omega)) ?_
    rw [Int.toNat_natCast, show b.length - (getN b).2 = (b.drop (getN b).2).length by rw [List.length_drop]]
    refine vl_store rfl rfl .none rfl rfl Try.sizeOf43 rfl (by repeat (first | exact .head | apply In.tail | apply Take.tail | apply Upd.tail)) (Nat.le_refl _) ?_
    refine vl_nil ?_
    refine vc_seq ?_
    refine vc_region ?_
    refine vl_val rfl (.some rfl) (val_move rfl) ?_
    refine vl_val rfl (.some rfl) (val_assign rfl) ?_
    refine vl_nil ?_
    refine vc_ret ?_
    refine ⟨_, [cells x0 [.slice (cutA A c (getN b).2 1) (b.drop (getN b).2).length (c - (getN b).2)] 43, cells x1 [.bool _] 4], _, res1 Try.results78 rfl, (by repeat (first | exact .nil | (apply Sub.cons; · repeat (first | exact .head | apply Take.tail)))), ⟨rfl, ?_⟩⟩
    first | (rw [hg11]; rfl) | (rw [hg11, Bool.false_or, show decide ((getN b).2 = 0) = decide ((((getN b).2 : Nat) : Int) = 0) by rw [decide_eq_decide]; omega])
  · (try replace hg11 := of_decide_eq_false hg11)
    refine vl_on rfl rfl rfl rfl ?_
    refine vl_val rfl (.some rfl) (val_move rfl) ?_
    refine vl_on rfl rfl rfl rfl ?_
    refine vl_val rfl (.some rfl) (val_eq rfl rfl) ?_
    refine vl_val rfl (.some rfl) (val_pick rfl rfl) ?_
    first | refine vl_store rfl rfl .none rfl rfl Try.sizeOf4 rfl (by repeat (first | exact .head | apply In.tail | apply Take.tail | apply Upd.tail)) (by first | decide | exact Nat.le_refl _ | exact Nat.le_of_ble_eq_true rfl | (simp; omega)) ?_ | refine vl_storeSl rfl rfl .none rfl rfl Try.sizeOf4 rfl (by simp [Value.cells]) (by repeat (first | exact .head | apply In.tail | apply Take.tail | apply Upd.tail)) (by first | decide | (simp [Value.cells]; omega)) ?_
    refine vl_nil ?_
    refine vc_seq ?_
    refine vc_region ?_
    refine vl_val rfl (.some rfl) (val_load Try.isAgg43 rfl (by first | exact cell_cells (by repeat (first | exact .head | apply In.tail | apply Take.tail | apply Upd.tail)) rfl | exact cell_rd (rd_sl (by repeat (first | exact .head | apply In.tail | apply Take.tail | apply Upd.tail))) (by first | exact bcells_at (by omega) | exact ucells_at (by omega) | exact icells_at (by omega) | exact tcells_at (by omega) | exact bcells_get (by omega) | exact icells_get (by omega) | exact tcells_get (by omega) | exact ucells_get (by omega)) | exact cell_rd (rd_old (by assumption) rfl) (by first | exact bcells_at (by omega) | exact ucells_at (by omega) | exact icells_at (by omega) | exact tcells_at (by omega) | exact bcells_get (by omega) | exact icells_get (by omega) | exact tcells_get (by omega) | exact ucells_get (by omega)) | exact cell_old (by assumption) (by simp [fps]))) ?_
    refine vl_val rfl (.some rfl) (val_move rfl) ?_
    refine vl_val rfl (.some rfl) (val_cutFrom Try.runUnderlying43 Try.sizeOf5 rfl rfl (by omega) (by omega)) ?_
    rw [Int.toNat_natCast, show b.length - (getN b).2 = (b.drop (getN b).2).length by rw [List.length_drop]]
    refine vl_store rfl rfl .none rfl rfl Try.sizeOf43 rfl (by repeat (first | exact .head | apply In.tail | apply Take.tail | apply Upd.tail)) (Nat.le_refl _) ?_
    refine vl_nil ?_
    refine vc_seq ?_
    refine vc_region ?_
    refine vl_val rfl (.some rfl) (val_move rfl) ?_
    refine vl_val rfl (.some rfl) (val_assign rfl) ?_
    refine vl_nil ?_
    refine vc_ret ?_
    refine ⟨_, [cells x0 [.slice (cutA A c (getN b).2 1) (b.drop (getN b).2).length (c - (getN b).2)] 43, cells x1 [.bool _] 4], _, res1 Try.results78 rfl, (by repeat (first | exact .nil | (apply Sub.cons; · repeat (first | exact .head | apply Take.tail)))), ⟨rfl, ?_⟩⟩
    first | (rw [hg11]; rfl) | (rw [hg11, Bool.false_or, show decide ((getN b).2 = 0) = decide ((((getN b).2 : Nat) : Int) = 0) by rw [decide_eq_decide]; omega])

end Go.Proofs.Ytclknendeeljaaa.K
