/- Walks of the program's functions, printed by a program of this session; Lean checks them. -/
import Derived.Test.YtclnhfdgiaamhaaMk
import Derived.Test.YtclnhfdgiaamhaaYvd
namespace Go.Proofs.Ytclnhfdgiaamhaa.K
open Go Go.RowKit Go.Proofs
set_option linter.unusedVariables false
set_option linter.unusedSimpArgs false


def fourP (b : List UInt8) : Nat → Nat
  | 0 => 0
  | k + 1 => fourP b k + (b.getD k 0).toNat * 2 ^ (8 * k)
theorem fourP_4 (b : List UInt8) : fourP b 4 = fourN b := by unfold fourN; simp [fourP]
theorem fourP_lt (b : List UInt8) : ∀ k, fourP b k < 2 ^ (8 * k)
  | 0 => by simp [fourP]
  | k + 1 => by
    have ih := fourP_lt b k
    have hx := (b.getD k 0).toNat_lt
    have e : 2 ^ (8 * (k + 1)) = 2 ^ (8 * k) * 256 := by rw [Nat.mul_add, Nat.pow_add]
    have h := Nat.mul_le_mul_right (2 ^ (8 * k)) (show (b.getD k 0).toNat ≤ 255 by omega)
    show fourP b k + _ < _
    rw [e]; omega
theorem shl_8 {x i : Nat} (hx : x < 256) (hi : i < 4) : IntKind.u32.wrap ((x : Int) * 2 ^ (min (Int.toNat (8 * (i : Int))) IntKind.u32.bits)) = ((x * 2 ^ (8 * i) : Nat) : Int) := by
  have e : min (Int.toNat (8 * (i : Int))) IntKind.u32.bits = 8 * i := by simp only [IntKind.bits]; omega
  have e2 : (x : Int) * 2 ^ (8 * i) = ((x * 2 ^ (8 * i) : Nat) : Int) := by simp
  have h1 := Nat.mul_le_mul (show x ≤ 255 by omega) (Nat.pow_le_pow_right (n := 2) (by decide) (show 8 * i ≤ 24 by omega))
  rw [e, e2]
  exact w_u32 (by omega) (by simp at h1; omega)
theorem or_8 {b : List UInt8} {i : Nat} (hi : i < 4) : IntKind.u32.wrap ((BitVec.ofInt IntKind.u32.bits (fourP b i : Int) ||| BitVec.ofInt IntKind.u32.bits (((b.getD i 0).toNat * 2 ^ (8 * i) : Nat) : Int)).toNat : Int) = ((fourP b (i + 1) : Nat) : Int) := by
  have h := fourP_lt b (i + 1)
  have h2 := Nat.pow_le_pow_right (n := 2) (by decide) (show 8 * (i + 1) ≤ 32 by omega)
  exact or_apart (k := .u32) rfl (fourP_lt b i) (Nat.lt_of_lt_of_le h h2)
set_option maxRecDepth 20000 in
theorem cSum (A : Option Addr) (c : Nat) (b : List UInt8) (hb : b.length ≤ 1000000000000) (w : World) (hr : Reads w A (bcells b)) : FnV Try.prog 70 [.slice A b.length c] (.int .u32 (sumS b)) w := by
  refine fn_enter Try.func70 rfl Try.ntmps70 rfl ?_
  refine vc_seq ?_
  refine vc_region ?_
  refine vl_val rfl (.some rfl) (val_assign rfl) ?_
  refine vl_nil ?_
  refine vc_seq ?_
  refine vc_region ?_
  refine vl_val rfl (.some rfl) (val_assign rfl) ?_
  refine vl_nil ?_
  refine vc_seq ?_
  refine vc_seq ?_
  refine vc_region ?_
  refine vl_val rfl (.some rfl) (val_move rfl) ?_
  refine vl_val rfl (.some rfl) (val_lenSl Try.runUnderlying22 rfl) ?_
  refine vl_val rfl (.some rfl) (val_move rfl) ?_
  refine vl_nil ?_
  refine vc_block ?_
  refine vc_loopw (fun k E H => ∃ i c0 : Nat, i ≤ b.length ∧ k = b.length - i ∧ c0 < 4294967296 ∧ crcL c0 (b.drop i) = crcL 4294967295 b ∧ E = [(3, .int .u32 c0), (6, .slice A b.length c), (7, .int .i64 b.length), (8, .int .i64 i)] ∧ H = []) (b.length) ⟨_, _, _, ⟨0, 4294967295, by omega, rfl, by decide, rfl, rfl, rfl⟩, (by repeat (first | exact trivial | refine ⟨rfl, ?_⟩ | refine ⟨le_item rfl (by first | rfl | (congr 1; omega) | (simp; done) | (simp; omega)), ?_⟩)), (by repeat constructor)⟩ ?_
  intro k E H hI
  obtain ⟨i, c0, hi, rfl, hc, hg, rfl, rfl⟩ := hI
  refine vc_seq ?_
  refine vc_region ?_
  refine vl_val rfl (.some rfl) (val_lt rfl rfl) ?_
  refine vl_nil ?_
  refine vc_seq ?_
  refine vc_cond rfl (fun hc0 => ?_) (fun hc0 => ?_)
  · (try replace hc0 := of_decide_eq_true hc0)
    have hd := drop_cons (l := b) (i := i) 0 (by omega)
    rw [hd] at hg
    replace hg : crcL (crcN 8 (c0 ^^^ (b.getD i 0).toNat)) (b.drop (i + 1)) = crcL 4294967295 b := hg
    have hci := crc_in (x := b.getD i 0) hc
    refine vc_skip ?_
    refine vc_seq ?_
    refine vc_block ?_
    refine vc_seq ?_
    refine vc_region ?_
    refine vl_val rfl (.some rfl) (val_indexAddr Try.runUnderlying22 Try.sizeOf5 rfl rfl (by first | exact rd_sl (by repeat constructor) | exact rd_slr (by repeat constructor) | exact rd_old (by assumption) rfl) (by omega) (by omega) (by first | omega | (simp only [bcells_length, icells_length, ucells_length, tcells_length]; omega) | (simp only [bcells_length, icells_length, ucells_length, tcells_length, fillG_length]; omega) | (simp; omega))) ?_
    refine vl_val rfl (.some rfl) (val_load Try.isAgg5 rfl (by first | exact cell_cells (by repeat constructor) rfl | exact cell_rd (by first | exact rd_sl (by repeat constructor) | exact rd_old (by assumption) rfl) (by first | exact bcells_at (by omega) | exact ucells_at (by omega) | exact icells_at (by omega) | exact tcells_at (by omega) | exact bcells_get (by omega) | exact icells_get (by omega) | exact tcells_get (by omega) | exact ucells_get (by omega)) | exact cell_old (by assumption) (by simp [fps]))) ?_
    refine vl_val rfl (.some rfl) (val_assign rfl) ?_
    refine vl_nil ?_
    refine vc_seq ?_
    refine vc_region ?_
    refine vl_val rfl (.some rfl) (val_move rfl) ?_
    refine vl_val rfl (.some rfl) (val_move rfl) ?_
    refine vl_val rfl (.some rfl) (val_convInt Try.runUnderlying5 Try.runUnderlying131 rfl (w_u32 (by omega) (by have := (b.getD i 0).toNat_lt; omega))) ?_
    refine vl_val rfl (.some rfl) (val_xor rfl rfl (xor_u32 hc (by have := (b.getD i 0).toNat_lt; omega))) ?_
    refine vl_val rfl (.some rfl) (val_assign rfl) ?_
    refine vl_nil ?_
    refine vc_seq ?_
    refine vc_region ?_
    refine vl_val rfl (.some rfl) (val_move rfl) ?_
    refine vl_nil ?_
    refine vc_block ?_
    refine vc_loopw (fun k E H => ∃ j : Nat, j ≤ 8 ∧ k = 8 - j ∧ E = [(3, .int .u32 (crcN j (c0 ^^^ (b.getD i 0).toNat) : Nat)), (6, .slice A b.length c), (7, .int .i64 b.length), (8, .int .i64 i), (16, .int .i64 j)] ∧ H = []) (8) ⟨_, _, _, ⟨0, by omega, rfl, rfl, rfl⟩, (by repeat (first | exact trivial | refine ⟨rfl, ?_⟩ | refine ⟨le_item rfl (by first | rfl | (congr 1; omega) | (simp; done) | (simp; omega)), ?_⟩)), (by repeat constructor)⟩ ?_
    intro k E H hI
    obtain ⟨j, hj, rfl, rfl, rfl⟩ := hI
    have hcj := crcN_lt hci j
    refine vc_seq ?_
    refine vc_region ?_
    refine vl_val rfl (.some rfl) (val_lt rfl rfl) ?_
    refine vl_nil ?_
    refine vc_seq ?_
    refine vc_cond rfl (fun hc1 => ?_) (fun hc1 => ?_)
    · (try replace hc1 := of_decide_eq_true hc1)
      refine vc_skip ?_
      refine vc_seq ?_
      refine vc_block ?_
      refine vc_region ?_
      refine vl_val rfl (.some rfl) (val_move rfl) ?_
      refine vl_val rfl (.some rfl) (val_shr rfl rfl (by decide) (shr_lit 2 rfl (by decide))) ?_
      refine vl_val rfl (.some rfl) (val_move rfl) ?_
      refine vl_val rfl (.some rfl) (val_and rfl rfl (and1_u32 hcj)) ?_
      refine vl_val rfl (.some rfl) (val_neg rfl rfl) ?_
      refine vl_val rfl (.some rfl) (val_and rfl rfl (crc_mask _)) ?_
      refine vl_val rfl (.some rfl) (val_xor rfl rfl (crc_step hcj)) ?_
      refine vl_val rfl (.some rfl) (val_assign rfl) ?_
      refine vl_nil ?_
      refine vc_region ?_
      refine vl_val rfl (.some rfl) (val_add rfl rfl (by first | exact w_i64 (by omega) (by omega) | rfl)) ?_
      refine vl_val rfl (.some rfl) (val_move rfl) ?_
      refine vl_nil ?_
      exact ⟨8 - (j + 1), _, _, _, by omega, (by repeat (first | exact trivial | refine ⟨rfl, ?_⟩ | refine ⟨le_item rfl (by first | rfl | (congr 1; omega) | (simp; done) | (simp; omega)), ?_⟩)), (by repeat constructor), ⟨j + 1, by omega, rfl, rfl, rfl⟩⟩
    · (try replace hc1 := of_decide_eq_false hc1)
      obtain rfl : 8 = j := by omega
      refine vc_exit ?_
      refine vc_region ?_
      refine vl_val rfl (.some rfl) (val_add rfl rfl (by first | exact w_i64 (by omega) (by omega) | rfl)) ?_
      refine vl_val rfl (.some rfl) (val_move rfl) ?_
      refine vl_nil ?_
      exact ⟨b.length - (i + 1), _, _, _, by omega, (by repeat (first | exact trivial | refine ⟨rfl, ?_⟩ | refine ⟨le_item rfl (by first | rfl | (congr 1; omega) | (simp; done) | (simp; omega)), ?_⟩)), (by repeat constructor), ⟨i + 1, crcN 8 (c0 ^^^ (b.getD i 0).toNat), by omega, rfl, crcN_lt hci 8, hg, rfl, rfl⟩⟩
  · (try replace hc0 := of_decide_eq_false hc0)
    refine vc_exit ?_
    refine vc_seq ?_
    refine vc_region ?_
    refine vl_val rfl (.some rfl) (val_move rfl) ?_
    refine vl_val rfl (.some rfl) (val_com rfl (com_u32 hc)) ?_
    refine vl_val rfl (.some rfl) (val_assign rfl) ?_
    refine vl_nil ?_
    refine vc_ret ?_
    refine ⟨_, [], _, res1 Try.results70 rfl, .nil, ?_⟩
    show _ = _; rw [List.drop_of_length_le (by omega)] at hg; replace hg : c0 = crcL 4294967295 b := hg; rw [hg]; rfl
set_option maxRecDepth 20000 in
theorem cFour (A : Option Addr) (c : Nat) (b : List UInt8) (hb : b.length ≤ 1000000000000) (n : Nat) (w : World) : Fn Try.prog 69 [.slice A b.length c, .int .u32 n] [BY A b.length c b] (ret fun v H' => ∃ A' c', v = .slice A' (b ++ four4 n).length c' ∧ H' = [BY A' (b ++ four4 n).length c' (b ++ four4 n)]) w := by
  refine fn_enter Try.func69 rfl Try.ntmps69 rfl ?_
  refine vc_seq ?_
  refine vc_region ?_
  refine vl_val rfl (.some rfl) (val_assign rfl) ?_
  refine vl_nil ?_
  refine vc_seq ?_
  refine vc_region ?_
  refine vl_val rfl (.some rfl) (val_move rfl) ?_
  refine vl_val rfl (.some rfl) (val_move rfl) ?_
  refine vl_val rfl (.some rfl) (val_convInt Try.runUnderlying131 Try.runUnderlying5 rfl (wr_u8 (n))) ?_
  refine vl_val rfl (.some rfl) (val_move rfl) ?_
  refine vl_val rfl (.some rfl) (val_shr rfl rfl (by decide) (show _ = ((n / 256 : Nat) : Int) from shr_nat (j := 8) (by decide))) ?_
  refine vl_val rfl (.some rfl) (val_convInt Try.runUnderlying131 Try.runUnderlying5 rfl (wr_u8 (n / 256))) ?_
  refine vl_val rfl (.some rfl) (val_move rfl) ?_
  refine vl_val rfl (.some rfl) (val_shr rfl rfl (by decide) (show _ = ((n / 65536 : Nat) : Int) from shr_nat (j := 16) (by decide))) ?_
  refine vl_val rfl (.some rfl) (val_convInt Try.runUnderlying131 Try.runUnderlying5 rfl (wr_u8 (n / 65536))) ?_
  refine vl_val rfl (.some rfl) (val_move rfl) ?_
  refine vl_val rfl (.some rfl) (val_shr rfl rfl (by decide) (show _ = ((n / 16777216 : Nat) : Int) from shr_nat (j := 24) (by decide))) ?_
  refine vl_val rfl (.some rfl) (val_convInt Try.runUnderlying131 Try.runUnderlying5 rfl (wr_u8 (n / 16777216))) ?_
  refine vl_lit sT22 rfl rfl (.some rfl) rfl rfl rfl (by decide) (by decide) rfl (flat_one rfl) (fun r17 => ?_)
  rw [four_cells n]
  refine vl_append (us := bcells (four4 n)) sT22 rfl rfl (.some rfl) rfl rfl (rd_sl (by repeat constructor)) rfl (one_b _) (by omega) (by omega) (by repeat constructor) (fun A18 k18 => ?_)
  rw [show bcells b ++ bcells (four4 n) = bcells (b ++ four4 n) by simp [bcells], show b.length + 4 = (b ++ four4 n).length by rw [List.length_append]; rfl]
  refine vl_val rfl (.some rfl) (val_assign rfl) ?_
  refine vl_nil ?_
  refine vc_ret ?_
  refine ⟨_, [BY A18 (b ++ four4 n).length k18 (b ++ four4 n)], _, res1 Try.results69 rfl, (by repeat constructor), ?_⟩
  exact ⟨A18, k18, rfl, rfl⟩
set_option maxRecDepth 20000 in
theorem cFourth (A : Option Addr) (n c : Nat) (b : List UInt8) (hn : b.length = n) (hb : 4 ≤ n) (w : World) (hr : Reads w A (bcells b)) : FnV Try.prog 99 [.slice A n c] (.int .u32 (fourN b)) w := by
  refine fn_enter Try.func99 rfl Try.ntmps99 rfl ?_
  refine vc_seq ?_
  refine vc_region ?_
  refine vl_val rfl (.some rfl) (val_assign rfl) ?_
  refine vl_nil ?_
  refine vc_seq ?_
  refine vc_region ?_
  refine vl_val rfl (.some rfl) (val_assign rfl) ?_
  refine vl_nil ?_
  refine vc_seq ?_
  refine vc_seq ?_
  refine vc_region ?_
  refine vl_val rfl (.some rfl) (val_move rfl) ?_
  refine vl_nil ?_
  refine vc_block ?_
  refine vc_loopw (fun m E H => ∃ i : Nat, i ≤ 4 ∧ m = 4 - i ∧ E = [(0, .slice A n c), (3, .int .u32 (fourP b i : Nat)), (5, .int .i64 i)] ∧ H = []) (4) ⟨_, _, _, ⟨0, by omega, rfl, rfl, rfl⟩, (by repeat (first | exact trivial | refine ⟨rfl, ?_⟩ | refine ⟨le_item rfl (by first | rfl | (congr 1; omega) | (simp; done) | (simp; omega)), ?_⟩)), (by repeat constructor)⟩ ?_
  intro m E H hI
  obtain ⟨i, hi, rfl, rfl, rfl⟩ := hI
  refine vc_seq ?_
  refine vc_region ?_
  refine vl_val rfl (.some rfl) (val_lt rfl rfl) ?_
  refine vl_nil ?_
  refine vc_seq ?_
  refine vc_cond rfl (fun hc0 => ?_) (fun hc0 => ?_)
  · (try replace hc0 := of_decide_eq_true hc0)
    refine vc_skip ?_
    refine vc_seq ?_
    refine vc_block ?_
    refine vc_seq ?_
    refine vc_region ?_
    refine vl_val rfl (.some rfl) (val_move rfl) ?_
    refine vl_val rfl (.some rfl) (val_assign rfl) ?_
    refine vl_nil ?_
    refine vc_region ?_
    refine vl_val rfl (.some rfl) (val_move rfl) ?_
    refine vl_val rfl (.some rfl) (val_move rfl) ?_
    refine vl_val rfl (.some rfl) (val_move rfl) ?_
    refine vl_val rfl (.some rfl) (val_indexAddr Try.runUnderlying22 Try.sizeOf5 rfl rfl (rd_old hr rfl) (by omega) (by omega) (by rw [bcells_length, Int.toNat_natCast]; omega)) ?_
    refine vl_val rfl (.some rfl) (val_load Try.isAgg5 rfl (by first | exact cell_cells (by repeat constructor) rfl | exact cell_rd (by first | exact rd_sl (by repeat constructor) | exact rd_old (by assumption) rfl) (by first | exact bcells_at (by omega) | exact ucells_at (by omega) | exact icells_at (by omega) | exact tcells_at (by omega) | exact bcells_get (by omega) | exact icells_get (by omega) | exact tcells_get (by omega) | exact ucells_get (by omega)) | exact cell_old (by assumption) (by simp [fps]))) ?_
    refine vl_val rfl (.some rfl) (val_convInt Try.runUnderlying5 Try.runUnderlying131 rfl (w_u32 (by omega) (by have := (b.getD i 0).toNat_lt; omega))) ?_
    refine vl_val rfl (.some rfl) (val_move rfl) ?_
    refine vl_val rfl (.some rfl) (val_mul rfl rfl (by first | exact w_i64 (by omega) (by omega) | rfl)) ?_
    refine vl_val rfl (.some rfl) (val_shl rfl rfl (by omega) (shl_8 (b.getD i 0).toNat_lt (by omega))) ?_
    refine vl_val rfl (.some rfl) (val_or rfl rfl (or_8 (by omega))) ?_
    refine vl_val rfl (.some rfl) (val_assign rfl) ?_
    refine vl_nil ?_
    refine vc_region ?_
    refine vl_val rfl (.some rfl) (val_add rfl rfl (by first | exact w_i64 (by omega) (by omega) | rfl)) ?_
    refine vl_val rfl (.some rfl) (val_move rfl) ?_
    refine vl_nil ?_
    exact ⟨(4 - (i + 1)), _, _, _, by omega, (by repeat (first | exact trivial | refine ⟨rfl, ?_⟩ | refine ⟨le_item rfl (by first | rfl | (congr 1; omega) | (simp; done) | (simp; omega)), ?_⟩)), (by repeat constructor), ⟨i + 1, by omega, rfl, rfl, rfl⟩⟩
  · (try replace hc0 := of_decide_eq_false hc0)
    refine vc_exit ?_
    refine vc_seq ?_
    refine vc_region ?_
    refine vl_val rfl (.some rfl) (val_move rfl) ?_
    refine vl_val rfl (.some rfl) (val_assign rfl) ?_
    refine vl_nil ?_
    refine vc_ret ?_
    refine ⟨_, [], _, res1 Try.results99 rfl, .nil, ?_⟩
    obtain rfl : i = 4 := by omega
    show _ = _
    rw [fourP_4]
theorem bcells_app (a b : List UInt8) : bcells a ++ bcells b = bcells (a ++ b) := by simp [bcells]
theorem bcells_take (b : List UInt8) (n : Nat) : bcells (b.take n) = (bcells b).take n := by simp [bcells, List.map_take]
theorem reads_takeB {w : World} {A : Option Addr} {b : List UInt8} (h : Reads w A (bcells b)) (n : Nat) : Reads w A (bcells (b.take n)) := by rw [bcells_take]; exact h.take n
theorem fourN_take (b : List UInt8) : fourN (b.take 4) = fourN b := by
  unfold fourN
  rw [show ∀ i, i < 4 → (b.take 4).getD i 0 = b.getD i 0 from fun i hi => by simp [List.getD, List.getElem?_take, hi]]
  all_goals first | omega | skip
  rw [show ∀ i, i < 4 → (b.take 4).getD i 0 = b.getD i 0 from fun i hi => by simp [List.getD, List.getElem?_take, hi]]
  all_goals first | omega | skip
  rw [show ∀ i, i < 4 → (b.take 4).getD i 0 = b.getD i 0 from fun i hi => by simp [List.getD, List.getElem?_take, hi]]
  all_goals first | omega | skip
  rw [show ∀ i, i < 4 → (b.take 4).getD i 0 = b.getD i 0 from fun i hi => by simp [List.getD, List.getElem?_take, hi]]
  omega
theorem frame_no {b : List UInt8} (h : 262144 < b.length) : frameL b = [] := if_pos h
theorem frame_is {b : List UInt8} (h : ¬ 262144 < b.length) : frameL b = (four4 b.length ++ b) ++ four4 (sumS (four4 b.length ++ b)) := if_neg h

def beginL (id : Nat) : List UInt8 := frameL (0 :: putN id)

set_option maxRecDepth 20000 in
theorem cFrame (A : Option Addr) (c : Nat) (b : List UInt8) (hb : b.length ≤ 1000000000000) (w : World) (hr : Reads w A (bcells b)) : Fn Try.prog 29 [.slice A b.length c] [] (ret fun v H' => ∃ A' c', v = .slice A' (frameL b).length c' ∧ H' = [BY A' (frameL b).length c' (frameL b)]) w := by
  refine fn_enter Try.func29 rfl Try.ntmps29 rfl ?_
  refine vc_seq ?_
  refine vc_region ?_
  refine vl_val rfl (.some rfl) (val_assign rfl) ?_
  refine vl_nil ?_
  refine vc_seq ?_
  refine vc_seq ?_
  refine vc_region ?_
  refine vl_val rfl (.some rfl) (val_move rfl) ?_
  refine vl_val rfl (.some rfl) (val_lenSl Try.runUnderlying22 rfl) ?_
  refine vl_val rfl (.some rfl) (val_gt rfl rfl) ?_
  refine vl_nil ?_
  refine vc_cond rfl (fun hc0 => ?_) (fun hc0 => ?_)
  · (try replace hc0 := of_decide_eq_true hc0)
    refine vc_seq ?_
    refine vc_region ?_
    refine vl_val rfl (.some rfl) (val_assign rfl) ?_
    refine vl_nilSl 5 1 ?_
    refine vl_nil ?_
    refine vc_ret ?_
    refine ⟨_, [BY none 0 0 []], _, res1 Try.results29 rfl, (by repeat constructor), ?_⟩
    rw [frame_no (by omega)]
    exact ⟨none, 0, rfl, rfl⟩
  · (try replace hc0 := of_decide_eq_false hc0)
    refine vc_skip ?_
    refine vc_seq ?_
    refine vc_region ?_
    refine vl_val rfl (.some rfl) (val_move rfl) ?_
    refine vl_val rfl (.some rfl) (val_lenSl Try.runUnderlying22 rfl) ?_
    refine vl_val rfl (.some rfl) (val_add rfl rfl (by first | exact w_i64 (by omega) (by omega) | rfl)) ?_
    refine vl_make0 (n := b.length + 8) sT22 rfl rfl (.some rfl) rfl rfl rfl (by omega) (by omega) (by omega) (fun r10 => ?_)
    refine vl_val rfl (.some rfl) (val_move rfl) ?_
    refine vl_val rfl (.some rfl) (val_lenSl Try.runUnderlying22 rfl) ?_
    refine vl_val rfl (.some rfl) (val_convInt Try.runUnderlying3 Try.runUnderlying131 rfl (by first | exact w_u32 (by omega) (by omega) | rfl)) ?_
    refine vl_call (C := [BY (some ⟨r10, 0, none⟩) ([]).length (b.length + 8) ([])]) rfl rfl (.some rfl) Try.call69 rfl (by repeat constructor) (fun w hw => cFour (some ⟨r10, 0, none⟩) (b.length + 8) ([]) (by first | decide | (simp only [List.length_append, four_len]; omega)) (b.length) w) (fun v H' h => ?_)
    obtain ⟨A14, c14, rfl, rfl⟩ := h
    show VL _ _ _ _ _ (_ :: _)
    rw [List.nil_append]
    refine vl_val rfl (.some rfl) (val_move rfl) ?_
    refine vl_append (us := bcells b) sT22 rfl rfl (.some rfl) rfl rfl (rd_old hr rfl) (by rw [bcells_length]; omega) (one_b _) (by rw [four_len]; omega) (by rw [four_len]; omega) (by repeat constructor) (fun A16 k16 => ?_)
    rw [bcells_app, show (four4 b.length).length + b.length = (four4 b.length ++ b).length from List.length_append.symm]
    refine vl_val rfl (.some rfl) (val_assign rfl) ?_
    refine vl_nil ?_
    refine vc_seq ?_
    refine vc_region ?_
    refine vl_val rfl (.some rfl) (val_move rfl) ?_
    refine vl_val rfl (.some rfl) (val_move rfl) ?_
    have ho4 : (four4 b.length ++ b).length = b.length + 4 := by rw [List.length_append, four_len]; omega
    refine vl_callV rfl rfl (.some rfl) Try.call70 rfl (fun w hw => cSum A16 k16 (four4 b.length ++ b) (by omega) w (rdw (rd_sl (by repeat constructor)) hw)) ?_
    refine vl_call (C := [BY A16 (four4 b.length ++ b).length k16 (four4 b.length ++ b)]) rfl rfl (.some rfl) Try.call69 rfl (by repeat constructor) (fun w hw => cFour A16 k16 (four4 b.length ++ b) (by first | decide | (simp only [List.length_append, four_len]; omega)) (sumS (four4 b.length ++ b)) w) (fun v H' h => ?_)
    obtain ⟨A20, c20, rfl, rfl⟩ := h
    show VL _ _ _ _ _ (_ :: _)
    rw [← frame_is (b := b) (by omega)]
    refine vl_val rfl (.some rfl) (val_assign rfl) ?_
    refine vl_nil ?_
    refine vc_ret ?_
    refine ⟨_, [BY A20 (frameL b).length c20 (frameL b)], _, res1 Try.results29 rfl, (by repeat constructor), ?_⟩
    exact ⟨A20, c20, rfl, rfl⟩
set_option maxRecDepth 20000 in
theorem cUnframe (A : Option Addr) (c : Nat) (b : List UInt8) (hb : b.length ≤ 1000000000000) (hbc : b.length ≤ c) (w : World) (hr : Reads w A (bcells b)) : Fn Try.prog 50 [.slice A b.length c] [] (ret fun v H' => ∃ A' c', v = .tuple #[.slice A' (unfrL b).length c', .int .i64 (unfrN b : Nat), .int .i64 (unfrE b)] ∧ H' = [BY A' (unfrL b).length c' (unfrL b)]) w := by
  have hn4 := fourN_lt b
  refine fn_enter Try.func50 rfl Try.ntmps50 rfl ?_
  refine vc_seq ?_
  refine vc_region ?_
  refine vl_val rfl (.some rfl) (val_assign rfl) ?_
  refine vl_val rfl (.some rfl) (val_assign rfl) ?_
  refine vl_val rfl (.some rfl) (val_assign rfl) ?_
  refine vl_nil ?_
  refine vc_seq ?_
  refine vc_seq ?_
  refine vc_region ?_
  refine vl_val rfl (.some rfl) (val_move rfl) ?_
  refine vl_val rfl (.some rfl) (val_lenSl Try.runUnderlying22 rfl) ?_
  refine vl_val rfl (.some rfl) (val_lt rfl rfl) ?_
  refine vl_nil ?_
  refine vc_cond rfl (fun hc0 => ?_) (fun hc0 => ?_)
  · (try replace hc0 := of_decide_eq_true hc0)
    refine vc_seq ?_
    refine vc_region ?_
    refine vl_val rfl (.some rfl) (val_assign rfl) ?_
    refine vl_nilSl 5 1 ?_
    refine vl_val rfl (.some rfl) (val_assign rfl) ?_
    refine vl_val rfl (.some rfl) (val_assign rfl) ?_
    refine vl_nil ?_
    refine vc_ret ?_
    refine ⟨_, [BY none 0 0 []], _, res3 Try.results50 rfl rfl rfl, (by repeat constructor), ?_⟩
    have he := unfr_1 (b := b) (by omega)
    obtain ⟨e1, e2⟩ := unfr_bad he (by decide)
    show ∃ A' c', _ ∧ _
    rw [e1, e2, he]
    exact ⟨none, 0, rfl, rfl⟩
  · (try replace hc0 := of_decide_eq_false hc0)
    refine vc_skip ?_
    refine vc_seq ?_
    refine vc_region ?_
    refine vl_val rfl (.some rfl) (val_move rfl) ?_
    refine vl_callV rfl rfl (.some rfl) Try.call99 rfl (fun w hw => cFourth A b.length c b rfl (by omega) w (rdw (rd_old hr rfl) hw)) ?_
    refine vl_val rfl (.some rfl) (val_convInt Try.runUnderlying131 Try.runUnderlying3 rfl (by first | exact w_i64 (by omega) (by omega) | rfl)) ?_
    refine vl_val rfl (.some rfl) (val_assign rfl) ?_
    refine vl_nil ?_
    refine vc_seq ?_
    refine vc_block ?_
    refine vc_seq ?_
    refine vc_region ?_
    refine vl_val rfl (.some rfl) (val_move rfl) ?_
    refine vl_val rfl (.some rfl) (val_gt rfl rfl) ?_
    refine vl_val rfl (.some rfl) (val_assign rfl) ?_
    refine vl_nil ?_
    refine vc_cond rfl (fun hc1 => ?_) (fun hc1 => ?_)
    · (try replace hc1 := of_decide_eq_true hc1)
      refine vc_seq ?_
      refine vc_region ?_
      refine vl_val rfl (.some rfl) (val_assign rfl) ?_
      refine vl_nilSl 5 1 ?_
      refine vl_val rfl (.some rfl) (val_assign rfl) ?_
      refine vl_val rfl (.some rfl) (val_assign rfl) ?_
      refine vl_nil ?_
      refine vc_ret ?_
      refine ⟨_, [BY none 0 0 []], _, res3 Try.results50 rfl rfl rfl, (by repeat constructor), ?_⟩
      have he := unfr_2 (b := b) (by omega) (by omega)
      obtain ⟨e1, e2⟩ := unfr_bad he (by decide)
      show ∃ A' c', _ ∧ _
      rw [e1, e2, he]
      exact ⟨none, 0, rfl, rfl⟩
    · (try replace hc1 := of_decide_eq_false hc1)
      refine vc_seq ?_
      refine vc_region ?_
      refine vl_val rfl (.some rfl) (val_move rfl) ?_
      refine vl_val rfl (.some rfl) (val_lenSl Try.runUnderlying22 rfl) ?_
      refine vl_val rfl (.some rfl) (val_sub rfl rfl (by first | exact w_i64 (by omega) (by omega) | rfl)) ?_
      refine vl_val rfl (.some rfl) (val_move rfl) ?_
      refine vl_val rfl (.some rfl) (val_lt rfl rfl) ?_
      refine vl_val rfl (.some rfl) (val_assign rfl) ?_
      refine vl_nil ?_
      refine vc_cond rfl (fun hc2 => ?_) (fun hc2 => ?_)
      · (try replace hc2 := of_decide_eq_true hc2)
        refine vc_seq ?_
        refine vc_region ?_
        refine vl_val rfl (.some rfl) (val_assign rfl) ?_
        refine vl_nilSl 5 1 ?_
        refine vl_val rfl (.some rfl) (val_assign rfl) ?_
        refine vl_val rfl (.some rfl) (val_assign rfl) ?_
        refine vl_nil ?_
        refine vc_ret ?_
        refine ⟨_, [BY none 0 0 []], _, res3 Try.results50 rfl rfl rfl, (by repeat constructor), ?_⟩
        have he := unfr_3 (b := b) (by omega) (by omega) (by omega)
        obtain ⟨e1, e2⟩ := unfr_bad he (by decide)
        show ∃ A' c', _ ∧ _
        rw [e1, e2, he]
        exact ⟨none, 0, rfl, rfl⟩
      · (try replace hc2 := of_decide_eq_false hc2)
        refine vc_seq ?_
        refine vc_draws [0, 1, 2, 3, 5, 6, 7, 8, 10, 11] [] [0, 1, 2, 3, 5, 6, 7, 8, 4, 9, 10, 11] rfl (by kernel_rfl) (fun _ _ _ h => h) ?_
        refine vd_val rfl rfl rfl (.some rfl) (val_move rfl) ?_
        refine vd_val rfl rfl rfl (.some rfl) (val_move rfl) ?_
        refine vd_val rfl rfl rfl (.some rfl) (val_add rfl rfl (show _ = ((fourN b + 4 : Nat) : Int) by rw [w_i64 (by omega) (by omega)]; omega)) ?_
        refine vd_val rfl rfl rfl (.some rfl) (val_cutFrom Try.runUnderlying22 Try.sizeOf5 rfl rfl (by omega) (by omega)) ?_
        rw [Int.toNat_natCast]
        refine vd_val rfl rfl rfl (.some rfl) (val_move rfl) ?_
        refine vd_val rfl rfl rfl (.some rfl) (val_move rfl) ?_
        refine vd_val rfl rfl rfl (.some rfl) (val_add rfl rfl (show _ = ((fourN b + 4 : Nat) : Int) by rw [w_i64 (by omega) (by omega)]; omega)) ?_
        refine vd_val rfl rfl rfl (.some rfl) (val_cutTo Try.runUnderlying22 Try.sizeOf5 rfl rfl (by omega) (by omega)) ?_
        rw [Int.toNat_natCast]
        refine vd_op rfl rfl ?_
        refine vl_callV rfl rfl (.some rfl) Try.call99 rfl (fun w hw => cFourth _ _ _ (b.drop (fourN b + 4)) List.length_drop (by omega) w (reads_cutB (rdw (rd_old hr rfl) hw) hbc)) ?_
        refine vl_nil ?_
        refine ⟨fun _ => ⟨_, (by repeat (first | exact .nil | exact sub_self _ | exact sub_skip (sub_self _) | exact sub_skip (sub_skip (sub_self _)) | exact sub_skip (sub_skip (sub_skip (sub_self _))) | (apply Sub.cons; · repeat (first | exact .head | apply Take.tail))))⟩, ?_⟩
        refine vd_op rfl rfl ?_
        refine vl_callV rfl rfl (.some rfl) Try.call70 rfl (fun w hw => by
          have h := cSum A c (b.take (fourN b + 4)) (by rw [List.length_take]; omega) w (reads_takeB (rdw (rd_old hr rfl) hw) _)
          rw [List.length_take, Nat.min_eq_left (by omega)] at h
          exact h) ?_
        refine vl_nil ?_
        refine ⟨fun _ => ⟨_, (by repeat (first | exact .nil | exact sub_self _ | exact sub_skip (sub_self _) | exact sub_skip (sub_skip (sub_self _)) | exact sub_skip (sub_skip (sub_skip (sub_self _))) | (apply Sub.cons; · repeat (first | exact .head | apply Take.tail))))⟩, ?_⟩
        refine vd_val rfl rfl rfl (.some rfl) (val_ne rfl rfl) ?_
        refine vd_val rfl rfl rfl (.some rfl) (val_assign rfl) ?_
        refine vd_nil ?_
        refine vc_cond rfl (fun hc3 => ?_) (fun hc3 => ?_)
        · (try replace hc3 := of_decide_eq_true hc3)
          refine vc_seq ?_
          refine vc_region ?_
          refine vl_val rfl (.some rfl) (val_assign rfl) ?_
          refine vl_nilSl 5 1 ?_
          refine vl_val rfl (.some rfl) (val_assign rfl) ?_
          refine vl_val rfl (.some rfl) (val_assign rfl) ?_
          refine vl_nil ?_
          refine vc_ret ?_
          refine ⟨_, [BY none 0 0 []], _, res3 Try.results50 rfl rfl rfl, (by repeat constructor), ?_⟩
          have he := unfr_4 (b := b) (by omega) (by omega) (by omega) (by omega)
          obtain ⟨e1, e2⟩ := unfr_bad he (by decide)
          show ∃ A' c', _ ∧ _
          rw [e1, e2, he]
          exact ⟨none, 0, rfl, rfl⟩
        · (try replace hc3 := of_decide_eq_false hc3)
          refine vc_skip ?_
          refine vc_seq ?_
          refine vc_region ?_
          refine vl_val rfl (.some rfl) (val_move rfl) ?_
          refine vl_val rfl (.some rfl) (val_move rfl) ?_
          refine vl_val rfl (.some rfl) (val_add rfl rfl (show _ = ((fourN b + 4 : Nat) : Int) by rw [w_i64 (by omega) (by omega)]; omega)) ?_
          refine vl_val rfl (.some rfl) (val_cut Try.runUnderlying22 Try.sizeOf5 rfl rfl rfl (by omega) (by omega) (by omega)) ?_
          rw [show Int.toNat ((fourN b + 4 : Nat) : Int) - Int.toNat 4 = fourN b by rw [Int.toNat_natCast]; show fourN b + 4 - 4 = fourN b; omega, show Int.toNat 4 = 4 from rfl]
          refine vl_nilSl 5 1 ?_
          refine vl_append (vs := []) (us := bcells ((b.drop 4).take (fourN b))) sT22 rfl rfl (.some rfl) rfl rfl (rd_old (reads_takeB (reads_cutB (n := 4) hr hbc) _) rfl) (by rw [bcells_length, List.length_take, List.length_drop]; omega) (one_b _) (by omega) (by omega) (by repeat constructor) (fun A37 k37 => ?_)
          rw [List.nil_append, Nat.zero_add]
          refine vl_val rfl (.some rfl) (val_move rfl) ?_
          refine vl_val rfl (.some rfl) (val_add rfl rfl (show _ = ((fourN b + 8 : Nat) : Int) by rw [w_i64 (by omega) (by omega)]; omega)) ?_
          refine vl_val rfl (.some rfl) (val_assign rfl) ?_
          refine vl_val rfl (.some rfl) (val_assign rfl) ?_
          refine vl_val rfl (.some rfl) (val_assign rfl) ?_
          refine vl_nil ?_
          refine vc_ret ?_
          refine ⟨_, [BY A37 (fourN b) k37 ((b.drop 4).take (fourN b))], _, res3 Try.results50 rfl rfl rfl, (by repeat constructor), ?_⟩
          have he := unfr_0 (b := b) (by omega) (by omega) (by omega) (by omega)
          obtain ⟨e1, e2⟩ := unfr_ok he
          show ∃ A' c', _ ∧ _
          rw [e1, e2, he]
          have hl : ((b.drop 4).take (fourN b)).length = fourN b := by rw [List.length_take, List.length_drop]; omega
          rw [hl]
          exact ⟨A37, k37, rfl, rfl⟩
set_option maxRecDepth 20000 in
theorem xBegin (id : Nat) (hid : id < 18446744073709551616) (w : World) : Fn Try.prog 18 [.int .u64 id] [] (ret fun v H' => ∃ A' c', v = .slice A' (beginL id).length c' ∧ H' = [BY A' (beginL id).length c' (beginL id)]) w := by
  have hpl := putN_len id
  refine fn_enter Try.func18 rfl Try.ntmps18 rfl ?_
  refine vc_seq ?_
  refine vc_region ?_
  refine vl_val rfl (.some rfl) (val_assign rfl) ?_
  refine vl_nil ?_
  refine vc_seq ?_
  refine vc_region ?_
  refine vl_lit sT22 rfl rfl (.some rfl) rfl rfl rfl (by decide) (by decide) rfl (flat_one rfl) (fun r3 => ?_)
  refine vl_val rfl (.some rfl) (val_move rfl) ?_
  refine vl_call (C := []) rfl rfl (.some rfl) Try.call52 rfl .nil (fun w hw => cPut _ _ [0] id hid (by decide) w (rdw (rd_sl (vs := bcells [0]) (by repeat constructor)) hw)) (fun v H' h => ?_)
  obtain ⟨A5, c5, rfl, rfl⟩ := h
  show VL _ _ _ _ _ (_ :: _)
  rw [show [0] ++ putN id = 0 :: putN id from rfl]
  refine vl_call (C := []) rfl rfl (.some rfl) Try.call29 rfl .nil (fun w hw => cFrame A5 c5 (0 :: putN id) (by simp only [List.length_cons]; omega) w (rdw (rd_sl (by repeat constructor)) hw)) (fun v H' h => ?_)
  obtain ⟨A6, c6, rfl, rfl⟩ := h
  show VL _ _ _ _ _ (_ :: _)
  refine vl_val rfl (.some rfl) (val_assign rfl) ?_
  refine vl_nil ?_
  refine vc_ret ?_
  refine ⟨_, [BY A6 (beginL id).length c6 (beginL id)], _, res1 Try.results18 rfl, (by repeat constructor), ?_⟩
  exact ⟨A6, c6, rfl, rfl⟩
/-! ### Records, as data -/
abbrev Tx := List UInt8
abbrev Cq := List UInt8 × Int
abbrev Mq := Int × List UInt8
structure RT where
  n : Tx
  cs : List Cq
structure RR where
  n : Tx
  t : Tx
  ds : List Tx
  ms : List Mq
structure Rec where
  k : Int
  t : RT
  r : RR
  nm : Tx
  rows : List (List Vk)
abbrev t0 : RT := ⟨[], []⟩
abbrev r0 : RR := ⟨[], [], [], []⟩
abbrev rec0 : Rec := ⟨0, t0, r0, [], []⟩
def u64N (n : Int) : Nat := (n % 18446744073709551616).toNat
def i64N (u : Nat) : Int := if u < 9223372036854775808 then (u : Int) else (u : Int) - 18446744073709551616
def putTx (s : Tx) : Tx := putN s.length ++ s
def putCq (c : Cq) : Tx := putTx c.1 ++ putN (u64N c.2)
def putMq (m : Mq) : Tx := putN (u64N m.1) ++ putTx m.2
def putT (t : RT) : Tx := putTx t.n ++ putN t.cs.length ++ t.cs.flatMap putCq
def putR (r : RR) : Tx := putTx r.n ++ putTx r.t ++ putN r.ds.length ++ r.ds.flatMap putTx ++ putN r.ms.length ++ r.ms.flatMap putMq
def putB (nm : Tx) (rows : List (List Vk)) : Tx := putTx nm ++ putN rows.length ++ rows.flatMap fun r => putTx (encV r)
def partB (x : Rec) : Tx := if x.k = 1 then putT x.t else if x.k = 2 then putR x.r else putB x.nm x.rows
def recB (x : Rec) : Tx := putN x.k.toNat ++ partB x
def goodT (t : RT) : Prop := 1 ≤ t.cs.length ∧ t.cs.length ≤ 8
def goodR (r : RR) : Prop := r.ds.length ≤ 8 ∧ r.ms.length ≤ 16
def goodB (rows : List (List Vk)) : Prop := (1 ≤ rows.length ∧ rows.length ≤ 200) ∧ ∀ r ∈ rows, r.length = (rows.headD []).length ∧ (1 ≤ r.length ∧ r.length ≤ 8) ∧ ∀ v ∈ r, goodV v = true
def noT (t : RT) : Prop := t.n = [] ∧ t.cs = []
def noR (r : RR) : Prop := r.n = [] ∧ r.t = [] ∧ r.ds = [] ∧ r.ms = []
def noB (x : Rec) : Prop := x.nm = [] ∧ x.rows = []
def goodRec (x : Rec) : Prop := (x.k = 1 ∧ goodT x.t ∧ noR x.r ∧ noB x) ∨ (x.k = 2 ∧ goodR x.r ∧ noT x.t ∧ noB x) ∨ (x.k = 3 ∧ goodB x.rows ∧ noT x.t ∧ noR x.r)
instance (t : RT) : Decidable (goodT t) := by unfold goodT; infer_instance
instance (r : RR) : Decidable (goodR r) := by unfold goodR; infer_instance
instance (l : List (List Vk)) : Decidable (goodB l) := by unfold goodB; infer_instance
instance (t : RT) : Decidable (noT t) := by unfold noT; infer_instance
instance (r : RR) : Decidable (noR r) := by unfold noR; infer_instance
instance (x : Rec) : Decidable (noB x) := by unfold noB; infer_instance
instance (x : Rec) : Decidable (goodRec x) := by unfold goodRec; infer_instance
/-! Reading. -/
def rNum (b : Tx) : Option (Nat × Tx) := if (getN b).2 = 0 then none else some ((getN b).1, b.drop (getN b).2)
def rCnt (b : Tx) : Option (Nat × Tx) := (rNum b).bind fun p => if p.2.length < p.1 then none else some p
def rTx (b : Tx) : Option (Tx × Tx) := (rCnt b).map fun p => (p.2.take p.1, p.2.drop p.1)
def rCol (b : Tx) : Option (Cq × Tx) := (rTx b).bind fun p => (rNum p.2).map fun q => ((p.1, i64N q.1), q.2)
def rMea (b : Tx) : Option (Mq × Tx) := (rNum b).bind fun p => (rTx p.2).map fun q => ((i64N p.1, q.1), q.2)
def rRow (b : Tx) : Option (List Vk × Tx) := (rTx b).bind fun p => (loadV p.1).map fun l => (l, p.2)
def rMany {α : Type} (f : Tx → Option (α × Tx)) : Nat → Tx → Option (List α × Tx)
  | 0, b => some ([], b)
  | n + 1, b => (f b).bind fun p => (rMany f n p.2).map fun q => (p.1 :: q.1, q.2)
def rTab (b : Tx) : Option (RT × Tx) := (rTx b).bind fun p => (rCnt p.2).bind fun q => (rMany rCol q.1 q.2).map fun s => (⟨p.1, s.1⟩, s.2)
def rRol (b : Tx) : Option (RR × Tx) := (rTx b).bind fun p => (rTx p.2).bind fun q => (rCnt q.2).bind fun c => (rMany rTx c.1 c.2).bind fun d => (rCnt d.2).bind fun e => (rMany rMea e.1 e.2).map fun m => (⟨p.1, q.1, d.1, m.1⟩, m.2)
def rBat (b : Tx) : Option ((Tx × List (List Vk)) × Tx) := (rTx b).bind fun p => (rCnt p.2).bind fun q => (rMany rRow q.1 q.2).map fun s => ((p.1, s.1), s.2)
def rPart (k : Nat) (b : Tx) : Option (Rec × Tx) :=
  if k = 1 then (rTab b).map fun p => (⟨1, p.1, r0, [], []⟩, p.2)
  else if k = 2 then (rRol b).map fun p => (⟨2, t0, p.1, [], []⟩, p.2)
  else if k = 3 then (rBat b).map fun p => (⟨3, t0, r0, p.1.1, p.1.2⟩, p.2)
  else none
def loadRec (b : Tx) : Option Rec := (rNum b).bind fun p => (rPart p.1 p.2).bind fun q => if q.2.length = 0 ∧ goodRec q.1 ∧ b.length ≤ 262144 then some q.1 else none
abbrev colV (q : Cq) : List Value := [.string (sL q.1), .int .i64 q.2]
theorem colC_len (l : List Cq) : (l.flatMap colV).length = l.length * 2 := flat_length (f := colV) (m := 2) (fun _ => rfl) l
theorem colC_at {l : List Cq} {i : Nat} {q : Int} {d : Cq} (hq : q = (i : Int)) (h : i < l.length) : ((l.flatMap colV).drop (Int.toNat q * 2)).take 2 = colV (l.getD i d) := by
  rw [hq, Int.toNat_natCast]; exact flat_atM (m := 2) (f := colV) (fun _ => rfl) d l i h
abbrev meaV (q : Mq) : List Value := [.int .i64 q.1, .string (sL q.2)]
theorem meaC_len (l : List Mq) : (l.flatMap meaV).length = l.length * 2 := flat_length (f := meaV) (m := 2) (fun _ => rfl) l
theorem meaC_at {l : List Mq} {i : Nat} {q : Int} {d : Mq} (hq : q = (i : Int)) (h : i < l.length) : ((l.flatMap meaV).drop (Int.toNat q * 2)).take 2 = meaV (l.getD i d) := by
  rw [hq, Int.toNat_natCast]; exact flat_atM (m := 2) (f := meaV) (fun _ => rfl) d l i h
def tcS (ws : List (List UInt8)) : List Value := ws.map fun x => Value.string (sL x)
theorem tcS_length (ws : List (List UInt8)) : (tcS ws).length = ws.length := by simp [tcS]
theorem tcS_at {ws : List (List UInt8)} {i : Nat} (h : i < ws.length) : (tcS ws)[Int.toNat (i : Int) * 1]? = some (.string (sL (ws.getD i []))) := by
  rw [Int.toNat_natCast, Nat.mul_one]; simp [tcS, List.getD, h]

/-! Records, as they lie in memory. -/
abbrev Rw := Option Addr × Nat × List Vk
abbrev rowV (q : Rw) : List Value := [.slice q.1 q.2.2.length q.2.1]
structure RecM where
  k : Int
  tn : Tx
  Ac : Option Addr
  cc : Nat
  cs : List Cq
  rn : Tx
  rt : Tx
  Ad : Option Addr
  cd : Nat
  ds : List Tx
  Am : Option Addr
  cm : Nat
  ms : List Mq
  nm : Tx
  Ar : Option Addr
  cr : Nat
  rs : List Rw
abbrev tabC (m : RecM) : List Value := [.string (sL m.tn), .slice m.Ac m.cs.length m.cc]
abbrev rolC (m : RecM) : List Value := [.string (sL m.rn), .string (sL m.rt), .slice m.Ad m.ds.length m.cd, .slice m.Am m.ms.length m.cm]
abbrev batC (m : RecM) : List Value := [.string (sL m.nm), .slice m.Ar m.rs.length m.cr]
abbrev recC (m : RecM) : List Value := [.int .i64 m.k, .string (sL m.tn), .slice m.Ac m.cs.length m.cc, .string (sL m.rn), .string (sL m.rt), .slice m.Ad m.ds.length m.cd, .slice m.Am m.ms.length m.cm, .string (sL m.nm), .slice m.Ar m.rs.length m.cr]
abbrev recA (m : RecM) : Value := .agg (recC m).toArray
abbrev rows (m : RecM) : List (List Vk) := m.rs.map fun q => q.2.2
abbrev recOf (m : RecM) : Rec := ⟨m.k, ⟨m.tn, m.cs⟩, ⟨m.rn, m.rt, m.ds, m.ms⟩, m.nm, rows m⟩
/-- What its slices lead to. -/
structure RecR (w : World) (m : RecM) : Prop where
  cs : Reads w m.Ac (m.cs.flatMap colV)
  ds : Reads w m.Ad (tcS m.ds)
  ms : Reads w m.Am (m.ms.flatMap meaV)
  rs : Reads w m.Ar (m.rs.flatMap rowV)
  row : ∀ q ∈ m.rs, Reads w q.1 (flat q.2.2) ∧ ∀ p ∈ q.2.2, WV p
structure RecL (m : RecM) : Prop where
  tn : m.tn.length < 4611686018427387904
  rn : m.rn.length < 4611686018427387904
  rt : m.rt.length < 4611686018427387904
  nm : m.nm.length < 4611686018427387904
  cs : m.cs.length < 4611686018427387904
  ds : m.ds.length < 4611686018427387904
  ms : m.ms.length < 4611686018427387904
  rs : m.rs.length < 4611686018427387904
  row : ∀ q ∈ m.rs, q.2.2.length < 4611686018427387904
abbrev rw0 : Rw := (none, 0, [])
theorem rowC_len (l : List Rw) : (l.flatMap rowV).length = l.length * 1 := flat_length (f := rowV) (m := 1) (fun _ => rfl) l
theorem rowC_at {l : List Rw} {i : Nat} (h : i < l.length) : (l.flatMap rowV)[Int.toNat (i : Int) * 1]? = some (.slice (l.getD i rw0).1 (l.getD i rw0).2.2.length (l.getD i rw0).2.1) := by
  have := flat_atM (m := 1) (f := rowV) (fun _ => rfl) rw0 l i h
  rw [Int.toNat_natCast]
  have h2 := congrArg (fun l : List Value => l[0]?) this
  simp only [List.getElem?_take, List.getElem?_drop] at h2
  simpa using h2
theorem row_in {l : List Rw} {i : Nat} (h : i < l.length) : l.getD i rw0 ∈ l := by simp [List.getD, h]
def ofR (m : RecM) : Value := if m.k = 1 then .iface 159 (.agg (tabC m).toArray) else if m.k = 2 then .iface 161 (.agg (rolC m).toArray) else if m.k = 3 then .iface 163 (.agg (batC m).toArray) else .nilIface
/-- What other kinds name is zero. -/
def bareP (x : Rec) : Prop := (x.k = 1 ∨ noT x.t) ∧ (x.k = 2 ∨ noR x.r) ∧ (x.k = 3 ∨ noB x)
instance (x : Rec) : Decidable (bareP x) := by unfold bareP; infer_instance
theorem good_bare (x : Rec) : goodRec x ↔ ((x.k = 1 ∧ goodT x.t) ∨ (x.k = 2 ∧ goodR x.r) ∨ (x.k = 3 ∧ goodB x.rows)) ∧ bareP x := by
  unfold goodRec bareP
  constructor
  · rintro (⟨h1, h2, h3, h4⟩ | ⟨h1, h2, h3, h4⟩ | ⟨h1, h2, h3, h4⟩)
    · exact ⟨.inl ⟨h1, h2⟩, .inl h1, .inr h3, .inr h4⟩
    · exact ⟨.inr (.inl ⟨h1, h2⟩), .inr h3, .inl h1, .inr h4⟩
    · exact ⟨.inr (.inr ⟨h1, h2⟩), .inr h3, .inr h4, .inl h1⟩
  · rintro ⟨⟨h1, h2⟩ | ⟨h1, h2⟩ | ⟨h1, h2⟩, b1, b2, b3⟩
    · exact .inl ⟨h1, h2, b2.resolve_left (by omega), b3.resolve_left (by omega)⟩
    · exact .inr (.inl ⟨h1, h2, b1.resolve_left (by omega), b3.resolve_left (by omega)⟩)
    · exact .inr (.inr ⟨h1, h2, b1.resolve_left (by omega), b2.resolve_left (by omega)⟩)
theorem sL_nil {l : List UInt8} : sL l = ⟨#[]⟩ ↔ l = [] := by
  show sL l = sL [] ↔ _
  exact sL_inj
theorem len_nil {α : Type} {l : List α} : l.length = 0 ↔ l = [] := List.length_eq_zero_iff

theorem rows_getD (m : RecM) (i : Nat) : (rows m).getD i [] = (m.rs.getD i rw0).2.2 := by
  rcases Nat.lt_or_ge i m.rs.length with h | h
  · simp [List.getD, h]
  · simp [List.getD, h]
/-- What is known of the rows so far. -/
def okRow (n : Nat) (r : List Vk) : Prop := r.length = n ∧ (1 ≤ r.length ∧ r.length ≤ 8) ∧ ∀ v ∈ r, goodV v = true
theorem goodB_all {m : RecM} (h1 : 1 ≤ m.rs.length ∧ m.rs.length ≤ 200) (h : ∀ j, j < m.rs.length → okRow (m.rs.getD 0 rw0).2.2.length (m.rs.getD j rw0).2.2) : goodB (rows m) := by
  refine ⟨by simpa using h1, fun r hr => ?_⟩
  obtain ⟨q, hq, rfl⟩ := List.mem_map.1 hr
  obtain ⟨j, hj, rfl⟩ := List.mem_iff_getElem.1 hq
  have e : (rows m).headD [] = (m.rs.getD 0 rw0).2.2 := by
    rw [← rows_getD]
    cases hm : rows m with
    | nil => rfl
    | cons a b => rfl
  rw [e]
  have := h j hj
  simpa [List.getD, hj, okRow] using this
theorem goodB_not {m : RecM} {j : Nat} (hj : j < m.rs.length) (h : ¬ okRow (m.rs.getD 0 rw0).2.2.length (m.rs.getD j rw0).2.2) : ¬ goodB (rows m) := fun hg => h (by
  have e : (rows m).headD [] = (m.rs.getD 0 rw0).2.2 := by
    rw [← rows_getD]
    cases hm : rows m with
    | nil => rfl
    | cons a b => rfl
  have := hg.2 ((m.rs.getD j rw0).2.2) (List.mem_map.2 ⟨_, row_in hj, rfl⟩)
  rw [e] at this
  exact this)
theorem goodB_len {m : RecM} (h : ¬ (1 ≤ m.rs.length ∧ m.rs.length ≤ 200)) : ¬ goodB (rows m) := fun hg => h (by have := hg.1; simpa using this)
theorem all_V {r : List Vk} (h : ∀ j, j < r.length → goodV (r.getD j z3) = true) : ∀ v ∈ r, goodV v = true := fun v hv => by
  obtain ⟨j, hj, rfl⟩ := List.mem_iff_getElem.1 hv
  have := h j hj
  simpa [List.getD, hj] using this
theorem getV_in {r : List Vk} {j : Nat} (h : j < r.length) : r.getD j z3 ∈ r := by simp [List.getD, h]

set_option maxRecDepth 20000 in
theorem xOf (m : RecM) (w : World) : FnV Try.prog 55 [recA m] (ofR m) w := by
  refine fn_enter Try.func55 rfl Try.ntmps55 rfl ?_
  refine vc_seq ?_
  refine vc_region ?_
  refine vl_box rfl rfl (.some rfl) rfl (fun r1 => ?_)
  refine vl_val rfl (.some rfl) (val_assign rfl) ?_
  refine vl_nil ?_
  refine vc_seq ?_
  refine vc_seq ?_
  refine vc_region ?_
  refine vl_val rfl (.some rfl) (by first | exact val_fieldAddr Try.runUnderlying43 rfl Try.sizeOf3 rfl | exact val_fieldAddrR Try.runUnderlying43 rfl Try.sizeOf3 rfl) ?_
  refine vl_val rfl (.some rfl) (val_load Try.isAgg3 rfl (by first | exact cell_cells (by repeat constructor) rfl | exact cell_rd (by first | exact rd_sl (by repeat constructor) | exact rd_old (by assumption) rfl) (by first | exact bcells_at (by omega) | exact ucells_at (by omega) | exact icells_at (by omega) | exact tcells_at (by omega) | exact bcells_get (by omega) | exact icells_get (by omega) | exact tcells_get (by omega) | exact ucells_get (by omega)) | exact cell_old (by assumption) (by simp [fps]))) ?_
  refine vl_nil ?_
  refine vc_block ?_
  refine vc_seq ?_
  refine vc_region ?_
  refine vl_val rfl (.some rfl) (val_eq rfl rfl) ?_
  refine vl_val rfl (.some rfl) (val_assign rfl) ?_
  refine vl_nil ?_
  refine vc_cond rfl (fun hc0 => ?_) (fun hc0 => ?_)
  · (try replace hc0 := of_decide_eq_true hc0)
    refine vc_seq ?_
    refine vc_region ?_
    refine vl_val rfl (.some rfl) (by first | exact val_fieldAddr Try.runUnderlying43 rfl Try.sizeOf36 rfl | exact val_fieldAddrR Try.runUnderlying43 rfl Try.sizeOf36 rfl) ?_
    refine vl_val rfl (.some rfl) (val_loadAgg Try.isAgg36 Try.sizeOf36 rfl (cells_part (us := tabC m) (by repeat constructor) rfl) rfl) ?_
    refine vl_val rfl (.some rfl) (val_buildSt (pl := #[(0, 2)]) (cs := (tabC m).toArray) Try.runUnderlying159 Try.zeroValue159 (fun w => by kernel_rfl) rfl rfl) ?_
    refine vl_val rfl (.some rfl) (val_mkIface Try.runUnderlying159 rfl rfl) ?_
    refine vl_val rfl (.some rfl) (val_assign rfl) ?_
    refine vl_nil ?_
    refine vc_ret ?_
    refine ⟨_, [], _, res1 Try.results55 rfl, .nil, ?_⟩
    show _ = ofR m
    unfold ofR
    rw [if_pos hc0]
  · (try replace hc0 := of_decide_eq_false hc0)
    refine vc_seq ?_
    refine vc_region ?_
    refine vl_val rfl (.some rfl) (val_eq rfl rfl) ?_
    refine vl_val rfl (.some rfl) (val_assign rfl) ?_
    refine vl_nil ?_
    refine vc_cond rfl (fun hc1 => ?_) (fun hc1 => ?_)
    · (try replace hc1 := of_decide_eq_true hc1)
      refine vc_seq ?_
      refine vc_region ?_
      refine vl_val rfl (.some rfl) (by first | exact val_fieldAddr Try.runUnderlying43 rfl Try.sizeOf40 rfl | exact val_fieldAddrR Try.runUnderlying43 rfl Try.sizeOf40 rfl) ?_
      refine vl_val rfl (.some rfl) (val_loadAgg Try.isAgg40 Try.sizeOf40 rfl (cells_part (us := rolC m) (by repeat constructor) rfl) rfl) ?_
      refine vl_val rfl (.some rfl) (val_buildSt (pl := #[(0, 4)]) (cs := (rolC m).toArray) Try.runUnderlying161 Try.zeroValue161 (fun w => by kernel_rfl) rfl rfl) ?_
      refine vl_val rfl (.some rfl) (val_mkIface Try.runUnderlying161 rfl rfl) ?_
      refine vl_val rfl (.some rfl) (val_assign rfl) ?_
      refine vl_nil ?_
      refine vc_ret ?_
      refine ⟨_, [], _, res1 Try.results55 rfl, .nil, ?_⟩
      show _ = ofR m
      unfold ofR
      rw [if_neg hc0, if_pos hc1]
    · (try replace hc1 := of_decide_eq_false hc1)
      refine vc_seq ?_
      refine vc_region ?_
      refine vl_val rfl (.some rfl) (val_eq rfl rfl) ?_
      refine vl_val rfl (.some rfl) (val_assign rfl) ?_
      refine vl_nil ?_
      refine vc_cond rfl (fun hc2 => ?_) (fun hc2 => ?_)
      · (try replace hc2 := of_decide_eq_true hc2)
        refine vc_seq ?_
        refine vc_region ?_
        refine vl_val rfl (.some rfl) (by first | exact val_fieldAddr Try.runUnderlying43 rfl Try.sizeOf9 rfl | exact val_fieldAddrR Try.runUnderlying43 rfl Try.sizeOf9 rfl) ?_
        refine vl_val rfl (.some rfl) (val_load Try.isAgg9 rfl (by first | exact cell_cells (by repeat constructor) rfl | exact cell_rd (by first | exact rd_sl (by repeat constructor) | exact rd_old (by assumption) rfl) (by first | exact bcells_at (by omega) | exact ucells_at (by omega) | exact icells_at (by omega) | exact tcells_at (by omega) | exact bcells_get (by omega) | exact icells_get (by omega) | exact tcells_get (by omega) | exact ucells_get (by omega)) | exact cell_old (by assumption) (by simp [fps]))) ?_
        refine vl_val rfl (.some rfl) (by first | exact val_fieldAddr Try.runUnderlying43 rfl Try.sizeOf41 rfl | exact val_fieldAddrR Try.runUnderlying43 rfl Try.sizeOf41 rfl) ?_
        refine vl_val rfl (.some rfl) (val_load Try.isAgg41 rfl (by first | exact cell_cells (by repeat constructor) rfl | exact cell_rd (by first | exact rd_sl (by repeat constructor) | exact rd_old (by assumption) rfl) (by first | exact bcells_at (by omega) | exact ucells_at (by omega) | exact icells_at (by omega) | exact tcells_at (by omega) | exact bcells_get (by omega) | exact icells_get (by omega) | exact tcells_get (by omega) | exact ucells_get (by omega)) | exact cell_old (by assumption) (by simp [fps]))) ?_
        refine vl_val rfl (.some rfl) (val_buildSt (pl := #[(0, 1), (1, 1)]) (cs := (batC m).toArray) Try.runUnderlying163 Try.zeroValue163 (fun w => by kernel_rfl) rfl rfl) ?_
        refine vl_val rfl (.some rfl) (val_mkIface Try.runUnderlying163 rfl rfl) ?_
        refine vl_val rfl (.some rfl) (val_assign rfl) ?_
        refine vl_nil ?_
        refine vc_ret ?_
        refine ⟨_, [], _, res1 Try.results55 rfl, .nil, ?_⟩
        show _ = ofR m
        unfold ofR
        rw [if_neg hc0, if_neg hc1, if_pos hc2]
      · (try replace hc2 := of_decide_eq_false hc2)
        refine vc_skip ?_
        refine vc_seq ?_
        refine vc_region ?_
        refine vl_val rfl (.some rfl) (val_assign rfl) ?_
        refine vl_nil ?_
        refine vc_ret ?_
        refine ⟨_, [], _, res1 Try.results55 rfl, .nil, ?_⟩
        show _ = ofR m
        unfold ofR
        rw [if_neg hc0, if_neg hc1, if_neg hc2]
set_option maxRecDepth 20000 in
theorem tGood (m : RecM) (w : World) : FnV Try.prog 172 [.agg (tabC m).toArray] (.bool (decide (goodT ⟨m.tn, m.cs⟩))) w := by
  refine fn_enter Try.func172 rfl Try.ntmps172 rfl ?_
  refine vc_seq ?_
  refine vc_region ?_
  refine vl_box rfl rfl (.some rfl) rfl (fun r1 => ?_)
  refine vl_val rfl (.some rfl) (val_assign rfl) ?_
  refine vl_nil ?_
  refine vc_seq ?_
  refine vc_region ?_
  refine vl_val rfl (.some rfl) (by first | exact val_fieldAddr Try.runUnderlying159 rfl Try.sizeOf36 rfl | exact val_fieldAddrR Try.runUnderlying159 rfl Try.sizeOf36 rfl) ?_
  refine vl_val rfl (.some rfl) (by first | exact val_fieldAddr Try.runUnderlying36 rfl Try.sizeOf34 rfl | exact val_fieldAddrR Try.runUnderlying36 rfl Try.sizeOf34 rfl) ?_
  refine vl_val rfl (.some rfl) (val_load Try.isAgg34 rfl (by first | exact cell_cells (by repeat constructor) rfl | exact cell_rd (by first | exact rd_sl (by repeat constructor) | exact rd_old (by assumption) rfl) (by first | exact bcells_at (by omega) | exact ucells_at (by omega) | exact icells_at (by omega) | exact tcells_at (by omega) | exact bcells_get (by omega) | exact icells_get (by omega) | exact tcells_get (by omega) | exact ucells_get (by omega)) | exact cell_old (by assumption) (by simp [fps]))) ?_
  refine vl_val rfl (.some rfl) (val_lenSl Try.runUnderlying34 rfl) ?_
  refine vl_val rfl (.some rfl) (val_ge rfl rfl) ?_
  refine vl_val rfl (.some rfl) (val_move rfl) ?_
  refine vl_split (t := 8) rfl (fun hg8 => ?_) (fun hg8 => ?_)
  · (try replace hg8 := of_decide_eq_true hg8)
    refine vl_on rfl rfl rfl rfl ?_
    refine vl_val rfl (.some rfl) (by first | exact val_fieldAddr Try.runUnderlying159 rfl Try.sizeOf36 rfl | exact val_fieldAddrR Try.runUnderlying159 rfl Try.sizeOf36 rfl) ?_
    refine vl_on rfl rfl rfl rfl ?_
    refine vl_val rfl (.some rfl) (by first | exact val_fieldAddr Try.runUnderlying36 rfl Try.sizeOf34 rfl | exact val_fieldAddrR Try.runUnderlying36 rfl Try.sizeOf34 rfl) ?_
    refine vl_on rfl rfl rfl rfl ?_
    refine vl_val rfl (.some rfl) (val_load Try.isAgg34 rfl (by first | exact cell_cells (by repeat constructor) rfl | exact cell_rd (by first | exact rd_sl (by repeat constructor) | exact rd_old (by assumption) rfl) (by first | exact bcells_at (by omega) | exact ucells_at (by omega) | exact icells_at (by omega) | exact tcells_at (by omega) | exact bcells_get (by omega) | exact icells_get (by omega) | exact tcells_get (by omega) | exact ucells_get (by omega)) | exact cell_old (by assumption) (by simp [fps]))) ?_
    refine vl_on rfl rfl rfl rfl ?_
    refine vl_val rfl (.some rfl) (val_lenSl Try.runUnderlying34 rfl) ?_
    refine vl_on rfl rfl rfl rfl ?_
    refine vl_val rfl (.some rfl) (val_le rfl rfl) ?_
    refine vl_val rfl (.some rfl) (val_pick rfl rfl) ?_
    refine vl_val rfl (.some rfl) (val_assign rfl) ?_
    refine vl_nil ?_
    refine vc_ret ?_
    refine ⟨_, [], _, res1 Try.results172 rfl, .nil, ?_⟩
    show Value.bool _ = Value.bool _
    refine congrArg Value.bool ?_
    first | (rw [decide_eq_decide]; show _ ↔ 1 ≤ m.cs.length ∧ m.cs.length ≤ 8; omega) | exact (decide_eq_false (by show ¬ (1 ≤ m.cs.length ∧ m.cs.length ≤ 8); omega)).symm
  · (try replace hg8 := of_decide_eq_false hg8)
    refine vl_off rfl rfl rfl rfl (.some rfl) ?_
    refine vl_off rfl rfl rfl rfl (.some rfl) ?_
    refine vl_off rfl rfl rfl rfl (.some rfl) ?_
    refine vl_off rfl rfl rfl rfl (.some rfl) ?_
    refine vl_off rfl rfl rfl rfl (.some rfl) ?_
    refine vl_val rfl (.some rfl) (val_pick rfl rfl) ?_
    refine vl_val rfl (.some rfl) (val_assign rfl) ?_
    refine vl_nil ?_
    refine vc_ret ?_
    refine ⟨_, [], _, res1 Try.results172 rfl, .nil, ?_⟩
    show Value.bool _ = Value.bool _
    refine congrArg Value.bool ?_
    first | (rw [decide_eq_decide]; show _ ↔ 1 ≤ m.cs.length ∧ m.cs.length ≤ 8; omega) | exact (decide_eq_false (by show ¬ (1 ≤ m.cs.length ∧ m.cs.length ≤ 8); omega)).symm
set_option maxRecDepth 20000 in
theorem rGood13 (m : RecM) (w : World) : FnV Try.prog 176 [.agg (rolC m).toArray] (.bool (decide (goodR ⟨m.rn, m.rt, m.ds, m.ms⟩))) w := by
  refine fn_enter Try.func176 rfl Try.ntmps176 rfl ?_
  refine vc_seq ?_
  refine vc_region ?_
  refine vl_box rfl rfl (.some rfl) rfl (fun r1 => ?_)
  refine vl_val rfl (.some rfl) (val_assign rfl) ?_
  refine vl_nil ?_
  refine vc_seq ?_
  refine vc_region ?_
  refine vl_val rfl (.some rfl) (by first | exact val_fieldAddr Try.runUnderlying161 rfl Try.sizeOf40 rfl | exact val_fieldAddrR Try.runUnderlying161 rfl Try.sizeOf40 rfl) ?_
  refine vl_val rfl (.some rfl) (by first | exact val_fieldAddr Try.runUnderlying40 rfl Try.sizeOf37 rfl | exact val_fieldAddrR Try.runUnderlying40 rfl Try.sizeOf37 rfl) ?_
  refine vl_val rfl (.some rfl) (val_load Try.isAgg37 rfl (by first | exact cell_cells (by repeat constructor) rfl | exact cell_rd (by first | exact rd_sl (by repeat constructor) | exact rd_old (by assumption) rfl) (by first | exact bcells_at (by omega) | exact ucells_at (by omega) | exact icells_at (by omega) | exact tcells_at (by omega) | exact bcells_get (by omega) | exact icells_get (by omega) | exact tcells_get (by omega) | exact ucells_get (by omega)) | exact cell_old (by assumption) (by simp [fps]))) ?_
  refine vl_val rfl (.some rfl) (val_lenSl Try.runUnderlying37 rfl) ?_
  refine vl_val rfl (.some rfl) (val_le rfl rfl) ?_
  refine vl_val rfl (.some rfl) (val_move rfl) ?_
  refine vl_split (t := 8) rfl (fun hg8 => ?_) (fun hg8 => ?_)
  · (try replace hg8 := of_decide_eq_true hg8)
    refine vl_on rfl rfl rfl rfl ?_
    refine vl_val rfl (.some rfl) (by first | exact val_fieldAddr Try.runUnderlying161 rfl Try.sizeOf40 rfl | exact val_fieldAddrR Try.runUnderlying161 rfl Try.sizeOf40 rfl) ?_
    refine vl_on rfl rfl rfl rfl ?_
    refine vl_val rfl (.some rfl) (by first | exact val_fieldAddr Try.runUnderlying40 rfl Try.sizeOf38 rfl | exact val_fieldAddrR Try.runUnderlying40 rfl Try.sizeOf38 rfl) ?_
    refine vl_on rfl rfl rfl rfl ?_
    refine vl_val rfl (.some rfl) (val_load Try.isAgg38 rfl (by first | exact cell_cells (by repeat constructor) rfl | exact cell_rd (by first | exact rd_sl (by repeat constructor) | exact rd_old (by assumption) rfl) (by first | exact bcells_at (by omega) | exact ucells_at (by omega) | exact icells_at (by omega) | exact tcells_at (by omega) | exact bcells_get (by omega) | exact icells_get (by omega) | exact tcells_get (by omega) | exact ucells_get (by omega)) | exact cell_old (by assumption) (by simp [fps]))) ?_
    refine vl_on rfl rfl rfl rfl ?_
    refine vl_val rfl (.some rfl) (val_lenSl Try.runUnderlying38 rfl) ?_
    refine vl_on rfl rfl rfl rfl ?_
    refine vl_val rfl (.some rfl) (val_le rfl rfl) ?_
    refine vl_val rfl (.some rfl) (val_pick rfl rfl) ?_
    refine vl_val rfl (.some rfl) (val_assign rfl) ?_
    refine vl_nil ?_
    refine vc_ret ?_
    refine ⟨_, [], _, res1 Try.results176 rfl, .nil, ?_⟩
    show Value.bool _ = Value.bool _
    refine congrArg Value.bool ?_
    first | (rw [decide_eq_decide]; show _ ↔ m.ds.length ≤ 8 ∧ m.ms.length ≤ 16; omega) | exact (decide_eq_false (by show ¬ (m.ds.length ≤ 8 ∧ m.ms.length ≤ 16); omega)).symm
  · (try replace hg8 := of_decide_eq_false hg8)
    refine vl_off rfl rfl rfl rfl (.some rfl) ?_
    refine vl_off rfl rfl rfl rfl (.some rfl) ?_
    refine vl_off rfl rfl rfl rfl (.some rfl) ?_
    refine vl_off rfl rfl rfl rfl (.some rfl) ?_
    refine vl_off rfl rfl rfl rfl (.some rfl) ?_
    refine vl_val rfl (.some rfl) (val_pick rfl rfl) ?_
    refine vl_val rfl (.some rfl) (val_assign rfl) ?_
    refine vl_nil ?_
    refine vc_ret ?_
    refine ⟨_, [], _, res1 Try.results176 rfl, .nil, ?_⟩
    show Value.bool _ = Value.bool _
    refine congrArg Value.bool ?_
    first | (rw [decide_eq_decide]; show _ ↔ m.ds.length ≤ 8 ∧ m.ms.length ≤ 16; omega) | exact (decide_eq_false (by show ¬ (m.ds.length ≤ 8 ∧ m.ms.length ≤ 16); omega)).symm
set_option maxRecDepth 20000 in
set_option maxHeartbeats 1000000 in
theorem bGood (m : RecM) (hL : RecL m) (w : World) (hR : RecR w m) : FnV Try.prog 179 [.agg (batC m).toArray] (.bool (decide (goodB (rows m)))) w := by
  have hrs := hL.rs
  refine fn_enter Try.func179 rfl Try.ntmps179 rfl ?_
  refine vc_seq ?_
  refine vc_region ?_
  refine vl_box rfl rfl (.some rfl) rfl (fun r1 => ?_)
  refine vl_val rfl (.some rfl) (val_assign rfl) ?_
  refine vl_nil ?_
  refine vc_seq ?_
  refine vc_seq ?_
  refine vc_region ?_
  refine vl_val rfl (.some rfl) (by first | exact val_fieldAddr Try.runUnderlying163 rfl Try.sizeOf41 rfl | exact val_fieldAddrR Try.runUnderlying163 rfl Try.sizeOf41 rfl) ?_
  refine vl_val rfl (.some rfl) (val_load Try.isAgg41 rfl (by first | exact cell_cells (by repeat constructor) rfl | exact cell_rd (by first | exact rd_sl (by repeat constructor) | exact rd_old (by assumption) rfl) (by first | exact bcells_at (by omega) | exact ucells_at (by omega) | exact icells_at (by omega) | exact tcells_at (by omega) | exact bcells_get (by omega) | exact icells_get (by omega) | exact tcells_get (by omega) | exact ucells_get (by omega)) | exact cell_old (by assumption) (by simp [fps]))) ?_
  refine vl_val rfl (.some rfl) (val_lenSl Try.runUnderlying41 rfl) ?_
  refine vl_val rfl (.some rfl) (val_lt rfl rfl) ?_
  refine vl_val rfl (.some rfl) (val_move rfl) ?_
  refine vl_split (t := 12) rfl (fun hg12 => ?_) (fun hg12 => ?_)
  · (try replace hg12 := of_decide_eq_true hg12)
    refine vl_off rfl rfl rfl rfl (.some rfl) ?_
    refine vl_off rfl rfl rfl rfl (.some rfl) ?_
    refine vl_off rfl rfl rfl rfl (.some rfl) ?_
    refine vl_off rfl rfl rfl rfl (.some rfl) ?_
    refine vl_val rfl (.some rfl) (val_pick rfl rfl) ?_
    refine vl_nil ?_
    refine vc_cond rfl (fun _ => ?_) (fun h => by cases h)
    refine vc_seq ?_
    refine vc_region ?_
    refine vl_val rfl (.some rfl) (val_assign rfl) ?_
    refine vl_nil ?_
    refine vc_ret ?_
    refine ⟨_, [], _, res1 Try.results179 rfl, .nil, ?_⟩
    show Value.bool false = _
    rw [decide_eq_false (goodB_len (m := m) (by omega))]
  · (try replace hg12 := of_decide_eq_false hg12)
    refine vl_on rfl rfl rfl rfl ?_
    refine vl_val rfl (.some rfl) (by first | exact val_fieldAddr Try.runUnderlying163 rfl Try.sizeOf41 rfl | exact val_fieldAddrR Try.runUnderlying163 rfl Try.sizeOf41 rfl) ?_
    refine vl_on rfl rfl rfl rfl ?_
    refine vl_val rfl (.some rfl) (val_load Try.isAgg41 rfl (by first | exact cell_cells (by repeat constructor) rfl | exact cell_rd (by first | exact rd_sl (by repeat constructor) | exact rd_old (by assumption) rfl) (by first | exact bcells_at (by omega) | exact ucells_at (by omega) | exact icells_at (by omega) | exact tcells_at (by omega) | exact bcells_get (by omega) | exact icells_get (by omega) | exact tcells_get (by omega) | exact ucells_get (by omega)) | exact cell_old (by assumption) (by simp [fps]))) ?_
    refine vl_on rfl rfl rfl rfl ?_
    refine vl_val rfl (.some rfl) (val_lenSl Try.runUnderlying41 rfl) ?_
    refine vl_on rfl rfl rfl rfl ?_
    refine vl_val rfl (.some rfl) (val_gt rfl rfl) ?_
    refine vl_val rfl (.some rfl) (val_pick rfl rfl) ?_
    refine vl_nil ?_
    refine vc_cond rfl (fun hc0 => ?_) (fun hc0 => ?_)
    · (try replace hc0 := of_decide_eq_true hc0)
      refine vc_seq ?_
      refine vc_region ?_
      refine vl_val rfl (.some rfl) (val_assign rfl) ?_
      refine vl_nil ?_
      refine vc_ret ?_
      refine ⟨_, [], _, res1 Try.results179 rfl, .nil, ?_⟩
      show Value.bool false = _
      rw [decide_eq_false (goodB_len (m := m) (by omega))]
    · (try replace hc0 := of_decide_eq_false hc0)
      have hle : 1 ≤ m.rs.length ∧ m.rs.length ≤ 200 := by omega
      refine vc_skip ?_
      refine vc_seq ?_
      refine vc_region ?_
      refine vl_val rfl (.some rfl) (by first | exact val_fieldAddr Try.runUnderlying163 rfl Try.sizeOf41 rfl | exact val_fieldAddrR Try.runUnderlying163 rfl Try.sizeOf41 rfl) ?_
      refine vl_val rfl (.some rfl) (val_load Try.isAgg41 rfl (by first | exact cell_cells (by repeat constructor) rfl | exact cell_rd (by first | exact rd_sl (by repeat constructor) | exact rd_old (by assumption) rfl) (by first | exact bcells_at (by omega) | exact ucells_at (by omega) | exact icells_at (by omega) | exact tcells_at (by omega) | exact bcells_get (by omega) | exact icells_get (by omega) | exact tcells_get (by omega) | exact ucells_get (by omega)) | exact cell_old (by assumption) (by simp [fps]))) ?_
      refine vl_val rfl (.some rfl) (val_indexAddr (i := ((0 : Nat) : Int)) Try.runUnderlying41 Try.sizeOf105 rfl rfl (vs := m.rs.flatMap rowV) (rd_old hR.rs rfl) (by omega) (by omega) (by rw [rowC_len, Int.toNat_natCast]; omega)) ?_
      refine vl_val rfl (.some rfl) (val_load Try.isAgg105 rfl (cell_rd (rd_old hR.rs rfl) (rowC_at (i := 0) (by omega)))) ?_
      refine vl_val rfl (.some rfl) (val_lenSl Try.runUnderlying105 rfl) ?_
      refine vl_val rfl (.some rfl) (val_assign rfl) ?_
      refine vl_nil ?_
      refine vc_seq ?_
      refine vc_seq ?_
      refine vc_region ?_
      refine vl_val rfl (.some rfl) (by first | exact val_fieldAddr Try.runUnderlying163 rfl Try.sizeOf41 rfl | exact val_fieldAddrR Try.runUnderlying163 rfl Try.sizeOf41 rfl) ?_
      refine vl_val rfl (.some rfl) (val_load Try.isAgg41 rfl (by first | exact cell_cells (by repeat constructor) rfl | exact cell_rd (by first | exact rd_sl (by repeat constructor) | exact rd_old (by assumption) rfl) (by first | exact bcells_at (by omega) | exact ucells_at (by omega) | exact icells_at (by omega) | exact tcells_at (by omega) | exact bcells_get (by omega) | exact icells_get (by omega) | exact tcells_get (by omega) | exact ucells_get (by omega)) | exact cell_old (by assumption) (by simp [fps]))) ?_
      refine vl_val rfl (.some rfl) (val_lenSl Try.runUnderlying41 rfl) ?_
      refine vl_val rfl (.some rfl) (val_move rfl) ?_
      refine vl_nil ?_
      refine vc_block ?_
      refine vc_loopw (fun q E H => ∃ i : Nat, i ≤ m.rs.length ∧ q = m.rs.length - i ∧ (∀ j, j < i → okRow (m.rs.getD 0 rw0).2.2.length (m.rs.getD j rw0).2.2) ∧ E = [(1, .pointer (some ⟨r1, 0, none⟩)), (3, .int .i64 (m.rs.getD 0 rw0).2.2.length), (24, .slice m.Ar m.rs.length m.cr), (25, .int .i64 m.rs.length), (26, .int .i64 i)] ∧ H = [cells r1 (batC m) 163]) (m.rs.length) ⟨_, _, _, ⟨0, by omega, rfl, fun j hj => absurd hj (by omega), rfl, rfl⟩, (by repeat (first | exact trivial | refine ⟨rfl, ?_⟩ | refine ⟨le_item rfl (by first | rfl | (congr 1; omega) | (simp; done) | (simp; omega)), ?_⟩)), (by repeat constructor)⟩ ?_
      intro q E H hI
      obtain ⟨i, hi, rfl, hok, rfl, rfl⟩ := hI
      refine vc_seq ?_
      refine vc_region ?_
      refine vl_val rfl (.some rfl) (val_lt rfl rfl) ?_
      refine vl_nil ?_
      refine vc_seq ?_
      refine vc_cond rfl (fun hc1 => ?_) (fun hc1 => ?_)
      · (try replace hc1 := of_decide_eq_true hc1)
        have hrow := hR.row _ (row_in (l := m.rs) (i := i) (by omega))
        have hrl := hL.row _ (row_in (l := m.rs) (i := i) (by omega))
        refine vc_skip ?_
        refine vc_seq ?_
        refine vc_block ?_
        refine vc_seq ?_
        refine vc_region ?_
        refine vl_val rfl (.some rfl) (val_indexAddr Try.runUnderlying41 Try.sizeOf105 rfl rfl (vs := m.rs.flatMap rowV) (rd_old hR.rs rfl) (by omega) (by omega) (by rw [rowC_len, Int.toNat_natCast]; omega)) ?_
        refine vl_val rfl (.some rfl) (val_load Try.isAgg105 rfl (cell_rd (rd_old hR.rs rfl) (rowC_at (i := i) (by omega)))) ?_
        refine vl_val rfl (.some rfl) (val_assign rfl) ?_
        refine vl_nil ?_
        refine vc_seq ?_
        refine vc_seq ?_
        refine vc_region ?_
        refine vl_val rfl (.some rfl) (val_move rfl) ?_
        refine vl_val rfl (.some rfl) (val_lenSl Try.runUnderlying105 rfl) ?_
        refine vl_val rfl (.some rfl) (val_move rfl) ?_
        refine vl_val rfl (.some rfl) (val_ne rfl rfl) ?_
        refine vl_val rfl (.some rfl) (val_move rfl) ?_
        refine vl_split (t := 34) rfl (fun hg34 => ?_) (fun hg34 => ?_)
        · (try replace hg34 := of_decide_eq_true hg34)
          refine vl_off rfl rfl rfl rfl (.some rfl) ?_
          refine vl_off rfl rfl rfl rfl (.some rfl) ?_
          refine vl_val rfl (.some rfl) (val_pick rfl rfl) ?_
          refine vl_val rfl (.some rfl) (val_move rfl) ?_
          refine vl_off rfl rfl rfl rfl (.some rfl) ?_
          refine vl_off rfl rfl rfl rfl (.some rfl) ?_
          refine vl_val rfl (.some rfl) (val_pick rfl rfl) ?_
          refine vl_nil ?_
          refine vc_cond rfl (fun _ => ?_) (fun h => by cases h)
          refine vc_seq ?_
          refine vc_region ?_
          refine vl_val rfl (.some rfl) (val_assign rfl) ?_
          refine vl_nil ?_
          refine vc_ret ?_
          refine ⟨_, [], _, res1 Try.results179 rfl, .nil, ?_⟩
          show Value.bool false = _
          rw [decide_eq_false (goodB_not (m := m) (j := i) (by omega) (fun h => by have h1 := h.1; have h2 := h.2.1; omega))]
        · (try replace hg34 := of_decide_eq_false hg34)
          refine vl_on rfl rfl rfl rfl ?_
          refine vl_val rfl (.some rfl) (val_move rfl) ?_
          refine vl_on rfl rfl rfl rfl ?_
          refine vl_val rfl (.some rfl) (val_lt rfl rfl) ?_
          refine vl_val rfl (.some rfl) (val_pick rfl rfl) ?_
          refine vl_val rfl (.some rfl) (val_move rfl) ?_
          refine vl_split (t := 38) rfl (fun hg38 => ?_) (fun hg38 => ?_)
          · (try replace hg38 := of_decide_eq_true hg38)
            refine vl_off rfl rfl rfl rfl (.some rfl) ?_
            refine vl_off rfl rfl rfl rfl (.some rfl) ?_
            refine vl_val rfl (.some rfl) (val_pick rfl rfl) ?_
            refine vl_nil ?_
            refine vc_cond rfl (fun _ => ?_) (fun h => by cases h)
            refine vc_seq ?_
            refine vc_region ?_
            refine vl_val rfl (.some rfl) (val_assign rfl) ?_
            refine vl_nil ?_
            refine vc_ret ?_
            refine ⟨_, [], _, res1 Try.results179 rfl, .nil, ?_⟩
            show Value.bool false = _
            rw [decide_eq_false (goodB_not (m := m) (j := i) (by omega) (fun h => by have h1 := h.1; have h2 := h.2.1; omega))]
          · (try replace hg38 := of_decide_eq_false hg38)
            refine vl_on rfl rfl rfl rfl ?_
            refine vl_val rfl (.some rfl) (val_move rfl) ?_
            refine vl_on rfl rfl rfl rfl ?_
            refine vl_val rfl (.some rfl) (val_gt rfl rfl) ?_
            refine vl_val rfl (.some rfl) (val_pick rfl rfl) ?_
            refine vl_nil ?_
            refine vc_cond rfl (fun hc2 => ?_) (fun hc2 => ?_)
            · (try replace hc2 := of_decide_eq_true hc2)
              refine vc_seq ?_
              refine vc_region ?_
              refine vl_val rfl (.some rfl) (val_assign rfl) ?_
              refine vl_nil ?_
              refine vc_ret ?_
              refine ⟨_, [], _, res1 Try.results179 rfl, .nil, ?_⟩
              show Value.bool false = _
              rw [decide_eq_false (goodB_not (m := m) (j := i) (by omega) (fun h => by have h1 := h.1; have h2 := h.2.1; omega))]
            · (try replace hc2 := of_decide_eq_false hc2)
              refine vc_skip ?_
              refine vc_seq ?_
              refine vc_region ?_
              refine vl_val rfl (.some rfl) (val_move rfl) ?_
              refine vl_val rfl (.some rfl) (val_lenSl Try.runUnderlying105 rfl) ?_
              refine vl_val rfl (.some rfl) (val_move rfl) ?_
              refine vl_nil ?_
              refine vc_block ?_
              refine vc_loopw (fun q E H => ∃ j : Nat, j ≤ (m.rs.getD i rw0).2.2.length ∧ q = (m.rs.getD i rw0).2.2.length - j ∧ (∀ j2, j2 < j → goodV ((m.rs.getD i rw0).2.2.getD j2 z3) = true) ∧ E = [(1, .pointer (some ⟨r1, 0, none⟩)), (3, .int .i64 (m.rs.getD 0 rw0).2.2.length), (24, .slice m.Ar m.rs.length m.cr), (25, .int .i64 m.rs.length), (26, .int .i64 i), (42, .slice (m.rs.getD i rw0).1 (m.rs.getD i rw0).2.2.length (m.rs.getD i rw0).2.1), (43, .int .i64 (m.rs.getD i rw0).2.2.length), (44, .int .i64 j)] ∧ H = [cells r1 (batC m) 163]) ((m.rs.getD i rw0).2.2.length) ⟨_, _, _, ⟨0, by omega, rfl, fun j hj => absurd hj (by omega), rfl, rfl⟩, (by repeat (first | exact trivial | refine ⟨rfl, ?_⟩ | refine ⟨le_item rfl (by first | rfl | (congr 1; omega) | (simp; done) | (simp; omega)), ?_⟩)), (by repeat constructor)⟩ ?_
              intro q E H hI
              obtain ⟨j, hj, rfl, hv, rfl, rfl⟩ := hI
              refine vc_seq ?_
              refine vc_region ?_
              refine vl_val rfl (.some rfl) (val_lt rfl rfl) ?_
              refine vl_nil ?_
              refine vc_seq ?_
              refine vc_cond rfl (fun hc3 => ?_) (fun hc3 => ?_)
              · (try replace hc3 := of_decide_eq_true hc3)
                refine vc_skip ?_
                refine vc_seq ?_
                refine vc_block ?_
                refine vc_seq ?_
                refine vc_region ?_
                refine vl_val rfl (.some rfl) (val_indexAddr Try.runUnderlying105 Try.sizeOf107 rfl rfl (vs := flat (m.rs.getD i rw0).2.2) (rd_old hrow.1 rfl) (by omega) (by omega) (by rw [vflat_len, Int.toNat_natCast]; omega)) ?_
                refine vl_val rfl (.some rfl) (val_loadAgg Try.isAgg107 Try.sizeOf107 rfl (cells_rd (us := [.int .i64 ((m.rs.getD i rw0).2.2.getD j z3).k, .int .i64 ((m.rs.getD i rw0).2.2.getD j z3).n, .string ((m.rs.getD i rw0).2.2.getD j z3).s]) (rd_old hrow.1 rfl) (by rw [Int.toNat_natCast]; exact flat_at (m.rs.getD i rw0).2.2 j (by omega))) rfl) ?_
                refine vl_alloc rfl rfl (.some rfl) Try.zeroValue107 (fun r7 => ?_)
                first | refine vl_store rfl rfl .none rfl rfl Try.sizeOf107 rfl (by repeat constructor) (by first | decide | exact Nat.le_refl _ | exact Nat.le_of_ble_eq_true rfl | (simp; omega)) ?_ | refine vl_storeSl rfl rfl .none rfl rfl Try.sizeOf107 rfl (by simp [Value.cells]) (by repeat constructor) (by first | decide | (simp [Value.cells]; omega)) ?_
                refine vl_nil ?_
                refine vc_seq ?_
                refine vc_region ?_
                refine vl_val rfl (.some rfl) (val_loadAgg Try.isAgg107 Try.sizeOf107 rfl (by first | exact cells_whole (by repeat constructor) | exact cells_part (by repeat constructor) rfl) rfl) ?_
                refine vl_callV rfl rfl (.some rfl) Try.call128 rfl (fun w hw => vGood ((m.rs.getD i rw0).2.2.getD j z3) w) ?_
                refine vl_val rfl (.some rfl) (val_not rfl) ?_
                refine vl_nil ?_
                refine vc_cond rfl (fun hc4 => ?_) (fun hc4 => ?_)
                · (try replace hc4 := of_decide_eq_true hc4)
                  refine vc_seq ?_
                  refine vc_region ?_
                  refine vl_val rfl (.some rfl) (val_assign rfl) ?_
                  refine vl_nil ?_
                  refine vc_ret ?_
                  refine ⟨_, [], _, res1 Try.results179 rfl, .nil, ?_⟩
                  show Value.bool false = _
                  rw [decide_eq_false (goodB_not (m := m) (j := i) (by omega) (fun h => by have h1 := h.2.2 _ (getV_in (j := j) (by omega)); rw [h1] at hc4; cases hc4))]
                · (try replace hc4 := of_decide_eq_false hc4)
                  refine vc_skip ?_
                  refine vc_region ?_
                  refine vl_val rfl (.some rfl) (val_add rfl rfl (by first | exact w_i64 (by omega) (by omega) | rfl)) ?_
                  refine vl_val rfl (.some rfl) (val_move rfl) ?_
                  refine vl_nil ?_
                  exact ⟨((m.rs.getD i rw0).2.2.length - (j + 1)), _, _, _, by omega, (by repeat (first | exact trivial | refine ⟨rfl, ?_⟩ | refine ⟨le_item rfl (by first | rfl | (congr 1; omega) | (simp; done) | (simp; omega)), ?_⟩)), (by repeat constructor), ⟨j + 1, by omega, rfl, fun j2 hj2 => by
                    rcases Nat.lt_or_ge j2 j with h | h
                    · exact hv j2 h
                    · obtain rfl : j2 = j := by omega
                      simpa using hc4, rfl, rfl⟩⟩
              · (try replace hc3 := of_decide_eq_false hc3)
                refine vc_exit ?_
                refine vc_region ?_
                refine vl_val rfl (.some rfl) (val_add rfl rfl (by first | exact w_i64 (by omega) (by omega) | rfl)) ?_
                refine vl_val rfl (.some rfl) (val_move rfl) ?_
                refine vl_nil ?_
                exact ⟨(m.rs.length - (i + 1)), _, _, _, by omega, (by repeat (first | exact trivial | refine ⟨rfl, ?_⟩ | refine ⟨le_item rfl (by first | rfl | (congr 1; omega) | (simp; done) | (simp; omega)), ?_⟩)), (by repeat constructor), ⟨i + 1, by omega, rfl, fun j2 hj2 => by
                  rcases Nat.lt_or_ge j2 i with h | h
                  · exact hok j2 h
                  · obtain rfl : j2 = i := by omega
                    exact ⟨by omega, ⟨by omega, by omega⟩, all_V (fun j3 hj3 => hv j3 (by omega))⟩, rfl, rfl⟩⟩
      · (try replace hc1 := of_decide_eq_false hc1)
        refine vc_exit ?_
        refine vc_seq ?_
        refine vc_region ?_
        refine vl_val rfl (.some rfl) (val_assign rfl) ?_
        refine vl_nil ?_
        refine vc_ret ?_
        refine ⟨_, [], _, res1 Try.results179 rfl, .nil, ?_⟩
        show Value.bool true = _
        rw [decide_eq_true (goodB_all (m := m) hle (fun j hj => hok j (by omega)))]




theorem app_nil {a b : List UInt8} : a ++ b = [] ↔ a = [] ∧ b = [] := List.append_eq_nil_iff
theorem rows_nil {m : RecM} : rows m = [] ↔ m.rs = [] := List.map_eq_nil_iff

theorem Reads.here {X : Cx} {H : List Chunk} {w : World} {A : Option Addr} {vs : List Value} (h : Reads X.w0 A vs) (hM : X.M = []) (hw : Holds X.w0 X.M H w) : Reads w A vs := rdw (rd_old h hM) hw
theorem rec_here {X : Cx} {H : List Chunk} {w : World} {m : RecM} (h : RecR X.w0 m) (hw : Holds X.w0 X.M H w) (hM : X.M = [] := by rfl) : RecR w m :=
  ⟨h.cs.here hM hw, h.ds.here hM hw, h.ms.here hM hw, h.rs.here hM hw, fun q hq => ⟨(h.row q hq).1.here hM hw, (h.row q hq).2⟩⟩

set_option maxRecDepth 20000 in
set_option maxHeartbeats 1000000 in
theorem xBare (m : RecM) (hL : RecL m) (w : World) : FnV Try.prog 65 [recA m] (.bool (decide (bareP (recOf m)))) w := by
  have l1 := hL.ds
  have l2 := hL.ms
  have l3 := hL.rn
  have l4 := hL.rt
  have l5 := hL.rs
  have l6 := hL.cs
  refine fn_enter Try.func65 rfl Try.ntmps65 rfl ?_
  refine vc_seq ?_
  refine vc_region ?_
  refine vl_box rfl rfl (.some rfl) rfl (fun r1 => ?_)
  refine vl_val rfl (.some rfl) (val_assign rfl) ?_
  refine vl_nil ?_
  refine vc_seq ?_
  refine vc_seq ?_
  refine vc_region ?_
  refine vl_val rfl (.some rfl) (by first | exact val_fieldAddr Try.runUnderlying43 rfl Try.sizeOf3 rfl | exact val_fieldAddrR Try.runUnderlying43 rfl Try.sizeOf3 rfl) ?_
  refine vl_val rfl (.some rfl) (val_load Try.isAgg3 rfl (by first | exact cell_cells (by repeat constructor) rfl | exact cell_rd (by first | exact rd_sl (by repeat constructor) | exact rd_old (by assumption) rfl) (by first | exact bcells_at (by omega) | exact ucells_at (by omega) | exact icells_at (by omega) | exact tcells_at (by omega) | exact bcells_get (by omega) | exact icells_get (by omega) | exact tcells_get (by omega) | exact ucells_get (by omega)) | exact cell_old (by assumption) (by simp [fps]))) ?_
  refine vl_val rfl (.some rfl) (val_ne rfl rfl) ?_
  refine vl_val rfl (.some rfl) (val_move rfl) ?_
  refine vl_split (t := 7) rfl (fun hg7 => ?_) (fun hg7 => ?_)
  · (try replace hg7 := of_decide_eq_true hg7)
    refine vl_on rfl rfl rfl rfl ?_
    refine vl_val rfl (.some rfl) (by first | exact val_fieldAddr Try.runUnderlying43 rfl Try.sizeOf36 rfl | exact val_fieldAddrR Try.runUnderlying43 rfl Try.sizeOf36 rfl) ?_
    refine vl_on rfl rfl rfl rfl ?_
    refine vl_val rfl (.some rfl) (by first | exact val_fieldAddr Try.runUnderlying36 rfl Try.sizeOf9 rfl | exact val_fieldAddrR Try.runUnderlying36 rfl Try.sizeOf9 rfl) ?_
    refine vl_on rfl rfl rfl rfl ?_
    refine vl_val rfl (.some rfl) (val_load Try.isAgg9 rfl (by first | exact cell_cells (by repeat constructor) rfl | exact cell_rd (by first | exact rd_sl (by repeat constructor) | exact rd_old (by assumption) rfl) (by first | exact bcells_at (by omega) | exact ucells_at (by omega) | exact icells_at (by omega) | exact tcells_at (by omega) | exact bcells_get (by omega) | exact icells_get (by omega) | exact tcells_get (by omega) | exact ucells_get (by omega)) | exact cell_old (by assumption) (by simp [fps]))) ?_
    refine vl_on rfl rfl rfl rfl ?_
    refine vl_val rfl (.some rfl) (val_sne rfl rfl) ?_
    refine vl_on rfl rfl rfl rfl ?_
    refine vl_val rfl (.some rfl) (val_move rfl) ?_
    refine vl_split (t := 12) rfl (fun hg12 => ?_) (fun hg12 => ?_)
    · (try replace hg12 := of_decide_eq_true hg12)
      refine vl_off rfl rfl rfl rfl (.some rfl) ?_
      refine vl_off rfl rfl rfl rfl (.some rfl) ?_
      refine vl_off rfl rfl rfl rfl (.some rfl) ?_
      refine vl_off rfl rfl rfl rfl (.some rfl) ?_
      refine vl_off rfl rfl rfl rfl (.some rfl) ?_
      refine vl_on rfl rfl rfl rfl ?_
      refine vl_val rfl (.some rfl) (val_pick rfl rfl) ?_
      refine vl_val rfl (.some rfl) (val_pick rfl rfl) ?_
      refine vl_nil ?_
      refine vc_cond rfl (fun _ => ?_) (fun h => by cases h)
      refine vc_seq ?_
      refine vc_region ?_
      refine vl_val rfl (.some rfl) (val_assign rfl) ?_
      refine vl_nil ?_
      refine vc_ret ?_
      refine ⟨_, [], _, res1 Try.results65 rfl, .nil, ?_⟩
      show Value.bool false = _
      rw [decide_eq_false (p := bareP (recOf m)) (fun h => by
        rcases h.1 with b | ⟨b, b'⟩
        · have b : m.k = 1 := b
          omega
        · first
          | exact hg12 (sL_nil.2 b)
          | (have e : m.cs.length = 0 := by rw [show m.cs = [] from b']; rfl
             omega))]
    · (try replace hg12 := of_decide_eq_false hg12)
      refine vl_on rfl rfl rfl rfl ?_
      refine vl_val rfl (.some rfl) (by first | exact val_fieldAddr Try.runUnderlying43 rfl Try.sizeOf36 rfl | exact val_fieldAddrR Try.runUnderlying43 rfl Try.sizeOf36 rfl) ?_
      refine vl_on rfl rfl rfl rfl ?_
      refine vl_val rfl (.some rfl) (by first | exact val_fieldAddr Try.runUnderlying36 rfl Try.sizeOf34 rfl | exact val_fieldAddrR Try.runUnderlying36 rfl Try.sizeOf34 rfl) ?_
      refine vl_on rfl rfl rfl rfl ?_
      refine vl_val rfl (.some rfl) (val_load Try.isAgg34 rfl (by first | exact cell_cells (by repeat constructor) rfl | exact cell_rd (by first | exact rd_sl (by repeat constructor) | exact rd_old (by assumption) rfl) (by first | exact bcells_at (by omega) | exact ucells_at (by omega) | exact icells_at (by omega) | exact tcells_at (by omega) | exact bcells_get (by omega) | exact icells_get (by omega) | exact tcells_get (by omega) | exact ucells_get (by omega)) | exact cell_old (by assumption) (by simp [fps]))) ?_
      refine vl_on rfl rfl rfl rfl ?_
      refine vl_val rfl (.some rfl) (val_lenSl Try.runUnderlying34 rfl) ?_
      refine vl_on rfl rfl rfl rfl ?_
      refine vl_val rfl (.some rfl) (val_gt rfl rfl) ?_
      refine vl_on rfl rfl rfl rfl ?_
      refine vl_val rfl (.some rfl) (val_pick rfl rfl) ?_
      refine vl_val rfl (.some rfl) (val_pick rfl rfl) ?_
      refine vl_nil ?_
      refine vc_cond rfl (fun hc0 => ?_) (fun hc0 => ?_)
      · (try replace hc0 := of_decide_eq_true hc0)
        refine vc_seq ?_
        refine vc_region ?_
        refine vl_val rfl (.some rfl) (val_assign rfl) ?_
        refine vl_nil ?_
        refine vc_ret ?_
        refine ⟨_, [], _, res1 Try.results65 rfl, .nil, ?_⟩
        show Value.bool false = _
        rw [decide_eq_false (p := bareP (recOf m)) (fun h => by
          rcases h.1 with b | ⟨b, b'⟩
          · have b : m.k = 1 := b
            omega
          · first
            | exact hg12 (sL_nil.2 b)
            | (have e : m.cs.length = 0 := by rw [show m.cs = [] from b']; rfl
               omega))]
      · (try replace hc0 := of_decide_eq_false hc0)
        refine vc_skip ?_
        refine vc_seq ?_
        refine vc_seq ?_
        refine vc_region ?_
        refine vl_val rfl (.some rfl) (by first | exact val_fieldAddr Try.runUnderlying43 rfl Try.sizeOf40 rfl | exact val_fieldAddrR Try.runUnderlying43 rfl Try.sizeOf40 rfl) ?_
        refine vl_val rfl (.some rfl) (val_loadAgg Try.isAgg40 Try.sizeOf40 rfl (cells_part (us := rolC m) (by repeat constructor) rfl) rfl) ?_
        refine vl_alloc rfl rfl (.some rfl) Try.zeroValue40 (fun r3 => ?_)
        first | refine vl_store rfl rfl .none rfl rfl Try.sizeOf40 rfl (by repeat constructor) (by first | decide | exact Nat.le_refl _ | exact Nat.le_of_ble_eq_true rfl | (simp; omega)) ?_ | refine vl_storeSl rfl rfl .none rfl rfl Try.sizeOf40 rfl (by simp [Value.cells]) (by repeat constructor) (by first | decide | (simp [Value.cells]; omega)) ?_
        refine vl_nil ?_
        refine vc_seq ?_
        refine vc_region ?_
        refine vl_val rfl (.some rfl) (by first | exact val_fieldAddr Try.runUnderlying43 rfl Try.sizeOf3 rfl | exact val_fieldAddrR Try.runUnderlying43 rfl Try.sizeOf3 rfl) ?_
        refine vl_val rfl (.some rfl) (val_load Try.isAgg3 rfl (by first | exact cell_cells (by repeat constructor) rfl | exact cell_rd (by first | exact rd_sl (by repeat constructor) | exact rd_old (by assumption) rfl) (by first | exact bcells_at (by omega) | exact ucells_at (by omega) | exact icells_at (by omega) | exact tcells_at (by omega) | exact bcells_get (by omega) | exact icells_get (by omega) | exact tcells_get (by omega) | exact ucells_get (by omega)) | exact cell_old (by assumption) (by simp [fps]))) ?_
        refine vl_val rfl (.some rfl) (val_ne rfl rfl) ?_
        refine vl_val rfl (.some rfl) (val_move rfl) ?_
        refine vl_split (t := 25) rfl (fun hg25 => ?_) (fun hg25 => ?_)
        · (try replace hg25 := of_decide_eq_true hg25)
          refine vl_on rfl rfl rfl rfl ?_
          refine vl_val rfl (.some rfl) (by first | exact val_fieldAddr Try.runUnderlying40 rfl Try.sizeOf9 rfl | exact val_fieldAddrR Try.runUnderlying40 rfl Try.sizeOf9 rfl) ?_
          refine vl_on rfl rfl rfl rfl ?_
          refine vl_val rfl (.some rfl) (val_load Try.isAgg9 rfl (by first | exact cell_cells (by repeat constructor) rfl | exact cell_rd (by first | exact rd_sl (by repeat constructor) | exact rd_old (by assumption) rfl) (by first | exact bcells_at (by omega) | exact ucells_at (by omega) | exact icells_at (by omega) | exact tcells_at (by omega) | exact bcells_get (by omega) | exact icells_get (by omega) | exact tcells_get (by omega) | exact ucells_get (by omega)) | exact cell_old (by assumption) (by simp [fps]))) ?_
          refine vl_on rfl rfl rfl rfl ?_
          refine vl_val rfl (.some rfl) (by first | exact val_fieldAddr Try.runUnderlying40 rfl Try.sizeOf9 rfl | exact val_fieldAddrR Try.runUnderlying40 rfl Try.sizeOf9 rfl) ?_
          refine vl_on rfl rfl rfl rfl ?_
          refine vl_val rfl (.some rfl) (val_load Try.isAgg9 rfl (by first | exact cell_cells (by repeat constructor) rfl | exact cell_rd (by first | exact rd_sl (by repeat constructor) | exact rd_old (by assumption) rfl) (by first | exact bcells_at (by omega) | exact ucells_at (by omega) | exact icells_at (by omega) | exact tcells_at (by omega) | exact bcells_get (by omega) | exact icells_get (by omega) | exact tcells_get (by omega) | exact ucells_get (by omega)) | exact cell_old (by assumption) (by simp [fps]))) ?_
          refine vl_on rfl rfl rfl rfl ?_
          refine vl_val rfl (.some rfl) (val_cat (s := sL m.rn) (t := sL m.rt) rfl rfl (by rw [sL_size, sL_size]; omega)) ?_
          rw [sL_cat]
          refine vl_on rfl rfl rfl rfl ?_
          refine vl_val rfl (.some rfl) (val_sne rfl rfl) ?_
          refine vl_on rfl rfl rfl rfl ?_
          refine vl_val rfl (.some rfl) (val_move rfl) ?_
          refine vl_split (t := 32) rfl (fun hg32 => ?_) (fun hg32 => ?_)
          · (try replace hg32 := of_decide_eq_true hg32)
            refine vl_off rfl rfl rfl rfl (.some rfl) ?_
            refine vl_off rfl rfl rfl rfl (.some rfl) ?_
            refine vl_off rfl rfl rfl rfl (.some rfl) ?_
            refine vl_off rfl rfl rfl rfl (.some rfl) ?_
            refine vl_off rfl rfl rfl rfl (.some rfl) ?_
            refine vl_off rfl rfl rfl rfl (.some rfl) ?_
            refine vl_off rfl rfl rfl rfl (.some rfl) ?_
            refine vl_off rfl rfl rfl rfl (.some rfl) ?_
            refine vl_on rfl rfl rfl rfl ?_
            refine vl_val rfl (.some rfl) (val_pick rfl rfl) ?_
            refine vl_val rfl (.some rfl) (val_pick rfl rfl) ?_
            refine vl_nil ?_
            refine vc_cond rfl (fun _ => ?_) (fun h => by cases h)
            refine vc_seq ?_
            refine vc_region ?_
            refine vl_val rfl (.some rfl) (val_assign rfl) ?_
            refine vl_nil ?_
            refine vc_ret ?_
            refine ⟨_, [], _, res1 Try.results65 rfl, .nil, ?_⟩
            show Value.bool false = _
            rw [decide_eq_false (p := bareP (recOf m)) (fun h => by
              rcases h.2.1 with b | ⟨b1, b2, b3, b4⟩
              · have b : m.k = 2 := b
                omega
              · first
                | exact hg32 (sL_nil.2 (app_nil.2 ⟨b1, b2⟩))
                | (have e : m.ds.length = 0 := by rw [show m.ds = [] from b3]; rfl
                   have e2 : m.ms.length = 0 := by rw [show m.ms = [] from b4]; rfl
                   omega))]
          · (try replace hg32 := of_decide_eq_false hg32)
            refine vl_on rfl rfl rfl rfl ?_
            refine vl_val rfl (.some rfl) (by first | exact val_fieldAddr Try.runUnderlying40 rfl Try.sizeOf37 rfl | exact val_fieldAddrR Try.runUnderlying40 rfl Try.sizeOf37 rfl) ?_
            refine vl_on rfl rfl rfl rfl ?_
            refine vl_val rfl (.some rfl) (val_load Try.isAgg37 rfl (by first | exact cell_cells (by repeat constructor) rfl | exact cell_rd (by first | exact rd_sl (by repeat constructor) | exact rd_old (by assumption) rfl) (by first | exact bcells_at (by omega) | exact ucells_at (by omega) | exact icells_at (by omega) | exact tcells_at (by omega) | exact bcells_get (by omega) | exact icells_get (by omega) | exact tcells_get (by omega) | exact ucells_get (by omega)) | exact cell_old (by assumption) (by simp [fps]))) ?_
            refine vl_on rfl rfl rfl rfl ?_
            refine vl_val rfl (.some rfl) (val_lenSl Try.runUnderlying37 rfl) ?_
            refine vl_on rfl rfl rfl rfl ?_
            refine vl_val rfl (.some rfl) (by first | exact val_fieldAddr Try.runUnderlying40 rfl Try.sizeOf38 rfl | exact val_fieldAddrR Try.runUnderlying40 rfl Try.sizeOf38 rfl) ?_
            refine vl_on rfl rfl rfl rfl ?_
            refine vl_val rfl (.some rfl) (val_load Try.isAgg38 rfl (by first | exact cell_cells (by repeat constructor) rfl | exact cell_rd (by first | exact rd_sl (by repeat constructor) | exact rd_old (by assumption) rfl) (by first | exact bcells_at (by omega) | exact ucells_at (by omega) | exact icells_at (by omega) | exact tcells_at (by omega) | exact bcells_get (by omega) | exact icells_get (by omega) | exact tcells_get (by omega) | exact ucells_get (by omega)) | exact cell_old (by assumption) (by simp [fps]))) ?_
            refine vl_on rfl rfl rfl rfl ?_
            refine vl_val rfl (.some rfl) (val_lenSl Try.runUnderlying38 rfl) ?_
            refine vl_on rfl rfl rfl rfl ?_
            refine vl_val rfl (.some rfl) (val_add rfl rfl (by first | exact w_i64 (by omega) (by omega) | rfl)) ?_
            refine vl_on rfl rfl rfl rfl ?_
            refine vl_val rfl (.some rfl) (val_gt rfl rfl) ?_
            refine vl_on rfl rfl rfl rfl ?_
            refine vl_val rfl (.some rfl) (val_pick rfl rfl) ?_
            refine vl_val rfl (.some rfl) (val_pick rfl rfl) ?_
            refine vl_nil ?_
            refine vc_cond rfl (fun hc1 => ?_) (fun hc1 => ?_)
            · (try replace hc1 := of_decide_eq_true hc1)
              refine vc_seq ?_
              refine vc_region ?_
              refine vl_val rfl (.some rfl) (val_assign rfl) ?_
              refine vl_nil ?_
              refine vc_ret ?_
              refine ⟨_, [], _, res1 Try.results65 rfl, .nil, ?_⟩
              show Value.bool false = _
              rw [decide_eq_false (p := bareP (recOf m)) (fun h => by
                rcases h.2.1 with b | ⟨b1, b2, b3, b4⟩
                · have b : m.k = 2 := b
                  omega
                · first
                  | exact hg32 (sL_nil.2 (app_nil.2 ⟨b1, b2⟩))
                  | (have e : m.ds.length = 0 := by rw [show m.ds = [] from b3]; rfl
                     have e2 : m.ms.length = 0 := by rw [show m.ms = [] from b4]; rfl
                     omega))]
            · (try replace hc1 := of_decide_eq_false hc1)
              refine vc_skip ?_
              refine vc_seq ?_
              refine vc_region ?_
              refine vl_val rfl (.some rfl) (by first | exact val_fieldAddr Try.runUnderlying43 rfl Try.sizeOf3 rfl | exact val_fieldAddrR Try.runUnderlying43 rfl Try.sizeOf3 rfl) ?_
              refine vl_val rfl (.some rfl) (val_load Try.isAgg3 rfl (by first | exact cell_cells (by repeat constructor) rfl | exact cell_rd (by first | exact rd_sl (by repeat constructor) | exact rd_old (by assumption) rfl) (by first | exact bcells_at (by omega) | exact ucells_at (by omega) | exact icells_at (by omega) | exact tcells_at (by omega) | exact bcells_get (by omega) | exact icells_get (by omega) | exact tcells_get (by omega) | exact ucells_get (by omega)) | exact cell_old (by assumption) (by simp [fps]))) ?_
              refine vl_val rfl (.some rfl) (val_eq rfl rfl) ?_
              refine vl_val rfl (.some rfl) (val_move rfl) ?_
              refine vl_split (t := 46) rfl (fun hg46 => ?_) (fun hg46 => ?_)
              · (try replace hg46 := of_decide_eq_true hg46)
                refine vl_off rfl rfl rfl rfl (.some rfl) ?_
                refine vl_off rfl rfl rfl rfl (.some rfl) ?_
                refine vl_off rfl rfl rfl rfl (.some rfl) ?_
                refine vl_off rfl rfl rfl rfl (.some rfl) ?_
                refine vl_offU rfl rfl rfl rfl (.some rfl) ?_
                refine vl_offU rfl rfl rfl rfl (.some rfl) ?_
                refine vl_offU rfl rfl rfl rfl (.some rfl) ?_
                refine vl_offU rfl rfl rfl rfl (.some rfl) ?_
                refine vl_off rfl rfl rfl rfl (.some rfl) ?_
                refine vl_val rfl (.some rfl) (val_pick rfl rfl) ?_
                refine vl_val rfl (.some rfl) (val_assign rfl) ?_
                refine vl_nil ?_
                refine vc_ret ?_
                refine ⟨_, [], _, res1 Try.results65 rfl, .nil, ?_⟩
                have p1 : (recOf m).k = 1 ∨ noT (recOf m).t := by first | exact .inl (show m.k = 1 by omega) | exact .inr ⟨sL_nil.1 (by simpa using hg12), len_nil.1 (show m.cs.length = 0 by omega)⟩
                have p2 : (recOf m).k = 2 ∨ noR (recOf m).r := by first | exact .inl (show m.k = 2 by omega) | exact .inr ⟨(app_nil.1 (sL_nil.1 (by simpa using hg32))).1, (app_nil.1 (sL_nil.1 (by simpa using hg32))).2, len_nil.1 (show m.ds.length = 0 by omega), len_nil.1 (show m.ms.length = 0 by omega)⟩
                show Value.bool _ = Value.bool _
                refine congrArg Value.bool ?_
                first
                  | exact (decide_eq_true (p := bareP (recOf m)) ⟨p1, p2, .inl (show m.k = 3 by omega)⟩).symm
                  | exact (decide_eq_false (p := bareP (recOf m)) (fun h => by
                      rcases h.2.2 with b | b
                      · have b : m.k = 3 := b
                        omega
                      · exact hg50 (sL_nil.2 b.1))).symm
                  | (rw [decide_eq_decide]
                     constructor
                     · intro h
                       exact ⟨p1, p2, .inr ⟨sL_nil.1 hg50, rows_nil.2 (len_nil.1 (show m.rs.length = 0 by omega))⟩⟩
                     · intro h
                       rcases h.2.2 with b | b
                       · have b : m.k = 3 := b
                         omega
                       · have e := rows_nil.1 b.2
                         rw [e]; rfl)
              · (try replace hg46 := of_decide_eq_false hg46)
                refine vl_on rfl rfl rfl rfl ?_
                refine vl_val rfl (.some rfl) (by first | exact val_fieldAddr Try.runUnderlying43 rfl Try.sizeOf9 rfl | exact val_fieldAddrR Try.runUnderlying43 rfl Try.sizeOf9 rfl) ?_
                refine vl_on rfl rfl rfl rfl ?_
                refine vl_val rfl (.some rfl) (val_load Try.isAgg9 rfl (by first | exact cell_cells (by repeat constructor) rfl | exact cell_rd (by first | exact rd_sl (by repeat constructor) | exact rd_old (by assumption) rfl) (by first | exact bcells_at (by omega) | exact ucells_at (by omega) | exact icells_at (by omega) | exact tcells_at (by omega) | exact bcells_get (by omega) | exact icells_get (by omega) | exact tcells_get (by omega) | exact ucells_get (by omega)) | exact cell_old (by assumption) (by simp [fps]))) ?_
                refine vl_on rfl rfl rfl rfl ?_
                refine vl_val rfl (.some rfl) (val_seq rfl rfl) ?_
                refine vl_on rfl rfl rfl rfl ?_
                refine vl_val rfl (.some rfl) (val_move rfl) ?_
                refine vl_split (t := 50) rfl (fun hg50 => ?_) (fun hg50 => ?_)
                · (try replace hg50 := of_decide_eq_true hg50)
                  refine vl_on rfl rfl rfl rfl ?_
                  refine vl_val rfl (.some rfl) (by first | exact val_fieldAddr Try.runUnderlying43 rfl Try.sizeOf41 rfl | exact val_fieldAddrR Try.runUnderlying43 rfl Try.sizeOf41 rfl) ?_
                  refine vl_on rfl rfl rfl rfl ?_
                  refine vl_val rfl (.some rfl) (val_load Try.isAgg41 rfl (by first | exact cell_cells (by repeat constructor) rfl | exact cell_rd (by first | exact rd_sl (by repeat constructor) | exact rd_old (by assumption) rfl) (by first | exact bcells_at (by omega) | exact ucells_at (by omega) | exact icells_at (by omega) | exact tcells_at (by omega) | exact bcells_get (by omega) | exact icells_get (by omega) | exact tcells_get (by omega) | exact ucells_get (by omega)) | exact cell_old (by assumption) (by simp [fps]))) ?_
                  refine vl_on rfl rfl rfl rfl ?_
                  refine vl_val rfl (.some rfl) (val_lenSl Try.runUnderlying41 rfl) ?_
                  refine vl_on rfl rfl rfl rfl ?_
                  refine vl_val rfl (.some rfl) (val_eq rfl rfl) ?_
                  refine vl_on rfl rfl rfl rfl ?_
                  refine vl_val rfl (.some rfl) (val_pick rfl rfl) ?_
                  refine vl_val rfl (.some rfl) (val_pick rfl rfl) ?_
                  refine vl_val rfl (.some rfl) (val_assign rfl) ?_
                  refine vl_nil ?_
                  refine vc_ret ?_
                  refine ⟨_, [], _, res1 Try.results65 rfl, .nil, ?_⟩
                  have p1 : (recOf m).k = 1 ∨ noT (recOf m).t := by first | exact .inl (show m.k = 1 by omega) | exact .inr ⟨sL_nil.1 (by simpa using hg12), len_nil.1 (show m.cs.length = 0 by omega)⟩
                  have p2 : (recOf m).k = 2 ∨ noR (recOf m).r := by first | exact .inl (show m.k = 2 by omega) | exact .inr ⟨(app_nil.1 (sL_nil.1 (by simpa using hg32))).1, (app_nil.1 (sL_nil.1 (by simpa using hg32))).2, len_nil.1 (show m.ds.length = 0 by omega), len_nil.1 (show m.ms.length = 0 by omega)⟩
                  show Value.bool _ = Value.bool _
                  refine congrArg Value.bool ?_
                  first
                    | exact (decide_eq_true (p := bareP (recOf m)) ⟨p1, p2, .inl (show m.k = 3 by omega)⟩).symm
                    | exact (decide_eq_false (p := bareP (recOf m)) (fun h => by
                        rcases h.2.2 with b | b
                        · have b : m.k = 3 := b
                          omega
                        · exact hg50 (sL_nil.2 b.1))).symm
                    | (rw [decide_eq_decide]
                       constructor
                       · intro h
                         exact ⟨p1, p2, .inr ⟨sL_nil.1 hg50, rows_nil.2 (len_nil.1 (show m.rs.length = 0 by omega))⟩⟩
                       · intro h
                         rcases h.2.2 with b | b
                         · have b : m.k = 3 := b
                           omega
                         · have e := rows_nil.1 b.2
                           rw [e]; rfl)
                · (try replace hg50 := of_decide_eq_false hg50)
                  refine vl_off rfl rfl rfl rfl (.some rfl) ?_
                  refine vl_off rfl rfl rfl rfl (.some rfl) ?_
                  refine vl_off rfl rfl rfl rfl (.some rfl) ?_
                  refine vl_off rfl rfl rfl rfl (.some rfl) ?_
                  refine vl_on rfl rfl rfl rfl ?_
                  refine vl_val rfl (.some rfl) (val_pick rfl rfl) ?_
                  refine vl_val rfl (.some rfl) (val_pick rfl rfl) ?_
                  refine vl_val rfl (.some rfl) (val_assign rfl) ?_
                  refine vl_nil ?_
                  refine vc_ret ?_
                  refine ⟨_, [], _, res1 Try.results65 rfl, .nil, ?_⟩
                  have p1 : (recOf m).k = 1 ∨ noT (recOf m).t := by first | exact .inl (show m.k = 1 by omega) | exact .inr ⟨sL_nil.1 (by simpa using hg12), len_nil.1 (show m.cs.length = 0 by omega)⟩
                  have p2 : (recOf m).k = 2 ∨ noR (recOf m).r := by first | exact .inl (show m.k = 2 by omega) | exact .inr ⟨(app_nil.1 (sL_nil.1 (by simpa using hg32))).1, (app_nil.1 (sL_nil.1 (by simpa using hg32))).2, len_nil.1 (show m.ds.length = 0 by omega), len_nil.1 (show m.ms.length = 0 by omega)⟩
                  show Value.bool _ = Value.bool _
                  refine congrArg Value.bool ?_
                  first
                    | exact (decide_eq_true (p := bareP (recOf m)) ⟨p1, p2, .inl (show m.k = 3 by omega)⟩).symm
                    | exact (decide_eq_false (p := bareP (recOf m)) (fun h => by
                        rcases h.2.2 with b | b
                        · have b : m.k = 3 := b
                          omega
                        · exact hg50 (sL_nil.2 b.1))).symm
                    | (rw [decide_eq_decide]
                       constructor
                       · intro h
                         exact ⟨p1, p2, .inr ⟨sL_nil.1 hg50, rows_nil.2 (len_nil.1 (show m.rs.length = 0 by omega))⟩⟩
                       · intro h
                         rcases h.2.2 with b | b
                         · have b : m.k = 3 := b
                           omega
                         · have e := rows_nil.1 b.2
                           rw [e]; rfl)
        · (try replace hg25 := of_decide_eq_false hg25)
          refine vl_off rfl rfl rfl rfl (.some rfl) ?_
          refine vl_off rfl rfl rfl rfl (.some rfl) ?_
          refine vl_off rfl rfl rfl rfl (.some rfl) ?_
          refine vl_off rfl rfl rfl rfl (.some rfl) ?_
          refine vl_off rfl rfl rfl rfl (.some rfl) ?_
          refine vl_off rfl rfl rfl rfl (.some rfl) ?_
          refine vl_off rfl rfl rfl rfl (.some rfl) ?_
          refine vl_offU rfl rfl rfl rfl (.some rfl) ?_
          refine vl_offU rfl rfl rfl rfl (.some rfl) ?_
          refine vl_offU rfl rfl rfl rfl (.some rfl) ?_
          refine vl_offU rfl rfl rfl rfl (.some rfl) ?_
          refine vl_offU rfl rfl rfl rfl (.some rfl) ?_
          refine vl_offU rfl rfl rfl rfl (.some rfl) ?_
          refine vl_offU rfl rfl rfl rfl (.some rfl) ?_
          refine vl_offU rfl rfl rfl rfl (.some rfl) ?_
          refine vl_off rfl rfl rfl rfl (.some rfl) ?_
          refine vl_val rfl (.some rfl) (val_pick rfl rfl) ?_
          refine vl_nil ?_
          refine vc_cond rfl (fun h => by cases h) (fun _ => ?_)
          refine vc_skip ?_
          refine vc_seq ?_
          refine vc_region ?_
          refine vl_val rfl (.some rfl) (by first | exact val_fieldAddr Try.runUnderlying43 rfl Try.sizeOf3 rfl | exact val_fieldAddrR Try.runUnderlying43 rfl Try.sizeOf3 rfl) ?_
          refine vl_val rfl (.some rfl) (val_load Try.isAgg3 rfl (by first | exact cell_cells (by repeat constructor) rfl | exact cell_rd (by first | exact rd_sl (by repeat constructor) | exact rd_old (by assumption) rfl) (by first | exact bcells_at (by omega) | exact ucells_at (by omega) | exact icells_at (by omega) | exact tcells_at (by omega) | exact bcells_get (by omega) | exact icells_get (by omega) | exact tcells_get (by omega) | exact ucells_get (by omega)) | exact cell_old (by assumption) (by simp [fps]))) ?_
          refine vl_val rfl (.some rfl) (val_eq rfl rfl) ?_
          refine vl_val rfl (.some rfl) (val_move rfl) ?_
          refine vl_split (t := 46) rfl (fun hg46 => ?_) (fun hg46 => ?_)
          · (try replace hg46 := of_decide_eq_true hg46)
            refine vl_off rfl rfl rfl rfl (.some rfl) ?_
            refine vl_off rfl rfl rfl rfl (.some rfl) ?_
            refine vl_off rfl rfl rfl rfl (.some rfl) ?_
            refine vl_off rfl rfl rfl rfl (.some rfl) ?_
            refine vl_offU rfl rfl rfl rfl (.some rfl) ?_
            refine vl_offU rfl rfl rfl rfl (.some rfl) ?_
            refine vl_offU rfl rfl rfl rfl (.some rfl) ?_
            refine vl_offU rfl rfl rfl rfl (.some rfl) ?_
            refine vl_off rfl rfl rfl rfl (.some rfl) ?_
            refine vl_val rfl (.some rfl) (val_pick rfl rfl) ?_
            refine vl_val rfl (.some rfl) (val_assign rfl) ?_
            refine vl_nil ?_
            refine vc_ret ?_
            refine ⟨_, [], _, res1 Try.results65 rfl, .nil, ?_⟩
            have p1 : (recOf m).k = 1 ∨ noT (recOf m).t := by first | exact .inl (show m.k = 1 by omega) | exact .inr ⟨sL_nil.1 (by simpa using hg12), len_nil.1 (show m.cs.length = 0 by omega)⟩
            have p2 : (recOf m).k = 2 ∨ noR (recOf m).r := by first | exact .inl (show m.k = 2 by omega) | exact .inr ⟨(app_nil.1 (sL_nil.1 (by simpa using hg32))).1, (app_nil.1 (sL_nil.1 (by simpa using hg32))).2, len_nil.1 (show m.ds.length = 0 by omega), len_nil.1 (show m.ms.length = 0 by omega)⟩
            show Value.bool _ = Value.bool _
            refine congrArg Value.bool ?_
            first
              | exact (decide_eq_true (p := bareP (recOf m)) ⟨p1, p2, .inl (show m.k = 3 by omega)⟩).symm
              | exact (decide_eq_false (p := bareP (recOf m)) (fun h => by
                  rcases h.2.2 with b | b
                  · have b : m.k = 3 := b
                    omega
                  · exact hg50 (sL_nil.2 b.1))).symm
              | (rw [decide_eq_decide]
                 constructor
                 · intro h
                   exact ⟨p1, p2, .inr ⟨sL_nil.1 hg50, rows_nil.2 (len_nil.1 (show m.rs.length = 0 by omega))⟩⟩
                 · intro h
                   rcases h.2.2 with b | b
                   · have b : m.k = 3 := b
                     omega
                   · have e := rows_nil.1 b.2
                     rw [e]; rfl)
          · (try replace hg46 := of_decide_eq_false hg46)
            refine vl_on rfl rfl rfl rfl ?_
            refine vl_val rfl (.some rfl) (by first | exact val_fieldAddr Try.runUnderlying43 rfl Try.sizeOf9 rfl | exact val_fieldAddrR Try.runUnderlying43 rfl Try.sizeOf9 rfl) ?_
            refine vl_on rfl rfl rfl rfl ?_
            refine vl_val rfl (.some rfl) (val_load Try.isAgg9 rfl (by first | exact cell_cells (by repeat constructor) rfl | exact cell_rd (by first | exact rd_sl (by repeat constructor) | exact rd_old (by assumption) rfl) (by first | exact bcells_at (by omega) | exact ucells_at (by omega) | exact icells_at (by omega) | exact tcells_at (by omega) | exact bcells_get (by omega) | exact icells_get (by omega) | exact tcells_get (by omega) | exact ucells_get (by omega)) | exact cell_old (by assumption) (by simp [fps]))) ?_
            refine vl_on rfl rfl rfl rfl ?_
            refine vl_val rfl (.some rfl) (val_seq rfl rfl) ?_
            refine vl_on rfl rfl rfl rfl ?_
            refine vl_val rfl (.some rfl) (val_move rfl) ?_
            refine vl_split (t := 50) rfl (fun hg50 => ?_) (fun hg50 => ?_)
            · (try replace hg50 := of_decide_eq_true hg50)
              refine vl_on rfl rfl rfl rfl ?_
              refine vl_val rfl (.some rfl) (by first | exact val_fieldAddr Try.runUnderlying43 rfl Try.sizeOf41 rfl | exact val_fieldAddrR Try.runUnderlying43 rfl Try.sizeOf41 rfl) ?_
              refine vl_on rfl rfl rfl rfl ?_
              refine vl_val rfl (.some rfl) (val_load Try.isAgg41 rfl (by first | exact cell_cells (by repeat constructor) rfl | exact cell_rd (by first | exact rd_sl (by repeat constructor) | exact rd_old (by assumption) rfl) (by first | exact bcells_at (by omega) | exact ucells_at (by omega) | exact icells_at (by omega) | exact tcells_at (by omega) | exact bcells_get (by omega) | exact icells_get (by omega) | exact tcells_get (by omega) | exact ucells_get (by omega)) | exact cell_old (by assumption) (by simp [fps]))) ?_
              refine vl_on rfl rfl rfl rfl ?_
              refine vl_val rfl (.some rfl) (val_lenSl Try.runUnderlying41 rfl) ?_
              refine vl_on rfl rfl rfl rfl ?_
              refine vl_val rfl (.some rfl) (val_eq rfl rfl) ?_
              refine vl_on rfl rfl rfl rfl ?_
              refine vl_val rfl (.some rfl) (val_pick rfl rfl) ?_
              refine vl_val rfl (.some rfl) (val_pick rfl rfl) ?_
              refine vl_val rfl (.some rfl) (val_assign rfl) ?_
              refine vl_nil ?_
              refine vc_ret ?_
              refine ⟨_, [], _, res1 Try.results65 rfl, .nil, ?_⟩
              have p1 : (recOf m).k = 1 ∨ noT (recOf m).t := by first | exact .inl (show m.k = 1 by omega) | exact .inr ⟨sL_nil.1 (by simpa using hg12), len_nil.1 (show m.cs.length = 0 by omega)⟩
              have p2 : (recOf m).k = 2 ∨ noR (recOf m).r := by first | exact .inl (show m.k = 2 by omega) | exact .inr ⟨(app_nil.1 (sL_nil.1 (by simpa using hg32))).1, (app_nil.1 (sL_nil.1 (by simpa using hg32))).2, len_nil.1 (show m.ds.length = 0 by omega), len_nil.1 (show m.ms.length = 0 by omega)⟩
              show Value.bool _ = Value.bool _
              refine congrArg Value.bool ?_
              first
                | exact (decide_eq_true (p := bareP (recOf m)) ⟨p1, p2, .inl (show m.k = 3 by omega)⟩).symm
                | exact (decide_eq_false (p := bareP (recOf m)) (fun h => by
                    rcases h.2.2 with b | b
                    · have b : m.k = 3 := b
                      omega
                    · exact hg50 (sL_nil.2 b.1))).symm
                | (rw [decide_eq_decide]
                   constructor
                   · intro h
                     exact ⟨p1, p2, .inr ⟨sL_nil.1 hg50, rows_nil.2 (len_nil.1 (show m.rs.length = 0 by omega))⟩⟩
                   · intro h
                     rcases h.2.2 with b | b
                     · have b : m.k = 3 := b
                       omega
                     · have e := rows_nil.1 b.2
                       rw [e]; rfl)
            · (try replace hg50 := of_decide_eq_false hg50)
              refine vl_off rfl rfl rfl rfl (.some rfl) ?_
              refine vl_off rfl rfl rfl rfl (.some rfl) ?_
              refine vl_off rfl rfl rfl rfl (.some rfl) ?_
              refine vl_off rfl rfl rfl rfl (.some rfl) ?_
              refine vl_on rfl rfl rfl rfl ?_
              refine vl_val rfl (.some rfl) (val_pick rfl rfl) ?_
              refine vl_val rfl (.some rfl) (val_pick rfl rfl) ?_
              refine vl_val rfl (.some rfl) (val_assign rfl) ?_
              refine vl_nil ?_
              refine vc_ret ?_
              refine ⟨_, [], _, res1 Try.results65 rfl, .nil, ?_⟩
              have p1 : (recOf m).k = 1 ∨ noT (recOf m).t := by first | exact .inl (show m.k = 1 by omega) | exact .inr ⟨sL_nil.1 (by simpa using hg12), len_nil.1 (show m.cs.length = 0 by omega)⟩
              have p2 : (recOf m).k = 2 ∨ noR (recOf m).r := by first | exact .inl (show m.k = 2 by omega) | exact .inr ⟨(app_nil.1 (sL_nil.1 (by simpa using hg32))).1, (app_nil.1 (sL_nil.1 (by simpa using hg32))).2, len_nil.1 (show m.ds.length = 0 by omega), len_nil.1 (show m.ms.length = 0 by omega)⟩
              show Value.bool _ = Value.bool _
              refine congrArg Value.bool ?_
              first
                | exact (decide_eq_true (p := bareP (recOf m)) ⟨p1, p2, .inl (show m.k = 3 by omega)⟩).symm
                | exact (decide_eq_false (p := bareP (recOf m)) (fun h => by
                    rcases h.2.2 with b | b
                    · have b : m.k = 3 := b
                      omega
                    · exact hg50 (sL_nil.2 b.1))).symm
                | (rw [decide_eq_decide]
                   constructor
                   · intro h
                     exact ⟨p1, p2, .inr ⟨sL_nil.1 hg50, rows_nil.2 (len_nil.1 (show m.rs.length = 0 by omega))⟩⟩
                   · intro h
                     rcases h.2.2 with b | b
                     · have b : m.k = 3 := b
                       omega
                     · have e := rows_nil.1 b.2
                       rw [e]; rfl)
  · (try replace hg7 := of_decide_eq_false hg7)
    refine vl_off rfl rfl rfl rfl (.some rfl) ?_
    refine vl_off rfl rfl rfl rfl (.some rfl) ?_
    refine vl_off rfl rfl rfl rfl (.some rfl) ?_
    refine vl_off rfl rfl rfl rfl (.some rfl) ?_
    refine vl_off rfl rfl rfl rfl (.some rfl) ?_
    refine vl_offU rfl rfl rfl rfl (.some rfl) ?_
    refine vl_offU rfl rfl rfl rfl (.some rfl) ?_
    refine vl_offU rfl rfl rfl rfl (.some rfl) ?_
    refine vl_offU rfl rfl rfl rfl (.some rfl) ?_
    refine vl_offU rfl rfl rfl rfl (.some rfl) ?_
    refine vl_off rfl rfl rfl rfl (.some rfl) ?_
    refine vl_val rfl (.some rfl) (val_pick rfl rfl) ?_
    refine vl_nil ?_
    refine vc_cond rfl (fun h => by cases h) (fun _ => ?_)
    refine vc_skip ?_
    refine vc_seq ?_
    refine vc_seq ?_
    refine vc_region ?_
    refine vl_val rfl (.some rfl) (by first | exact val_fieldAddr Try.runUnderlying43 rfl Try.sizeOf40 rfl | exact val_fieldAddrR Try.runUnderlying43 rfl Try.sizeOf40 rfl) ?_
    refine vl_val rfl (.some rfl) (val_loadAgg Try.isAgg40 Try.sizeOf40 rfl (cells_part (us := rolC m) (by repeat constructor) rfl) rfl) ?_
    refine vl_alloc rfl rfl (.some rfl) Try.zeroValue40 (fun r3 => ?_)
    first | refine vl_store rfl rfl .none rfl rfl Try.sizeOf40 rfl (by repeat constructor) (by first | decide | exact Nat.le_refl _ | exact Nat.le_of_ble_eq_true rfl | (simp; omega)) ?_ | refine vl_storeSl rfl rfl .none rfl rfl Try.sizeOf40 rfl (by simp [Value.cells]) (by repeat constructor) (by first | decide | (simp [Value.cells]; omega)) ?_
    refine vl_nil ?_
    refine vc_seq ?_
    refine vc_region ?_
    refine vl_val rfl (.some rfl) (by first | exact val_fieldAddr Try.runUnderlying43 rfl Try.sizeOf3 rfl | exact val_fieldAddrR Try.runUnderlying43 rfl Try.sizeOf3 rfl) ?_
    refine vl_val rfl (.some rfl) (val_load Try.isAgg3 rfl (by first | exact cell_cells (by repeat constructor) rfl | exact cell_rd (by first | exact rd_sl (by repeat constructor) | exact rd_old (by assumption) rfl) (by first | exact bcells_at (by omega) | exact ucells_at (by omega) | exact icells_at (by omega) | exact tcells_at (by omega) | exact bcells_get (by omega) | exact icells_get (by omega) | exact tcells_get (by omega) | exact ucells_get (by omega)) | exact cell_old (by assumption) (by simp [fps]))) ?_
    refine vl_val rfl (.some rfl) (val_ne rfl rfl) ?_
    refine vl_val rfl (.some rfl) (val_move rfl) ?_
    refine vl_split (t := 25) rfl (fun hg25 => ?_) (fun hg25 => ?_)
    · (try replace hg25 := of_decide_eq_true hg25)
      refine vl_on rfl rfl rfl rfl ?_
      refine vl_val rfl (.some rfl) (by first | exact val_fieldAddr Try.runUnderlying40 rfl Try.sizeOf9 rfl | exact val_fieldAddrR Try.runUnderlying40 rfl Try.sizeOf9 rfl) ?_
      refine vl_on rfl rfl rfl rfl ?_
      refine vl_val rfl (.some rfl) (val_load Try.isAgg9 rfl (by first | exact cell_cells (by repeat constructor) rfl | exact cell_rd (by first | exact rd_sl (by repeat constructor) | exact rd_old (by assumption) rfl) (by first | exact bcells_at (by omega) | exact ucells_at (by omega) | exact icells_at (by omega) | exact tcells_at (by omega) | exact bcells_get (by omega) | exact icells_get (by omega) | exact tcells_get (by omega) | exact ucells_get (by omega)) | exact cell_old (by assumption) (by simp [fps]))) ?_
      refine vl_on rfl rfl rfl rfl ?_
      refine vl_val rfl (.some rfl) (by first | exact val_fieldAddr Try.runUnderlying40 rfl Try.sizeOf9 rfl | exact val_fieldAddrR Try.runUnderlying40 rfl Try.sizeOf9 rfl) ?_
      refine vl_on rfl rfl rfl rfl ?_
      refine vl_val rfl (.some rfl) (val_load Try.isAgg9 rfl (by first | exact cell_cells (by repeat constructor) rfl | exact cell_rd (by first | exact rd_sl (by repeat constructor) | exact rd_old (by assumption) rfl) (by first | exact bcells_at (by omega) | exact ucells_at (by omega) | exact icells_at (by omega) | exact tcells_at (by omega) | exact bcells_get (by omega) | exact icells_get (by omega) | exact tcells_get (by omega) | exact ucells_get (by omega)) | exact cell_old (by assumption) (by simp [fps]))) ?_
      refine vl_on rfl rfl rfl rfl ?_
      refine vl_val rfl (.some rfl) (val_cat (s := sL m.rn) (t := sL m.rt) rfl rfl (by rw [sL_size, sL_size]; omega)) ?_
      rw [sL_cat]
      refine vl_on rfl rfl rfl rfl ?_
      refine vl_val rfl (.some rfl) (val_sne rfl rfl) ?_
      refine vl_on rfl rfl rfl rfl ?_
      refine vl_val rfl (.some rfl) (val_move rfl) ?_
      refine vl_split (t := 32) rfl (fun hg32 => ?_) (fun hg32 => ?_)
      · (try replace hg32 := of_decide_eq_true hg32)
        refine vl_off rfl rfl rfl rfl (.some rfl) ?_
        refine vl_off rfl rfl rfl rfl (.some rfl) ?_
        refine vl_off rfl rfl rfl rfl (.some rfl) ?_
        refine vl_off rfl rfl rfl rfl (.some rfl) ?_
        refine vl_off rfl rfl rfl rfl (.some rfl) ?_
        refine vl_off rfl rfl rfl rfl (.some rfl) ?_
        refine vl_off rfl rfl rfl rfl (.some rfl) ?_
        refine vl_off rfl rfl rfl rfl (.some rfl) ?_
        refine vl_on rfl rfl rfl rfl ?_
        refine vl_val rfl (.some rfl) (val_pick rfl rfl) ?_
        refine vl_val rfl (.some rfl) (val_pick rfl rfl) ?_
        refine vl_nil ?_
        refine vc_cond rfl (fun _ => ?_) (fun h => by cases h)
        refine vc_seq ?_
        refine vc_region ?_
        refine vl_val rfl (.some rfl) (val_assign rfl) ?_
        refine vl_nil ?_
        refine vc_ret ?_
        refine ⟨_, [], _, res1 Try.results65 rfl, .nil, ?_⟩
        show Value.bool false = _
        rw [decide_eq_false (p := bareP (recOf m)) (fun h => by
          rcases h.2.1 with b | ⟨b1, b2, b3, b4⟩
          · have b : m.k = 2 := b
            omega
          · first
            | exact hg32 (sL_nil.2 (app_nil.2 ⟨b1, b2⟩))
            | (have e : m.ds.length = 0 := by rw [show m.ds = [] from b3]; rfl
               have e2 : m.ms.length = 0 := by rw [show m.ms = [] from b4]; rfl
               omega))]
      · (try replace hg32 := of_decide_eq_false hg32)
        refine vl_on rfl rfl rfl rfl ?_
        refine vl_val rfl (.some rfl) (by first | exact val_fieldAddr Try.runUnderlying40 rfl Try.sizeOf37 rfl | exact val_fieldAddrR Try.runUnderlying40 rfl Try.sizeOf37 rfl) ?_
        refine vl_on rfl rfl rfl rfl ?_
        refine vl_val rfl (.some rfl) (val_load Try.isAgg37 rfl (by first | exact cell_cells (by repeat constructor) rfl | exact cell_rd (by first | exact rd_sl (by repeat constructor) | exact rd_old (by assumption) rfl) (by first | exact bcells_at (by omega) | exact ucells_at (by omega) | exact icells_at (by omega) | exact tcells_at (by omega) | exact bcells_get (by omega) | exact icells_get (by omega) | exact tcells_get (by omega) | exact ucells_get (by omega)) | exact cell_old (by assumption) (by simp [fps]))) ?_
        refine vl_on rfl rfl rfl rfl ?_
        refine vl_val rfl (.some rfl) (val_lenSl Try.runUnderlying37 rfl) ?_
        refine vl_on rfl rfl rfl rfl ?_
        refine vl_val rfl (.some rfl) (by first | exact val_fieldAddr Try.runUnderlying40 rfl Try.sizeOf38 rfl | exact val_fieldAddrR Try.runUnderlying40 rfl Try.sizeOf38 rfl) ?_
        refine vl_on rfl rfl rfl rfl ?_
        refine vl_val rfl (.some rfl) (val_load Try.isAgg38 rfl (by first | exact cell_cells (by repeat constructor) rfl | exact cell_rd (by first | exact rd_sl (by repeat constructor) | exact rd_old (by assumption) rfl) (by first | exact bcells_at (by omega) | exact ucells_at (by omega) | exact icells_at (by omega) | exact tcells_at (by omega) | exact bcells_get (by omega) | exact icells_get (by omega) | exact tcells_get (by omega) | exact ucells_get (by omega)) | exact cell_old (by assumption) (by simp [fps]))) ?_
        refine vl_on rfl rfl rfl rfl ?_
        refine vl_val rfl (.some rfl) (val_lenSl Try.runUnderlying38 rfl) ?_
        refine vl_on rfl rfl rfl rfl ?_
        refine vl_val rfl (.some rfl) (val_add rfl rfl (by first | exact w_i64 (by omega) (by omega) | rfl)) ?_
        refine vl_on rfl rfl rfl rfl ?_
        refine vl_val rfl (.some rfl) (val_gt rfl rfl) ?_
        refine vl_on rfl rfl rfl rfl ?_
        refine vl_val rfl (.some rfl) (val_pick rfl rfl) ?_
        refine vl_val rfl (.some rfl) (val_pick rfl rfl) ?_
        refine vl_nil ?_
        refine vc_cond rfl (fun hc1 => ?_) (fun hc1 => ?_)
        · (try replace hc1 := of_decide_eq_true hc1)
          refine vc_seq ?_
          refine vc_region ?_
          refine vl_val rfl (.some rfl) (val_assign rfl) ?_
          refine vl_nil ?_
          refine vc_ret ?_
          refine ⟨_, [], _, res1 Try.results65 rfl, .nil, ?_⟩
          show Value.bool false = _
          rw [decide_eq_false (p := bareP (recOf m)) (fun h => by
            rcases h.2.1 with b | ⟨b1, b2, b3, b4⟩
            · have b : m.k = 2 := b
              omega
            · first
              | exact hg32 (sL_nil.2 (app_nil.2 ⟨b1, b2⟩))
              | (have e : m.ds.length = 0 := by rw [show m.ds = [] from b3]; rfl
                 have e2 : m.ms.length = 0 := by rw [show m.ms = [] from b4]; rfl
                 omega))]
        · (try replace hc1 := of_decide_eq_false hc1)
          refine vc_skip ?_
          refine vc_seq ?_
          refine vc_region ?_
          refine vl_val rfl (.some rfl) (by first | exact val_fieldAddr Try.runUnderlying43 rfl Try.sizeOf3 rfl | exact val_fieldAddrR Try.runUnderlying43 rfl Try.sizeOf3 rfl) ?_
          refine vl_val rfl (.some rfl) (val_load Try.isAgg3 rfl (by first | exact cell_cells (by repeat constructor) rfl | exact cell_rd (by first | exact rd_sl (by repeat constructor) | exact rd_old (by assumption) rfl) (by first | exact bcells_at (by omega) | exact ucells_at (by omega) | exact icells_at (by omega) | exact tcells_at (by omega) | exact bcells_get (by omega) | exact icells_get (by omega) | exact tcells_get (by omega) | exact ucells_get (by omega)) | exact cell_old (by assumption) (by simp [fps]))) ?_
          refine vl_val rfl (.some rfl) (val_eq rfl rfl) ?_
          refine vl_val rfl (.some rfl) (val_move rfl) ?_
          refine vl_split (t := 46) rfl (fun hg46 => ?_) (fun hg46 => ?_)
          · (try replace hg46 := of_decide_eq_true hg46)
            refine vl_off rfl rfl rfl rfl (.some rfl) ?_
            refine vl_off rfl rfl rfl rfl (.some rfl) ?_
            refine vl_off rfl rfl rfl rfl (.some rfl) ?_
            refine vl_off rfl rfl rfl rfl (.some rfl) ?_
            refine vl_offU rfl rfl rfl rfl (.some rfl) ?_
            refine vl_offU rfl rfl rfl rfl (.some rfl) ?_
            refine vl_offU rfl rfl rfl rfl (.some rfl) ?_
            refine vl_offU rfl rfl rfl rfl (.some rfl) ?_
            refine vl_off rfl rfl rfl rfl (.some rfl) ?_
            refine vl_val rfl (.some rfl) (val_pick rfl rfl) ?_
            refine vl_val rfl (.some rfl) (val_assign rfl) ?_
            refine vl_nil ?_
            refine vc_ret ?_
            refine ⟨_, [], _, res1 Try.results65 rfl, .nil, ?_⟩
            have p1 : (recOf m).k = 1 ∨ noT (recOf m).t := by first | exact .inl (show m.k = 1 by omega) | exact .inr ⟨sL_nil.1 (by simpa using hg12), len_nil.1 (show m.cs.length = 0 by omega)⟩
            have p2 : (recOf m).k = 2 ∨ noR (recOf m).r := by first | exact .inl (show m.k = 2 by omega) | exact .inr ⟨(app_nil.1 (sL_nil.1 (by simpa using hg32))).1, (app_nil.1 (sL_nil.1 (by simpa using hg32))).2, len_nil.1 (show m.ds.length = 0 by omega), len_nil.1 (show m.ms.length = 0 by omega)⟩
            show Value.bool _ = Value.bool _
            refine congrArg Value.bool ?_
            first
              | exact (decide_eq_true (p := bareP (recOf m)) ⟨p1, p2, .inl (show m.k = 3 by omega)⟩).symm
              | exact (decide_eq_false (p := bareP (recOf m)) (fun h => by
                  rcases h.2.2 with b | b
                  · have b : m.k = 3 := b
                    omega
                  · exact hg50 (sL_nil.2 b.1))).symm
              | (rw [decide_eq_decide]
                 constructor
                 · intro h
                   exact ⟨p1, p2, .inr ⟨sL_nil.1 hg50, rows_nil.2 (len_nil.1 (show m.rs.length = 0 by omega))⟩⟩
                 · intro h
                   rcases h.2.2 with b | b
                   · have b : m.k = 3 := b
                     omega
                   · have e := rows_nil.1 b.2
                     rw [e]; rfl)
          · (try replace hg46 := of_decide_eq_false hg46)
            refine vl_on rfl rfl rfl rfl ?_
            refine vl_val rfl (.some rfl) (by first | exact val_fieldAddr Try.runUnderlying43 rfl Try.sizeOf9 rfl | exact val_fieldAddrR Try.runUnderlying43 rfl Try.sizeOf9 rfl) ?_
            refine vl_on rfl rfl rfl rfl ?_
            refine vl_val rfl (.some rfl) (val_load Try.isAgg9 rfl (by first | exact cell_cells (by repeat constructor) rfl | exact cell_rd (by first | exact rd_sl (by repeat constructor) | exact rd_old (by assumption) rfl) (by first | exact bcells_at (by omega) | exact ucells_at (by omega) | exact icells_at (by omega) | exact tcells_at (by omega) | exact bcells_get (by omega) | exact icells_get (by omega) | exact tcells_get (by omega) | exact ucells_get (by omega)) | exact cell_old (by assumption) (by simp [fps]))) ?_
            refine vl_on rfl rfl rfl rfl ?_
            refine vl_val rfl (.some rfl) (val_seq rfl rfl) ?_
            refine vl_on rfl rfl rfl rfl ?_
            refine vl_val rfl (.some rfl) (val_move rfl) ?_
            refine vl_split (t := 50) rfl (fun hg50 => ?_) (fun hg50 => ?_)
            · (try replace hg50 := of_decide_eq_true hg50)
              refine vl_on rfl rfl rfl rfl ?_
              refine vl_val rfl (.some rfl) (by first | exact val_fieldAddr Try.runUnderlying43 rfl Try.sizeOf41 rfl | exact val_fieldAddrR Try.runUnderlying43 rfl Try.sizeOf41 rfl) ?_
              refine vl_on rfl rfl rfl rfl ?_
              refine vl_val rfl (.some rfl) (val_load Try.isAgg41 rfl (by first | exact cell_cells (by repeat constructor) rfl | exact cell_rd (by first | exact rd_sl (by repeat constructor) | exact rd_old (by assumption) rfl) (by first | exact bcells_at (by omega) | exact ucells_at (by omega) | exact icells_at (by omega) | exact tcells_at (by omega) | exact bcells_get (by omega) | exact icells_get (by omega) | exact tcells_get (by omega) | exact ucells_get (by omega)) | exact cell_old (by assumption) (by simp [fps]))) ?_
              refine vl_on rfl rfl rfl rfl ?_
              refine vl_val rfl (.some rfl) (val_lenSl Try.runUnderlying41 rfl) ?_
              refine vl_on rfl rfl rfl rfl ?_
              refine vl_val rfl (.some rfl) (val_eq rfl rfl) ?_
              refine vl_on rfl rfl rfl rfl ?_
              refine vl_val rfl (.some rfl) (val_pick rfl rfl) ?_
              refine vl_val rfl (.some rfl) (val_pick rfl rfl) ?_
              refine vl_val rfl (.some rfl) (val_assign rfl) ?_
              refine vl_nil ?_
              refine vc_ret ?_
              refine ⟨_, [], _, res1 Try.results65 rfl, .nil, ?_⟩
              have p1 : (recOf m).k = 1 ∨ noT (recOf m).t := by first | exact .inl (show m.k = 1 by omega) | exact .inr ⟨sL_nil.1 (by simpa using hg12), len_nil.1 (show m.cs.length = 0 by omega)⟩
              have p2 : (recOf m).k = 2 ∨ noR (recOf m).r := by first | exact .inl (show m.k = 2 by omega) | exact .inr ⟨(app_nil.1 (sL_nil.1 (by simpa using hg32))).1, (app_nil.1 (sL_nil.1 (by simpa using hg32))).2, len_nil.1 (show m.ds.length = 0 by omega), len_nil.1 (show m.ms.length = 0 by omega)⟩
              show Value.bool _ = Value.bool _
              refine congrArg Value.bool ?_
              first
                | exact (decide_eq_true (p := bareP (recOf m)) ⟨p1, p2, .inl (show m.k = 3 by omega)⟩).symm
                | exact (decide_eq_false (p := bareP (recOf m)) (fun h => by
                    rcases h.2.2 with b | b
                    · have b : m.k = 3 := b
                      omega
                    · exact hg50 (sL_nil.2 b.1))).symm
                | (rw [decide_eq_decide]
                   constructor
                   · intro h
                     exact ⟨p1, p2, .inr ⟨sL_nil.1 hg50, rows_nil.2 (len_nil.1 (show m.rs.length = 0 by omega))⟩⟩
                   · intro h
                     rcases h.2.2 with b | b
                     · have b : m.k = 3 := b
                       omega
                     · have e := rows_nil.1 b.2
                       rw [e]; rfl)
            · (try replace hg50 := of_decide_eq_false hg50)
              refine vl_off rfl rfl rfl rfl (.some rfl) ?_
              refine vl_off rfl rfl rfl rfl (.some rfl) ?_
              refine vl_off rfl rfl rfl rfl (.some rfl) ?_
              refine vl_off rfl rfl rfl rfl (.some rfl) ?_
              refine vl_on rfl rfl rfl rfl ?_
              refine vl_val rfl (.some rfl) (val_pick rfl rfl) ?_
              refine vl_val rfl (.some rfl) (val_pick rfl rfl) ?_
              refine vl_val rfl (.some rfl) (val_assign rfl) ?_
              refine vl_nil ?_
              refine vc_ret ?_
              refine ⟨_, [], _, res1 Try.results65 rfl, .nil, ?_⟩
              have p1 : (recOf m).k = 1 ∨ noT (recOf m).t := by first | exact .inl (show m.k = 1 by omega) | exact .inr ⟨sL_nil.1 (by simpa using hg12), len_nil.1 (show m.cs.length = 0 by omega)⟩
              have p2 : (recOf m).k = 2 ∨ noR (recOf m).r := by first | exact .inl (show m.k = 2 by omega) | exact .inr ⟨(app_nil.1 (sL_nil.1 (by simpa using hg32))).1, (app_nil.1 (sL_nil.1 (by simpa using hg32))).2, len_nil.1 (show m.ds.length = 0 by omega), len_nil.1 (show m.ms.length = 0 by omega)⟩
              show Value.bool _ = Value.bool _
              refine congrArg Value.bool ?_
              first
                | exact (decide_eq_true (p := bareP (recOf m)) ⟨p1, p2, .inl (show m.k = 3 by omega)⟩).symm
                | exact (decide_eq_false (p := bareP (recOf m)) (fun h => by
                    rcases h.2.2 with b | b
                    · have b : m.k = 3 := b
                      omega
                    · exact hg50 (sL_nil.2 b.1))).symm
                | (rw [decide_eq_decide]
                   constructor
                   · intro h
                     exact ⟨p1, p2, .inr ⟨sL_nil.1 hg50, rows_nil.2 (len_nil.1 (show m.rs.length = 0 by omega))⟩⟩
                   · intro h
                     rcases h.2.2 with b | b
                     · have b : m.k = 3 := b
                       omega
                     · have e := rows_nil.1 b.2
                       rw [e]; rfl)
    · (try replace hg25 := of_decide_eq_false hg25)
      refine vl_off rfl rfl rfl rfl (.some rfl) ?_
      refine vl_off rfl rfl rfl rfl (.some rfl) ?_
      refine vl_off rfl rfl rfl rfl (.some rfl) ?_
      refine vl_off rfl rfl rfl rfl (.some rfl) ?_
      refine vl_off rfl rfl rfl rfl (.some rfl) ?_
      refine vl_off rfl rfl rfl rfl (.some rfl) ?_
      refine vl_off rfl rfl rfl rfl (.some rfl) ?_
      refine vl_offU rfl rfl rfl rfl (.some rfl) ?_
      refine vl_offU rfl rfl rfl rfl (.some rfl) ?_
      refine vl_offU rfl rfl rfl rfl (.some rfl) ?_
      refine vl_offU rfl rfl rfl rfl (.some rfl) ?_
      refine vl_offU rfl rfl rfl rfl (.some rfl) ?_
      refine vl_offU rfl rfl rfl rfl (.some rfl) ?_
      refine vl_offU rfl rfl rfl rfl (.some rfl) ?_
      refine vl_offU rfl rfl rfl rfl (.some rfl) ?_
      refine vl_off rfl rfl rfl rfl (.some rfl) ?_
      refine vl_val rfl (.some rfl) (val_pick rfl rfl) ?_
      refine vl_nil ?_
      refine vc_cond rfl (fun h => by cases h) (fun _ => ?_)
      refine vc_skip ?_
      refine vc_seq ?_
      refine vc_region ?_
      refine vl_val rfl (.some rfl) (by first | exact val_fieldAddr Try.runUnderlying43 rfl Try.sizeOf3 rfl | exact val_fieldAddrR Try.runUnderlying43 rfl Try.sizeOf3 rfl) ?_
      refine vl_val rfl (.some rfl) (val_load Try.isAgg3 rfl (by first | exact cell_cells (by repeat constructor) rfl | exact cell_rd (by first | exact rd_sl (by repeat constructor) | exact rd_old (by assumption) rfl) (by first | exact bcells_at (by omega) | exact ucells_at (by omega) | exact icells_at (by omega) | exact tcells_at (by omega) | exact bcells_get (by omega) | exact icells_get (by omega) | exact tcells_get (by omega) | exact ucells_get (by omega)) | exact cell_old (by assumption) (by simp [fps]))) ?_
      refine vl_val rfl (.some rfl) (val_eq rfl rfl) ?_
      refine vl_val rfl (.some rfl) (val_move rfl) ?_
      refine vl_split (t := 46) rfl (fun hg46 => ?_) (fun hg46 => ?_)
      · (try replace hg46 := of_decide_eq_true hg46)
        refine vl_off rfl rfl rfl rfl (.some rfl) ?_
        refine vl_off rfl rfl rfl rfl (.some rfl) ?_
        refine vl_off rfl rfl rfl rfl (.some rfl) ?_
        refine vl_off rfl rfl rfl rfl (.some rfl) ?_
        refine vl_offU rfl rfl rfl rfl (.some rfl) ?_
        refine vl_offU rfl rfl rfl rfl (.some rfl) ?_
        refine vl_offU rfl rfl rfl rfl (.some rfl) ?_
        refine vl_offU rfl rfl rfl rfl (.some rfl) ?_
        refine vl_off rfl rfl rfl rfl (.some rfl) ?_
        refine vl_val rfl (.some rfl) (val_pick rfl rfl) ?_
        refine vl_val rfl (.some rfl) (val_assign rfl) ?_
        refine vl_nil ?_
        refine vc_ret ?_
        refine ⟨_, [], _, res1 Try.results65 rfl, .nil, ?_⟩
        have p1 : (recOf m).k = 1 ∨ noT (recOf m).t := by first | exact .inl (show m.k = 1 by omega) | exact .inr ⟨sL_nil.1 (by simpa using hg12), len_nil.1 (show m.cs.length = 0 by omega)⟩
        have p2 : (recOf m).k = 2 ∨ noR (recOf m).r := by first | exact .inl (show m.k = 2 by omega) | exact .inr ⟨(app_nil.1 (sL_nil.1 (by simpa using hg32))).1, (app_nil.1 (sL_nil.1 (by simpa using hg32))).2, len_nil.1 (show m.ds.length = 0 by omega), len_nil.1 (show m.ms.length = 0 by omega)⟩
        show Value.bool _ = Value.bool _
        refine congrArg Value.bool ?_
        first
          | exact (decide_eq_true (p := bareP (recOf m)) ⟨p1, p2, .inl (show m.k = 3 by omega)⟩).symm
          | exact (decide_eq_false (p := bareP (recOf m)) (fun h => by
              rcases h.2.2 with b | b
              · have b : m.k = 3 := b
                omega
              · exact hg50 (sL_nil.2 b.1))).symm
          | (rw [decide_eq_decide]
             constructor
             · intro h
               exact ⟨p1, p2, .inr ⟨sL_nil.1 hg50, rows_nil.2 (len_nil.1 (show m.rs.length = 0 by omega))⟩⟩
             · intro h
               rcases h.2.2 with b | b
               · have b : m.k = 3 := b
                 omega
               · have e := rows_nil.1 b.2
                 rw [e]; rfl)
      · (try replace hg46 := of_decide_eq_false hg46)
        refine vl_on rfl rfl rfl rfl ?_
        refine vl_val rfl (.some rfl) (by first | exact val_fieldAddr Try.runUnderlying43 rfl Try.sizeOf9 rfl | exact val_fieldAddrR Try.runUnderlying43 rfl Try.sizeOf9 rfl) ?_
        refine vl_on rfl rfl rfl rfl ?_
        refine vl_val rfl (.some rfl) (val_load Try.isAgg9 rfl (by first | exact cell_cells (by repeat constructor) rfl | exact cell_rd (by first | exact rd_sl (by repeat constructor) | exact rd_old (by assumption) rfl) (by first | exact bcells_at (by omega) | exact ucells_at (by omega) | exact icells_at (by omega) | exact tcells_at (by omega) | exact bcells_get (by omega) | exact icells_get (by omega) | exact tcells_get (by omega) | exact ucells_get (by omega)) | exact cell_old (by assumption) (by simp [fps]))) ?_
        refine vl_on rfl rfl rfl rfl ?_
        refine vl_val rfl (.some rfl) (val_seq rfl rfl) ?_
        refine vl_on rfl rfl rfl rfl ?_
        refine vl_val rfl (.some rfl) (val_move rfl) ?_
        refine vl_split (t := 50) rfl (fun hg50 => ?_) (fun hg50 => ?_)
        · (try replace hg50 := of_decide_eq_true hg50)
          refine vl_on rfl rfl rfl rfl ?_
          refine vl_val rfl (.some rfl) (by first | exact val_fieldAddr Try.runUnderlying43 rfl Try.sizeOf41 rfl | exact val_fieldAddrR Try.runUnderlying43 rfl Try.sizeOf41 rfl) ?_
          refine vl_on rfl rfl rfl rfl ?_
          refine vl_val rfl (.some rfl) (val_load Try.isAgg41 rfl (by first | exact cell_cells (by repeat constructor) rfl | exact cell_rd (by first | exact rd_sl (by repeat constructor) | exact rd_old (by assumption) rfl) (by first | exact bcells_at (by omega) | exact ucells_at (by omega) | exact icells_at (by omega) | exact tcells_at (by omega) | exact bcells_get (by omega) | exact icells_get (by omega) | exact tcells_get (by omega) | exact ucells_get (by omega)) | exact cell_old (by assumption) (by simp [fps]))) ?_
          refine vl_on rfl rfl rfl rfl ?_
          refine vl_val rfl (.some rfl) (val_lenSl Try.runUnderlying41 rfl) ?_
          refine vl_on rfl rfl rfl rfl ?_
          refine vl_val rfl (.some rfl) (val_eq rfl rfl) ?_
          refine vl_on rfl rfl rfl rfl ?_
          refine vl_val rfl (.some rfl) (val_pick rfl rfl) ?_
          refine vl_val rfl (.some rfl) (val_pick rfl rfl) ?_
          refine vl_val rfl (.some rfl) (val_assign rfl) ?_
          refine vl_nil ?_
          refine vc_ret ?_
          refine ⟨_, [], _, res1 Try.results65 rfl, .nil, ?_⟩
          have p1 : (recOf m).k = 1 ∨ noT (recOf m).t := by first | exact .inl (show m.k = 1 by omega) | exact .inr ⟨sL_nil.1 (by simpa using hg12), len_nil.1 (show m.cs.length = 0 by omega)⟩
          have p2 : (recOf m).k = 2 ∨ noR (recOf m).r := by first | exact .inl (show m.k = 2 by omega) | exact .inr ⟨(app_nil.1 (sL_nil.1 (by simpa using hg32))).1, (app_nil.1 (sL_nil.1 (by simpa using hg32))).2, len_nil.1 (show m.ds.length = 0 by omega), len_nil.1 (show m.ms.length = 0 by omega)⟩
          show Value.bool _ = Value.bool _
          refine congrArg Value.bool ?_
          first
            | exact (decide_eq_true (p := bareP (recOf m)) ⟨p1, p2, .inl (show m.k = 3 by omega)⟩).symm
            | exact (decide_eq_false (p := bareP (recOf m)) (fun h => by
                rcases h.2.2 with b | b
                · have b : m.k = 3 := b
                  omega
                · exact hg50 (sL_nil.2 b.1))).symm
            | (rw [decide_eq_decide]
               constructor
               · intro h
                 exact ⟨p1, p2, .inr ⟨sL_nil.1 hg50, rows_nil.2 (len_nil.1 (show m.rs.length = 0 by omega))⟩⟩
               · intro h
                 rcases h.2.2 with b | b
                 · have b : m.k = 3 := b
                   omega
                 · have e := rows_nil.1 b.2
                   rw [e]; rfl)
        · (try replace hg50 := of_decide_eq_false hg50)
          refine vl_off rfl rfl rfl rfl (.some rfl) ?_
          refine vl_off rfl rfl rfl rfl (.some rfl) ?_
          refine vl_off rfl rfl rfl rfl (.some rfl) ?_
          refine vl_off rfl rfl rfl rfl (.some rfl) ?_
          refine vl_on rfl rfl rfl rfl ?_
          refine vl_val rfl (.some rfl) (val_pick rfl rfl) ?_
          refine vl_val rfl (.some rfl) (val_pick rfl rfl) ?_
          refine vl_val rfl (.some rfl) (val_assign rfl) ?_
          refine vl_nil ?_
          refine vc_ret ?_
          refine ⟨_, [], _, res1 Try.results65 rfl, .nil, ?_⟩
          have p1 : (recOf m).k = 1 ∨ noT (recOf m).t := by first | exact .inl (show m.k = 1 by omega) | exact .inr ⟨sL_nil.1 (by simpa using hg12), len_nil.1 (show m.cs.length = 0 by omega)⟩
          have p2 : (recOf m).k = 2 ∨ noR (recOf m).r := by first | exact .inl (show m.k = 2 by omega) | exact .inr ⟨(app_nil.1 (sL_nil.1 (by simpa using hg32))).1, (app_nil.1 (sL_nil.1 (by simpa using hg32))).2, len_nil.1 (show m.ds.length = 0 by omega), len_nil.1 (show m.ms.length = 0 by omega)⟩
          show Value.bool _ = Value.bool _
          refine congrArg Value.bool ?_
          first
            | exact (decide_eq_true (p := bareP (recOf m)) ⟨p1, p2, .inl (show m.k = 3 by omega)⟩).symm
            | exact (decide_eq_false (p := bareP (recOf m)) (fun h => by
                rcases h.2.2 with b | b
                · have b : m.k = 3 := b
                  omega
                · exact hg50 (sL_nil.2 b.1))).symm
            | (rw [decide_eq_decide]
               constructor
               · intro h
                 exact ⟨p1, p2, .inr ⟨sL_nil.1 hg50, rows_nil.2 (len_nil.1 (show m.rs.length = 0 by omega))⟩⟩
               · intro h
                 rcases h.2.2 with b | b
                 · have b : m.k = 3 := b
                   omega
                 · have e := rows_nil.1 b.2
                   rw [e]; rfl)
set_option maxRecDepth 20000 in
theorem xGood1 (m : RecM) (hk : m.k = 1) (hL : RecL m) (w : World) (hR : RecR w m) : FnV Try.prog 27 [recA m] (.bool (decide (goodRec (recOf m)))) w := by
  have hof : ofR m = .iface 159 (.agg (tabC m).toArray) := by unfold ofR; rw [if_pos hk]
  refine fn_enter Try.func27 rfl Try.ntmps27 rfl ?_
  refine vc_seq ?_
  refine vc_region ?_
  refine vl_box rfl rfl (.some rfl) rfl (fun r1 => ?_)
  refine vl_val rfl (.some rfl) (val_assign rfl) ?_
  refine vl_nil ?_
  refine vc_seq ?_
  refine vc_region ?_
  refine vl_val rfl (.some rfl) (val_loadAgg Try.isAgg43 Try.sizeOf43 rfl (by first | exact cells_whole (by repeat constructor) | exact cells_part (by repeat constructor) rfl) rfl) ?_
  refine vl_callV rfl rfl (.some rfl) Try.call55 rfl (fun w hw => xOf m w) ?_
  rw [hof]
  refine vl_val rfl (.some rfl) (val_assign rfl) ?_
  refine vl_nil ?_
  refine vc_seq ?_
  refine vc_region ?_
  refine vl_val rfl (.some rfl) (val_move rfl) ?_
  refine vl_val rfl (.some rfl) (val_opO rfl rfl guard_iface (bin_iface_ne Try.runUnderlying109)) ?_
  refine vl_val rfl (.some rfl) (val_move rfl) ?_
  refine vl_on rfl rfl rfl rfl ?_
  refine vl_val rfl (.some rfl) (val_move rfl) ?_
  refine vl_on rfl rfl rfl rfl ?_
  refine vl_invokeV (f := 172) (v := .agg (tabC m).toArray) rfl rfl (.some rfl) rfl rfl (fun args w => by kernel_rfl) (fun w hw => tGood m w) ?_
  refine vl_val rfl (.some rfl) (val_pick rfl rfl) ?_
  refine vl_val rfl (.some rfl) (val_move rfl) ?_
  refine vl_split (t := 12) rfl (fun hg12 => ?_) (fun hg12 => ?_)
  · (try replace hg12 := of_decide_eq_true hg12)
    refine vl_on rfl rfl rfl rfl ?_
    refine vl_val rfl (.some rfl) (val_loadAgg Try.isAgg43 Try.sizeOf43 rfl (by first | exact cells_whole (by repeat constructor) | exact cells_part (by repeat constructor) rfl) rfl) ?_
    refine vl_on rfl rfl rfl rfl ?_
    refine vl_callV rfl rfl (.some rfl) Try.call65 rfl (fun w hw => xBare m hL w) ?_
    refine vl_val rfl (.some rfl) (val_pick rfl rfl) ?_
    refine vl_val rfl (.some rfl) (val_assign rfl) ?_
    refine vl_nil ?_
    refine vc_ret ?_
    refine ⟨_, [], _, res1 Try.results27 rfl, .nil, ?_⟩
    show Value.bool _ = Value.bool _
    refine congrArg Value.bool ?_
    first
      | (rw [decide_eq_decide, good_bare]; exact ⟨fun h => ⟨.inl ⟨hk, hg12⟩, h⟩, fun h => h.2⟩)
      | exact (decide_eq_false (fun h => by
          rw [good_bare] at h
          rcases h.1 with ⟨a, b⟩ | ⟨a, b⟩ | ⟨a, b⟩
          all_goals first | exact hg12 b | (have a : m.k = _ := a; omega))).symm
  · (try replace hg12 := of_decide_eq_false hg12)
    refine vl_off rfl rfl rfl rfl (.some rfl) ?_
    refine vl_off rfl rfl rfl rfl (.some rfl) ?_
    refine vl_val rfl (.some rfl) (val_pick rfl rfl) ?_
    refine vl_val rfl (.some rfl) (val_assign rfl) ?_
    refine vl_nil ?_
    refine vc_ret ?_
    refine ⟨_, [], _, res1 Try.results27 rfl, .nil, ?_⟩
    show Value.bool _ = Value.bool _
    refine congrArg Value.bool ?_
    first
      | (rw [decide_eq_decide, good_bare]; exact ⟨fun h => ⟨.inl ⟨hk, hg12⟩, h⟩, fun h => h.2⟩)
      | exact (decide_eq_false (fun h => by
          rw [good_bare] at h
          rcases h.1 with ⟨a, b⟩ | ⟨a, b⟩ | ⟨a, b⟩
          all_goals first | exact hg12 b | (have a : m.k = _ := a; omega))).symm
set_option maxRecDepth 20000 in
theorem xGood2 (m : RecM) (hk : m.k = 2) (hL : RecL m) (w : World) (hR : RecR w m) : FnV Try.prog 27 [recA m] (.bool (decide (goodRec (recOf m)))) w := by
  have hof : ofR m = .iface 161 (.agg (rolC m).toArray) := by unfold ofR; rw [if_neg (by omega), if_pos hk]
  refine fn_enter Try.func27 rfl Try.ntmps27 rfl ?_
  refine vc_seq ?_
  refine vc_region ?_
  refine vl_box rfl rfl (.some rfl) rfl (fun r1 => ?_)
  refine vl_val rfl (.some rfl) (val_assign rfl) ?_
  refine vl_nil ?_
  refine vc_seq ?_
  refine vc_region ?_
  refine vl_val rfl (.some rfl) (val_loadAgg Try.isAgg43 Try.sizeOf43 rfl (by first | exact cells_whole (by repeat constructor) | exact cells_part (by repeat constructor) rfl) rfl) ?_
  refine vl_callV rfl rfl (.some rfl) Try.call55 rfl (fun w hw => xOf m w) ?_
  rw [hof]
  refine vl_val rfl (.some rfl) (val_assign rfl) ?_
  refine vl_nil ?_
  refine vc_seq ?_
  refine vc_region ?_
  refine vl_val rfl (.some rfl) (val_move rfl) ?_
  refine vl_val rfl (.some rfl) (val_opO rfl rfl guard_iface (bin_iface_ne Try.runUnderlying109)) ?_
  refine vl_val rfl (.some rfl) (val_move rfl) ?_
  refine vl_on rfl rfl rfl rfl ?_
  refine vl_val rfl (.some rfl) (val_move rfl) ?_
  refine vl_on rfl rfl rfl rfl ?_
  refine vl_invokeV (f := 176) (v := .agg (rolC m).toArray) rfl rfl (.some rfl) rfl rfl (fun args w => by kernel_rfl) (fun w hw => rGood13 m w) ?_
  refine vl_val rfl (.some rfl) (val_pick rfl rfl) ?_
  refine vl_val rfl (.some rfl) (val_move rfl) ?_
  refine vl_split (t := 12) rfl (fun hg12 => ?_) (fun hg12 => ?_)
  · (try replace hg12 := of_decide_eq_true hg12)
    refine vl_on rfl rfl rfl rfl ?_
    refine vl_val rfl (.some rfl) (val_loadAgg Try.isAgg43 Try.sizeOf43 rfl (by first | exact cells_whole (by repeat constructor) | exact cells_part (by repeat constructor) rfl) rfl) ?_
    refine vl_on rfl rfl rfl rfl ?_
    refine vl_callV rfl rfl (.some rfl) Try.call65 rfl (fun w hw => xBare m hL w) ?_
    refine vl_val rfl (.some rfl) (val_pick rfl rfl) ?_
    refine vl_val rfl (.some rfl) (val_assign rfl) ?_
    refine vl_nil ?_
    refine vc_ret ?_
    refine ⟨_, [], _, res1 Try.results27 rfl, .nil, ?_⟩
    show Value.bool _ = Value.bool _
    refine congrArg Value.bool ?_
    first
      | (rw [decide_eq_decide, good_bare]; exact ⟨fun h => ⟨.inr (.inl ⟨hk, hg12⟩), h⟩, fun h => h.2⟩)
      | exact (decide_eq_false (fun h => by
          rw [good_bare] at h
          rcases h.1 with ⟨a, b⟩ | ⟨a, b⟩ | ⟨a, b⟩
          all_goals first | exact hg12 b | (have a : m.k = _ := a; omega))).symm
  · (try replace hg12 := of_decide_eq_false hg12)
    refine vl_off rfl rfl rfl rfl (.some rfl) ?_
    refine vl_off rfl rfl rfl rfl (.some rfl) ?_
    refine vl_val rfl (.some rfl) (val_pick rfl rfl) ?_
    refine vl_val rfl (.some rfl) (val_assign rfl) ?_
    refine vl_nil ?_
    refine vc_ret ?_
    refine ⟨_, [], _, res1 Try.results27 rfl, .nil, ?_⟩
    show Value.bool _ = Value.bool _
    refine congrArg Value.bool ?_
    first
      | (rw [decide_eq_decide, good_bare]; exact ⟨fun h => ⟨.inr (.inl ⟨hk, hg12⟩), h⟩, fun h => h.2⟩)
      | exact (decide_eq_false (fun h => by
          rw [good_bare] at h
          rcases h.1 with ⟨a, b⟩ | ⟨a, b⟩ | ⟨a, b⟩
          all_goals first | exact hg12 b | (have a : m.k = _ := a; omega))).symm
set_option maxRecDepth 20000 in
theorem xGood3 (m : RecM) (hk : m.k = 3) (hL : RecL m) (w : World) (hR : RecR w m) : FnV Try.prog 27 [recA m] (.bool (decide (goodRec (recOf m)))) w := by
  have hof : ofR m = .iface 163 (.agg (batC m).toArray) := by unfold ofR; rw [if_neg (by omega), if_neg (by omega), if_pos hk]
  refine fn_enter Try.func27 rfl Try.ntmps27 rfl ?_
  refine vc_seq ?_
  refine vc_region ?_
  refine vl_box rfl rfl (.some rfl) rfl (fun r1 => ?_)
  refine vl_val rfl (.some rfl) (val_assign rfl) ?_
  refine vl_nil ?_
  refine vc_seq ?_
  refine vc_region ?_
  refine vl_val rfl (.some rfl) (val_loadAgg Try.isAgg43 Try.sizeOf43 rfl (by first | exact cells_whole (by repeat constructor) | exact cells_part (by repeat constructor) rfl) rfl) ?_
  refine vl_callV rfl rfl (.some rfl) Try.call55 rfl (fun w hw => xOf m w) ?_
  rw [hof]
  refine vl_val rfl (.some rfl) (val_assign rfl) ?_
  refine vl_nil ?_
  refine vc_seq ?_
  refine vc_region ?_
  refine vl_val rfl (.some rfl) (val_move rfl) ?_
  refine vl_val rfl (.some rfl) (val_opO rfl rfl guard_iface (bin_iface_ne Try.runUnderlying109)) ?_
  refine vl_val rfl (.some rfl) (val_move rfl) ?_
  refine vl_on rfl rfl rfl rfl ?_
  refine vl_val rfl (.some rfl) (val_move rfl) ?_
  refine vl_on rfl rfl rfl rfl ?_
  refine vl_invokeV (f := 179) (v := .agg (batC m).toArray) rfl rfl (.some rfl) rfl rfl (fun args w => by kernel_rfl) (fun w hw => bGood m hL w (by exact rec_here hR hw)) ?_
  refine vl_val rfl (.some rfl) (val_pick rfl rfl) ?_
  refine vl_val rfl (.some rfl) (val_move rfl) ?_
  refine vl_split (t := 12) rfl (fun hg12 => ?_) (fun hg12 => ?_)
  · (try replace hg12 := of_decide_eq_true hg12)
    refine vl_on rfl rfl rfl rfl ?_
    refine vl_val rfl (.some rfl) (val_loadAgg Try.isAgg43 Try.sizeOf43 rfl (by first | exact cells_whole (by repeat constructor) | exact cells_part (by repeat constructor) rfl) rfl) ?_
    refine vl_on rfl rfl rfl rfl ?_
    refine vl_callV rfl rfl (.some rfl) Try.call65 rfl (fun w hw => xBare m hL w) ?_
    refine vl_val rfl (.some rfl) (val_pick rfl rfl) ?_
    refine vl_val rfl (.some rfl) (val_assign rfl) ?_
    refine vl_nil ?_
    refine vc_ret ?_
    refine ⟨_, [], _, res1 Try.results27 rfl, .nil, ?_⟩
    show Value.bool _ = Value.bool _
    refine congrArg Value.bool ?_
    first
      | (rw [decide_eq_decide, good_bare]; exact ⟨fun h => ⟨.inr (.inr ⟨hk, hg12⟩), h⟩, fun h => h.2⟩)
      | exact (decide_eq_false (fun h => by
          rw [good_bare] at h
          rcases h.1 with ⟨a, b⟩ | ⟨a, b⟩ | ⟨a, b⟩
          all_goals first | exact hg12 b | (have a : m.k = _ := a; omega))).symm
  · (try replace hg12 := of_decide_eq_false hg12)
    refine vl_off rfl rfl rfl rfl (.some rfl) ?_
    refine vl_off rfl rfl rfl rfl (.some rfl) ?_
    refine vl_val rfl (.some rfl) (val_pick rfl rfl) ?_
    refine vl_val rfl (.some rfl) (val_assign rfl) ?_
    refine vl_nil ?_
    refine vc_ret ?_
    refine ⟨_, [], _, res1 Try.results27 rfl, .nil, ?_⟩
    show Value.bool _ = Value.bool _
    refine congrArg Value.bool ?_
    first
      | (rw [decide_eq_decide, good_bare]; exact ⟨fun h => ⟨.inr (.inr ⟨hk, hg12⟩), h⟩, fun h => h.2⟩)
      | exact (decide_eq_false (fun h => by
          rw [good_bare] at h
          rcases h.1 with ⟨a, b⟩ | ⟨a, b⟩ | ⟨a, b⟩
          all_goals first | exact hg12 b | (have a : m.k = _ := a; omega))).symm
set_option maxRecDepth 20000 in
theorem xGood0 (m : RecM) (hk : m.k ≠ 1 ∧ m.k ≠ 2 ∧ m.k ≠ 3) (w : World) : FnV Try.prog 27 [recA m] (.bool (decide (goodRec (recOf m)))) w := by
  have hof : ofR m = .nilIface := by unfold ofR; rw [if_neg hk.1, if_neg hk.2.1, if_neg hk.2.2]
  refine fn_enter Try.func27 rfl Try.ntmps27 rfl ?_
  refine vc_seq ?_
  refine vc_region ?_
  refine vl_box rfl rfl (.some rfl) rfl (fun r1 => ?_)
  refine vl_val rfl (.some rfl) (val_assign rfl) ?_
  refine vl_nil ?_
  refine vc_seq ?_
  refine vc_region ?_
  refine vl_val rfl (.some rfl) (val_loadAgg Try.isAgg43 Try.sizeOf43 rfl (by first | exact cells_whole (by repeat constructor) | exact cells_part (by repeat constructor) rfl) rfl) ?_
  refine vl_callV rfl rfl (.some rfl) Try.call55 rfl (fun w hw => xOf m w) ?_
  rw [hof]
  refine vl_val rfl (.some rfl) (val_assign rfl) ?_
  refine vl_nil ?_
  refine vc_seq ?_
  refine vc_region ?_
  refine vl_val rfl (.some rfl) (val_move rfl) ?_
  refine vl_val rfl (.some rfl) (val_opO rfl rfl guard_ifnil (bin_ifnil_ne Try.runUnderlying109)) ?_
  refine vl_val rfl (.some rfl) (val_move rfl) ?_
  refine vl_off rfl rfl rfl rfl (.some rfl) ?_
  refine vl_off rfl rfl rfl rfl (.some rfl) ?_
  refine vl_val rfl (.some rfl) (val_pick rfl rfl) ?_
  refine vl_val rfl (.some rfl) (val_move rfl) ?_
  refine vl_off rfl rfl rfl rfl (.some rfl) ?_
  refine vl_off rfl rfl rfl rfl (.some rfl) ?_
  refine vl_val rfl (.some rfl) (val_pick rfl rfl) ?_
  refine vl_val rfl (.some rfl) (val_assign rfl) ?_
  refine vl_nil ?_
  refine vc_ret ?_
  refine ⟨_, [], _, res1 Try.results27 rfl, .nil, ?_⟩
  show Value.bool false = _
  rw [decide_eq_false (fun h => by
    rw [good_bare] at h
    rcases h.1 with ⟨a, b⟩ | ⟨a, b⟩ | ⟨a, b⟩
    all_goals (have a : m.k = _ := a; omega))]

theorem xGoodR (m : RecM) (hL : RecL m) (w : World) (hR : RecR w m) : FnV Try.prog 27 [recA m] (.bool (decide (goodRec (recOf m)))) w := by
  by_cases h1 : m.k = 1
  · exact xGood1 m h1 hL w hR
  · by_cases h2 : m.k = 2
    · exact xGood2 m h2 hL w hR
    · by_cases h3 : m.k = 3
      · exact xGood3 m h3 hL w hR
      · exact xGood0 m ⟨h1, h2, h3⟩ w




theorem w_u64N (n : Int) : IntKind.u64.wrap n = ((u64N n : Nat) : Int) := by rw [wu64_mod]; unfold u64N; omega
theorem u64N_lt (n : Int) : u64N n < 18446744073709551616 := by unfold u64N; omega
theorem u64N_nat {n : Nat} (h : n < 18446744073709551616) : u64N (n : Int) = n := by unfold u64N; omega
theorem sL_list (l : List UInt8) : (sL l).data.toList = l := by simp [sL]
theorem putTx_len (s : Tx) : (putTx s).length ≤ s.length + 10 := by unfold putTx; rw [List.length_append]; have := putN_len s.length; omega
theorem putCq_len (c : Cq) : (putCq c).length ≤ c.1.length + 20 := by unfold putCq; rw [List.length_append]; have := putTx_len c.1; have := putN_len (u64N c.2); omega
theorem putMq_len (c : Mq) : (putMq c).length ≤ c.2.length + 20 := by unfold putMq; rw [List.length_append]; have := putTx_len c.2; have := putN_len (u64N c.1); omega
theorem flat_le {α : Type} {f : α → Tx} {l : List α} {b : Nat} (h : ∀ x ∈ l, (f x).length ≤ b) : (l.flatMap f).length ≤ l.length * b := by
  induction l with
  | nil => simp
  | cons a l ih =>
    rw [List.flatMap_cons, List.length_append, List.length_cons, Nat.add_mul]
    have := h a (by simp)
    have := ih (fun x hx => h x (by simp [hx]))
    omega
theorem flat_tk {α : Type} (d : α) (f : α → Tx) {l : List α} {i : Nat} (h : i < l.length) : (l.take (i + 1)).flatMap f = (l.take i).flatMap f ++ f (l.getD i d) := by
  rw [take_push d h, List.flatMap_append]; simp
theorem getD_inL {α : Type} (d : α) {l : List α} {i : Nat} (h : i < l.length) : l.getD i d ∈ l := by simp [List.getD, h]
theorem tk_le {α : Type} {f : α → Tx} {l : List α} {b i : Nat} (h : ∀ x ∈ l, (f x).length ≤ b) (hi : i ≤ l.length) : ((l.take i).flatMap f).length ≤ l.length * b := by
  refine Nat.le_trans (flat_le (fun x hx => h x (List.mem_of_mem_take hx))) ?_
  rw [List.length_take]
  exact Nat.mul_le_mul_right _ (by omega)

set_option maxRecDepth 20000 in
theorem xNum (A : Option Addr) (c : Nat) (b : List UInt8) (hb : b.length ≤ 900000000) (n : Int) (w : World) (hr : Reads w A (bcells b)) : Fn Try.prog 56 [.slice A b.length c, .int .i64 n] [] (ret fun v H' => ∃ A' c', v = .slice A' (b ++ putN (u64N n)).length c' ∧ H' = [BY A' (b ++ putN (u64N n)).length c' (b ++ putN (u64N n))]) w := by
  refine fn_enter Try.func56 rfl Try.ntmps56 rfl ?_
  refine vc_seq ?_
  refine vc_region ?_
  refine vl_val rfl (.some rfl) (val_assign rfl) ?_
  refine vl_nil ?_
  refine vc_seq ?_
  refine vc_region ?_
  refine vl_val rfl (.some rfl) (val_move rfl) ?_
  refine vl_val rfl (.some rfl) (val_move rfl) ?_
  refine vl_val rfl (.some rfl) (val_convInt Try.runUnderlying3 Try.runUnderlying23 rfl (w_u64N n)) ?_
  refine vl_call (C := []) rfl rfl (.some rfl) Try.call52 rfl .nil (fun w hw => cPut A c b (u64N n) (u64N_lt n) (by omega) w (rdw (rd_old hr rfl) hw)) (fun v H' h => ?_)
  obtain ⟨A8, c8, rfl, rfl⟩ := h
  show VL _ _ _ _ _ (_ :: _)
  refine vl_val rfl (.some rfl) (val_assign rfl) ?_
  refine vl_nil ?_
  refine vc_ret ?_
  refine ⟨_, [BY A8 (b ++ putN (u64N n)).length c8 (b ++ putN (u64N n))], _, res1 Try.results56 rfl, (by repeat constructor), ?_⟩
  exact ⟨A8, c8, rfl, rfl⟩
set_option maxRecDepth 20000 in
theorem xText (A : Option Addr) (c : Nat) (b : List UInt8) (hb : b.length ≤ 900000000) (s : Tx) (hs : s.length ≤ 3000000) (w : World) (hr : Reads w A (bcells b)) : Fn Try.prog 175 [.slice A b.length c, .string (sL s)] [] (ret fun v H' => ∃ A' c', v = .slice A' (b ++ putTx s).length c' ∧ H' = [BY A' (b ++ putTx s).length c' (b ++ putTx s)]) w := by
  have hsz := sL_size s
  refine fn_enter Try.func175 rfl Try.ntmps175 rfl ?_
  refine vc_seq ?_
  refine vc_region ?_
  refine vl_val rfl (.some rfl) (val_assign rfl) ?_
  refine vl_nil ?_
  refine vc_seq ?_
  refine vc_region ?_
  refine vl_val rfl (.some rfl) (val_move rfl) ?_
  refine vl_val rfl (.some rfl) (val_move rfl) ?_
  refine vl_val rfl (.some rfl) (val_lenStr Try.runUnderlying9 rfl) ?_
  refine vl_call (C := []) rfl rfl (.some rfl) Try.call56 rfl .nil (fun w hw => xNum A c b hb ((sL s).size : Int) w (rdw (rd_old hr rfl) hw)) (fun v H' h => ?_)
  obtain ⟨A8, c8, rfl, rfl⟩ := h
  show VL _ _ _ _ _ (_ :: _)
  rw [hsz, u64N_nat (by omega)]
  refine vl_val rfl (.some rfl) (val_move rfl) ?_
  refine vl_appendStr sT22 Try.underlying9 rfl rfl (.some rfl) rfl rfl (by simp only [List.length_append, sL_size]; have := putN_len (s).length; omega) (by repeat constructor) (fun A10 k10 => ?_)
  rw [strc, sL_list, sL_size, show (b ++ putN s.length).length + (s).length = (b ++ putN s.length ++ s).length from List.length_append.symm, List.append_assoc]
  refine vl_val rfl (.some rfl) (val_assign rfl) ?_
  refine vl_nil ?_
  refine vc_ret ?_
  refine ⟨_, [BY A10 (b ++ putTx s).length k10 (b ++ putTx s)], _, res1 Try.results175 rfl, (by repeat constructor), ?_⟩
  exact ⟨A10, k10, rfl, rfl⟩
set_option maxRecDepth 20000 in
set_option maxHeartbeats 1000000 in
theorem tPut (m : RecM) (hcs : m.cs.length ≤ 8) (htn : m.tn.length ≤ 2000000) (hx : ∀ x ∈ m.cs, x.1.length ≤ 2000000) (A : Option Addr) (c : Nat) (b : List UInt8) (hb : b.length ≤ 1000) (w : World) (hR : RecR w m) (hr : Reads w A (bcells b)) : Fn Try.prog 173 [.agg (tabC m).toArray, .slice A b.length c] [] (ret fun v H' => ∃ A' c', v = .slice A' (b ++ putT ⟨m.tn, m.cs⟩).length c' ∧ H' = [BY A' (b ++ putT ⟨m.tn, m.cs⟩).length c' (b ++ putT ⟨m.tn, m.cs⟩)]) w := by
  have hp1 := putTx_len m.tn
  have hp2 := putN_len m.cs.length
  have hpc : ∀ x ∈ m.cs, (putCq x).length ≤ 2000020 := fun x h => by have := putCq_len x; have := hx x h; omega
  refine fn_enter Try.func173 rfl Try.ntmps173 rfl ?_
  refine vc_seq ?_
  refine vc_region ?_
  refine vl_box rfl rfl (.some rfl) rfl (fun r2 => ?_)
  refine vl_val rfl (.some rfl) (val_assign rfl) ?_
  refine vl_nil ?_
  refine vc_seq ?_
  refine vc_drawsS [0, 1, 2, 3, 5, 6, 7, 8, 10] [] [0, 1, 2, 3, 5, 6, 7, 8, 4, 9, 10] [cells r2 (tabC m) 159] (by repeat constructor) rfl (by kernel_rfl) (fun _ _ _ h => h) ?_
  refine vd_val rfl rfl rfl (.some rfl) (val_move rfl) ?_
  refine vd_val rfl rfl rfl (.some rfl) (by first | exact val_fieldAddr Try.runUnderlying159 rfl Try.sizeOf36 rfl | exact val_fieldAddrR Try.runUnderlying159 rfl Try.sizeOf36 rfl) ?_
  refine vd_val rfl rfl rfl (.some rfl) (by first | exact val_fieldAddr Try.runUnderlying36 rfl Try.sizeOf9 rfl | exact val_fieldAddrR Try.runUnderlying36 rfl Try.sizeOf9 rfl) ?_
  refine vd_val rfl rfl rfl (.some rfl) (val_load Try.isAgg9 rfl (by first | exact cell_cells (by repeat constructor) rfl | exact cell_rd (by first | exact rd_sl (by repeat constructor) | exact rd_old (by assumption) rfl) (by first | exact bcells_at (by omega) | exact ucells_at (by omega) | exact icells_at (by omega) | exact tcells_at (by omega) | exact bcells_get (by omega) | exact icells_get (by omega) | exact tcells_get (by omega) | exact ucells_get (by omega)) | exact cell_old (by assumption) (by simp [fps]))) ?_
  refine vd_val rfl rfl rfl (.some rfl) (by first | exact val_fieldAddr Try.runUnderlying159 rfl Try.sizeOf36 rfl | exact val_fieldAddrR Try.runUnderlying159 rfl Try.sizeOf36 rfl) ?_
  refine vd_val rfl rfl rfl (.some rfl) (by first | exact val_fieldAddr Try.runUnderlying36 rfl Try.sizeOf34 rfl | exact val_fieldAddrR Try.runUnderlying36 rfl Try.sizeOf34 rfl) ?_
  refine vd_val rfl rfl rfl (.some rfl) (val_load Try.isAgg34 rfl (by first | exact cell_cells (by repeat constructor) rfl | exact cell_rd (by first | exact rd_sl (by repeat constructor) | exact rd_old (by assumption) rfl) (by first | exact bcells_at (by omega) | exact ucells_at (by omega) | exact icells_at (by omega) | exact tcells_at (by omega) | exact bcells_get (by omega) | exact icells_get (by omega) | exact tcells_get (by omega) | exact ucells_get (by omega)) | exact cell_old (by assumption) (by simp [fps]))) ?_
  refine vd_val rfl rfl rfl (.some rfl) (val_lenSl Try.runUnderlying34 rfl) ?_
  refine vd_op rfl rfl ?_
  refine vl_call (C := []) rfl rfl (.some rfl) Try.call175 rfl .nil (fun w hw => xText A c b (by omega) m.tn (by omega) w (rdw (rd_old hr rfl) hw)) (fun v H' h => ?_)
  obtain ⟨A11, c11, rfl, rfl⟩ := h
  show VL _ _ _ _ _ (_ :: _)
  refine vl_nil ?_
  refine ⟨fun _ => ⟨_, (by repeat (first | exact .nil | exact sub_self _ | exact sub_skip (sub_self _) | exact sub_skip (sub_skip (sub_self _)) | exact sub_skip (sub_skip (sub_skip (sub_self _))) | (apply Sub.cons; · repeat (first | exact .head | apply Take.tail))))⟩, ?_⟩
  refine vd_op rfl rfl ?_
  refine vl_call (C := []) rfl rfl (.some rfl) Try.call56 rfl .nil (fun w hw => xNum A11 c11 (b ++ putTx m.tn) (by rw [List.length_append]; omega) (m.cs.length : Int) w (rdw (rd_sl (by repeat constructor)) hw)) (fun v H' h => ?_)
  obtain ⟨A16, c16, rfl, rfl⟩ := h
  show VL _ _ _ _ _ (_ :: _)
  rw [u64N_nat (by omega)]
  refine vl_nil ?_
  refine ⟨fun _ => ⟨_, (by repeat (first | exact .nil | exact sub_self _ | exact sub_skip (sub_self _) | exact sub_skip (sub_skip (sub_self _)) | exact sub_skip (sub_skip (sub_skip (sub_self _))) | (apply Sub.cons; · repeat (first | exact .head | apply Take.tail))))⟩, ?_⟩
  refine vd_val rfl rfl rfl (.some rfl) (val_assign rfl) ?_
  refine vd_nil ?_
  refine vc_seq ?_
  refine vc_seq ?_
  refine vc_region ?_
  refine vl_val rfl (.some rfl) (by first | exact val_fieldAddr Try.runUnderlying159 rfl Try.sizeOf36 rfl | exact val_fieldAddrR Try.runUnderlying159 rfl Try.sizeOf36 rfl) ?_
  refine vl_val rfl (.some rfl) (by first | exact val_fieldAddr Try.runUnderlying36 rfl Try.sizeOf34 rfl | exact val_fieldAddrR Try.runUnderlying36 rfl Try.sizeOf34 rfl) ?_
  refine vl_val rfl (.some rfl) (val_load Try.isAgg34 rfl (by first | exact cell_cells (by repeat constructor) rfl | exact cell_rd (by first | exact rd_sl (by repeat constructor) | exact rd_old (by assumption) rfl) (by first | exact bcells_at (by omega) | exact ucells_at (by omega) | exact icells_at (by omega) | exact tcells_at (by omega) | exact bcells_get (by omega) | exact icells_get (by omega) | exact tcells_get (by omega) | exact ucells_get (by omega)) | exact cell_old (by assumption) (by simp [fps]))) ?_
  refine vl_val rfl (.some rfl) (val_lenSl Try.runUnderlying34 rfl) ?_
  refine vl_val rfl (.some rfl) (val_move rfl) ?_
  refine vl_nil ?_
  refine vc_block ?_
  rw [show b ++ putTx m.tn ++ putN m.cs.length = b ++ putTx m.tn ++ putN m.cs.length ++ (m.cs.take 0).flatMap putCq by simp]
  refine vc_loopw (fun q E H => ∃ (i : Nat) (A1 : Option Addr) (c1 : Nat), i ≤ m.cs.length ∧ q = m.cs.length - i ∧ E = [(2, .pointer (some ⟨r2, 0, none⟩)), (1, .slice A1 (b ++ putTx m.tn ++ putN m.cs.length ++ (m.cs.take i).flatMap putCq).length c1), (19, .slice m.Ac m.cs.length m.cc), (20, .int .i64 (m.cs.length : Nat)), (21, .int .i64 i)] ∧ H = [BY A1 (b ++ putTx m.tn ++ putN m.cs.length ++ (m.cs.take i).flatMap putCq).length c1 (b ++ putTx m.tn ++ putN m.cs.length ++ (m.cs.take i).flatMap putCq), cells r2 (tabC m) 159]) (m.cs.length) ⟨_, _, _, ⟨0, A16, c16, by omega, rfl, rfl, rfl⟩, (by repeat (first | exact trivial | refine ⟨rfl, ?_⟩ | refine ⟨le_item rfl (by first | rfl | (congr 1; omega) | (simp; done) | (simp; omega)), ?_⟩)), (by repeat constructor)⟩ ?_
  intro q E H hI
  obtain ⟨i, A1, c1, hi, rfl, rfl, rfl⟩ := hI
  refine vc_seq ?_
  refine vc_region ?_
  refine vl_val rfl (.some rfl) (val_lt rfl rfl) ?_
  refine vl_nil ?_
  refine vc_seq ?_
  refine vc_cond rfl (fun hc0 => ?_) (fun hc0 => ?_)
  · (try replace hc0 := of_decide_eq_true hc0)
    refine vc_skip ?_
    refine vc_seq ?_
    refine vc_block ?_
    refine vc_seq ?_
    refine vc_region ?_
    refine vl_val rfl (.some rfl) (val_indexAddr Try.runUnderlying34 Try.sizeOf96 rfl rfl (vs := m.cs.flatMap colV) (rd_old hR.cs rfl) (by omega) (by omega) (by rw [colC_len, Int.toNat_natCast]; omega)) ?_
    refine vl_val rfl (.some rfl) (val_loadAgg Try.isAgg96 Try.sizeOf96 rfl (cells_rd (us := colV (m.cs.getD i ([], 0))) (rd_old hR.cs rfl) (colC_at rfl (by omega))) rfl) ?_
    refine vl_alloc rfl rfl (.some rfl) Try.zeroValue96 (fun r6 => ?_)
    first | refine vl_store rfl rfl .none rfl rfl Try.sizeOf96 rfl (by repeat constructor) (by first | decide | exact Nat.le_refl _ | exact Nat.le_of_ble_eq_true rfl | (simp; omega)) ?_ | refine vl_storeSl rfl rfl .none rfl rfl Try.sizeOf96 rfl (by simp [Value.cells]) (by repeat constructor) (by first | decide | (simp [Value.cells]; omega)) ?_
    refine vl_nil ?_
    refine vc_drawsS [0, 1, 2, 4, 5, 7] [] [0, 1, 2, 4, 5, 3, 6, 7] [cells r6 (colV (m.cs.getD i ([], 0))) 96] (by repeat constructor) rfl (by kernel_rfl) (fun _ _ _ h => h) ?_
    refine vd_val rfl rfl rfl (.some rfl) (val_move rfl) ?_
    refine vd_val rfl rfl rfl (.some rfl) (by first | exact val_fieldAddr Try.runUnderlying96 rfl Try.sizeOf9 rfl | exact val_fieldAddrR Try.runUnderlying96 rfl Try.sizeOf9 rfl) ?_
    refine vd_val rfl rfl rfl (.some rfl) (val_load Try.isAgg9 rfl (by first | exact cell_cells (by repeat constructor) rfl | exact cell_rd (by first | exact rd_sl (by repeat constructor) | exact rd_old (by assumption) rfl) (by first | exact bcells_at (by omega) | exact ucells_at (by omega) | exact icells_at (by omega) | exact tcells_at (by omega) | exact bcells_get (by omega) | exact icells_get (by omega) | exact tcells_get (by omega) | exact ucells_get (by omega)) | exact cell_old (by assumption) (by simp [fps]))) ?_
    refine vd_val rfl rfl rfl (.some rfl) (by first | exact val_fieldAddr Try.runUnderlying96 rfl Try.sizeOf3 rfl | exact val_fieldAddrR Try.runUnderlying96 rfl Try.sizeOf3 rfl) ?_
    refine vd_val rfl rfl rfl (.some rfl) (val_load Try.isAgg3 rfl (by first | exact cell_cells (by repeat constructor) rfl | exact cell_rd (by first | exact rd_sl (by repeat constructor) | exact rd_old (by assumption) rfl) (by first | exact bcells_at (by omega) | exact ucells_at (by omega) | exact icells_at (by omega) | exact tcells_at (by omega) | exact bcells_get (by omega) | exact icells_get (by omega) | exact tcells_get (by omega) | exact ucells_get (by omega)) | exact cell_old (by assumption) (by simp [fps]))) ?_
    refine vd_op rfl rfl ?_
    have hq := hx _ (getD_inL ([], 0) (l := m.cs) (i := i) (by omega))
    have htk := tk_le hpc (i := i) hi
    have hol : (b ++ putTx m.tn ++ putN m.cs.length ++ (m.cs.take i).flatMap putCq).length ≤ 30000000 := by simp only [List.length_append]; omega
    refine vl_call (C := []) rfl rfl (.some rfl) Try.call175 rfl .nil (fun w hw => xText A1 c1 (b ++ putTx m.tn ++ putN m.cs.length ++ (m.cs.take i).flatMap putCq) (by omega) (m.cs.getD i ([], 0)).1 (by omega) w (rdw (rd_sl (by repeat constructor)) hw)) (fun v H' h => ?_)
    obtain ⟨A28, c28, rfl, rfl⟩ := h
    show VL _ _ _ _ _ (_ :: _)
    refine vl_nil ?_
    refine ⟨fun _ => ⟨_, (by repeat (first | exact .nil | exact sub_self _ | exact sub_skip (sub_self _) | exact sub_skip (sub_skip (sub_self _)) | exact sub_skip (sub_skip (sub_skip (sub_self _))) | (apply Sub.cons; · repeat (first | exact .head | apply Take.tail))))⟩, ?_⟩
    refine vd_op rfl rfl ?_
    have hq2 := putTx_len (m.cs.getD i ([], 0)).1
    refine vl_call (C := []) rfl rfl (.some rfl) Try.call56 rfl .nil (fun w hw => xNum A28 c28 (b ++ putTx m.tn ++ putN m.cs.length ++ (m.cs.take i).flatMap putCq ++ putTx (m.cs.getD i ([], 0)).1) (by rw [List.length_append]; omega) (m.cs.getD i ([], 0)).2 w (rdw (rd_sl (by repeat constructor)) hw)) (fun v H' h => ?_)
    obtain ⟨A31, c31, rfl, rfl⟩ := h
    show VL _ _ _ _ _ (_ :: _)
    rw [List.append_assoc (b ++ putTx m.tn ++ putN m.cs.length ++ (m.cs.take i).flatMap putCq), show putTx (m.cs.getD i ([], 0)).1 ++ putN (u64N (m.cs.getD i ([], 0)).2) = putCq (m.cs.getD i ([], 0)) from rfl, List.append_assoc (b ++ putTx m.tn ++ putN m.cs.length), ← flat_tk ([], 0) putCq (show i < m.cs.length by omega)]
    refine vl_nil ?_
    refine ⟨fun _ => ⟨_, (by repeat (first | exact .nil | exact sub_self _ | exact sub_skip (sub_self _) | exact sub_skip (sub_skip (sub_self _)) | exact sub_skip (sub_skip (sub_skip (sub_self _))) | (apply Sub.cons; · repeat (first | exact .head | apply Take.tail))))⟩, ?_⟩
    refine vd_val rfl rfl rfl (.some rfl) (val_assign rfl) ?_
    refine vd_nil ?_
    refine vc_region ?_
    refine vl_val rfl (.some rfl) (val_add rfl rfl (by first | exact w_i64 (by omega) (by omega) | rfl)) ?_
    refine vl_val rfl (.some rfl) (val_move rfl) ?_
    refine vl_nil ?_
    exact ⟨(m.cs.length - (i + 1)), _, _, _, by omega, (by repeat (first | exact trivial | refine ⟨rfl, ?_⟩ | refine ⟨le_item rfl (by first | rfl | (congr 1; omega) | (simp; done) | (simp; omega)), ?_⟩)), (by repeat constructor), ⟨i + 1, A31, c31, by omega, rfl, rfl, rfl⟩⟩
  · (try replace hc0 := of_decide_eq_false hc0)
    obtain rfl : i = m.cs.length := by omega
    rw [List.take_length, show b ++ putTx m.tn ++ putN m.cs.length ++ m.cs.flatMap putCq = b ++ putT ⟨m.tn, m.cs⟩ by unfold putT; simp only [List.append_assoc]]
    refine vc_exit ?_
    refine vc_seq ?_
    refine vc_region ?_
    refine vl_val rfl (.some rfl) (val_move rfl) ?_
    refine vl_val rfl (.some rfl) (val_assign rfl) ?_
    refine vl_nil ?_
    refine vc_ret ?_
    refine ⟨_, [BY A1 (b ++ putT ⟨m.tn, m.cs⟩).length c1 (b ++ putT ⟨m.tn, m.cs⟩)], _, res1 Try.results173 rfl, (by repeat constructor), ?_⟩
    exact ⟨A1, c1, rfl, rfl⟩


end Go.Proofs.Ytclnhfdgiaamhaa.K
