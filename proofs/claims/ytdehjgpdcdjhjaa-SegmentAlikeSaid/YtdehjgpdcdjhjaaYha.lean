/- Walks of the program's functions, printed by a program of this session; Lean checks them. -/
import Derived.Test.YtdehjgpdcdjhjaaCd
import Derived.Test.YtdehjgpdcdjhjaaCb
import Derived.Test.YtdehjgpdcdjhjaaCc
import Derived.Test.YtdehjgpdcdjhjaaCe
import Derived.Test.YtdehjgpdcdjhjaaYgi
namespace Go.Proofs.Ytdehjgpdcdjhjaa.K
open Go Go.RowKit Go.Proofs
set_option linter.unusedVariables false
set_option linter.unusedSimpArgs false
set_option maxRecDepth 20000 in
theorem sT58 : SlT Try.prog 58 5 1 1 (.int .u8 0) := ⟨Try.underlying58, ⟨Try.t5, Try.type5, rfl, rfl, rfl⟩, rfl, Nat.lt_of_sub_eq_succ rfl⟩
abbrev BY (A : Option Addr) (n c : Nat) (b : List UInt8) : Chunk := sl A n c 5 1 (bcells b)
abbrev UW (A : Option Addr) (n c : Nat) (l : List Nat) : Chunk := sl A n c 107 1 (ucells l)
theorem same_is (a b : List UInt8) : decide ((⟨a.toArray⟩ : ByteArray) = ⟨b.toArray⟩) = decide (a = b) := by
  rw [decide_eq_decide]
  exact ⟨mk_inj, fun h => by rw [h]⟩
set_option maxRecDepth 20000 in
theorem cput (A : Option Addr) (c : Nat) (b : List UInt8) (u : Nat) (hu : u < 18446744073709551616) (hb : b.length ≤ 1000000000000) (w : World) : Fn Try.prog 67 [.slice A b.length c, .int .u64 u] [BY A b.length c b] (ret fun v H' => ∃ A' c', v = .slice A' (b ++ putN u).length c' ∧ H' = [BY A' (b ++ putN u).length c' (b ++ putN u)]) w := by
  refine fn_enter Try.func67 rfl Try.ntmps67 rfl ?_
  refine vc_seq ?_
  refine vc_region ?_
  refine vl_val rfl (.some rfl) (val_assign rfl) ?_
  refine vl_nil ?_
  refine vc_seq ?_
  refine vc_block ?_
  refine vc_loopw (fun k E H => ∃ (j v n : Nat) (pre l : List UInt8) (A : Option Addr) (c : Nat), v = k ∧ j ≤ 9 ∧ v * 128 ^ j ≤ u ∧ pre.length = j ∧ pre ++ putF (10 - j) v = putN u ∧ n = b.length + j ∧ l = b ++ pre ∧ E = [(0, .slice A n c), (1, .int .u64 v)] ∧ H = [BY A n c l]) (u) ⟨_, _, _, ⟨0, u, b.length, [], b, A, c, rfl, by omega, by simp, rfl, rfl, rfl, by simp, rfl, rfl⟩, (by repeat (first | exact trivial | refine ⟨rfl, ?_⟩ | refine ⟨le_item rfl (by first | rfl | (congr 1; omega) | (simp; done) | (simp; omega)), ?_⟩)), (by repeat constructor)⟩ ?_
  intro k E H hI
  obtain ⟨j, v, n, pre, l, A, c, rfl, hj, hv, hp, hq, hn, hl, rfl, rfl⟩ := hI
  refine vc_seq ?_
  refine vc_seq ?_
  refine vc_region ?_
  refine vl_val rfl (.some rfl) (val_move rfl) ?_
  refine vl_val rfl (.some rfl) (val_gt rfl rfl) ?_
  refine vl_nil ?_
  refine vc_cond rfl (fun hc0 => ?_) (fun hc0 => ?_)
  · (try replace hc0 := of_decide_eq_true hc0)
    refine vc_skip ?_
    refine vc_seq ?_
    refine vc_block ?_
    refine vc_region ?_
    refine vl_val rfl (.some rfl) (val_move rfl) ?_
    refine vl_val rfl (.some rfl) (val_move rfl) ?_
    refine vl_val rfl (.some rfl) (val_convInt Try.runUnderlying107 Try.runUnderlying5 rfl rfl) ?_
    refine vl_val rfl (.some rfl) (val_or rfl rfl (or128 v)) ?_
    refine vl_lit sT58 rfl rfl (.some rfl) rfl rfl rfl (by decide) (by decide) rfl (flat_one rfl) (fun r13 => ?_)
    refine vl_append sT58 rfl rfl (.some rfl) rfl rfl (by first | exact rd_sl (by repeat constructor) | exact rd_slr (by repeat constructor) | exact rd_old (by assumption) rfl) (by first | rfl | (simp; done) | (simp; omega) | (simp only [bcells_length, icells_length, ucells_length, tcells_length]; omega)) (by first | rfl | exact one_b _ | exact one_u _ | exact one_i _ | exact one_t _) (by omega) (by omega) (by repeat constructor) (fun A14 k14 => ?_)
    refine vl_val rfl (.some rfl) (val_assign rfl) ?_
    refine vl_nil ?_
    refine vc_region ?_
    refine vl_val rfl (.some rfl) (val_move rfl) ?_
    refine vl_val rfl (.some rfl) (val_shr rfl rfl (by decide) (shr_lit 128 rfl (by decide))) ?_
    refine vl_val rfl (.some rfl) (val_assign rfl) ?_
    refine vl_nil ?_
    have hs := put_step hu hj hv (by omega)
    rw [bpush (by omega)]
    exact ⟨v / 128, _, _, _, (by omega : v / 128 < v), (by repeat (first | exact trivial | refine ⟨rfl, ?_⟩ | refine ⟨le_item rfl (by first | rfl | (congr 1; omega) | (simp; done) | (simp; omega)), ?_⟩)), (by repeat constructor), ⟨j + 1, v / 128, n + 1, pre ++ [UInt8.ofNat (v % 128 + 128)], _, _, _, rfl, hs.1, hs.2, by simp [hp], put_next hs.1 (by omega) hq, by omega, by rw [hl, List.append_assoc], rfl, rfl⟩⟩
  · (try replace hc0 := of_decide_eq_false hc0)
    refine vc_exit ?_
    refine vc_seq ?_
    refine vc_region ?_
    refine vl_val rfl (.some rfl) (val_move rfl) ?_
    refine vl_val rfl (.some rfl) (val_move rfl) ?_
    refine vl_val rfl (.some rfl) (val_convInt Try.runUnderlying107 Try.runUnderlying5 rfl (by first | exact w_u8 (by omega) (by omega) | rfl)) ?_
    refine vl_lit sT58 rfl rfl (.some rfl) rfl rfl rfl (by decide) (by decide) rfl (flat_one rfl) (fun r18 => ?_)
    refine vl_append sT58 rfl rfl (.some rfl) rfl rfl (by first | exact rd_sl (by repeat constructor) | exact rd_slr (by repeat constructor) | exact rd_old (by assumption) rfl) (by first | rfl | (simp; done) | (simp; omega) | (simp only [bcells_length, icells_length, ucells_length, tcells_length]; omega)) (by first | rfl | exact one_b _ | exact one_u _ | exact one_i _ | exact one_t _) (by omega) (by omega) (by repeat constructor) (fun A19 k19 => ?_)
    refine vl_val rfl (.some rfl) (val_assign rfl) ?_
    refine vl_nil ?_
    refine vc_ret ?_
    rw [bpush (by omega)]
    refine ⟨_, [BY A19 (n + 1) k19 (l ++ [UInt8.ofNat v])], _, res1 Try.results67 rfl, (by repeat constructor), ?_⟩
    have hend : l ++ [UInt8.ofNat v] = b ++ putN u := by rw [hl, List.append_assoc, put_end hj (by omega) hq]
    have hlen : n + 1 = (b ++ putN u).length := by rw [← hend, hl]; simp; omega
    exact ⟨A19, k19, by rw [hlen], by rw [hend, hlen]⟩
set_option maxRecDepth 20000 in
theorem cPut (A : Option Addr) (c : Nat) (b : List UInt8) (u : Nat) (hu : u < 18446744073709551616) (hb : b.length ≤ 1000000000000) (w : World) (hr : Reads w A (bcells b)) : Fn Try.prog 42 [.slice A b.length c, .int .u64 u] [] (ret fun v H' => ∃ A' c', v = .slice A' (b ++ putN u).length c' ∧ H' = [BY A' (b ++ putN u).length c' (b ++ putN u)]) w := by
  refine fn_enter Try.func42 rfl Try.ntmps42 rfl ?_
  refine vc_seq ?_
  refine vc_region ?_
  refine vl_val rfl (.some rfl) (val_assign rfl) ?_
  refine vl_nil ?_
  refine vc_seq ?_
  refine vc_region ?_
  refine vl_val rfl (.some rfl) (val_move rfl) ?_
  refine vl_nilSl 5 1 ?_
  refine vl_append sT58 rfl rfl (.some rfl) rfl rfl (rd_old hr rfl) (by simp [bcells_length]) (one_b _) (by omega) (by omega) (by repeat constructor) (fun A6 k6 => ?_)
  rw [Nat.zero_add, List.nil_append]
  refine vl_val rfl (.some rfl) (val_move rfl) ?_
  refine vl_call (C := [BY A6 (b).length k6 (b)]) rfl rfl (.some rfl) Try.call67 rfl (by repeat constructor) (fun w hw => cput A6 k6 (b) (u) hu hb w) (fun v H' h => ?_)
  obtain ⟨A2, c2, rfl, rfl⟩ := h
  refine vl_val rfl (.some rfl) (val_assign rfl) ?_
  refine vl_nil ?_
  refine vc_ret ?_
  refine ⟨_, [BY A2 (b ++ putN u).length c2 (b ++ putN u)], _, res1 Try.results42 rfl, (by repeat constructor), ?_⟩
  exact ⟨A2, c2, rfl, rfl⟩
set_option maxRecDepth 20000 in
theorem cZig (n : Int) (h1 : -9223372036854775808 ≤ n) (h2 : n < 9223372036854775808) (w : World) : FnV Try.prog 78 [.int .i64 n] (.int .u64 (zigS n)) w := by
  refine fn_enter Try.func78 rfl Try.ntmps78 rfl ?_
  refine vc_seq ?_
  refine vc_region ?_
  refine vl_val rfl (.some rfl) (val_assign rfl) ?_
  refine vl_nil ?_
  refine vc_seq ?_
  refine vc_region ?_
  refine vl_val rfl (.some rfl) (val_move rfl) ?_
  refine vl_val rfl (.some rfl) (val_convInt Try.runUnderlying3 Try.runUnderlying107 rfl rfl) ?_
  refine vl_val rfl (.some rfl) (val_shl rfl rfl (by decide) (shl_lit 2 rfl rfl)) ?_
  refine vl_val rfl (.some rfl) (val_move rfl) ?_
  refine vl_val rfl (.some rfl) (val_shr rfl rfl (by decide) (shr_lit 9223372036854775808 rfl (by decide))) ?_
  refine vl_val rfl (.some rfl) (val_convInt Try.runUnderlying3 Try.runUnderlying107 rfl rfl) ?_
  refine vl_val rfl (.some rfl) (val_xor rfl rfl (zig_all h1 h2)) ?_
  refine vl_val rfl (.some rfl) (val_assign rfl) ?_
  refine vl_nil ?_
  refine vc_ret ?_
  refine ⟨_, [], _, res1 Try.results78 rfl, .nil, ?_⟩
  rfl
set_option maxRecDepth 20000 in
theorem rSame (A B : Option Addr) (c d : Nat) (a b : List UInt8) (w : World) (hr : Reads w A (bcells a)) (hr2 : Reads w B (bcells b)) : FnV Try.prog 18 [.slice A a.length c, .slice B b.length d] (.bool (decide (a = b))) w := by
  refine fn_enter Try.func18 rfl Try.ntmps18 rfl ?_
  refine vc_seq ?_
  refine vc_region ?_
  refine vl_val rfl (.some rfl) (val_assign rfl) ?_
  refine vl_nil ?_
  refine vc_seq ?_
  refine vc_region ?_
  refine vl_val rfl (.some rfl) (val_move rfl) ?_
  refine vl_val rfl (.some rfl) (val_bytesToStr Try.runUnderlying58 Try.runUnderlying5 Try.runUnderlying9 rfl (by first | exact rd_sl (by repeat constructor) | exact rd_slr (by repeat constructor) | exact rd_old (by assumption) rfl) (by first | rfl | (simp; done) | omega)) ?_
  refine vl_val rfl (.some rfl) (val_move rfl) ?_
  refine vl_val rfl (.some rfl) (val_bytesToStr Try.runUnderlying58 Try.runUnderlying5 Try.runUnderlying9 rfl (by first | exact rd_sl (by repeat constructor) | exact rd_slr (by repeat constructor) | exact rd_old (by assumption) rfl) (by first | rfl | (simp; done) | omega)) ?_
  refine vl_val rfl (.some rfl) (val_seq rfl rfl) ?_
  refine vl_val rfl (.some rfl) (val_assign rfl) ?_
  refine vl_nil ?_
  refine vc_ret ?_
  refine ⟨_, [], _, res1 Try.results18 rfl, .nil, ?_⟩
  show _ = _; rw [same_is]
set_option maxRecDepth 20000 in
theorem cSum (A : Option Addr) (c : Nat) (b : List UInt8) (hb : b.length ≤ 1000000000000) (w : World) (hr : Reads w A (bcells b)) : FnV Try.prog 80 [.slice A b.length c] (.int .u32 (sumS b)) w := by
  refine fn_enter Try.func80 rfl Try.ntmps80 rfl ?_
  refine vc_seq ?_
  refine vc_region ?_
  refine vl_val rfl (.some rfl) (val_assign rfl) ?_
  refine vl_nil ?_
  refine vc_seq ?_
  refine vc_region ?_
  refine vl_val rfl (.some rfl) (val_assign rfl) ?_
  refine vl_nil ?_
  refine vc_seq ?_
  refine vc_seq ?_
  refine vc_region ?_
  refine vl_val rfl (.some rfl) (val_move rfl) ?_
  refine vl_val rfl (.some rfl) (val_lenSl Try.runUnderlying58 rfl) ?_
  refine vl_val rfl (.some rfl) (val_move rfl) ?_
  refine vl_nil ?_
  refine vc_block ?_
  refine vc_loopw (fun k E H => ∃ i c0 : Nat, i ≤ b.length ∧ k = b.length - i ∧ c0 < 4294967296 ∧ crcL c0 (b.drop i) = crcL 4294967295 b ∧ E = [(3, .int .u32 c0), (6, .slice A b.length c), (7, .int .i64 b.length), (8, .int .i64 i)] ∧ H = []) (b.length) ⟨_, _, _, ⟨0, 4294967295, by omega, rfl, by decide, rfl, rfl, rfl⟩, (by repeat (first | exact trivial | refine ⟨rfl, ?_⟩ | refine ⟨le_item rfl (by first | rfl | (congr 1; omega) | (simp; done) | (simp; omega)), ?_⟩)), (by repeat constructor)⟩ ?_
  intro k E H hI
  obtain ⟨i, c0, hi, rfl, hc, hg, rfl, rfl⟩ := hI
  refine vc_seq ?_
  refine vc_region ?_
  refine vl_val rfl (.some rfl) (val_lt rfl rfl) ?_
  refine vl_nil ?_
  refine vc_seq ?_
  refine vc_cond rfl (fun hc0 => ?_) (fun hc0 => ?_)
  · (try replace hc0 := of_decide_eq_true hc0)
    have hd := drop_cons (l := b) (i := i) 0 (by omega)
    rw [hd] at hg
    replace hg : crcL (crcN 8 (c0 ^^^ (b.getD i 0).toNat)) (b.drop (i + 1)) = crcL 4294967295 b := hg
    have hci := crc_in (x := b.getD i 0) hc
    refine vc_skip ?_
    refine vc_seq ?_
    refine vc_block ?_
    refine vc_seq ?_
    refine vc_region ?_
    refine vl_val rfl (.some rfl) (val_indexAddr Try.runUnderlying58 Try.sizeOf5 rfl rfl (by first | exact rd_sl (by repeat constructor) | exact rd_slr (by repeat constructor) | exact rd_old (by assumption) rfl) (by omega) (by omega) (by first | omega | (simp only [bcells_length, icells_length, ucells_length, tcells_length]; omega) | (simp only [bcells_length, icells_length, ucells_length, tcells_length, fillG_length]; omega) | (simp; omega))) ?_
    refine vl_val rfl (.some rfl) (val_load Try.isAgg5 rfl (by first | exact cell_cells (by repeat constructor) rfl | exact cell_rd (by first | exact rd_sl (by repeat constructor) | exact rd_old (by assumption) rfl) (by first | exact bcells_at (by omega) | exact ucells_at (by omega) | exact icells_at (by omega) | exact tcells_at (by omega) | exact bcells_get (by omega) | exact icells_get (by omega) | exact tcells_get (by omega) | exact ucells_get (by omega)) | exact cell_old (by assumption) (by simp [fps]))) ?_
    refine vl_val rfl (.some rfl) (val_assign rfl) ?_
    refine vl_nil ?_
    refine vc_seq ?_
    refine vc_region ?_
    refine vl_val rfl (.some rfl) (val_move rfl) ?_
    refine vl_val rfl (.some rfl) (val_move rfl) ?_
    refine vl_val rfl (.some rfl) (val_convInt Try.runUnderlying5 Try.runUnderlying151 rfl (w_u32 (by omega) (by have := (b.getD i 0).toNat_lt; omega))) ?_
    refine vl_val rfl (.some rfl) (val_xor rfl rfl (xor_u32 hc (by have := (b.getD i 0).toNat_lt; omega))) ?_
    refine vl_val rfl (.some rfl) (val_assign rfl) ?_
    refine vl_nil ?_
    refine vc_seq ?_
    refine vc_region ?_
    refine vl_val rfl (.some rfl) (val_move rfl) ?_
    refine vl_nil ?_
    refine vc_block ?_
    refine vc_loopw (fun k E H => ∃ j : Nat, j ≤ 8 ∧ k = 8 - j ∧ E = [(3, .int .u32 (crcN j (c0 ^^^ (b.getD i 0).toNat) : Nat)), (6, .slice A b.length c), (7, .int .i64 b.length), (8, .int .i64 i), (16, .int .i64 j)] ∧ H = []) (8) ⟨_, _, _, ⟨0, by omega, rfl, rfl, rfl⟩, (by repeat (first | exact trivial | refine ⟨rfl, ?_⟩ | refine ⟨le_item rfl (by first | rfl | (congr 1; omega) | (simp; done) | (simp; omega)), ?_⟩)), (by repeat constructor)⟩ ?_
    intro k E H hI
    obtain ⟨j, hj, rfl, rfl, rfl⟩ := hI
    have hcj := crcN_lt hci j
    refine vc_seq ?_
    refine vc_region ?_
    refine vl_val rfl (.some rfl) (val_lt rfl rfl) ?_
    refine vl_nil ?_
    refine vc_seq ?_
    refine vc_cond rfl (fun hc1 => ?_) (fun hc1 => ?_)
    · (try replace hc1 := of_decide_eq_true hc1)
      refine vc_skip ?_
      refine vc_seq ?_
      refine vc_block ?_
      refine vc_region ?_
      refine vl_val rfl (.some rfl) (val_move rfl) ?_
      refine vl_val rfl (.some rfl) (val_shr rfl rfl (by decide) (shr_lit 2 rfl (by decide))) ?_
      refine vl_val rfl (.some rfl) (val_move rfl) ?_
      refine vl_val rfl (.some rfl) (val_and rfl rfl (and1_u32 hcj)) ?_
      refine vl_val rfl (.some rfl) (val_neg rfl rfl) ?_
      refine vl_val rfl (.some rfl) (val_and rfl rfl (crc_mask _)) ?_
      refine vl_val rfl (.some rfl) (val_xor rfl rfl (crc_step hcj)) ?_
      refine vl_val rfl (.some rfl) (val_assign rfl) ?_
      refine vl_nil ?_
      refine vc_region ?_
      refine vl_val rfl (.some rfl) (val_add rfl rfl (by first | exact w_i64 (by omega) (by omega) | rfl)) ?_
      refine vl_val rfl (.some rfl) (val_move rfl) ?_
      refine vl_nil ?_
      exact ⟨8 - (j + 1), _, _, _, by omega, (by repeat (first | exact trivial | refine ⟨rfl, ?_⟩ | refine ⟨le_item rfl (by first | rfl | (congr 1; omega) | (simp; done) | (simp; omega)), ?_⟩)), (by repeat constructor), ⟨j + 1, by omega, rfl, rfl, rfl⟩⟩
    · (try replace hc1 := of_decide_eq_false hc1)
      obtain rfl : 8 = j := by omega
      refine vc_exit ?_
      refine vc_region ?_
      refine vl_val rfl (.some rfl) (val_add rfl rfl (by first | exact w_i64 (by omega) (by omega) | rfl)) ?_
      refine vl_val rfl (.some rfl) (val_move rfl) ?_
      refine vl_nil ?_
      exact ⟨b.length - (i + 1), _, _, _, by omega, (by repeat (first | exact trivial | refine ⟨rfl, ?_⟩ | refine ⟨le_item rfl (by first | rfl | (congr 1; omega) | (simp; done) | (simp; omega)), ?_⟩)), (by repeat constructor), ⟨i + 1, crcN 8 (c0 ^^^ (b.getD i 0).toNat), by omega, rfl, crcN_lt hci 8, hg, rfl, rfl⟩⟩
  · (try replace hc0 := of_decide_eq_false hc0)
    refine vc_exit ?_
    refine vc_seq ?_
    refine vc_region ?_
    refine vl_val rfl (.some rfl) (val_move rfl) ?_
    refine vl_val rfl (.some rfl) (val_com rfl (com_u32 hc)) ?_
    refine vl_val rfl (.some rfl) (val_assign rfl) ?_
    refine vl_nil ?_
    refine vc_ret ?_
    refine ⟨_, [], _, res1 Try.results80 rfl, .nil, ?_⟩
    show _ = _; rw [List.drop_of_length_le (by omega)] at hg; replace hg : c0 = crcL 4294967295 b := hg; rw [hg]; rfl
set_option maxRecDepth 20000 in
theorem cPack (width : Int) (A : Option Addr) (c : Nat) (l : List Nat) (hl : l.length ≤ 1000000000) (hu : ∀ u ∈ l, u < 18446744073709551616) (w : World) (hr : Reads w A (ucells l)) : Fn Try.prog 68 [.int .i64 width, .slice A l.length c] [] (ret fun v H' => ∃ A' c', v = .tuple #[.slice A' (packB width l).length c', .int .i64 (packE width l)] ∧ H' = [BY A' (packB width l).length c' (packB width l)]) w := by
  refine fn_enter Try.func68 rfl Try.ntmps68 rfl ?_
  refine vc_seq ?_
  refine vc_region ?_
  refine vl_val rfl (.some rfl) (val_assign rfl) ?_
  refine vl_val rfl (.some rfl) (val_assign rfl) ?_
  refine vl_nil ?_
  refine vc_seq ?_
  refine vc_seq ?_
  refine vc_region ?_
  refine vl_val rfl (.some rfl) (val_move rfl) ?_
  refine vl_val rfl (.some rfl) (val_lt rfl rfl) ?_
  refine vl_val rfl (.some rfl) (val_move rfl) ?_
  refine vl_split (t := 13) rfl (fun hg13 => ?_) (fun hg13 => ?_)
  · (try replace hg13 := of_decide_eq_true hg13)
    refine vl_off rfl rfl rfl rfl (.some rfl) ?_
    refine vl_off rfl rfl rfl rfl (.some rfl) ?_
    refine vl_val rfl (.some rfl) (val_pick rfl rfl) ?_
    refine vl_nil ?_
    refine vc_cond rfl (fun _ => ?_) (fun h => by cases h)
    refine vc_seq ?_
    refine vc_region ?_
    refine vl_val rfl (.some rfl) (val_assign rfl) ?_
    refine vl_nilSl 5 1 ?_
    refine vl_val rfl (.some rfl) (val_assign rfl) ?_
    refine vl_nil ?_
    refine vc_ret ?_
    refine ⟨_, [BY none 0 0 []], _, res2 Try.results68 rfl rfl, (by repeat constructor), ?_⟩
    have e1 : packB width l = [] := by unfold packB; rw [if_neg (by omega)]
    have e2 : packE width l = 2 := by unfold packE; rw [if_neg (by omega)]
    show ∃ A' c', _ ∧ _
    rw [e1, e2]
    exact ⟨none, 0, rfl, rfl⟩
  · (try replace hg13 := of_decide_eq_false hg13)
    refine vl_on rfl rfl rfl rfl ?_
    refine vl_val rfl (.some rfl) (val_move rfl) ?_
    refine vl_on rfl rfl rfl rfl ?_
    refine vl_val rfl (.some rfl) (val_gt rfl rfl) ?_
    refine vl_val rfl (.some rfl) (val_pick rfl rfl) ?_
    refine vl_nil ?_
    refine vc_cond rfl (fun hc0 => ?_) (fun hc0 => ?_)
    · (try replace hc0 := of_decide_eq_true hc0)
      refine vc_seq ?_
      refine vc_region ?_
      refine vl_val rfl (.some rfl) (val_assign rfl) ?_
      refine vl_nilSl 5 1 ?_
      refine vl_val rfl (.some rfl) (val_assign rfl) ?_
      refine vl_nil ?_
      refine vc_ret ?_
      refine ⟨_, [BY none 0 0 []], _, res2 Try.results68 rfl rfl, (by repeat constructor), ?_⟩
      have e1 : packB width l = [] := by unfold packB; rw [if_neg (by omega)]
      have e2 : packE width l = 2 := by unfold packE; rw [if_neg (by omega)]
      show ∃ A' c', _ ∧ _
      rw [e1, e2]
      exact ⟨none, 0, rfl, rfl⟩
    · (try replace hc0 := of_decide_eq_false hc0)
      obtain ⟨n, rfl⟩ : ∃ n : Nat, width = n := ⟨width.toNat, by omega⟩
      have hn : n ≤ 64 := by omega
      have hwl : n * l.length ≤ 64 * 1000000000 := Nat.mul_le_mul hn hl
      have hcm : n * l.length = l.length * n := Nat.mul_comm _ _
      obtain ⟨N, hN⟩ : ∃ N, N = (n * l.length + 7) / 8 := ⟨_, rfl⟩
      refine vc_skip ?_
      refine vc_seq ?_
      refine vc_region ?_
      refine vl_val rfl (.some rfl) (val_move rfl) ?_
      refine vl_val rfl (.some rfl) (val_move rfl) ?_
      refine vl_val rfl (.some rfl) (val_lenSl Try.runUnderlying134 rfl) ?_
      refine vl_val rfl (.some rfl) (val_mul rfl rfl (by first | exact w_i64 (by omega) (by omega) | rfl)) ?_
      refine vl_val rfl (.some rfl) (val_add rfl rfl (by first | exact w_i64 (by omega) (by omega) | rfl)) ?_
      refine vl_val rfl (.some rfl) (val_quo rfl rfl (by omega) (by first | exact quo_nn (by omega) (w_i64 (by omega) (by omega)) | rfl)) ?_
      refine vl_makeSlice sT58 rfl rfl (.some rfl) rfl rfl (by omega) (by omega) (by omega) (made_u8 _) (fun r23 => ?_)
      rw [show Int.toNat ((((n : Int) * (l.length : Int)) + 7) / 8) = N by omega, ← packP_zero N (bitAt n l)]
      refine vl_val rfl (.some rfl) (val_assign rfl) ?_
      refine vl_nil ?_
      refine vc_seq ?_
      refine vc_seq ?_
      refine vc_region ?_
      refine vl_val rfl (.some rfl) (val_move rfl) ?_
      refine vl_val rfl (.some rfl) (val_lenSl Try.runUnderlying134 rfl) ?_
      refine vl_val rfl (.some rfl) (val_move rfl) ?_
      refine vl_nil ?_
      refine vc_block ?_
      refine vc_loopw (fun k E H => ∃ i m : Nat, i ≤ l.length ∧ k = l.length - i ∧ m = i * n ∧ (∀ j, j < i → n < 64 → (l.getD j 0) / 2 ^ n = 0) ∧ E = [(0, .int .i64 n), (24, .slice A l.length c), (25, .int .i64 l.length), (26, .int .i64 i), (6, .slice (some ⟨r23, 0, none⟩) N N)] ∧ H = [BY (some ⟨r23, 0, none⟩) N N (packP N (bitAt n l) m)]) (l.length) ⟨_, _, _, ⟨0, 0, by omega, rfl, by simp, fun j hj => absurd hj (Nat.not_lt_zero _), rfl, rfl⟩, (by repeat (first | exact trivial | refine ⟨rfl, ?_⟩ | refine ⟨le_item rfl (by first | rfl | (congr 1; omega) | (simp; done) | (simp; omega)), ?_⟩)), (by repeat constructor)⟩ ?_
      intro k E H hI
      obtain ⟨i, m, hi, rfl, rfl, hfit, rfl, rfl⟩ := hI
      refine vc_seq ?_
      refine vc_region ?_
      refine vl_val rfl (.some rfl) (val_lt rfl rfl) ?_
      refine vl_nil ?_
      refine vc_seq ?_
      refine vc_cond rfl (fun hc1 => ?_) (fun hc1 => ?_)
      · (try replace hc1 := of_decide_eq_true hc1)
        have hu1 : l.getD i 0 < 18446744073709551616 := hu _ (by rw [List.getD_eq_getElem?_getD, List.getElem?_eq_getElem (by omega)]; exact List.getElem_mem _)
        have hi' : i < l.length := by omega
        have hrow := row_le (w := n) (i := i) (n := l.length) hi
        refine vc_skip ?_
        refine vc_seq ?_
        refine vc_block ?_
        refine vc_seq ?_
        refine vc_region ?_
        refine vl_val rfl (.some rfl) (val_move rfl) ?_
        refine vl_val rfl (.some rfl) (val_indexAddr Try.runUnderlying134 Try.sizeOf107 rfl rfl (by first | exact rd_sl (by repeat constructor) | exact rd_slr (by repeat constructor) | exact rd_old (by assumption) rfl) (by omega) (by omega) (by first | omega | (simp only [bcells_length, icells_length, ucells_length, tcells_length]; omega) | (simp only [bcells_length, icells_length, ucells_length, tcells_length, fillG_length]; omega) | (simp; omega))) ?_
        refine vl_val rfl (.some rfl) (val_load Try.isAgg107 rfl (by first | exact cell_cells (by repeat constructor) rfl | exact cell_rd (by first | exact rd_sl (by repeat constructor) | exact rd_old (by assumption) rfl) (by first | exact bcells_at (by omega) | exact ucells_at (by omega) | exact icells_at (by omega) | exact tcells_at (by omega) | exact bcells_get (by omega) | exact icells_get (by omega) | exact tcells_get (by omega) | exact ucells_get (by omega)) | exact cell_old (by assumption) (by simp [fps]))) ?_
        refine vl_val rfl (.some rfl) (val_assign rfl) ?_
        refine vl_val rfl (.some rfl) (val_assign rfl) ?_
        refine vl_nil ?_
        refine vc_seq ?_
        refine vc_seq ?_
        refine vc_region ?_
        refine vl_val rfl (.some rfl) (val_move rfl) ?_
        refine vl_val rfl (.some rfl) (val_lt rfl rfl) ?_
        refine vl_val rfl (.some rfl) (val_move rfl) ?_
        refine vl_split (t := 33) rfl (fun hg33 => ?_) (fun hg33 => ?_)
        · (try replace hg33 := of_decide_eq_true hg33)
          refine vl_on rfl rfl rfl rfl ?_
          refine vl_val rfl (.some rfl) (val_move rfl) ?_
          refine vl_on rfl rfl rfl rfl ?_
          refine vl_val rfl (.some rfl) (val_move rfl) ?_
          refine vl_on rfl rfl rfl rfl ?_
          refine vl_val rfl (.some rfl) (val_shr rfl rfl (by omega) (shr_nat (k := .u64) (by simp [IntKind.bits]; omega))) ?_
          refine vl_on rfl rfl rfl rfl ?_
          refine vl_val rfl (.some rfl) (val_gt rfl rfl) ?_
          refine vl_val rfl (.some rfl) (val_pick rfl rfl) ?_
          refine vl_nil ?_
          refine vc_cond rfl (fun hc2 => ?_) (fun hc2 => ?_)
          · (try replace hc2 := of_decide_eq_true hc2)
            refine vc_seq ?_
            refine vc_region ?_
            refine vl_val rfl (.some rfl) (val_assign rfl) ?_
            refine vl_nilSl 5 1 ?_
            refine vl_val rfl (.some rfl) (val_assign rfl) ?_
            refine vl_nil ?_
            refine vc_ret ?_
            have hnf : ¬ fitsW n l := fun h => by
              have h2 := h (by omega) (l.getD i 0) (by rw [List.getD_eq_getElem?_getD, List.getElem?_eq_getElem (by omega)]; exact List.getElem_mem _)
              omega
            refine ⟨_, [BY none 0 0 []], _, res2 Try.results68 rfl rfl, (by repeat constructor), ?_⟩
            have e1 : packB n l = [] := by unfold packB; rw [if_pos (by omega), Int.toNat_natCast, if_neg hnf]
            have e2 : packE n l = 6 := by unfold packE; rw [if_pos (by omega), Int.toNat_natCast, if_neg hnf]
            show ∃ A' c', _ ∧ _
            rw [e1, e2]
            exact ⟨none, 0, rfl, rfl⟩
          · (try replace hc2 := of_decide_eq_false hc2)
            replace hc2 : l.getD i 0 / 2 ^ n = 0 := by
              generalize l.getD i 0 / 2 ^ n = q at hc2 ⊢
              omega
            refine vc_skip ?_
            refine vc_seq ?_
            refine vc_region ?_
            refine vl_val rfl (.some rfl) (val_move rfl) ?_
            refine vl_val rfl (.some rfl) (val_move rfl) ?_
            refine vl_nil ?_
            refine vc_block ?_
            refine vc_loopw (fun k E H => ∃ j m : Nat, j ≤ n ∧ k = n - j ∧ m = i * n + j ∧ E = [(0, .int .i64 n), (24, .slice A l.length c), (25, .int .i64 l.length), (26, .int .i64 i), (6, .slice (some ⟨r23, 0, none⟩) N N), (7, .int .i64 i), (8, .int .u64 (l.getD i 0 : Nat)), (39, .int .i64 n), (40, .int .i64 j)] ∧ H = [BY (some ⟨r23, 0, none⟩) N N (packP N (bitAt n l) m)]) (n) ⟨_, _, _, ⟨0, i * n, by omega, rfl, rfl, rfl, rfl⟩, (by repeat (first | exact trivial | refine ⟨rfl, ?_⟩ | refine ⟨le_item rfl (by first | rfl | (congr 1; omega) | (simp; done) | (simp; omega)), ?_⟩)), (by repeat constructor)⟩ ?_
            intro k E H hI
            obtain ⟨j, m, hj, rfl, rfl, rfl, rfl⟩ := hI
            refine vc_seq ?_
            refine vc_region ?_
            refine vl_val rfl (.some rfl) (val_lt rfl rfl) ?_
            refine vl_nil ?_
            refine vc_seq ?_
            refine vc_cond rfl (fun hc3 => ?_) (fun hc3 => ?_)
            · (try replace hc3 := of_decide_eq_true hc3)
              have hj' : j < n := by omega
              have hm := row_lt hi' hj'
              refine vc_skip ?_
              refine vc_seq ?_
              refine vc_block ?_
              refine vc_seq ?_
              refine vc_region ?_
              refine vl_val rfl (.some rfl) (val_move rfl) ?_
              refine vl_val rfl (.some rfl) (val_assign rfl) ?_
              refine vl_nil ?_
              refine vc_seq ?_
              refine vc_region ?_
              refine vl_val rfl (.some rfl) (val_move rfl) ?_
              refine vl_val rfl (.some rfl) (val_move rfl) ?_
              refine vl_val rfl (.some rfl) (val_mul rfl rfl (by first | exact w_i64 (by omega) (by omega) | rfl)) ?_
              refine vl_val rfl (.some rfl) (val_move rfl) ?_
              refine vl_val rfl (.some rfl) (val_add rfl rfl (by first | exact w_i64 (by omega) (by omega) | rfl)) ?_
              refine vl_val rfl (.some rfl) (val_assign rfl) ?_
              refine vl_nil ?_
              refine vc_draws [0, 1, 2, 3, 4, 5, 6, 7, 8, 9, 10, 11, 12, 13, 14] [15] [0, 1, 2, 3, 4, 5, 6, 7, 8, 9, 10, 11, 12, 13, 14, 15] rfl (by kernel_rfl) (fun _ _ _ h => h) ?_
              refine vd_val rfl rfl rfl (.some rfl) (val_move rfl) ?_
              refine vd_val rfl rfl rfl (.some rfl) (val_move rfl) ?_
              refine vd_val rfl rfl rfl (.some rfl) (val_quo rfl rfl (by omega) (by first | exact quo_nn (by omega) (w_i64 (by omega) (by omega)) | rfl)) ?_
              refine vd_val rfl rfl rfl (.some rfl) (val_indexAddr Try.runUnderlying58 Try.sizeOf5 rfl rfl (rd_sl (by repeat constructor)) (by omega) (by omega) (by rw [bcells_length, packP_len]; omega)) ?_
              refine vd_val rfl rfl rfl (.some rfl) (val_load Try.isAgg5 rfl (cell_rd (rd_sl (by repeat constructor)) (show _ = some (Value.int .u8 (((packP N (bitAt n l) (i * n + j)).getD ((i * n + j) / 8) 0).toNat : Int)) by rw [show Int.toNat (((i : Int) * (n : Int) + (j : Int)) / 8) * 1 = (i * n + j) / 8 by omega]; exact bcells_get (by rw [packP_len]; omega)))) ?_
              refine vd_val rfl rfl rfl (.some rfl) (val_move rfl) ?_
              refine vd_val rfl rfl rfl (.some rfl) (val_move rfl) ?_
              refine vd_val rfl rfl rfl (.some rfl) (val_shr rfl rfl (by omega) (shr_nat (k := .u64) (by simp [IntKind.bits]; omega))) ?_
              refine vd_val rfl rfl rfl (.some rfl) (val_and rfl rfl (and1_u64 (Nat.lt_of_le_of_lt (Nat.div_le_self _ _) hu1))) ?_
              refine vd_val rfl rfl rfl (.some rfl) (val_convInt Try.runUnderlying107 Try.runUnderlying5 rfl (by first | exact w_u8 (by omega) (by omega) | rfl)) ?_
              refine vd_val rfl rfl rfl (.some rfl) (val_move rfl) ?_
              refine vd_val rfl rfl rfl (.some rfl) (val_rem rfl rfl (by omega) (by first | exact rem_nn (by omega) | rfl)) ?_
              refine vd_val rfl rfl rfl (.some rfl) (val_shl rfl rfl (by omega) (shl_bit (s := (i * n + j) % 8) (by omega) (by omega) (by omega))) ?_
              refine vd_val rfl rfl rfl (.some rfl) (val_or rfl rfl (or_u8 (UInt8.toNat_lt _) (bit_lt (by omega) (by omega)))) ?_
              refine vd_val rfl rfl rfl (.some rfl) (val_indexAddr Try.runUnderlying58 Try.sizeOf5 rfl rfl (rd_sl (by repeat constructor)) (by omega) (by omega) (by rw [bcells_length, packP_len]; omega)) ?_
              refine vd_op rfl rfl ?_
              refine vl_storeSl rfl rfl .none rfl rfl Try.sizeOf5 rfl (by simp [Value.cells]) (by repeat constructor) (by rw [bcells_length, packP_len]; simp [Value.cells]; omega) ?_
              refine vl_nil ?_
              refine ⟨fun h => (by cases h), ?_⟩
              refine vd_nil ?_
              refine vc_region ?_
              refine vl_val rfl (.some rfl) (val_add rfl rfl (by first | exact w_i64 (by omega) (by omega) | rfl)) ?_
              refine vl_val rfl (.some rfl) (val_move rfl) ?_
              refine vl_nil ?_
              rw [laid_pack (m := i * n + j) (by omega) (by omega) (by rw [bitAt_at hi' hj', Nat.toNat_testBit])]
              exact ⟨n - (j + 1), _, _, _, by omega, (by repeat (first | exact trivial | refine ⟨rfl, ?_⟩ | refine ⟨le_item rfl (by first | rfl | (congr 1; omega) | (simp; done) | (simp; omega)), ?_⟩)), (by repeat constructor), ⟨j + 1, i * n + j + 1, by omega, rfl, rfl, rfl, rfl⟩⟩
            · (try replace hc3 := of_decide_eq_false hc3)
              obtain rfl : n = j := by omega
              refine vc_exit ?_
              refine vc_region ?_
              refine vl_val rfl (.some rfl) (val_add rfl rfl (by first | exact w_i64 (by omega) (by omega) | rfl)) ?_
              refine vl_val rfl (.some rfl) (val_move rfl) ?_
              refine vl_nil ?_
              exact ⟨l.length - (i + 1), _, _, _, by omega, (by repeat (first | exact trivial | refine ⟨rfl, ?_⟩ | refine ⟨le_item rfl (by first | rfl | (congr 1; omega) | (simp; done) | (simp; omega)), ?_⟩)), (by repeat constructor), ⟨i + 1, i * n + n, by omega, rfl, by rw [Nat.add_mul, Nat.one_mul], fun j hj h64 => by
                rcases Nat.lt_or_ge j i with h | h
                · exact hfit j h h64
                · obtain rfl : j = i := by omega
                  first | omega | exact absurd h64 (by omega), rfl, rfl⟩⟩
        · (try replace hg33 := of_decide_eq_false hg33)
          refine vl_off rfl rfl rfl rfl (.some rfl) ?_
          refine vl_off rfl rfl rfl rfl (.some rfl) ?_
          refine vl_off rfl rfl rfl rfl (.some rfl) ?_
          refine vl_off rfl rfl rfl rfl (.some rfl) ?_
          refine vl_val rfl (.some rfl) (val_pick rfl rfl) ?_
          refine vl_nil ?_
          refine vc_cond rfl (fun h => by cases h) (fun _ => ?_)
          refine vc_skip ?_
          refine vc_seq ?_
          refine vc_region ?_
          refine vl_val rfl (.some rfl) (val_move rfl) ?_
          refine vl_val rfl (.some rfl) (val_move rfl) ?_
          refine vl_nil ?_
          refine vc_block ?_
          refine vc_loopw (fun k E H => ∃ j m : Nat, j ≤ n ∧ k = n - j ∧ m = i * n + j ∧ E = [(0, .int .i64 n), (24, .slice A l.length c), (25, .int .i64 l.length), (26, .int .i64 i), (6, .slice (some ⟨r23, 0, none⟩) N N), (7, .int .i64 i), (8, .int .u64 (l.getD i 0 : Nat)), (39, .int .i64 n), (40, .int .i64 j)] ∧ H = [BY (some ⟨r23, 0, none⟩) N N (packP N (bitAt n l) m)]) (n) ⟨_, _, _, ⟨0, i * n, by omega, rfl, rfl, rfl, rfl⟩, (by repeat (first | exact trivial | refine ⟨rfl, ?_⟩ | refine ⟨le_item rfl (by first | rfl | (congr 1; omega) | (simp; done) | (simp; omega)), ?_⟩)), (by repeat constructor)⟩ ?_
          intro k E H hI
          obtain ⟨j, m, hj, rfl, rfl, rfl, rfl⟩ := hI
          refine vc_seq ?_
          refine vc_region ?_
          refine vl_val rfl (.some rfl) (val_lt rfl rfl) ?_
          refine vl_nil ?_
          refine vc_seq ?_
          refine vc_cond rfl (fun hc3 => ?_) (fun hc3 => ?_)
          · (try replace hc3 := of_decide_eq_true hc3)
            have hj' : j < n := by omega
            have hm := row_lt hi' hj'
            refine vc_skip ?_
            refine vc_seq ?_
            refine vc_block ?_
            refine vc_seq ?_
            refine vc_region ?_
            refine vl_val rfl (.some rfl) (val_move rfl) ?_
            refine vl_val rfl (.some rfl) (val_assign rfl) ?_
            refine vl_nil ?_
            refine vc_seq ?_
            refine vc_region ?_
            refine vl_val rfl (.some rfl) (val_move rfl) ?_
            refine vl_val rfl (.some rfl) (val_move rfl) ?_
            refine vl_val rfl (.some rfl) (val_mul rfl rfl (by first | exact w_i64 (by omega) (by omega) | rfl)) ?_
            refine vl_val rfl (.some rfl) (val_move rfl) ?_
            refine vl_val rfl (.some rfl) (val_add rfl rfl (by first | exact w_i64 (by omega) (by omega) | rfl)) ?_
            refine vl_val rfl (.some rfl) (val_assign rfl) ?_
            refine vl_nil ?_
            refine vc_draws [0, 1, 2, 3, 4, 5, 6, 7, 8, 9, 10, 11, 12, 13, 14] [15] [0, 1, 2, 3, 4, 5, 6, 7, 8, 9, 10, 11, 12, 13, 14, 15] rfl (by kernel_rfl) (fun _ _ _ h => h) ?_
            refine vd_val rfl rfl rfl (.some rfl) (val_move rfl) ?_
            refine vd_val rfl rfl rfl (.some rfl) (val_move rfl) ?_
            refine vd_val rfl rfl rfl (.some rfl) (val_quo rfl rfl (by omega) (by first | exact quo_nn (by omega) (w_i64 (by omega) (by omega)) | rfl)) ?_
            refine vd_val rfl rfl rfl (.some rfl) (val_indexAddr Try.runUnderlying58 Try.sizeOf5 rfl rfl (rd_sl (by repeat constructor)) (by omega) (by omega) (by rw [bcells_length, packP_len]; omega)) ?_
            refine vd_val rfl rfl rfl (.some rfl) (val_load Try.isAgg5 rfl (cell_rd (rd_sl (by repeat constructor)) (show _ = some (Value.int .u8 (((packP N (bitAt n l) (i * n + j)).getD ((i * n + j) / 8) 0).toNat : Int)) by rw [show Int.toNat (((i : Int) * (n : Int) + (j : Int)) / 8) * 1 = (i * n + j) / 8 by omega]; exact bcells_get (by rw [packP_len]; omega)))) ?_
            refine vd_val rfl rfl rfl (.some rfl) (val_move rfl) ?_
            refine vd_val rfl rfl rfl (.some rfl) (val_move rfl) ?_
            refine vd_val rfl rfl rfl (.some rfl) (val_shr rfl rfl (by omega) (shr_nat (k := .u64) (by simp [IntKind.bits]; omega))) ?_
            refine vd_val rfl rfl rfl (.some rfl) (val_and rfl rfl (and1_u64 (Nat.lt_of_le_of_lt (Nat.div_le_self _ _) hu1))) ?_
            refine vd_val rfl rfl rfl (.some rfl) (val_convInt Try.runUnderlying107 Try.runUnderlying5 rfl (by first | exact w_u8 (by omega) (by omega) | rfl)) ?_
            refine vd_val rfl rfl rfl (.some rfl) (val_move rfl) ?_
            refine vd_val rfl rfl rfl (.some rfl) (val_rem rfl rfl (by omega) (by first | exact rem_nn (by omega) | rfl)) ?_
            refine vd_val rfl rfl rfl (.some rfl) (val_shl rfl rfl (by omega) (shl_bit (s := (i * n + j) % 8) (by omega) (by omega) (by omega))) ?_
            refine vd_val rfl rfl rfl (.some rfl) (val_or rfl rfl (or_u8 (UInt8.toNat_lt _) (bit_lt (by omega) (by omega)))) ?_
            refine vd_val rfl rfl rfl (.some rfl) (val_indexAddr Try.runUnderlying58 Try.sizeOf5 rfl rfl (rd_sl (by repeat constructor)) (by omega) (by omega) (by rw [bcells_length, packP_len]; omega)) ?_
            refine vd_op rfl rfl ?_
            refine vl_storeSl rfl rfl .none rfl rfl Try.sizeOf5 rfl (by simp [Value.cells]) (by repeat constructor) (by rw [bcells_length, packP_len]; simp [Value.cells]; omega) ?_
            refine vl_nil ?_
            refine ⟨fun h => (by cases h), ?_⟩
            refine vd_nil ?_
            refine vc_region ?_
            refine vl_val rfl (.some rfl) (val_add rfl rfl (by first | exact w_i64 (by omega) (by omega) | rfl)) ?_
            refine vl_val rfl (.some rfl) (val_move rfl) ?_
            refine vl_nil ?_
            rw [laid_pack (m := i * n + j) (by omega) (by omega) (by rw [bitAt_at hi' hj', Nat.toNat_testBit])]
            exact ⟨n - (j + 1), _, _, _, by omega, (by repeat (first | exact trivial | refine ⟨rfl, ?_⟩ | refine ⟨le_item rfl (by first | rfl | (congr 1; omega) | (simp; done) | (simp; omega)), ?_⟩)), (by repeat constructor), ⟨j + 1, i * n + j + 1, by omega, rfl, rfl, rfl, rfl⟩⟩
          · (try replace hc3 := of_decide_eq_false hc3)
            obtain rfl : n = j := by omega
            refine vc_exit ?_
            refine vc_region ?_
            refine vl_val rfl (.some rfl) (val_add rfl rfl (by first | exact w_i64 (by omega) (by omega) | rfl)) ?_
            refine vl_val rfl (.some rfl) (val_move rfl) ?_
            refine vl_nil ?_
            exact ⟨l.length - (i + 1), _, _, _, by omega, (by repeat (first | exact trivial | refine ⟨rfl, ?_⟩ | refine ⟨le_item rfl (by first | rfl | (congr 1; omega) | (simp; done) | (simp; omega)), ?_⟩)), (by repeat constructor), ⟨i + 1, i * n + n, by omega, rfl, by rw [Nat.add_mul, Nat.one_mul], fun j hj h64 => by
              rcases Nat.lt_or_ge j i with h | h
              · exact hfit j h h64
              · obtain rfl : j = i := by omega
                first | omega | exact absurd h64 (by omega), rfl, rfl⟩⟩
      · (try replace hc1 := of_decide_eq_false hc1)
        have hfit : fitsW n l := fun h64 u hu' => by
          obtain ⟨j, hj, rfl⟩ := List.getElem_of_mem hu'
          have := hfit j (by omega) h64
          simpa [List.getD, hj] using this
        have hfin : packP N (bitAt n l) (i * n) = packS n l := by rw [packS, ← hN, show i * n = n * l.length by rw [show i = l.length by omega, Nat.mul_comm]]
        rw [hfin]
        refine vc_exit ?_
        refine vc_seq ?_
        refine vc_region ?_
        refine vl_val rfl (.some rfl) (val_move rfl) ?_
        refine vl_val rfl (.some rfl) (val_assign rfl) ?_
        refine vl_val rfl (.some rfl) (val_assign rfl) ?_
        refine vl_nil ?_
        refine vc_ret ?_
        refine ⟨_, [BY (some ⟨r23, 0, none⟩) N N (packS n l)], _, res2 Try.results68 rfl rfl, (by repeat constructor), ?_⟩
        have e1 : packB n l = packS n l := by unfold packB; rw [if_pos (by omega), Int.toNat_natCast, if_pos hfit]
        have e2 : packE n l = 0 := by unfold packE; rw [if_pos (by omega), Int.toNat_natCast, if_pos hfit]
        show ∃ A' c', _ ∧ _
        rw [e1, e2, packS_len, ← hN]
        exact ⟨_, _, rfl, rfl⟩




set_option maxRecDepth 20000 in
theorem cRuns (A : Option Addr) (c : Nat) (l : List Nat) (hl : l.length ≤ 1000000000) (hu : ∀ u ∈ l, u < 18446744073709551616) (w : World) (hr : Reads w A (ucells l)) : Fn Try.prog 73 [.slice A l.length c] [] (ret fun v H' => ∃ A' c', v = .slice A' (runsS l).length c' ∧ H' = [BY A' (runsS l).length c' (runsS l)]) w := by
  refine fn_enter Try.func73 rfl Try.ntmps73 rfl ?_
  refine vc_seq ?_
  refine vc_region ?_
  refine vl_val rfl (.some rfl) (val_assign rfl) ?_
  refine vl_nil ?_
  refine vc_seq ?_
  refine vc_region ?_
  refine vl_val rfl (.some rfl) (val_assign rfl) ?_
  refine vl_nilSl 5 1 ?_
  refine vl_nil ?_
  refine vc_seq ?_
  refine vc_region ?_
  refine vl_val rfl (.some rfl) (val_assign rfl) ?_
  refine vl_nil ?_
  refine vc_seq ?_
  refine vc_seq ?_
  refine vc_region ?_
  refine vl_val rfl (.some rfl) (val_move rfl) ?_
  refine vl_val rfl (.some rfl) (val_lenSl Try.runUnderlying134 rfl) ?_
  refine vl_val rfl (.some rfl) (val_move rfl) ?_
  refine vl_nil ?_
  refine vc_block ?_
  refine vc_loopw (fun k E H => ∃ (i n : Nat) (ou : List UInt8) (A2 : Option Addr) (c2 : Nat), i ≤ l.length ∧ k = l.length - i ∧ n ≤ i ∧ ou.length ≤ 20 * i ∧ ou ++ runsG n (l.drop i) = runsS l ∧ E = [(0, .slice A l.length c), (3, .slice A2 ou.length c2), (4, .int .u64 n), (7, .slice A l.length c), (8, .int .i64 l.length), (9, .int .i64 i)] ∧ H = [BY A2 ou.length c2 ou]) (l.length) ⟨_, _, _, ⟨0, 0, [], none, 0, by omega, rfl, by omega, by simp, rfl, rfl, rfl⟩, (by repeat (first | exact trivial | refine ⟨rfl, ?_⟩ | refine ⟨le_item rfl (by first | rfl | (congr 1; omega) | (simp; done) | (simp; omega)), ?_⟩)), (by repeat constructor)⟩ ?_
  intro k E H hI
  obtain ⟨i, n, ou, A2, c2, hi, rfl, hn, ho, hg, rfl, rfl⟩ := hI
  refine vc_seq ?_
  refine vc_region ?_
  refine vl_val rfl (.some rfl) (val_lt rfl rfl) ?_
  refine vl_nil ?_
  refine vc_seq ?_
  refine vc_cond rfl (fun hc0 => ?_) (fun hc0 => ?_)
  · (try replace hc0 := of_decide_eq_true hc0)
    have hub : l.getD i 0 < 18446744073709551616 := hu _ (by rw [List.getD_eq_getElem?_getD, List.getElem?_eq_getElem (by omega)]; exact List.getElem_mem _)
    refine vc_skip ?_
    refine vc_seq ?_
    refine vc_block ?_
    refine vc_seq ?_
    refine vc_region ?_
    refine vl_val rfl (.some rfl) (val_move rfl) ?_
    refine vl_val rfl (.some rfl) (val_indexAddr Try.runUnderlying134 Try.sizeOf107 rfl rfl (by first | exact rd_sl (by repeat constructor) | exact rd_slr (by repeat constructor) | exact rd_old (by assumption) rfl) (by omega) (by omega) (by first | omega | (simp only [bcells_length, icells_length, ucells_length, tcells_length]; omega) | (simp only [bcells_length, icells_length, ucells_length, tcells_length, fillG_length]; omega) | (simp; omega))) ?_
    refine vl_val rfl (.some rfl) (val_load Try.isAgg107 rfl (by first | exact cell_cells (by repeat constructor) rfl | exact cell_rd (by first | exact rd_sl (by repeat constructor) | exact rd_old (by assumption) rfl) (by first | exact bcells_at (by omega) | exact ucells_at (by omega) | exact icells_at (by omega) | exact tcells_at (by omega) | exact bcells_get (by omega) | exact icells_get (by omega) | exact tcells_get (by omega) | exact ucells_get (by omega)) | exact cell_old (by assumption) (by simp [fps]))) ?_
    refine vl_val rfl (.some rfl) (val_assign rfl) ?_
    refine vl_val rfl (.some rfl) (val_assign rfl) ?_
    refine vl_nil ?_
    refine vc_seq ?_
    refine vc_region ?_
    refine vl_val rfl (.some rfl) (val_move rfl) ?_
    refine vl_val rfl (.some rfl) (val_add rfl rfl (by first | exact w_u64 (by omega) (by omega) | rfl)) ?_
    refine vl_val rfl (.some rfl) (val_assign rfl) ?_
    refine vl_nil ?_
    refine vc_seq ?_
    refine vc_region ?_
    refine vl_val rfl (.some rfl) (val_move rfl) ?_
    refine vl_val rfl (.some rfl) (val_add rfl rfl (by first | exact w_i64 (by omega) (by omega) | rfl)) ?_
    refine vl_val rfl (.some rfl) (val_move rfl) ?_
    refine vl_val rfl (.some rfl) (val_lenSl Try.runUnderlying134 rfl) ?_
    refine vl_val rfl (.some rfl) (val_eq rfl rfl) ?_
    refine vl_val rfl (.some rfl) (val_move rfl) ?_
    refine vl_split (t := 21) rfl (fun hg21 => ?_) (fun hg21 => ?_)
    · (try replace hg21 := of_decide_eq_true hg21)
      refine vl_off rfl rfl rfl rfl (.some rfl) ?_
      refine vl_off rfl rfl rfl rfl (.some rfl) ?_
      refine vl_off rfl rfl rfl rfl (.some rfl) ?_
      refine vl_off rfl rfl rfl rfl (.some rfl) ?_
      refine vl_off rfl rfl rfl rfl (.some rfl) ?_
      refine vl_off rfl rfl rfl rfl (.some rfl) ?_
      refine vl_off rfl rfl rfl rfl (.some rfl) ?_
      refine vl_val rfl (.some rfl) (val_pick rfl rfl) ?_
      refine vl_nil ?_
      refine vc_cond rfl (fun _ => ?_) (fun h => by cases h)
      refine vc_seq ?_
      refine vc_region ?_
      have hcut := runs_cut (n := n) (l := l) (i := i) (by omega) (by omega)
      refine vl_val rfl (.some rfl) (val_move rfl) ?_
      refine vl_val rfl (.some rfl) (val_move rfl) ?_
      refine vl_call (C := [BY A2 (ou).length c2 (ou)]) rfl rfl (.some rfl) Try.call67 rfl (by repeat constructor) (fun w hw => cput A2 c2 (ou) (l.getD i 0) (by omega) (by omega) w) (fun v H' h => ?_)
      obtain ⟨A3, c3, rfl, rfl⟩ := h
      show VL _ _ _ _ _ (_ :: _)
      refine vl_val rfl (.some rfl) (val_move rfl) ?_
      refine vl_call (C := [BY A3 (ou ++ putN (l.getD i 0)).length c3 (ou ++ putN (l.getD i 0))]) rfl rfl (.some rfl) Try.call67 rfl (by repeat constructor) (fun w hw => cput A3 c3 (ou ++ putN (l.getD i 0)) (n + 1) (by omega) (by have := putN_len (l.getD i 0); simp only [List.length_append]; omega) w) (fun v H' h => ?_)
      obtain ⟨A4, c4, rfl, rfl⟩ := h
      show VL _ _ _ _ _ (_ :: _)
      refine vl_val rfl (.some rfl) (val_assign rfl) ?_
      refine vl_nil ?_
      refine vc_region ?_
      refine vl_val rfl (.some rfl) (val_assign rfl) ?_
      refine vl_nil ?_
      refine vc_region ?_
      refine vl_val rfl (.some rfl) (val_add rfl rfl (by first | exact w_i64 (by omega) (by omega) | rfl)) ?_
      refine vl_val rfl (.some rfl) (val_move rfl) ?_
      refine vl_nil ?_
      have hp1 := putN_len (l.getD i 0)
      have hp2 := putN_len (n + 1)
      first
        | exact ⟨l.length - (i + 1), _, _, _, by omega, (by repeat (first | exact trivial | refine ⟨rfl, ?_⟩ | refine ⟨le_item rfl (by first | rfl | (congr 1; omega) | (simp; done) | (simp; omega)), ?_⟩)), (by repeat constructor), ⟨i + 1, 0, ou ++ putN (l.getD i 0) ++ putN (n + 1), A4, c4, by omega, rfl, by omega, by simp only [List.length_append]; omega, by rw [← hg, hcut]; simp, rfl, rfl⟩⟩
        | exact ⟨l.length - (i + 1), _, _, _, by omega, (by repeat (first | exact trivial | refine ⟨rfl, ?_⟩ | refine ⟨le_item rfl (by first | rfl | (congr 1; omega) | (simp; done) | (simp; omega)), ?_⟩)), (by repeat constructor), ⟨i + 1, n + 1, ou, A2, c2, by omega, rfl, by omega, by omega, by rw [← hg, runs_more (n := n) (i := i) (by omega) (by omega)], rfl, rfl⟩⟩
    · (try replace hg21 := of_decide_eq_false hg21)
      refine vl_on rfl rfl rfl rfl ?_
      refine vl_val rfl (.some rfl) (val_move rfl) ?_
      refine vl_on rfl rfl rfl rfl ?_
      refine vl_val rfl (.some rfl) (val_move rfl) ?_
      refine vl_on rfl rfl rfl rfl ?_
      refine vl_val rfl (.some rfl) (val_add rfl rfl (by first | exact w_i64 (by omega) (by omega) | rfl)) ?_
      refine vl_on rfl rfl rfl rfl ?_
      refine vl_val rfl (.some rfl) (val_indexAddr Try.runUnderlying134 Try.sizeOf107 rfl rfl (by first | exact rd_sl (by repeat constructor) | exact rd_slr (by repeat constructor) | exact rd_old (by assumption) rfl) (by omega) (by omega) (by first | omega | (simp only [bcells_length, icells_length, ucells_length, tcells_length]; omega) | (simp only [bcells_length, icells_length, ucells_length, tcells_length, fillG_length]; omega) | (simp; omega))) ?_
      refine vl_on rfl rfl rfl rfl ?_
      refine vl_val rfl (.some rfl) (val_load Try.isAgg107 rfl (cell_rd (rd_old hr rfl) (ucells_of (p := i + 1) (by omega) (by omega)))) ?_
      refine vl_on rfl rfl rfl rfl ?_
      refine vl_val rfl (.some rfl) (val_move rfl) ?_
      refine vl_on rfl rfl rfl rfl ?_
      refine vl_val rfl (.some rfl) (val_ne rfl rfl) ?_
      refine vl_val rfl (.some rfl) (val_pick rfl rfl) ?_
      refine vl_nil ?_
      refine vc_cond rfl (fun hc1 => ?_) (fun hc1 => ?_)
      · (try replace hc1 := of_decide_eq_true hc1)
        refine vc_seq ?_
        refine vc_region ?_
        have hcut := runs_cut (n := n) (l := l) (i := i) (by omega) (by omega)
        refine vl_val rfl (.some rfl) (val_move rfl) ?_
        refine vl_val rfl (.some rfl) (val_move rfl) ?_
        refine vl_call (C := [BY A2 (ou).length c2 (ou)]) rfl rfl (.some rfl) Try.call67 rfl (by repeat constructor) (fun w hw => cput A2 c2 (ou) (l.getD i 0) (by omega) (by omega) w) (fun v H' h => ?_)
        obtain ⟨A3, c3, rfl, rfl⟩ := h
        show VL _ _ _ _ _ (_ :: _)
        refine vl_val rfl (.some rfl) (val_move rfl) ?_
        refine vl_call (C := [BY A3 (ou ++ putN (l.getD i 0)).length c3 (ou ++ putN (l.getD i 0))]) rfl rfl (.some rfl) Try.call67 rfl (by repeat constructor) (fun w hw => cput A3 c3 (ou ++ putN (l.getD i 0)) (n + 1) (by omega) (by have := putN_len (l.getD i 0); simp only [List.length_append]; omega) w) (fun v H' h => ?_)
        obtain ⟨A4, c4, rfl, rfl⟩ := h
        show VL _ _ _ _ _ (_ :: _)
        refine vl_val rfl (.some rfl) (val_assign rfl) ?_
        refine vl_nil ?_
        refine vc_region ?_
        refine vl_val rfl (.some rfl) (val_assign rfl) ?_
        refine vl_nil ?_
        refine vc_region ?_
        refine vl_val rfl (.some rfl) (val_add rfl rfl (by first | exact w_i64 (by omega) (by omega) | rfl)) ?_
        refine vl_val rfl (.some rfl) (val_move rfl) ?_
        refine vl_nil ?_
        have hp1 := putN_len (l.getD i 0)
        have hp2 := putN_len (n + 1)
        first
          | exact ⟨l.length - (i + 1), _, _, _, by omega, (by repeat (first | exact trivial | refine ⟨rfl, ?_⟩ | refine ⟨le_item rfl (by first | rfl | (congr 1; omega) | (simp; done) | (simp; omega)), ?_⟩)), (by repeat constructor), ⟨i + 1, 0, ou ++ putN (l.getD i 0) ++ putN (n + 1), A4, c4, by omega, rfl, by omega, by simp only [List.length_append]; omega, by rw [← hg, hcut]; simp, rfl, rfl⟩⟩
          | exact ⟨l.length - (i + 1), _, _, _, by omega, (by repeat (first | exact trivial | refine ⟨rfl, ?_⟩ | refine ⟨le_item rfl (by first | rfl | (congr 1; omega) | (simp; done) | (simp; omega)), ?_⟩)), (by repeat constructor), ⟨i + 1, n + 1, ou, A2, c2, by omega, rfl, by omega, by omega, by rw [← hg, runs_more (n := n) (i := i) (by omega) (by omega)], rfl, rfl⟩⟩
      · (try replace hc1 := of_decide_eq_false hc1)
        refine vc_skip ?_
        refine vc_region ?_
        refine vl_val rfl (.some rfl) (val_add rfl rfl (by first | exact w_i64 (by omega) (by omega) | rfl)) ?_
        refine vl_val rfl (.some rfl) (val_move rfl) ?_
        refine vl_nil ?_
        have hp1 := putN_len (l.getD i 0)
        have hp2 := putN_len (n + 1)
        first
          | exact ⟨l.length - (i + 1), _, _, _, by omega, (by repeat (first | exact trivial | refine ⟨rfl, ?_⟩ | refine ⟨le_item rfl (by first | rfl | (congr 1; omega) | (simp; done) | (simp; omega)), ?_⟩)), (by repeat constructor), ⟨i + 1, 0, ou ++ putN (l.getD i 0) ++ putN (n + 1), A4, c4, by omega, rfl, by omega, by simp only [List.length_append]; omega, by rw [← hg, hcut]; simp, rfl, rfl⟩⟩
          | exact ⟨l.length - (i + 1), _, _, _, by omega, (by repeat (first | exact trivial | refine ⟨rfl, ?_⟩ | refine ⟨le_item rfl (by first | rfl | (congr 1; omega) | (simp; done) | (simp; omega)), ?_⟩)), (by repeat constructor), ⟨i + 1, n + 1, ou, A2, c2, by omega, rfl, by omega, by omega, by rw [← hg, runs_more (n := n) (i := i) (by omega) (by omega)], rfl, rfl⟩⟩
  · (try replace hc0 := of_decide_eq_false hc0)
    refine vc_exit ?_
    refine vc_seq ?_
    refine vc_region ?_
    refine vl_val rfl (.some rfl) (val_move rfl) ?_
    refine vl_val rfl (.some rfl) (val_assign rfl) ?_
    refine vl_nil ?_
    refine vc_ret ?_
    refine ⟨_, [BY A2 ou.length c2 ou], _, res1 Try.results73 rfl, (by repeat constructor), ?_⟩
    have he : ou = runsS l := by rw [List.drop_of_length_le (by omega)] at hg; simpa [runsG] using hg
    rw [he]
    exact ⟨A2, c2, rfl, rfl⟩
set_option maxRecDepth 20000 in
theorem cDeltas (A : Option Addr) (c : Nat) (l : List Int) (hl : l.length ≤ 1000000000) (w : World) (hr : Reads w A (icells .i64 l)) : Fn Try.prog 75 [.slice A l.length c] [] (ret fun v H' => ∃ A' c', v = .slice A' (deltS l).length c' ∧ H' = [BY A' (deltS l).length c' (deltS l)]) w := by
  refine fn_enter Try.func75 rfl Try.ntmps75 rfl ?_
  refine vc_seq ?_
  refine vc_region ?_
  refine vl_val rfl (.some rfl) (val_assign rfl) ?_
  refine vl_nil ?_
  refine vc_seq ?_
  refine vc_region ?_
  refine vl_val rfl (.some rfl) (val_assign rfl) ?_
  refine vl_nilSl 5 1 ?_
  refine vl_nil ?_
  refine vc_seq ?_
  refine vc_region ?_
  refine vl_val rfl (.some rfl) (val_assign rfl) ?_
  refine vl_nil ?_
  refine vc_seq ?_
  refine vc_seq ?_
  refine vc_region ?_
  refine vl_val rfl (.some rfl) (val_move rfl) ?_
  refine vl_val rfl (.some rfl) (val_lenSl Try.runUnderlying22 rfl) ?_
  refine vl_val rfl (.some rfl) (val_move rfl) ?_
  refine vl_nil ?_
  refine vc_block ?_
  refine vc_loopw (fun k E H => ∃ (i : Nat) (last : Int) (ou : List UInt8) (A2 : Option Addr) (c2 : Nat), i ≤ l.length ∧ k = l.length - i ∧ ou.length ≤ 10 * i ∧ ou ++ deltG last (l.drop i) = deltS l ∧ E = [(0, .slice A l.length c), (3, .slice A2 ou.length c2), (4, .int .i64 last), (7, .slice A l.length c), (8, .int .i64 l.length), (9, .int .i64 i)] ∧ H = [BY A2 ou.length c2 ou]) (l.length) ⟨_, _, _, ⟨0, 0, [], none, 0, by omega, rfl, by simp, rfl, rfl, rfl⟩, (by repeat (first | exact trivial | refine ⟨rfl, ?_⟩ | refine ⟨le_item rfl (by first | rfl | (congr 1; omega) | (simp; done) | (simp; omega)), ?_⟩)), (by repeat constructor)⟩ ?_
  intro k E H hI
  obtain ⟨i, last, ou, A2, c2, hi, rfl, ho, hg, rfl, rfl⟩ := hI
  refine vc_seq ?_
  refine vc_region ?_
  refine vl_val rfl (.some rfl) (val_lt rfl rfl) ?_
  refine vl_nil ?_
  refine vc_seq ?_
  refine vc_cond rfl (fun hc0 => ?_) (fun hc0 => ?_)
  · (try replace hc0 := of_decide_eq_true hc0)
    refine vc_skip ?_
    refine vc_seq ?_
    refine vc_block ?_
    refine vc_seq ?_
    refine vc_region ?_
    refine vl_val rfl (.some rfl) (val_indexAddr Try.runUnderlying22 Try.sizeOf3 rfl rfl (by first | exact rd_sl (by repeat constructor) | exact rd_slr (by repeat constructor) | exact rd_old (by assumption) rfl) (by omega) (by omega) (by first | omega | (simp only [bcells_length, icells_length, ucells_length, tcells_length]; omega) | (simp only [bcells_length, icells_length, ucells_length, tcells_length, fillG_length]; omega) | (simp; omega))) ?_
    refine vl_val rfl (.some rfl) (val_load Try.isAgg3 rfl (by first | exact cell_cells (by repeat constructor) rfl | exact cell_rd (by first | exact rd_sl (by repeat constructor) | exact rd_old (by assumption) rfl) (by first | exact bcells_at (by omega) | exact ucells_at (by omega) | exact icells_at (by omega) | exact tcells_at (by omega) | exact bcells_get (by omega) | exact icells_get (by omega) | exact tcells_get (by omega) | exact ucells_get (by omega)) | exact cell_old (by assumption) (by simp [fps]))) ?_
    refine vl_val rfl (.some rfl) (val_assign rfl) ?_
    refine vl_nil ?_
    refine vc_seq ?_
    refine vc_region ?_
    refine vl_val rfl (.some rfl) (val_move rfl) ?_
    refine vl_val rfl (.some rfl) (val_move rfl) ?_
    refine vl_val rfl (.some rfl) (val_move rfl) ?_
    refine vl_val rfl (.some rfl) (val_sub rfl rfl rfl) ?_
    refine vl_callV rfl rfl (.some rfl) Try.call78 rfl (fun w hw => cZig _ (wrap_bd _).1 (wrap_bd _).2 w) ?_
    refine vl_call (C := [BY A2 (ou).length c2 (ou)]) rfl rfl (.some rfl) Try.call67 rfl (by repeat constructor) (fun w hw => cput A2 c2 (ou) (zigS (IntKind.i64.wrap (l.getD i 0 - last))) (zigS_lt (wrap_bd _).1 (wrap_bd _).2) (by omega) w) (fun v H' h => ?_)
    obtain ⟨A3, c3, rfl, rfl⟩ := h
    show VL _ _ _ _ _ (_ :: _)
    refine vl_val rfl (.some rfl) (val_assign rfl) ?_
    refine vl_nil ?_
    refine vc_region ?_
    refine vl_val rfl (.some rfl) (val_move rfl) ?_
    refine vl_val rfl (.some rfl) (val_assign rfl) ?_
    refine vl_nil ?_
    refine vc_region ?_
    refine vl_val rfl (.some rfl) (val_add rfl rfl (by first | exact w_i64 (by omega) (by omega) | rfl)) ?_
    refine vl_val rfl (.some rfl) (val_move rfl) ?_
    refine vl_nil ?_
    have hp1 := putN_len (zigS (IntKind.i64.wrap (l.getD i 0 - last)))
    exact ⟨l.length - (i + 1), _, _, _, by omega, (by repeat (first | exact trivial | refine ⟨rfl, ?_⟩ | refine ⟨le_item rfl (by first | rfl | (congr 1; omega) | (simp; done) | (simp; omega)), ?_⟩)), (by repeat constructor), ⟨i + 1, l.getD i 0, ou ++ putN (zigS (IntKind.i64.wrap (l.getD i 0 - last))), A3, c3, by omega, rfl, by simp only [List.length_append]; omega, by rw [← hg, delt_step (last := last) (i := i) (by omega), List.append_assoc], rfl, rfl⟩⟩
  · (try replace hc0 := of_decide_eq_false hc0)
    refine vc_exit ?_
    refine vc_seq ?_
    refine vc_region ?_
    refine vl_val rfl (.some rfl) (val_move rfl) ?_
    refine vl_val rfl (.some rfl) (val_assign rfl) ?_
    refine vl_nil ?_
    refine vc_ret ?_
    refine ⟨_, [BY A2 ou.length c2 ou], _, res1 Try.results75 rfl, (by repeat constructor), ?_⟩
    have he : ou = deltS l := by rw [List.drop_of_length_le (by omega)] at hg; simpa [deltG] using hg
    rw [he]
    exact ⟨A2, c2, rfl, rfl⟩




/-- The lengths of the numbers below 256. -/
abbrev len8 : ByteArray := ⟨((List.range 256).map fun u => UInt8.ofNat (bl u)).toArray⟩
theorem len8_at {u : Nat} (h : u < 256) : bt len8 u = bl u := by
  unfold bt
  rw [List.getD_eq_getElem?_getD]
  simp [h]
  have := bl_small (u := u) (by omega)
  omega
theorem bl_shift {u : Nat} (h : 256 ≤ u) : bl u = bl (u / 256) + 8 := by
  have h1 : bl u ≤ bl (u / 256) + 8 := bl_le.2 (by
    have := bl_le.1 (Nat.le_refl (bl (u / 256)))
    rw [Nat.pow_add]
    generalize 2 ^ bl (u / 256) = q at this ⊢
    omega)
  have h8 : 8 ≤ bl u := by
    rcases Nat.lt_or_ge (bl u) 8 with h' | h'
    · have := bl_le.1 (show bl u ≤ 8 by omega)
      omega
    · exact h'
  have h2 : bl (u / 256) ≤ bl u - 8 := bl_le.2 (by
    have := bl_le.1 (Nat.le_refl (bl u))
    rw [show bl u = (bl u - 8) + 8 by omega, Nat.pow_add] at this
    generalize 2 ^ (bl u - 8) = q at this ⊢
    omega)
  omega
theorem bt_len {s : ByteArray} {k : Nat} (hs : s = len8) (h : k < 256) : bt s k = bl k := by rw [hs]; exact len8_at h
set_option maxRecDepth 20000 in
theorem mLen64 (u : Nat) (hu : u < 65536) (w : World) : FnV Try.prog 93 [.int .u64 u] (.int .i64 (bl u)) w := by
  refine fn_enter Try.func93 rfl Try.ntmps93 rfl ?_
  refine vc_seq ?_
  refine vc_region ?_
  refine vl_val rfl (.some rfl) (val_assign rfl) ?_
  refine vl_nil ?_
  refine vc_seq ?_
  refine vc_seq ?_
  refine vc_region ?_
  refine vl_val rfl (.some rfl) (val_move rfl) ?_
  refine vl_val rfl (.some rfl) (val_ge rfl rfl) ?_
  refine vl_nil ?_
  refine vc_cond rfl (fun hc0 => False.elim (by (try replace hc0 := of_decide_eq_true hc0); omega)) (fun hc0 => ?_)
  (try replace hc0 := of_decide_eq_false hc0)
  refine vc_skip ?_
  refine vc_seq ?_
  refine vc_seq ?_
  refine vc_region ?_
  refine vl_val rfl (.some rfl) (val_move rfl) ?_
  refine vl_val rfl (.some rfl) (val_ge rfl rfl) ?_
  refine vl_nil ?_
  refine vc_cond rfl (fun hc1 => False.elim (by (try replace hc1 := of_decide_eq_true hc1); omega)) (fun hc1 => ?_)
  (try replace hc1 := of_decide_eq_false hc1)
  refine vc_skip ?_
  refine vc_seq ?_
  refine vc_seq ?_
  refine vc_region ?_
  refine vl_val rfl (.some rfl) (val_move rfl) ?_
  refine vl_val rfl (.some rfl) (val_ge rfl rfl) ?_
  refine vl_nil ?_
  refine vc_cond rfl (fun hc2 => ?_) (fun hc2 => ?_)
  · (try replace hc2 := of_decide_eq_true hc2)
    obtain ⟨k, hk, hkl, hks⟩ : ∃ k : Nat, (u : Int) / 256 = k ∧ k < 256 ∧ bl u = bl k + 8 := ⟨u / 256, by omega, by omega, bl_shift (by omega)⟩
    have hkb := bl_small (u := k) (by omega)
    refine vc_seq ?_
    refine vc_region ?_
    refine vl_val rfl (.some rfl) (val_move rfl) ?_
    refine vl_val rfl (.some rfl) (val_shr rfl rfl (by decide) (show _ = (k : Int) by rw [← hk]; exact shr_lit 256 rfl (by decide))) ?_
    refine vl_val rfl (.some rfl) (val_assign rfl) ?_
    refine vl_nil ?_
    refine vc_region ?_
    refine vl_val rfl (.some rfl) (val_move rfl) ?_
    refine vl_val rfl (.some rfl) (val_add rfl rfl (by first | exact w_i64 (by omega) (by omega) | rfl)) ?_
    refine vl_val rfl (.some rfl) (val_assign rfl) ?_
    refine vl_nil ?_
    refine vc_seq ?_
    refine vc_region ?_
    refine vl_val rfl (.some rfl) (val_move rfl) ?_
    refine vl_val rfl (.some rfl) (val_move rfl) ?_
    refine vl_val rfl (.some rfl) (val_convInt Try.runUnderlying107 Try.runUnderlying5 rfl (w_u8 (by omega) (by omega))) ?_
    refine vl_val rfl (.some rfl) (val_indexStr Try.runUnderlying9 rfl rfl (by omega) (Int.lt_of_lt_of_le (b := 256) (by omega) (by decide +kernel))) ?_
    refine vl_val rfl (.some rfl) (val_convInt Try.runUnderlying5 Try.runUnderlying3 rfl (show _ = ((bl k : Nat) : Int) by rw [Int.toNat_natCast, bt_len (by decide +kernel) hkl, w_i64 (by omega) (by omega)])) ?_
    refine vl_val rfl (.some rfl) (val_add rfl rfl (by first | exact w_i64 (by omega) (by omega) | rfl)) ?_
    refine vl_val rfl (.some rfl) (val_assign rfl) ?_
    refine vl_nil ?_
    refine vc_ret ?_
    refine ⟨_, [], _, res1 Try.results93 rfl, .nil, ?_⟩
    show Value.int .i64 _ = Value.int .i64 _
    congr 1
    omega
  · (try replace hc2 := of_decide_eq_false hc2)
    obtain ⟨k, hk, hkl, hks⟩ : ∃ k : Nat, (u : Int) = k ∧ k < 256 ∧ bl u = bl k := ⟨u, rfl, by omega, rfl⟩
    have hkb := bl_small (u := k) (by omega)
    rw [hk]
    refine vc_skip ?_
    refine vc_seq ?_
    refine vc_region ?_
    refine vl_val rfl (.some rfl) (val_move rfl) ?_
    refine vl_val rfl (.some rfl) (val_move rfl) ?_
    refine vl_val rfl (.some rfl) (val_convInt Try.runUnderlying107 Try.runUnderlying5 rfl (w_u8 (by omega) (by omega))) ?_
    refine vl_val rfl (.some rfl) (val_indexStr Try.runUnderlying9 rfl rfl (by omega) (Int.lt_of_lt_of_le (b := 256) (by omega) (by decide +kernel))) ?_
    refine vl_val rfl (.some rfl) (val_convInt Try.runUnderlying5 Try.runUnderlying3 rfl (show _ = ((bl k : Nat) : Int) by rw [Int.toNat_natCast, bt_len (by decide +kernel) hkl, w_i64 (by omega) (by omega)])) ?_
    refine vl_val rfl (.some rfl) (val_add rfl rfl (by first | exact w_i64 (by omega) (by omega) | rfl)) ?_
    refine vl_val rfl (.some rfl) (val_assign rfl) ?_
    refine vl_nil ?_
    refine vc_ret ?_
    refine ⟨_, [], _, res1 Try.results93 rfl, .nil, ?_⟩
    show Value.int .i64 _ = Value.int .i64 _
    congr 1
    omega
set_option maxRecDepth 20000 in
theorem mLen (u : Nat) (hu : u < 65536) (w : World) : FnV Try.prog 70 [.int .u64 u] (.int .i64 (bl u)) w := by
  refine fn_enter Try.func70 rfl Try.ntmps70 rfl ?_
  refine vc_seq ?_
  refine vc_region ?_
  refine vl_val rfl (.some rfl) (val_assign rfl) ?_
  refine vl_nil ?_
  refine vc_seq ?_
  refine vc_cond rfl (fun h => by cases h) (fun _ => ?_)
  refine vc_skip ?_
  refine vc_seq ?_
  refine vc_region ?_
  refine vl_val rfl (.some rfl) (val_move rfl) ?_
  refine vl_callV rfl rfl (.some rfl) Try.call93 rfl (fun w hw => mLen64 _ (by omega) w) ?_
  refine vl_val rfl (.some rfl) (val_assign rfl) ?_
  refine vl_nil ?_
  refine vc_ret ?_
  refine ⟨_, [], _, res1 Try.results70 rfl, .nil, ?_⟩
  rfl


set_option maxRecDepth 20000 in
theorem sT134 : SlT Try.prog 134 107 1 8 (.int .u64 0) := ⟨Try.underlying134, ⟨Try.t107, Try.type107, rfl, rfl, rfl⟩, rfl, Nat.lt_of_sub_eq_succ rfl⟩

set_option maxRecDepth 20000 in
theorem cWords (A : Option Addr) (c : Nat) (il : List Int) (hl : il.length ≤ 1000000000) (hb : ∀ n ∈ il, 0 ≤ n ∧ n < 512) (w : World) (hr : Reads w A (icells .i64 il)) : Fn Try.prog 71 [.slice A il.length c] [] (ret fun v H' => ∃ A' c', v = .slice A' (wordsV il).length c' ∧ H' = [UW A' (wordsV il).length c' (wordsV il)]) w := by
  refine fn_enter Try.func71 rfl Try.ntmps71 rfl ?_
  refine vc_seq ?_
  refine vc_region ?_
  refine vl_val rfl (.some rfl) (val_assign rfl) ?_
  refine vl_nil ?_
  refine vc_seq ?_
  refine vc_region ?_
  refine vl_val rfl (.some rfl) (val_move rfl) ?_
  refine vl_val rfl (.some rfl) (val_lenSl Try.runUnderlying22 rfl) ?_
  refine vl_makeSlice sT134 rfl rfl (.some rfl) rfl rfl (by omega) (by omega) (by omega) (made_u _) (fun r8 => ?_)
  rw [Int.toNat_natCast, fillG_zero (f := fun i => (il.getD i 0).toNat)]
  refine vl_val rfl (.some rfl) (val_assign rfl) ?_
  refine vl_nil ?_
  refine vc_seq ?_
  refine vc_seq ?_
  refine vc_region ?_
  refine vl_val rfl (.some rfl) (val_move rfl) ?_
  refine vl_val rfl (.some rfl) (val_lenSl Try.runUnderlying22 rfl) ?_
  refine vl_val rfl (.some rfl) (val_move rfl) ?_
  refine vl_nil ?_
  refine vc_block ?_
  refine vc_loopw (fun k E H => ∃ i : Nat, i ≤ il.length ∧ k = il.length - i ∧ E = [(3, .slice (some ⟨r8, 0, none⟩) il.length il.length), (9, .slice A il.length c), (10, .int .i64 il.length), (11, .int .i64 i)] ∧ H = [UW (some ⟨r8, 0, none⟩) il.length il.length (fillG 0 il.length (fun i => (il.getD i 0).toNat) i)]) (il.length) ⟨_, _, _, ⟨0, by omega, rfl, rfl, rfl⟩, (by repeat (first | exact trivial | refine ⟨rfl, ?_⟩ | refine ⟨le_item rfl (by first | rfl | (congr 1; omega) | (simp; done) | (simp; omega)), ?_⟩)), (by repeat constructor)⟩ ?_
  intro k E H hI
  obtain ⟨i, hil, rfl, rfl, rfl⟩ := hI
  refine vc_seq ?_
  refine vc_region ?_
  refine vl_val rfl (.some rfl) (val_lt rfl rfl) ?_
  refine vl_nil ?_
  refine vc_seq ?_
  refine vc_cond rfl (fun hc0 => ?_) (fun hc0 => ?_)
  · (try replace hc0 := of_decide_eq_true hc0)
    have hbi := hb _ (getD_mem 0 (l := il) (i := i) (by omega))
    refine vc_skip ?_
    refine vc_seq ?_
    refine vc_block ?_
    refine vc_seq ?_
    refine vc_region ?_
    refine vl_val rfl (.some rfl) (val_move rfl) ?_
    refine vl_val rfl (.some rfl) (val_indexAddr Try.runUnderlying22 Try.sizeOf3 rfl rfl (by first | exact rd_sl (by repeat constructor) | exact rd_slr (by repeat constructor) | exact rd_old (by assumption) rfl) (by omega) (by omega) (by first | omega | (simp only [bcells_length, icells_length, ucells_length, tcells_length]; omega) | (simp only [bcells_length, icells_length, ucells_length, tcells_length, fillG_length]; omega) | (simp; omega))) ?_
    refine vl_val rfl (.some rfl) (val_load Try.isAgg3 rfl (by first | exact cell_cells (by repeat constructor) rfl | exact cell_rd (by first | exact rd_sl (by repeat constructor) | exact rd_old (by assumption) rfl) (by first | exact bcells_at (by omega) | exact ucells_at (by omega) | exact icells_at (by omega) | exact tcells_at (by omega) | exact bcells_get (by omega) | exact icells_get (by omega) | exact tcells_get (by omega) | exact ucells_get (by omega)) | exact cell_old (by assumption) (by simp [fps]))) ?_
    refine vl_val rfl (.some rfl) (val_assign rfl) ?_
    refine vl_val rfl (.some rfl) (val_assign rfl) ?_
    refine vl_nil ?_
    refine vc_region ?_
    refine vl_val rfl (.some rfl) (val_move rfl) ?_
    refine vl_val rfl (.some rfl) (val_move rfl) ?_
    refine vl_val rfl (.some rfl) (val_move rfl) ?_
    refine vl_val rfl (.some rfl) (val_convInt Try.runUnderlying3 Try.runUnderlying107 rfl (show _ = (((il.getD i 0).toNat : Nat) : Int) by rw [w_u64 (by omega) (by omega)]; omega)) ?_
    refine vl_val rfl (.some rfl) (val_indexAddr Try.runUnderlying134 Try.sizeOf107 rfl rfl (by first | exact rd_sl (by repeat constructor) | exact rd_slr (by repeat constructor) | exact rd_old (by assumption) rfl) (by omega) (by omega) (by first | omega | (simp only [bcells_length, icells_length, ucells_length, tcells_length]; omega) | (simp only [bcells_length, icells_length, ucells_length, tcells_length, fillG_length]; omega) | (simp; omega))) ?_
    refine vl_storeSl rfl rfl .none rfl rfl Try.sizeOf107 rfl (by simp [Value.cells]) (by repeat constructor) (by rw [ucells_length, fillG_length]; show Int.toNat (i : Int) * 1 + 1 ≤ _; omega) ?_
    rw [laid_u (j := i) (by omega) (by rw [fillG_length]; omega), fillG_set (f := fun i => (il.getD i 0).toNat) (by omega)]
    refine vl_nil ?_
    refine vc_region ?_
    refine vl_val rfl (.some rfl) (val_add rfl rfl (by first | exact w_i64 (by omega) (by omega) | rfl)) ?_
    refine vl_val rfl (.some rfl) (val_move rfl) ?_
    refine vl_nil ?_
    exact ⟨il.length - (i + 1), _, _, _, by omega, (by repeat (first | exact trivial | refine ⟨rfl, ?_⟩ | refine ⟨le_item rfl (by first | rfl | (congr 1; omega) | (simp; done) | (simp; omega)), ?_⟩)), (by repeat constructor), ⟨i + 1, by omega, rfl, rfl, rfl⟩⟩
  · (try replace hc0 := of_decide_eq_false hc0)
    obtain rfl : i = il.length := by omega
    refine vc_exit ?_
    refine vc_seq ?_
    refine vc_region ?_
    refine vl_val rfl (.some rfl) (val_move rfl) ?_
    refine vl_val rfl (.some rfl) (val_assign rfl) ?_
    refine vl_nil ?_
    refine vc_ret ?_
    rw [fill_words]
    refine ⟨_, [UW (some ⟨r8, 0, none⟩) il.length il.length (wordsV il)], _, res1 Try.results71 rfl, (by repeat constructor), ?_⟩
    have hlen : (wordsV il).length = il.length := by simp [wordsV]
    exact ⟨some ⟨r8, 0, none⟩, il.length, by rw [hlen], by rw [hlen]⟩
set_option maxRecDepth 20000 in
theorem cWay0 (x : Nat) (Ai : Option Addr) (ci : Nat) (nl : List Bool) (il : List Int) (hok : okV nl il) (w : World) (hx : w.cell? ⟨x, 1, none⟩ = some (.slice Ai il.length ci)) (hri : Reads w Ai (icells .i64 il)) : Fn Try.prog 69 [.pointer (some ⟨x, 0, none⟩)] [] (ret fun v H' => ∃ A' c', v = .slice A' (way0 il).length c' ∧ H' = [BY A' (way0 il).length c' (way0 il)]) w := by
  have hb := hok.mem
  have hil := hok.2.1
  have hwl : (wordsV il).length = il.length := by simp [wordsV]
  have hwd := wid_ok hok
  have hpk := packB_ok (w := wid il) (by omega) (wordsV_lt hok)
  have hp1 : wid il * il.length ≤ 9 * 1000 := Nat.mul_le_mul hwd hil
  have hpl : (packS (wid il) (wordsV il)).length ≤ 1200 := by rw [packS_len, hwl]; omega
  refine fn_enter Try.func69 rfl Try.ntmps69 rfl ?_
  refine vc_seq ?_
  refine vc_region ?_
  refine vl_val rfl (.some rfl) (val_assign rfl) ?_
  refine vl_nil ?_
  refine vc_seq ?_
  refine vc_region ?_
  refine vl_val rfl (.some rfl) (val_assign rfl) ?_
  refine vl_nil ?_
  refine vc_seq ?_
  refine vc_seq ?_
  refine vc_region ?_
  refine vl_val rfl (.some rfl) (by first | exact val_fieldAddr Try.runUnderlying81 rfl Try.sizeOf22 rfl | exact val_fieldAddrR Try.runUnderlying81 rfl Try.sizeOf22 rfl) ?_
  refine vl_val rfl (.some rfl) (val_load Try.isAgg22 rfl (by first | exact cell_cells (by repeat constructor) rfl | exact cell_rd (by first | exact rd_sl (by repeat constructor) | exact rd_old (by assumption) rfl) (by first | exact bcells_at (by omega) | exact ucells_at (by omega) | exact icells_at (by omega) | exact tcells_at (by omega) | exact bcells_get (by omega) | exact icells_get (by omega) | exact tcells_get (by omega) | exact ucells_get (by omega)) | exact cell_old (by assumption) (by simp [fps]))) ?_
  refine vl_val rfl (.some rfl) (val_lenSl Try.runUnderlying22 rfl) ?_
  refine vl_val rfl (.some rfl) (val_move rfl) ?_
  refine vl_nil ?_
  refine vc_block ?_
  refine vc_loopw (fun k E H => ∃ i : Nat, i ≤ il.length ∧ k = il.length - i ∧ E = [(0, .pointer (some ⟨x, 0, none⟩)), (2, .int .i64 (wid (il.take i))), (8, .slice Ai il.length ci), (9, .int .i64 il.length), (10, .int .i64 i)] ∧ H = []) (il.length) ⟨_, _, _, ⟨0, by omega, rfl, rfl, rfl⟩, (by repeat (first | exact trivial | refine ⟨rfl, ?_⟩ | refine ⟨le_item rfl (by first | rfl | (congr 1; omega) | (simp; done) | (simp; omega)), ?_⟩)), (by repeat constructor)⟩ ?_
  intro k E H hI
  obtain ⟨i, hii, rfl, rfl, rfl⟩ := hI
  refine vc_seq ?_
  refine vc_region ?_
  refine vl_val rfl (.some rfl) (val_lt rfl rfl) ?_
  refine vl_nil ?_
  refine vc_seq ?_
  refine vc_cond rfl (fun hc0 => ?_) (fun hc0 => ?_)
  · (try replace hc0 := of_decide_eq_true hc0)
    have hbi := hb _ (getD_mem 0 (l := il) (i := i) (by omega))
    refine vc_skip ?_
    refine vc_seq ?_
    refine vc_block ?_
    refine vc_seq ?_
    refine vc_region ?_
    refine vl_val rfl (.some rfl) (val_indexAddr Try.runUnderlying22 Try.sizeOf3 rfl rfl (by first | exact rd_sl (by repeat constructor) | exact rd_slr (by repeat constructor) | exact rd_old (by assumption) rfl) (by omega) (by omega) (by first | omega | (simp only [bcells_length, icells_length, ucells_length, tcells_length]; omega) | (simp only [bcells_length, icells_length, ucells_length, tcells_length, fillG_length]; omega) | (simp; omega))) ?_
    refine vl_val rfl (.some rfl) (val_load Try.isAgg3 rfl (by first | exact cell_cells (by repeat constructor) rfl | exact cell_rd (by first | exact rd_sl (by repeat constructor) | exact rd_old (by assumption) rfl) (by first | exact bcells_at (by omega) | exact ucells_at (by omega) | exact icells_at (by omega) | exact tcells_at (by omega) | exact bcells_get (by omega) | exact icells_get (by omega) | exact tcells_get (by omega) | exact ucells_get (by omega)) | exact cell_old (by assumption) (by simp [fps]))) ?_
    refine vl_val rfl (.some rfl) (val_assign rfl) ?_
    refine vl_nil ?_
    refine vc_region ?_
    refine vl_val rfl (.some rfl) (val_move rfl) ?_
    refine vl_val rfl (.some rfl) (val_move rfl) ?_
    refine vl_val rfl (.some rfl) (val_convInt Try.runUnderlying3 Try.runUnderlying137 rfl (show _ = (((il.getD i 0).toNat : Nat) : Int) by rw [w_u64 (by omega) (by omega)]; omega)) ?_
    refine vl_callV rfl rfl (.some rfl) Try.call70 rfl (fun w hw => mLen _ (by omega) w) ?_
    refine vl_val rfl (.some rfl) (val_max rfl rfl (show _ = ((wid (il.take (i + 1)) : Nat) : Int) by rw [wid_step (by omega)]; split <;> omega)) ?_
    refine vl_val rfl (.some rfl) (val_assign rfl) ?_
    refine vl_nil ?_
    refine vc_region ?_
    refine vl_val rfl (.some rfl) (val_add rfl rfl (by first | exact w_i64 (by omega) (by omega) | rfl)) ?_
    refine vl_val rfl (.some rfl) (val_move rfl) ?_
    refine vl_nil ?_
    exact ⟨il.length - (i + 1), _, _, _, by omega, (by repeat (first | exact trivial | refine ⟨rfl, ?_⟩ | refine ⟨le_item rfl (by first | rfl | (congr 1; omega) | (simp; done) | (simp; omega)), ?_⟩)), (by repeat constructor), ⟨i + 1, by omega, rfl, rfl, rfl⟩⟩
  · (try replace hc0 := of_decide_eq_false hc0)
    obtain rfl : i = il.length := by omega
    rw [List.take_length]
    refine vc_exit ?_
    refine vc_seq ?_
    refine vc_region ?_
    refine vl_val rfl (.some rfl) (val_move rfl) ?_
    refine vl_val rfl (.some rfl) (by first | exact val_fieldAddr Try.runUnderlying81 rfl Try.sizeOf22 rfl | exact val_fieldAddrR Try.runUnderlying81 rfl Try.sizeOf22 rfl) ?_
    refine vl_val rfl (.some rfl) (val_load Try.isAgg22 rfl (by first | exact cell_cells (by repeat constructor) rfl | exact cell_rd (by first | exact rd_sl (by repeat constructor) | exact rd_old (by assumption) rfl) (by first | exact bcells_at (by omega) | exact ucells_at (by omega) | exact icells_at (by omega) | exact tcells_at (by omega) | exact bcells_get (by omega) | exact icells_get (by omega) | exact tcells_get (by omega) | exact ucells_get (by omega)) | exact cell_old (by assumption) (by simp [fps]))) ?_
    refine vl_call (C := []) rfl rfl (.some rfl) Try.call71 rfl .nil (fun w hw => cWords Ai ci il (by omega) hb w (rdw (rd_old hri rfl) hw)) (fun v H' h => ?_)
    obtain ⟨A24, c24, rfl, rfl⟩ := h
    show VL _ _ _ _ _ (_ :: _)
    refine vl_call (C := []) rfl rfl (.some rfl) Try.call68 rfl .nil (fun w hw => cPack (wid il) A24 c24 (wordsV il) (by omega) (wordsV_u64 hok) w (rdw (rd_sl (by repeat constructor)) hw)) (fun v H' h => ?_)
    obtain ⟨A25, c25, rfl, rfl⟩ := h
    rw [hpk.1, hpk.2]
    show VL _ _ _ _ _ (_ :: _)
    refine vl_val rfl (.some rfl) (val_move rfl) ?_
    refine vl_val rfl (.some rfl) (val_extract rfl rfl) ?_
    refine vl_val rfl (.some rfl) (val_extract rfl rfl) ?_
    refine vl_val rfl (.some rfl) (val_assign rfl) ?_
    refine vl_val rfl (.some rfl) (val_assign rfl) ?_
    refine vl_nil ?_
    refine vc_seq ?_
    refine vc_region ?_
    refine vl_val rfl (.some rfl) (val_move rfl) ?_
    refine vl_val rfl (.some rfl) (val_convInt Try.runUnderlying3 Try.runUnderlying5 rfl (show _ = (((UInt8.ofNat (wid il)).toNat : Nat) : Int) by rw [u8_ofNat (by omega)]; exact w_u8 (by omega) (by omega))) ?_
    refine vl_lit sT58 rfl rfl (.some rfl) rfl rfl rfl (by decide) (by decide) rfl (flat_one rfl) (fun r30 => ?_)
    refine vl_val rfl (.some rfl) (val_move rfl) ?_
    refine vl_append sT58 rfl rfl (.some rfl) rfl rfl (rd_sl (by repeat constructor)) (by simp [bcells_length]) (one_b _) (by have := hpl; omega) (by have := hpl; omega) (by repeat constructor) (fun A32 k32 => ?_)
    rw [show 2 + (packS (wid il) (wordsV il)).length = (way0 il).length by unfold way0; simp only [List.length_cons]; omega]
    refine vl_val rfl (.some rfl) (val_assign rfl) ?_
    refine vl_nil ?_
    refine vc_ret ?_
    refine ⟨_, [BY A32 (way0 il).length k32 (way0 il)], _, res1 Try.results69 rfl, (by repeat constructor), ?_⟩
    exact ⟨A32, k32, rfl, rfl⟩
set_option maxRecDepth 20000 in
theorem cWay1 (x : Nat) (Ai : Option Addr) (ci : Nat) (nl : List Bool) (il : List Int) (hok : okV nl il) (w : World) (hx : w.cell? ⟨x, 1, none⟩ = some (.slice Ai il.length ci)) (hri : Reads w Ai (icells .i64 il)) : Fn Try.prog 72 [.pointer (some ⟨x, 0, none⟩)] [] (ret fun v H' => ∃ A' c', v = .slice A' (way1 il).length c' ∧ H' = [BY A' (way1 il).length c' (way1 il)]) w := by
  have hb := hok.mem
  have hil := hok.2.1
  have hwl : (wordsV il).length = il.length := by simp [wordsV]
  have hrl := runsS_len (wordsV il)
  refine fn_enter Try.func72 rfl Try.ntmps72 rfl ?_
  refine vc_seq ?_
  refine vc_region ?_
  refine vl_val rfl (.some rfl) (val_assign rfl) ?_
  refine vl_nil ?_
  refine vc_seq ?_
  refine vc_region ?_
  refine vl_lit sT58 rfl rfl (.some rfl) rfl rfl rfl (by decide) (by decide) rfl (flat_one rfl) (fun r2 => ?_)
  refine vl_val rfl (.some rfl) (by first | exact val_fieldAddr Try.runUnderlying81 rfl Try.sizeOf22 rfl | exact val_fieldAddrR Try.runUnderlying81 rfl Try.sizeOf22 rfl) ?_
  refine vl_val rfl (.some rfl) (val_load Try.isAgg22 rfl (by first | exact cell_cells (by repeat constructor) rfl | exact cell_rd (by first | exact rd_sl (by repeat constructor) | exact rd_old (by assumption) rfl) (by first | exact bcells_at (by omega) | exact ucells_at (by omega) | exact icells_at (by omega) | exact tcells_at (by omega) | exact bcells_get (by omega) | exact icells_get (by omega) | exact tcells_get (by omega) | exact ucells_get (by omega)) | exact cell_old (by assumption) (by simp [fps]))) ?_
  refine vl_call (C := []) rfl rfl (.some rfl) Try.call71 rfl .nil (fun w hw => cWords Ai ci il (by omega) hb w (rdw (rd_old hri rfl) hw)) (fun v H' h => ?_)
  obtain ⟨A5, c5, rfl, rfl⟩ := h
  show VL _ _ _ _ _ (_ :: _)
  refine vl_call (C := []) rfl rfl (.some rfl) Try.call73 rfl .nil (fun w hw => cRuns A5 c5 (wordsV il) (by omega) (wordsV_u64 hok) w (rdw (rd_sl (by repeat constructor)) hw)) (fun v H' h => ?_)
  obtain ⟨A6, c6, rfl, rfl⟩ := h
  show VL _ _ _ _ _ (_ :: _)
  refine vl_append sT58 rfl rfl (.some rfl) rfl rfl (rd_sl (by repeat constructor)) (by simp [bcells_length]) (one_b _) (by have := hrl; omega) (by have := hrl; omega) (by repeat constructor) (fun A7 k7 => ?_)
  rw [show 1 + (runsS (wordsV il)).length = (way1 il).length by unfold way1; simp only [List.length_cons]; omega]
  refine vl_val rfl (.some rfl) (val_assign rfl) ?_
  refine vl_nil ?_
  refine vc_ret ?_
  refine ⟨_, [BY A7 (way1 il).length k7 (way1 il)], _, res1 Try.results72 rfl, (by repeat constructor), ?_⟩
  exact ⟨A7, k7, rfl, rfl⟩
set_option maxRecDepth 20000 in
theorem cWay2 (x : Nat) (Ai : Option Addr) (ci : Nat) (nl : List Bool) (il : List Int) (hok : okV nl il) (w : World) (hx : w.cell? ⟨x, 1, none⟩ = some (.slice Ai il.length ci)) (hri : Reads w Ai (icells .i64 il)) : Fn Try.prog 74 [.pointer (some ⟨x, 0, none⟩)] [] (ret fun v H' => ∃ A' c', v = .slice A' (way2 il).length c' ∧ H' = [BY A' (way2 il).length c' (way2 il)]) w := by
  have hb := hok.mem
  have hil := hok.2.1
  have hrl := deltS_len il
  refine fn_enter Try.func74 rfl Try.ntmps74 rfl ?_
  refine vc_seq ?_
  refine vc_region ?_
  refine vl_val rfl (.some rfl) (val_assign rfl) ?_
  refine vl_nil ?_
  refine vc_seq ?_
  refine vc_region ?_
  refine vl_lit sT58 rfl rfl (.some rfl) rfl rfl rfl (by decide) (by decide) rfl (flat_one rfl) (fun r2 => ?_)
  refine vl_val rfl (.some rfl) (by first | exact val_fieldAddr Try.runUnderlying81 rfl Try.sizeOf22 rfl | exact val_fieldAddrR Try.runUnderlying81 rfl Try.sizeOf22 rfl) ?_
  refine vl_val rfl (.some rfl) (val_load Try.isAgg22 rfl (by first | exact cell_cells (by repeat constructor) rfl | exact cell_rd (by first | exact rd_sl (by repeat constructor) | exact rd_old (by assumption) rfl) (by first | exact bcells_at (by omega) | exact ucells_at (by omega) | exact icells_at (by omega) | exact tcells_at (by omega) | exact bcells_get (by omega) | exact icells_get (by omega) | exact tcells_get (by omega) | exact ucells_get (by omega)) | exact cell_old (by assumption) (by simp [fps]))) ?_
  refine vl_call (C := []) rfl rfl (.some rfl) Try.call75 rfl .nil (fun w hw => cDeltas Ai ci il (by omega) w (rdw (rd_old hri rfl) hw)) (fun v H' h => ?_)
  obtain ⟨A5, c5, rfl, rfl⟩ := h
  show VL _ _ _ _ _ (_ :: _)
  refine vl_append sT58 rfl rfl (.some rfl) rfl rfl (rd_sl (by repeat constructor)) (by simp [bcells_length]) (one_b _) (by have := hrl; omega) (by have := hrl; omega) (by repeat constructor) (fun A6 k6 => ?_)
  rw [show 1 + (deltS il).length = (way2 il).length by unfold way2; simp only [List.length_cons]; omega]
  refine vl_val rfl (.some rfl) (val_assign rfl) ?_
  refine vl_nil ?_
  refine vc_ret ?_
  refine ⟨_, [BY A6 (way2 il).length k6 (way2 il)], _, res1 Try.results74 rfl, (by repeat constructor), ?_⟩
  exact ⟨A6, k6, rfl, rfl⟩

/-- The second way and the third. -/
def fidW (j : Nat) : FuncId := if j = 0 then 72 else 74
theorem callW (j : Nat) (args : _) (w : World) : (callFunc (fidW j) args).run Try.prog w = .ok (.enter (fidW j) args) w := by
  unfold fidW
  split
  · exact Try.call72 args w
  · exact Try.call74 args w
theorem cWayJ (j : Nat) (x : Nat) (Ai : Option Addr) (ci : Nat) (nl : List Bool) (il : List Int) (hok : okV nl il) (w : World) (hx : w.cell? ⟨x, 1, none⟩ = some (.slice Ai il.length ci)) (hri : Reads w Ai (icells .i64 il)) : Fn Try.prog (fidW j) [.pointer (some ⟨x, 0, none⟩)] [] (ret fun v H' => ∃ A' c', v = .slice A' (wayJ il j).length c' ∧ H' = [BY A' (wayJ il j).length c' (wayJ il j)]) w := by
  unfold fidW wayJ
  split
  · exact cWay1 x Ai ci nl il hok w hx hri
  · exact cWay2 x Ai ci nl il hok w hx hri



abbrev wayF (j : FuncId) (r : Nat) : Value := .func (.func j) #[] #[.pointer (some ⟨r, 0, none⟩)]

set_option maxRecDepth 20000 in
theorem cBytes (An Ai : Option Addr) (cn ci : Nat) (nl : List Bool) (il : List Int) (hn : nl.length < 9223372036854775808) (hi : il.length < 9223372036854775808) (w : World) (hrn : Reads w An (tcells nl)) (hri : Reads w Ai (icells .i64 il)) : Fn Try.prog 43 [(VA An cn nl Ai ci il)] [] (ret fun v H' => ∃ A' c', v = .tuple #[.slice A' (bytesL nl il).length c', .int .i64 (bytesE nl il)] ∧ H' = [BY A' (bytesL nl il).length c' (bytesL nl il)]) w := by
  refine fn_enter Try.func43 rfl Try.ntmps43 rfl ?_
  refine vc_seq ?_
  refine vc_region ?_
  refine vl_box rfl rfl (.some rfl) rfl (fun r1 => ?_)
  refine vl_val rfl (.some rfl) (val_assign rfl) ?_
  refine vl_val rfl (.some rfl) (val_assign rfl) ?_
  refine vl_nil ?_
  refine vc_seq ?_
  refine vc_seq ?_
  refine vc_region ?_
  refine vl_val rfl (.some rfl) (val_loadAgg Try.isAgg81 Try.sizeOf81 rfl (by first | exact cells_whole (by repeat constructor) | exact cells_part (by repeat constructor) rfl) rfl) ?_
  refine vl_callV rfl rfl (.some rfl) Try.call55 rfl (fun w hw => cGood _ _ _ _ nl il (by omega) (by omega) w (rdw (rd_old hrn rfl) hw) (rdw (rd_old hri rfl) hw)) ?_
  refine vl_val rfl (.some rfl) (val_not rfl) ?_
  refine vl_nil ?_
  refine vc_cond rfl (fun hc0 => ?_) (fun hc0 => ?_)
  · (try replace hc0 := of_decide_eq_true hc0)
    have hok : ¬ okV nl il := by simpa using hc0
    refine vc_seq ?_
    refine vc_region ?_
    refine vl_val rfl (.some rfl) (val_assign rfl) ?_
    refine vl_nilSl 5 1 ?_
    refine vl_val rfl (.some rfl) (val_assign rfl) ?_
    refine vl_nil ?_
    refine vc_ret ?_
    refine ⟨_, [BY none 0 0 []], _, res2 Try.results43 rfl rfl, (by repeat constructor), ?_⟩
    show ∃ A' c', _ ∧ _
    unfold bytesL bytesE
    rw [if_neg hok, if_neg hok]
    exact ⟨none, 0, rfl, rfl⟩
  · (try replace hc0 := of_decide_eq_false hc0)
    have hok : okV nl il := by simpa using hc0
    have hb := hok.mem
    have hle := hok.1
    have hil := hok.2.1
    have hwl := wordsV_len il
    have hfl := flagsV_len nl
    have hwd := wid_ok hok
    have hpf : packB 1 (flagsV nl) = packS 1 (flagsV nl) ∧ packE 1 (flagsV nl) = 0 := packB_ok (w := 1) (by decide) (flagsV_lt nl)
    have hpk := packB_ok (w := wid il) (by omega) (wordsV_lt hok)
    have hhl := headV_len hok
    have hbl := bestV_len hok
    have hpt := putN_len il.length
    have hpl : (packS 1 (flagsV nl)).length ≤ 126 := by rw [packS_len, hfl]; omega
    have hp1 : wid il * il.length ≤ 9 * 1000 := Nat.mul_le_mul hwd hil
    have hpl2 : (packS (wid il) (wordsV il)).length ≤ 1200 := by rw [packS_len, hwl]; omega
    have hrl := runsS_len (wordsV il)
    have hdl := deltS_len il
    refine vc_skip ?_
    refine vc_seq ?_
    refine vc_region ?_
    refine vl_val rfl (.some rfl) (by first | exact val_fieldAddr Try.runUnderlying81 rfl Try.sizeOf79 rfl | exact val_fieldAddrR Try.runUnderlying81 rfl Try.sizeOf79 rfl) ?_
    refine vl_val rfl (.some rfl) (val_load Try.isAgg79 rfl (by first | exact cell_cells (by repeat constructor) rfl | exact cell_rd (by first | exact rd_sl (by repeat constructor) | exact rd_old (by assumption) rfl) (by first | exact bcells_at (by omega) | exact ucells_at (by omega) | exact icells_at (by omega) | exact tcells_at (by omega) | exact bcells_get (by omega) | exact icells_get (by omega) | exact tcells_get (by omega) | exact ucells_get (by omega)) | exact cell_old (by assumption) (by simp [fps]))) ?_
    refine vl_val rfl (.some rfl) (val_lenSl Try.runUnderlying79 rfl) ?_
    refine vl_makeSlice sT134 rfl rfl (.some rfl) rfl rfl (by omega) (by omega) (by omega) (made_u _) (fun r21 => ?_)
    rw [Int.toNat_natCast, fillG_zero (f := flagAt nl)]
    refine vl_val rfl (.some rfl) (val_assign rfl) ?_
    refine vl_nil ?_
    refine vc_seq ?_
    refine vc_seq ?_
    refine vc_region ?_
    refine vl_val rfl (.some rfl) (by first | exact val_fieldAddr Try.runUnderlying81 rfl Try.sizeOf79 rfl | exact val_fieldAddrR Try.runUnderlying81 rfl Try.sizeOf79 rfl) ?_
    refine vl_val rfl (.some rfl) (val_load Try.isAgg79 rfl (by first | exact cell_cells (by repeat constructor) rfl | exact cell_rd (by first | exact rd_sl (by repeat constructor) | exact rd_old (by assumption) rfl) (by first | exact bcells_at (by omega) | exact ucells_at (by omega) | exact icells_at (by omega) | exact tcells_at (by omega) | exact bcells_get (by omega) | exact icells_get (by omega) | exact tcells_get (by omega) | exact ucells_get (by omega)) | exact cell_old (by assumption) (by simp [fps]))) ?_
    refine vl_val rfl (.some rfl) (val_lenSl Try.runUnderlying79 rfl) ?_
    refine vl_val rfl (.some rfl) (val_move rfl) ?_
    refine vl_nil ?_
    refine vc_block ?_
    refine vc_loopw (fun k E H => ∃ i : Nat, i ≤ nl.length ∧ k = nl.length - i ∧ E = [(1, .pointer (some ⟨r1, 0, none⟩)), (4, .slice (some ⟨r21, 0, none⟩) nl.length nl.length), (23, .slice An nl.length cn), (24, .int .i64 nl.length), (25, .int .i64 i)] ∧ H = [UW (some ⟨r21, 0, none⟩) nl.length nl.length (fillG 0 nl.length (flagAt nl) i), cells r1 [.slice An nl.length cn, .slice Ai il.length ci] 81]) (nl.length) ⟨_, _, _, ⟨0, by omega, rfl, rfl, rfl⟩, (by repeat (first | exact trivial | refine ⟨rfl, ?_⟩ | refine ⟨le_item rfl (by first | rfl | (congr 1; omega) | (simp; done) | (simp; omega)), ?_⟩)), (by repeat constructor)⟩ ?_
    intro k E H hI
    obtain ⟨i, hin, rfl, rfl, rfl⟩ := hI
    refine vc_seq ?_
    refine vc_region ?_
    refine vl_val rfl (.some rfl) (val_lt rfl rfl) ?_
    refine vl_nil ?_
    refine vc_seq ?_
    refine vc_cond rfl (fun hc1 => ?_) (fun hc1 => ?_)
    · (try replace hc1 := of_decide_eq_true hc1)
      have hi2 : i < nl.length := by omega
      refine vc_skip ?_
      refine vc_seq ?_
      refine vc_block ?_
      refine vc_seq ?_
      refine vc_region ?_
      refine vl_val rfl (.some rfl) (val_move rfl) ?_
      refine vl_val rfl (.some rfl) (val_indexAddr Try.runUnderlying79 Try.sizeOf4 rfl rfl (by first | exact rd_sl (by repeat constructor) | exact rd_slr (by repeat constructor) | exact rd_old (by assumption) rfl) (by omega) (by omega) (by first | omega | (simp only [bcells_length, icells_length, ucells_length, tcells_length]; omega) | (simp only [bcells_length, icells_length, ucells_length, tcells_length, fillG_length]; omega) | (simp; omega))) ?_
      refine vl_val rfl (.some rfl) (val_load Try.isAgg4 rfl (by first | exact cell_cells (by repeat constructor) rfl | exact cell_rd (by first | exact rd_sl (by repeat constructor) | exact rd_old (by assumption) rfl) (by first | exact bcells_at (by omega) | exact ucells_at (by omega) | exact icells_at (by omega) | exact tcells_at (by omega) | exact bcells_get (by omega) | exact icells_get (by omega) | exact tcells_get (by omega) | exact ucells_get (by omega)) | exact cell_old (by assumption) (by simp [fps]))) ?_
      refine vl_val rfl (.some rfl) (val_assign rfl) ?_
      refine vl_val rfl (.some rfl) (val_assign rfl) ?_
      refine vl_nil ?_
      refine vc_seq ?_
      refine vc_region ?_
      refine vl_val rfl (.some rfl) (val_move rfl) ?_
      refine vl_nil ?_
      refine vc_cond rfl (fun hc2 => ?_) (fun hc2 => ?_)
      · (try replace hc2 := of_decide_eq_true hc2)
        refine vc_region ?_
        refine vl_val rfl (.some rfl) (val_move rfl) ?_
        refine vl_val rfl (.some rfl) (val_move rfl) ?_
        refine vl_val rfl (.some rfl) (val_indexAddr Try.runUnderlying134 Try.sizeOf107 rfl rfl (by first | exact rd_sl (by repeat constructor) | exact rd_slr (by repeat constructor) | exact rd_old (by assumption) rfl) (by omega) (by omega) (by first | omega | (simp only [bcells_length, icells_length, ucells_length, tcells_length]; omega) | (simp only [bcells_length, icells_length, ucells_length, tcells_length, fillG_length]; omega) | (simp; omega))) ?_
        refine vl_storeSl rfl rfl .none rfl rfl Try.sizeOf107 rfl (by simp [Value.cells]) (by repeat constructor) (by rw [ucells_length, fillG_length]; show Int.toNat (i : Int) * 1 + 1 ≤ _; omega) ?_
        rw [laid_u1 (j := i) (by omega) (by rw [fillG_length]; omega), fill_flag (by omega) hc2]
        refine vl_nil ?_
        refine vc_region ?_
        refine vl_val rfl (.some rfl) (val_add rfl rfl (by first | exact w_i64 (by omega) (by omega) | rfl)) ?_
        refine vl_val rfl (.some rfl) (val_move rfl) ?_
        refine vl_nil ?_
        exact ⟨nl.length - (i + 1), _, _, _, by omega, (by repeat (first | exact trivial | refine ⟨rfl, ?_⟩ | refine ⟨le_item rfl (by first | rfl | (congr 1; omega) | (simp; done) | (simp; omega)), ?_⟩)), (by repeat constructor), ⟨i + 1, by omega, rfl, rfl, rfl⟩⟩
      · (try replace hc2 := of_decide_eq_false hc2)
        replace hc2 : nl.getD i false = false := by cases h : nl.getD i false with
          | false => rfl
          | true => exact absurd h (by simpa using hc2)
        rw [fill_noflag hc2]
        refine vc_skip ?_
        refine vc_region ?_
        refine vl_val rfl (.some rfl) (val_add rfl rfl (by first | exact w_i64 (by omega) (by omega) | rfl)) ?_
        refine vl_val rfl (.some rfl) (val_move rfl) ?_
        refine vl_nil ?_
        exact ⟨nl.length - (i + 1), _, _, _, by omega, (by repeat (first | exact trivial | refine ⟨rfl, ?_⟩ | refine ⟨le_item rfl (by first | rfl | (congr 1; omega) | (simp; done) | (simp; omega)), ?_⟩)), (by repeat constructor), ⟨i + 1, by omega, rfl, rfl, rfl⟩⟩
    · (try replace hc1 := of_decide_eq_false hc1)
      obtain rfl : i = nl.length := by omega
      rw [fill_flags]
      refine vc_exit ?_
      refine vc_seq ?_
      refine vc_region ?_
      refine vl_val rfl (.some rfl) (val_move rfl) ?_
      refine vl_call (C := []) rfl rfl (.some rfl) Try.call68 rfl .nil (fun w hw => by
        have h9 := cPack 1 (some ⟨r21, 0, none⟩) nl.length (flagsV nl) (by omega) (fun u hu => by have := flagsV_lt nl u hu; omega) w (rdw (rd_sl (by repeat constructor)) hw)
        rw [hfl] at h9
        exact h9) (fun v H' h => ?_)
      obtain ⟨A37, c37, rfl, rfl⟩ := h
      rw [hpf.1, hpf.2]
      show VL _ _ _ _ _ (_ :: _)
      refine vl_val rfl (.some rfl) (val_move rfl) ?_
      refine vl_val rfl (.some rfl) (val_extract rfl rfl) ?_
      refine vl_val rfl (.some rfl) (val_extract rfl rfl) ?_
      refine vl_val rfl (.some rfl) (val_assign rfl) ?_
      refine vl_val rfl (.some rfl) (val_assign rfl) ?_
      refine vl_nil ?_
      refine vc_seq ?_
      refine vc_region ?_
      refine vl_val rfl (.some rfl) (by first | exact val_fieldAddr Try.runUnderlying81 rfl Try.sizeOf22 rfl | exact val_fieldAddrR Try.runUnderlying81 rfl Try.sizeOf22 rfl) ?_
      refine vl_val rfl (.some rfl) (val_load Try.isAgg22 rfl (by first | exact cell_cells (by repeat constructor) rfl | exact cell_rd (by first | exact rd_sl (by repeat constructor) | exact rd_old (by assumption) rfl) (by first | exact bcells_at (by omega) | exact ucells_at (by omega) | exact icells_at (by omega) | exact tcells_at (by omega) | exact bcells_get (by omega) | exact icells_get (by omega) | exact tcells_get (by omega) | exact ucells_get (by omega)) | exact cell_old (by assumption) (by simp [fps]))) ?_
      refine vl_val rfl (.some rfl) (val_lenSl Try.runUnderlying22 rfl) ?_
      refine vl_val rfl (.some rfl) (val_convInt Try.runUnderlying3 Try.runUnderlying107 rfl (by first | exact w_u64 (by omega) (by omega) | rfl)) ?_
      refine vl_call (C := []) rfl rfl (.some rfl) Try.call42 rfl .nil (fun w hw => cPut none 0 [] il.length (by omega) (by decide) w (rdw (by first | exact rd_sl (by repeat constructor) | exact rd_slr (by repeat constructor) | exact rd_old (by assumption) rfl | exact rd_slq (by repeat constructor) | exact rd_nil) hw)) (fun v H' h => ?_)
      obtain ⟨A44, c44, rfl, rfl⟩ := h
      rw [List.nil_append]
      show VL _ _ _ _ _ (_ :: _)
      refine vl_val rfl (.some rfl) (val_move rfl) ?_
      refine vl_append sT58 rfl rfl (.some rfl) rfl rfl (rd_sl (by repeat constructor)) (by simp [bcells_length]) (one_b _) (by have := hpl; omega) (by have := hpl; omega) (by repeat constructor) (fun A46 k46 => ?_)
      rw [show (putN il.length).length + (packS 1 (flagsV nl)).length = (headV nl il).length by unfold headV; rw [List.length_append], bapp, show putN il.length ++ packS 1 (flagsV nl) = headV nl il from rfl]
      refine vl_val rfl (.some rfl) (val_assign rfl) ?_
      refine vl_nil ?_
      refine vc_seq ?_
      refine vc_region ?_
      refine vl_val rfl (.some rfl) (val_mkFunc rfl rfl) ?_
      refine vl_val rfl (.some rfl) (val_mkFunc rfl rfl) ?_
      refine vl_val rfl (.some rfl) (val_mkFunc rfl rfl) ?_
      refine vl_val rfl (.some rfl) (val_buildArr (cs := #[wayF 69 r1, wayF 72 r1, wayF 74 r1]) Try.runUnderlying141 Try.zeroValue141 Try.sizeOf117 rfl rfl) ?_
      refine vl_alloc rfl rfl (.some rfl) Try.zeroValue141 (fun r10 => ?_)
      first | refine vl_store rfl rfl .none rfl rfl Try.sizeOf141 rfl (by repeat constructor) (by first | decide | exact Nat.le_refl _ | exact Nat.le_of_ble_eq_true rfl | (simp; omega)) ?_ | refine vl_storeSl rfl rfl .none rfl rfl Try.sizeOf141 rfl (by simp [Value.cells]) (by repeat constructor) (by first | decide | (simp [Value.cells]; omega)) ?_
      refine vl_nil ?_
      refine vc_seq ?_
      refine vc_region ?_
      refine vl_val rfl (.some rfl) (val_indexAddrArr Try.runUnderlying141 Try.sizeOf117 rfl rfl (by omega) (by omega)) ?_
      refine vl_val rfl (.some rfl) (val_load Try.isAgg117 rfl (by first | exact cell_cells (by repeat constructor) rfl | exact cell_rd (by first | exact rd_sl (by repeat constructor) | exact rd_old (by assumption) rfl) (by first | exact bcells_at (by omega) | exact ucells_at (by omega) | exact icells_at (by omega) | exact tcells_at (by omega) | exact bcells_get (by omega) | exact icells_get (by omega) | exact tcells_get (by omega) | exact ucells_get (by omega)) | exact cell_old (by assumption) (by simp [fps]))) ?_
      refine vl_callv (C := []) (fs := []) (cs := [.pointer (some ⟨r1, 0, none⟩)]) (args := []) rfl rfl (.some rfl) rfl Try.call69 rfl .nil (fun w hw => cWay0 r1 Ai ci nl il hok w (cell_cells (i := 1) (by repeat constructor) rfl w hw) (rdw (rd_old hri rfl) hw)) (fun v H' h => ?_)
      obtain ⟨A53, c53, rfl, rfl⟩ := h
      show VL _ _ _ _ _ (_ :: _)
      refine vl_val rfl (.some rfl) (val_assign rfl) ?_
      refine vl_nil ?_
      refine vc_seq ?_
      refine vc_seq ?_
      refine vc_region ?_
      refine vl_val rfl (.some rfl) (show Val _ _ _ _ _ (.slice (some ⟨r10, 1, none⟩) 2 2) from val_cutArrFrom (k := .i64) (p := 1) (n := 3) (o := 0) (sz := 1) Try.runUnderlying141 Try.sizeOf117 rfl rfl (by decide) (by decide)) ?_
      refine vl_val rfl (.some rfl) (val_lenSl Try.runUnderlying142 rfl) ?_
      refine vl_val rfl (.some rfl) (val_move rfl) ?_
      refine vl_nil ?_
      refine vc_block ?_
      refine vc_loopw (fun k E H => ∃ (j : Nat) (A11 : Option Addr) (c11 : Nat), j ≤ 2 ∧ k = 2 - j ∧ E = [(1, .pointer (some ⟨r1, 0, none⟩)), (9, .slice A46 (headV nl il).length k46), (11, .slice A11 (bestJ il j).length c11), (54, .slice (some ⟨r10, 1, none⟩) 2 2), (55, .int .i64 2), (56, .int .i64 j)] ∧ H = [BY A11 (bestJ il j).length c11 (bestJ il j), cells r10 [wayF 69 r1, wayF 72 r1, wayF 74 r1] 141, BY A46 (headV nl il).length k46 (headV nl il), cells r1 [.slice An nl.length cn, .slice Ai il.length ci] 81]) (2) ⟨_, _, _, ⟨0, A53, c53, by omega, rfl, rfl, rfl⟩, (by repeat (first | exact trivial | refine ⟨rfl, ?_⟩ | refine ⟨le_item rfl (by first | rfl | (congr 1; omega) | (simp; done) | (simp; omega)), ?_⟩)), (by repeat constructor)⟩ ?_
      intro k E H hI
      obtain ⟨j, A11, c11, hj, rfl, rfl, rfl⟩ := hI
      refine vc_seq ?_
      refine vc_region ?_
      refine vl_val rfl (.some rfl) (val_lt rfl rfl) ?_
      refine vl_nil ?_
      refine vc_seq ?_
      refine vc_cond rfl (fun hc3 => ?_) (fun hc3 => ?_)
      · (try replace hc3 := of_decide_eq_true hc3)
        have hj2 : j < 2 := by omega
        refine vc_skip ?_
        refine vc_seq ?_
        refine vc_block ?_
        refine vc_seq ?_
        refine vc_region ?_
        refine vl_val rfl (.some rfl) (val_indexAddr Try.runUnderlying142 Try.sizeOf117 rfl rfl (rd_cells (o := 1) (by repeat constructor)) (by omega) (by omega) (by show Int.toNat (j : Int) * 1 < 2; omega)) ?_
        refine vl_val rfl (.some rfl) (val_load Try.isAgg117 rfl (cell_rd (rd_cells (o := 1) (by repeat constructor)) (show _ = some (wayF (fidW j) r1) by rcases (by omega : j = 0 ∨ j = 1) with rfl | rfl <;> rfl))) ?_
        refine vl_val rfl (.some rfl) (val_assign rfl) ?_
        refine vl_nil ?_
        refine vc_seq ?_
        refine vc_region ?_
        refine vl_val rfl (.some rfl) (val_move rfl) ?_
        refine vl_callv (C := []) (f := fidW j) (fs := []) (cs := [.pointer (some ⟨r1, 0, none⟩)]) (args := []) rfl rfl (.some rfl) rfl (callW j) rfl .nil (fun w hw => cWayJ j r1 Ai ci nl il hok w (cell_cells (i := 1) (by repeat constructor) rfl w hw) (rdw (rd_old hri rfl) hw)) (fun v H' h => ?_)
        obtain ⟨A61, c61, rfl, rfl⟩ := h
        show VL _ _ _ _ _ (_ :: _)
        refine vl_val rfl (.some rfl) (val_assign rfl) ?_
        refine vl_nil ?_
        refine vc_seq ?_
        refine vc_region ?_
        refine vl_val rfl (.some rfl) (val_move rfl) ?_
        refine vl_val rfl (.some rfl) (val_lenSl Try.runUnderlying58 rfl) ?_
        refine vl_val rfl (.some rfl) (val_move rfl) ?_
        refine vl_val rfl (.some rfl) (val_lenSl Try.runUnderlying58 rfl) ?_
        refine vl_val rfl (.some rfl) (val_lt rfl rfl) ?_
        refine vl_nil ?_
        refine vc_cond rfl (fun hc4 => ?_) (fun hc4 => ?_)
        · (try replace hc4 := of_decide_eq_true hc4)
          have hbst : bestJ il (j + 1) = wayJ il j := by rw [bestJ_step hj2]; unfold less; rw [if_pos (by omega)]
          rw [← hbst]
          refine vc_region ?_
          refine vl_val rfl (.some rfl) (val_move rfl) ?_
          refine vl_val rfl (.some rfl) (val_assign rfl) ?_
          refine vl_nil ?_
          refine vc_region ?_
          refine vl_val rfl (.some rfl) (val_add rfl rfl (by first | exact w_i64 (by omega) (by omega) | rfl)) ?_
          refine vl_val rfl (.some rfl) (val_move rfl) ?_
          refine vl_nil ?_
          first
            | exact ⟨2 - (j + 1), _, _, _, by omega, (by repeat (first | exact trivial | refine ⟨rfl, ?_⟩ | refine ⟨le_item rfl (by first | rfl | (congr 1; omega) | (simp; done) | (simp; omega)), ?_⟩)), (by repeat constructor), ⟨j + 1, A61, c61, by omega, rfl, rfl, rfl⟩⟩
            | exact ⟨2 - (j + 1), _, _, _, by omega, (by repeat (first | exact trivial | refine ⟨rfl, ?_⟩ | refine ⟨le_item rfl (by first | rfl | (congr 1; omega) | (simp; done) | (simp; omega)), ?_⟩)), (by repeat constructor), ⟨j + 1, A11, c11, by omega, rfl, rfl, rfl⟩⟩
        · (try replace hc4 := of_decide_eq_false hc4)
          have hbst : bestJ il (j + 1) = bestJ il j := by rw [bestJ_step hj2]; unfold less; rw [if_neg (by omega)]
          rw [← hbst]
          refine vc_skip ?_
          refine vc_region ?_
          refine vl_val rfl (.some rfl) (val_add rfl rfl (by first | exact w_i64 (by omega) (by omega) | rfl)) ?_
          refine vl_val rfl (.some rfl) (val_move rfl) ?_
          refine vl_nil ?_
          first
            | exact ⟨2 - (j + 1), _, _, _, by omega, (by repeat (first | exact trivial | refine ⟨rfl, ?_⟩ | refine ⟨le_item rfl (by first | rfl | (congr 1; omega) | (simp; done) | (simp; omega)), ?_⟩)), (by repeat constructor), ⟨j + 1, A61, c61, by omega, rfl, rfl, rfl⟩⟩
            | exact ⟨2 - (j + 1), _, _, _, by omega, (by repeat (first | exact trivial | refine ⟨rfl, ?_⟩ | refine ⟨le_item rfl (by first | rfl | (congr 1; omega) | (simp; done) | (simp; omega)), ?_⟩)), (by repeat constructor), ⟨j + 1, A11, c11, by omega, rfl, rfl, rfl⟩⟩
      · (try replace hc3 := of_decide_eq_false hc3)
        obtain rfl : j = 2 := by omega
        rw [show bestJ il 2 = bestV il from rfl]
        refine vc_exit ?_
        refine vc_seq ?_
        refine vc_region ?_
        refine vl_val rfl (.some rfl) (val_move rfl) ?_
        refine vl_val rfl (.some rfl) (val_move rfl) ?_
        refine vl_append sT58 rfl rfl (.some rfl) rfl rfl (rd_sl (by repeat constructor)) (by simp [bcells_length]) (one_b _) (by have := hbl; omega) (by have := hbl; omega) (by repeat constructor) (fun A71 k71 => ?_)
        rw [show (headV nl il).length + (bestV il).length = (bytesV nl il).length by show _ = (headV nl il ++ bestV il).length; rw [List.length_append], bapp, show headV nl il ++ bestV il = bytesV nl il from rfl]
        refine vl_val rfl (.some rfl) (val_assign rfl) ?_
        refine vl_val rfl (.some rfl) (val_assign rfl) ?_
        refine vl_nil ?_
        refine vc_ret ?_
        refine ⟨_, [BY A71 (bytesV nl il).length k71 (bytesV nl il)], _, res2 Try.results43 rfl rfl, (by repeat constructor), ?_⟩
        show ∃ A' c', _ ∧ _
        unfold bytesL bytesE
        rw [if_pos hok, if_pos hok]
        exact ⟨A71, k71, rfl, rfl⟩



/-- Values in bytes. -/
def putV (p : Vk) : List UInt8 := putN p.k.toNat ++ (if p.k = 0 then [] else if p.k = 3 then putN p.s.size ++ p.s.data.toList else putN (zigS p.n))
def clean (p : Vk) : Vk := if goodV p = true then p else z3
def encV (l : List Vk) : List UInt8 := putN l.length ++ l.flatMap fun p => putV (clean p)
def outV (l : List Vk) (i : Nat) : List UInt8 := putN l.length ++ (l.take i).flatMap fun p => putV (clean p)
theorem good_kinds {p : Vk} (h : goodV p = true) : (p.k = 0 ∧ p = z3) ∨ ((p.k = 1 ∨ p.k = 2 ∨ p.k = 4) ∧ p.s = ⟨#[]⟩) ∨ (p.k = 3 ∧ p.n = 0 ∧ p.s.size ≤ 64) := by
  unfold goodV at h
  split at h
  · rename_i h0; exact .inl ⟨h0, of_decide_eq_true h⟩
  · split at h
    · rename_i h0; exact .inr (.inl ⟨.inl h0, of_decide_eq_true h⟩)
    · split at h
      · rename_i h0
        simp only [Bool.and_eq_true, decide_eq_true_eq] at h
        exact .inr (.inl ⟨.inr (.inl h0), h.1⟩)
      · split at h
        · rename_i h0
          simp only [Bool.and_eq_true, decide_eq_true_eq] at h
          exact .inr (.inr ⟨h0, h.1, h.2⟩)
        · split at h
          · rename_i h0
            simp only [Bool.and_eq_true, decide_eq_true_eq] at h
            exact .inr (.inl ⟨.inr (.inr h0), h.1⟩)
          · cases h
theorem good_rng {p : Vk} (h : goodV p = true) : 0 ≤ p.k ∧ p.k ≤ 4 ∧ (p.k = 3 → p.s.size ≤ 64) := by
  rcases good_kinds h with ⟨h0, _⟩ | ⟨h0, _⟩ | ⟨h0, _, h2⟩ <;> refine ⟨by omega, by omega, fun h => ?_⟩
  · omega
  · omega
  · exact h2
theorem size_data (s : ByteArray) : s.data.toList.length = s.size := by rw [Array.length_toList]; rfl
theorem putV_len {p : Vk} (h : goodV p = true) : (putV p).length ≤ 100 := by
  have hg := good_rng h
  have h1 := putN_len p.k.toNat
  have h2 := putN_len p.s.size
  have h3 := putN_len (zigS p.n)
  unfold putV
  rw [List.length_append]
  split
  · simp; omega
  · split
    · rename_i h4
      have := hg.2.2 h4
      rw [List.length_append, size_data]; omega
    · omega
theorem clean_good (p : Vk) : goodV (clean p) = true := by
  unfold clean
  split
  · assumption
  · decide
theorem outV_step {l : List Vk} {i : Nat} {p : Vk} (h : i < l.length) (hp : clean (l.getD i z3) = p) : outV l (i + 1) = outV l i ++ putV p := by
  unfold outV
  rw [take_push z3 h, List.flatMap_append, ← List.append_assoc, ← hp]; simp
theorem outV_len (l : List Vk) : ∀ i, i ≤ l.length → (outV l i).length ≤ 10 + 100 * i := by
  intro i
  induction i with
  | zero => intro _; have := putN_len l.length; unfold outV; simpa using this
  | succ i ih =>
    intro hi
    have h1 := ih (by omega)
    have h2 := putV_len (clean_good (l.getD i z3))
    rw [outV_step (by omega) rfl, List.length_append]; omega
theorem outV_all (l : List Vk) : outV l l.length = encV l := by unfold outV encV; rw [List.take_length]
theorem strc (l : List UInt8) (s : ByteArray) : bcells l ++ Lib.strCells s = bcells (l ++ s.data.toList) := by simp [bcells, Lib.strCells]

set_option maxRecDepth 20000 in
set_option maxHeartbeats 1000000 in
theorem vBytes (A : Option Addr) (c : Nat) (l : List Vk) (hl : l.length ≤ 1000000) (hwv : ∀ p ∈ l, WV p) (w : World) (hr : Reads w A (flat l)) : Fn Try.prog 45 [.slice A l.length c] [] (ret fun v H' => ∃ A' c', v = .slice A' (encV l).length c' ∧ H' = [BY A' (encV l).length c' (encV l)]) w := by
  refine fn_enter Try.func45 rfl Try.ntmps45 rfl ?_
  refine vc_seq ?_
  refine vc_region ?_
  refine vl_val rfl (.some rfl) (val_assign rfl) ?_
  refine vl_nil ?_
  refine vc_seq ?_
  refine vc_region ?_
  refine vl_val rfl (.some rfl) (val_move rfl) ?_
  refine vl_val rfl (.some rfl) (val_lenSl Try.runUnderlying53 rfl) ?_
  refine vl_val rfl (.some rfl) (val_convInt Try.runUnderlying3 Try.runUnderlying107 rfl (by first | exact w_u64 (by omega) (by omega) | rfl)) ?_
  refine vl_call (C := []) rfl rfl (.some rfl) Try.call42 rfl .nil (fun w hw => cPut none 0 [] l.length (by omega) (by decide) w (rdw (by first | exact rd_sl (by repeat constructor) | exact rd_slr (by repeat constructor) | exact rd_old (by assumption) rfl | exact rd_slq (by repeat constructor) | exact rd_nil) hw)) (fun v H' h => ?_)
  obtain ⟨A12, c12, rfl, rfl⟩ := h
  rw [List.nil_append]
  show VL _ _ _ _ _ (_ :: _)
  refine vl_val rfl (.some rfl) (val_assign rfl) ?_
  refine vl_nil ?_
  refine vc_seq ?_
  refine vc_seq ?_
  refine vc_region ?_
  refine vl_val rfl (.some rfl) (val_move rfl) ?_
  refine vl_val rfl (.some rfl) (val_lenSl Try.runUnderlying53 rfl) ?_
  refine vl_val rfl (.some rfl) (val_move rfl) ?_
  refine vl_nil ?_
  refine vc_block ?_
  rw [show putN l.length = outV l 0 by unfold outV; simp]
  refine vc_loopw (fun k E H => ∃ (i : Nat) (A3 : Option Addr) (c3 : Nat), i ≤ l.length ∧ k = l.length - i ∧ E = [(3, .slice A3 (outV l i).length c3), (13, .slice A l.length c), (14, .int .i64 l.length), (15, .int .i64 i)] ∧ H = [BY A3 (outV l i).length c3 (outV l i)]) (l.length) ⟨_, _, _, ⟨0, A12, c12, by omega, rfl, rfl, rfl⟩, (by repeat (first | exact trivial | refine ⟨rfl, ?_⟩ | refine ⟨le_item rfl (by first | rfl | (congr 1; omega) | (simp; done) | (simp; omega)), ?_⟩)), (by repeat constructor)⟩ ?_
  intro k E H hI
  obtain ⟨i, A3, c3, hil, rfl, rfl, rfl⟩ := hI
  refine vc_seq ?_
  refine vc_region ?_
  refine vl_val rfl (.some rfl) (val_lt rfl rfl) ?_
  refine vl_nil ?_
  refine vc_seq ?_
  refine vc_cond rfl (fun hc0 => ?_) (fun hc0 => ?_)
  · (try replace hc0 := of_decide_eq_true hc0)
    have hi8 : i < l.length := by omega
    have hat := flat_at l i hi8
    have hwi := hwv _ (getD_mem z3 hi8)
    have hol := outV_len l i (by omega)
    refine vc_skip ?_
    refine vc_seq ?_
    refine vc_block ?_
    refine vc_seq ?_
    refine vc_region ?_
    refine vl_val rfl (.some rfl) (val_indexAddr Try.runUnderlying53 Try.sizeOf62 rfl rfl (rd_old hr rfl) (by omega) (by omega) (by rw [vflat_len]; omega)) ?_
    refine vl_val rfl (.some rfl) (val_loadAgg Try.isAgg62 Try.sizeOf62 rfl (cells_rd (us := [.int .i64 (l.getD i z3).k, .int .i64 (l.getD i z3).n, .string (l.getD i z3).s]) (rd_old hr rfl) (by rw [Int.toNat_natCast]; exact hat)) rfl) ?_
    refine vl_alloc rfl rfl (.some rfl) Try.zeroValue62 (fun r5 => ?_)
    first | refine vl_store rfl rfl .none rfl rfl Try.sizeOf62 rfl (by repeat constructor) (by first | decide | exact Nat.le_refl _ | exact Nat.le_of_ble_eq_true rfl | (simp; omega)) ?_ | refine vl_storeSl rfl rfl .none rfl rfl Try.sizeOf62 rfl (by simp [Value.cells]) (by repeat constructor) (by first | decide | (simp [Value.cells]; omega)) ?_
    refine vl_nil ?_
    refine vc_seq ?_
    refine vc_seq ?_
    refine vc_region ?_
    refine vl_val rfl (.some rfl) (val_loadAgg Try.isAgg62 Try.sizeOf62 rfl (by first | exact cells_whole (by repeat constructor) | exact cells_part (by repeat constructor) rfl) rfl) ?_
    refine vl_callV rfl rfl (.some rfl) Try.call76 rfl (fun w hw => vGood (l.getD i z3) w) ?_
    refine vl_val rfl (.some rfl) (val_not rfl) ?_
    refine vl_nil ?_
    refine vc_cond rfl (fun hc1 => ?_) (fun hc1 => ?_)
    · (try replace hc1 := of_decide_eq_true hc1)
      let p : Vk := z3
      have hpc : clean (l.getD i z3) = p := by unfold clean; rw [if_neg (by simpa using hc1)]
      have hpn : -9223372036854775808 ≤ p.n ∧ p.n < 9223372036854775808 := by decide
      have hpk0 : p.k = 0 := rfl
      have hgp : goodV p = true := by rw [← hpc]; exact clean_good _
      have hrg := good_rng hgp
      have hst := outV_step hi8 hpc
      refine vc_region ?_
      refine vl_val rfl (.some rfl) (val_buildSt (pl := #[(0, 1), (1, 1), (2, 1)]) (cs := #[.int .i64 0, .int .i64 0, .string ⟨#[]⟩]) Try.runUnderlying62 Try.zeroValue62 (fun w => by kernel_rfl) rfl rfl) ?_
      first | refine vl_store rfl rfl .none rfl rfl Try.sizeOf62 rfl (by repeat constructor) (by first | decide | exact Nat.le_refl _ | exact Nat.le_of_ble_eq_true rfl | (simp; omega)) ?_ | refine vl_storeSl rfl rfl .none rfl rfl Try.sizeOf62 rfl (by simp [Value.cells]) (by repeat constructor) (by first | decide | (simp [Value.cells]; omega)) ?_
      refine vl_nil ?_
      refine vc_seq ?_
      refine vc_region ?_
      refine vl_val rfl (.some rfl) (val_move rfl) ?_
      refine vl_val rfl (.some rfl) (by first | exact val_fieldAddr Try.runUnderlying62 rfl Try.sizeOf3 rfl | exact val_fieldAddrR Try.runUnderlying62 rfl Try.sizeOf3 rfl) ?_
      refine vl_val rfl (.some rfl) (val_load Try.isAgg3 rfl (by first | exact cell_cells (by repeat constructor) rfl | exact cell_rd (by first | exact rd_sl (by repeat constructor) | exact rd_old (by assumption) rfl) (by first | exact bcells_at (by omega) | exact ucells_at (by omega) | exact icells_at (by omega) | exact tcells_at (by omega) | exact bcells_get (by omega) | exact icells_get (by omega) | exact tcells_get (by omega) | exact ucells_get (by omega)) | exact cell_old (by assumption) (by simp [fps]))) ?_
      refine vl_val rfl (.some rfl) (val_convInt Try.runUnderlying3 Try.runUnderlying107 rfl (show _ = ((p.k.toNat : Nat) : Int) by rw [w_u64 (by omega) (by omega)]; omega)) ?_
      have hkl := putN_len p.k.toNat
      have hsl := putN_len p.s.size
      have hzl := putN_len (zigS p.n)
      have hol2 : (outV l i ++ putN p.k.toNat).length ≤ 20 + 100 * i := by rw [List.length_append]; omega
      refine vl_call (C := []) rfl rfl (.some rfl) Try.call42 rfl .nil (fun w hw => cPut A3 c3 (outV l i) (p.k.toNat) (by omega) (by omega) w (rdw (rd_sl (by repeat constructor)) hw)) (fun v H' h => ?_)
      obtain ⟨A27, c27, rfl, rfl⟩ := h
      show VL _ _ _ _ _ (_ :: _)
      refine vl_val rfl (.some rfl) (val_assign rfl) ?_
      refine vl_nil ?_
      refine vc_seq ?_
      refine vc_region ?_
      refine vl_val rfl (.some rfl) (val_loadAgg Try.isAgg62 Try.sizeOf62 rfl (by first | exact cells_whole (by repeat constructor) | exact cells_part (by repeat constructor) rfl) rfl) ?_
      refine vl_callV rfl rfl (.some rfl) Try.call77 rfl (fun w hw => vOf p w) ?_
      refine vl_nil ?_
      refine vc_block ?_
      refine vc_seq ?_
      refine vc_region ?_
      refine vl_val rfl (.some rfl) (asks 147 0 (.agg #[]) (.agg #[]) Try.runUnderlying147 rfl Try.zeroValue147 rfl (fun h => by unfold ofV; rw [h]; simp) (other _ _ (fun k hk => ⟨fun h => by first | decide | omega, fun h => by first | decide | omega, fun h => by first | decide | omega, fun h => by first | decide | omega, fun h => by first | decide | omega⟩))) ?_
      refine vl_val rfl (.some rfl) (val_extract rfl rfl) ?_
      refine vl_val rfl (.some rfl) (val_extract rfl rfl) ?_
      refine vl_nil ?_
      refine vc_cond rfl (fun hc2 => ?_) (fun hc2 => ?_)
      · (try replace hc2 := of_decide_eq_true hc2)
        rw [if_pos hc2, show outV l i ++ putN p.k.toNat = outV l (i + 1) by rw [hst]; unfold putV; rw [if_pos hc2, List.append_nil]]
        refine vc_region ?_
        refine vl_alloc rfl rfl (.some rfl) Try.zeroValue147 (fun r6 => ?_)
        first | refine vl_store rfl rfl .none rfl rfl Try.sizeOf147 rfl (by repeat constructor) (by first | decide | exact Nat.le_refl _ | exact Nat.le_of_ble_eq_true rfl | (simp; omega)) ?_ | refine vl_storeSl rfl rfl .none rfl rfl Try.sizeOf147 rfl (by simp [Value.cells]) (by repeat constructor) (by first | decide | (simp [Value.cells]; omega)) ?_
        refine vl_nil ?_
        refine vc_region ?_
        refine vl_val rfl (.some rfl) (val_add rfl rfl (by first | exact w_i64 (by omega) (by omega) | rfl)) ?_
        refine vl_val rfl (.some rfl) (val_move rfl) ?_
        refine vl_nil ?_
        first
          | exact ⟨l.length - (i + 1), _, _, _, by omega, (by repeat (first | exact trivial | refine ⟨rfl, ?_⟩ | refine ⟨le_item rfl (by first | rfl | (congr 1; omega) | (simp; done) | (simp; omega)), ?_⟩)), (by repeat constructor), ⟨i + 1, A27, c27, by omega, rfl, rfl, rfl⟩⟩
          | exact ⟨l.length - (i + 1), _, _, _, by omega, (by repeat (first | exact trivial | refine ⟨rfl, ?_⟩ | refine ⟨le_item rfl (by first | rfl | (congr 1; omega) | (simp; done) | (simp; omega)), ?_⟩)), (by repeat constructor), ⟨i + 1, A47, k47, by omega, rfl, rfl, rfl⟩⟩
          | exact ⟨l.length - (i + 1), _, _, _, by omega, (by repeat (first | exact trivial | refine ⟨rfl, ?_⟩ | refine ⟨le_item rfl (by first | rfl | (congr 1; omega) | (simp; done) | (simp; omega)), ?_⟩)), (by repeat constructor), ⟨i + 1, A34, c34, by omega, rfl, rfl, rfl⟩⟩
      · (try replace hc2 := of_decide_eq_false hc2)
        refine vc_seq ?_
        refine vc_region ?_
        refine vl_val rfl (.some rfl) (asks 148 3 (.string ⟨#[]⟩) (.string p.s) Try.runUnderlying148 rfl Try.zeroValue148 rfl (fun h => by unfold ofV; rw [h]; simp) (other _ _ (fun k hk => ⟨fun h => by first | decide | omega, fun h => by first | decide | omega, fun h => by first | decide | omega, fun h => by first | decide | omega, fun h => by first | decide | omega⟩))) ?_
        refine vl_val rfl (.some rfl) (val_extract rfl rfl) ?_
        refine vl_val rfl (.some rfl) (val_extract rfl rfl) ?_
        refine vl_nil ?_
        refine vc_cond rfl (fun hc3 => ?_) (fun hc3 => ?_)
        · (try replace hc3 := of_decide_eq_true hc3)
          rw [if_pos hc3]
          refine vc_seq ?_
          refine vc_region ?_
          refine vl_val rfl (.some rfl) (val_assign rfl) ?_
          refine vl_nil ?_
          refine vc_region ?_
          refine vl_val rfl (.some rfl) (val_move rfl) ?_
          refine vl_val rfl (.some rfl) (val_move rfl) ?_
          refine vl_val rfl (.some rfl) (val_lenStr Try.runUnderlying148 rfl) ?_
          refine vl_val rfl (.some rfl) (val_convInt Try.runUnderlying3 Try.runUnderlying107 rfl (by first | exact w_u64 (by omega) (by omega) | rfl)) ?_
          refine vl_call (C := []) rfl rfl (.some rfl) Try.call42 rfl .nil (fun w hw => cPut A27 c27 (outV l i ++ putN p.k.toNat) (p.s.size) (by have := hrg.2.2 hc3; omega) (by omega) w (rdw (rd_sl (by repeat constructor)) hw)) (fun v H' h => ?_)
          obtain ⟨A45, c45, rfl, rfl⟩ := h
          show VL _ _ _ _ _ (_ :: _)
          refine vl_val rfl (.some rfl) (val_move rfl) ?_
          refine vl_appendStr sT58 Try.underlying148 rfl rfl (.some rfl) rfl rfl (by rw [List.length_append]; have := hrg.2.2 hc3; omega) (by repeat constructor) (fun A47 k47 => ?_)
          rw [strc, show (outV l i ++ putN p.k.toNat ++ putN p.s.size).length + p.s.size = (outV l i ++ putN p.k.toNat ++ putN p.s.size ++ p.s.data.toList).length by rw [List.length_append (bs := p.s.data.toList), size_data], show outV l i ++ putN p.k.toNat ++ putN p.s.size ++ p.s.data.toList = outV l (i + 1) by rw [hst]; unfold putV; rw [if_neg hc2, if_pos hc3]; simp]
          refine vl_val rfl (.some rfl) (val_assign rfl) ?_
          refine vl_nil ?_
          refine vc_region ?_
          refine vl_val rfl (.some rfl) (val_add rfl rfl (by first | exact w_i64 (by omega) (by omega) | rfl)) ?_
          refine vl_val rfl (.some rfl) (val_move rfl) ?_
          refine vl_nil ?_
          first
            | exact ⟨l.length - (i + 1), _, _, _, by omega, (by repeat (first | exact trivial | refine ⟨rfl, ?_⟩ | refine ⟨le_item rfl (by first | rfl | (congr 1; omega) | (simp; done) | (simp; omega)), ?_⟩)), (by repeat constructor), ⟨i + 1, A27, c27, by omega, rfl, rfl, rfl⟩⟩
            | exact ⟨l.length - (i + 1), _, _, _, by omega, (by repeat (first | exact trivial | refine ⟨rfl, ?_⟩ | refine ⟨le_item rfl (by first | rfl | (congr 1; omega) | (simp; done) | (simp; omega)), ?_⟩)), (by repeat constructor), ⟨i + 1, A47, k47, by omega, rfl, rfl, rfl⟩⟩
            | exact ⟨l.length - (i + 1), _, _, _, by omega, (by repeat (first | exact trivial | refine ⟨rfl, ?_⟩ | refine ⟨le_item rfl (by first | rfl | (congr 1; omega) | (simp; done) | (simp; omega)), ?_⟩)), (by repeat constructor), ⟨i + 1, A34, c34, by omega, rfl, rfl, rfl⟩⟩
        · (try replace hc3 := of_decide_eq_false hc3)
          refine vc_seq ?_
          refine vc_region ?_
          refine vl_val rfl (.some rfl) (val_assign rfl) ?_
          refine vl_nil ?_
          refine vc_region ?_
          refine vl_val rfl (.some rfl) (val_move rfl) ?_
          refine vl_val rfl (.some rfl) (by first | exact val_fieldAddr Try.runUnderlying62 rfl Try.sizeOf3 rfl | exact val_fieldAddrR Try.runUnderlying62 rfl Try.sizeOf3 rfl) ?_
          refine vl_val rfl (.some rfl) (val_load Try.isAgg3 rfl (by first | exact cell_cells (by repeat constructor) rfl | exact cell_rd (by first | exact rd_sl (by repeat constructor) | exact rd_old (by assumption) rfl) (by first | exact bcells_at (by omega) | exact ucells_at (by omega) | exact icells_at (by omega) | exact tcells_at (by omega) | exact bcells_get (by omega) | exact icells_get (by omega) | exact tcells_get (by omega) | exact ucells_get (by omega)) | exact cell_old (by assumption) (by simp [fps]))) ?_
          refine vl_callV rfl rfl (.some rfl) Try.call78 rfl (fun w hw => cZig _ (by omega) (by omega) w) ?_
          refine vl_call (C := []) rfl rfl (.some rfl) Try.call42 rfl .nil (fun w hw => cPut A27 c27 (outV l i ++ putN p.k.toNat) (zigS p.n) (zigS_lt hpn.1 hpn.2) (by omega) w (rdw (rd_sl (by repeat constructor)) hw)) (fun v H' h => ?_)
          obtain ⟨A34, c34, rfl, rfl⟩ := h
          show VL _ _ _ _ _ (_ :: _)
          rw [show outV l i ++ putN p.k.toNat ++ putN (zigS p.n) = outV l (i + 1) by rw [hst]; unfold putV; rw [if_neg hc2, if_neg hc3, List.append_assoc]]
          refine vl_val rfl (.some rfl) (val_assign rfl) ?_
          refine vl_nil ?_
          refine vc_region ?_
          refine vl_val rfl (.some rfl) (val_add rfl rfl (by first | exact w_i64 (by omega) (by omega) | rfl)) ?_
          refine vl_val rfl (.some rfl) (val_move rfl) ?_
          refine vl_nil ?_
          first
            | exact ⟨l.length - (i + 1), _, _, _, by omega, (by repeat (first | exact trivial | refine ⟨rfl, ?_⟩ | refine ⟨le_item rfl (by first | rfl | (congr 1; omega) | (simp; done) | (simp; omega)), ?_⟩)), (by repeat constructor), ⟨i + 1, A27, c27, by omega, rfl, rfl, rfl⟩⟩
            | exact ⟨l.length - (i + 1), _, _, _, by omega, (by repeat (first | exact trivial | refine ⟨rfl, ?_⟩ | refine ⟨le_item rfl (by first | rfl | (congr 1; omega) | (simp; done) | (simp; omega)), ?_⟩)), (by repeat constructor), ⟨i + 1, A47, k47, by omega, rfl, rfl, rfl⟩⟩
            | exact ⟨l.length - (i + 1), _, _, _, by omega, (by repeat (first | exact trivial | refine ⟨rfl, ?_⟩ | refine ⟨le_item rfl (by first | rfl | (congr 1; omega) | (simp; done) | (simp; omega)), ?_⟩)), (by repeat constructor), ⟨i + 1, A34, c34, by omega, rfl, rfl, rfl⟩⟩
    · (try replace hc1 := of_decide_eq_false hc1)
      obtain ⟨p, hpe⟩ : ∃ p, l.getD i z3 = p := ⟨_, rfl⟩
      have hpc : clean (l.getD i z3) = p := by unfold clean; rw [if_pos (by simpa using hc1), hpe]
      have hpn : -9223372036854775808 ≤ p.n ∧ p.n < 9223372036854775808 := by rw [← hpe]; exact hwi
      rw [hpe]
      have hgp : goodV p = true := by rw [← hpc]; exact clean_good _
      have hrg := good_rng hgp
      have hst := outV_step hi8 hpc
      refine vc_skip ?_
      refine vc_seq ?_
      refine vc_region ?_
      refine vl_val rfl (.some rfl) (val_move rfl) ?_
      refine vl_val rfl (.some rfl) (by first | exact val_fieldAddr Try.runUnderlying62 rfl Try.sizeOf3 rfl | exact val_fieldAddrR Try.runUnderlying62 rfl Try.sizeOf3 rfl) ?_
      refine vl_val rfl (.some rfl) (val_load Try.isAgg3 rfl (by first | exact cell_cells (by repeat constructor) rfl | exact cell_rd (by first | exact rd_sl (by repeat constructor) | exact rd_old (by assumption) rfl) (by first | exact bcells_at (by omega) | exact ucells_at (by omega) | exact icells_at (by omega) | exact tcells_at (by omega) | exact bcells_get (by omega) | exact icells_get (by omega) | exact tcells_get (by omega) | exact ucells_get (by omega)) | exact cell_old (by assumption) (by simp [fps]))) ?_
      refine vl_val rfl (.some rfl) (val_convInt Try.runUnderlying3 Try.runUnderlying107 rfl (show _ = ((p.k.toNat : Nat) : Int) by rw [w_u64 (by omega) (by omega)]; omega)) ?_
      have hkl := putN_len p.k.toNat
      have hsl := putN_len p.s.size
      have hzl := putN_len (zigS p.n)
      have hol2 : (outV l i ++ putN p.k.toNat).length ≤ 20 + 100 * i := by rw [List.length_append]; omega
      refine vl_call (C := []) rfl rfl (.some rfl) Try.call42 rfl .nil (fun w hw => cPut A3 c3 (outV l i) (p.k.toNat) (by omega) (by omega) w (rdw (rd_sl (by repeat constructor)) hw)) (fun v H' h => ?_)
      obtain ⟨A27, c27, rfl, rfl⟩ := h
      show VL _ _ _ _ _ (_ :: _)
      refine vl_val rfl (.some rfl) (val_assign rfl) ?_
      refine vl_nil ?_
      refine vc_seq ?_
      refine vc_region ?_
      refine vl_val rfl (.some rfl) (val_loadAgg Try.isAgg62 Try.sizeOf62 rfl (by first | exact cells_whole (by repeat constructor) | exact cells_part (by repeat constructor) rfl) rfl) ?_
      refine vl_callV rfl rfl (.some rfl) Try.call77 rfl (fun w hw => vOf p w) ?_
      refine vl_nil ?_
      refine vc_block ?_
      refine vc_seq ?_
      refine vc_region ?_
      refine vl_val rfl (.some rfl) (asks 147 0 (.agg #[]) (.agg #[]) Try.runUnderlying147 rfl Try.zeroValue147 rfl (fun h => by unfold ofV; rw [h]; simp) (other _ _ (fun k hk => ⟨fun h => by first | decide | omega, fun h => by first | decide | omega, fun h => by first | decide | omega, fun h => by first | decide | omega, fun h => by first | decide | omega⟩))) ?_
      refine vl_val rfl (.some rfl) (val_extract rfl rfl) ?_
      refine vl_val rfl (.some rfl) (val_extract rfl rfl) ?_
      refine vl_nil ?_
      refine vc_cond rfl (fun hc2 => ?_) (fun hc2 => ?_)
      · (try replace hc2 := of_decide_eq_true hc2)
        rw [if_pos hc2, show outV l i ++ putN p.k.toNat = outV l (i + 1) by rw [hst]; unfold putV; rw [if_pos hc2, List.append_nil]]
        refine vc_region ?_
        refine vl_alloc rfl rfl (.some rfl) Try.zeroValue147 (fun r6 => ?_)
        first | refine vl_store rfl rfl .none rfl rfl Try.sizeOf147 rfl (by repeat constructor) (by first | decide | exact Nat.le_refl _ | exact Nat.le_of_ble_eq_true rfl | (simp; omega)) ?_ | refine vl_storeSl rfl rfl .none rfl rfl Try.sizeOf147 rfl (by simp [Value.cells]) (by repeat constructor) (by first | decide | (simp [Value.cells]; omega)) ?_
        refine vl_nil ?_
        refine vc_region ?_
        refine vl_val rfl (.some rfl) (val_add rfl rfl (by first | exact w_i64 (by omega) (by omega) | rfl)) ?_
        refine vl_val rfl (.some rfl) (val_move rfl) ?_
        refine vl_nil ?_
        first
          | exact ⟨l.length - (i + 1), _, _, _, by omega, (by repeat (first | exact trivial | refine ⟨rfl, ?_⟩ | refine ⟨le_item rfl (by first | rfl | (congr 1; omega) | (simp; done) | (simp; omega)), ?_⟩)), (by repeat constructor), ⟨i + 1, A27, c27, by omega, rfl, rfl, rfl⟩⟩
          | exact ⟨l.length - (i + 1), _, _, _, by omega, (by repeat (first | exact trivial | refine ⟨rfl, ?_⟩ | refine ⟨le_item rfl (by first | rfl | (congr 1; omega) | (simp; done) | (simp; omega)), ?_⟩)), (by repeat constructor), ⟨i + 1, A47, k47, by omega, rfl, rfl, rfl⟩⟩
          | exact ⟨l.length - (i + 1), _, _, _, by omega, (by repeat (first | exact trivial | refine ⟨rfl, ?_⟩ | refine ⟨le_item rfl (by first | rfl | (congr 1; omega) | (simp; done) | (simp; omega)), ?_⟩)), (by repeat constructor), ⟨i + 1, A34, c34, by omega, rfl, rfl, rfl⟩⟩
      · (try replace hc2 := of_decide_eq_false hc2)
        refine vc_seq ?_
        refine vc_region ?_
        refine vl_val rfl (.some rfl) (asks 148 3 (.string ⟨#[]⟩) (.string p.s) Try.runUnderlying148 rfl Try.zeroValue148 rfl (fun h => by unfold ofV; rw [h]; simp) (other _ _ (fun k hk => ⟨fun h => by first | decide | omega, fun h => by first | decide | omega, fun h => by first | decide | omega, fun h => by first | decide | omega, fun h => by first | decide | omega⟩))) ?_
        refine vl_val rfl (.some rfl) (val_extract rfl rfl) ?_
        refine vl_val rfl (.some rfl) (val_extract rfl rfl) ?_
        refine vl_nil ?_
        refine vc_cond rfl (fun hc3 => ?_) (fun hc3 => ?_)
        · (try replace hc3 := of_decide_eq_true hc3)
          rw [if_pos hc3]
          refine vc_seq ?_
          refine vc_region ?_
          refine vl_val rfl (.some rfl) (val_assign rfl) ?_
          refine vl_nil ?_
          refine vc_region ?_
          refine vl_val rfl (.some rfl) (val_move rfl) ?_
          refine vl_val rfl (.some rfl) (val_move rfl) ?_
          refine vl_val rfl (.some rfl) (val_lenStr Try.runUnderlying148 rfl) ?_
          refine vl_val rfl (.some rfl) (val_convInt Try.runUnderlying3 Try.runUnderlying107 rfl (by first | exact w_u64 (by omega) (by omega) | rfl)) ?_
          refine vl_call (C := []) rfl rfl (.some rfl) Try.call42 rfl .nil (fun w hw => cPut A27 c27 (outV l i ++ putN p.k.toNat) (p.s.size) (by have := hrg.2.2 hc3; omega) (by omega) w (rdw (rd_sl (by repeat constructor)) hw)) (fun v H' h => ?_)
          obtain ⟨A45, c45, rfl, rfl⟩ := h
          show VL _ _ _ _ _ (_ :: _)
          refine vl_val rfl (.some rfl) (val_move rfl) ?_
          refine vl_appendStr sT58 Try.underlying148 rfl rfl (.some rfl) rfl rfl (by rw [List.length_append]; have := hrg.2.2 hc3; omega) (by repeat constructor) (fun A47 k47 => ?_)
          rw [strc, show (outV l i ++ putN p.k.toNat ++ putN p.s.size).length + p.s.size = (outV l i ++ putN p.k.toNat ++ putN p.s.size ++ p.s.data.toList).length by rw [List.length_append (bs := p.s.data.toList), size_data], show outV l i ++ putN p.k.toNat ++ putN p.s.size ++ p.s.data.toList = outV l (i + 1) by rw [hst]; unfold putV; rw [if_neg hc2, if_pos hc3]; simp]
          refine vl_val rfl (.some rfl) (val_assign rfl) ?_
          refine vl_nil ?_
          refine vc_region ?_
          refine vl_val rfl (.some rfl) (val_add rfl rfl (by first | exact w_i64 (by omega) (by omega) | rfl)) ?_
          refine vl_val rfl (.some rfl) (val_move rfl) ?_
          refine vl_nil ?_
          first
            | exact ⟨l.length - (i + 1), _, _, _, by omega, (by repeat (first | exact trivial | refine ⟨rfl, ?_⟩ | refine ⟨le_item rfl (by first | rfl | (congr 1; omega) | (simp; done) | (simp; omega)), ?_⟩)), (by repeat constructor), ⟨i + 1, A27, c27, by omega, rfl, rfl, rfl⟩⟩
            | exact ⟨l.length - (i + 1), _, _, _, by omega, (by repeat (first | exact trivial | refine ⟨rfl, ?_⟩ | refine ⟨le_item rfl (by first | rfl | (congr 1; omega) | (simp; done) | (simp; omega)), ?_⟩)), (by repeat constructor), ⟨i + 1, A47, k47, by omega, rfl, rfl, rfl⟩⟩
            | exact ⟨l.length - (i + 1), _, _, _, by omega, (by repeat (first | exact trivial | refine ⟨rfl, ?_⟩ | refine ⟨le_item rfl (by first | rfl | (congr 1; omega) | (simp; done) | (simp; omega)), ?_⟩)), (by repeat constructor), ⟨i + 1, A34, c34, by omega, rfl, rfl, rfl⟩⟩
        · (try replace hc3 := of_decide_eq_false hc3)
          refine vc_seq ?_
          refine vc_region ?_
          refine vl_val rfl (.some rfl) (val_assign rfl) ?_
          refine vl_nil ?_
          refine vc_region ?_
          refine vl_val rfl (.some rfl) (val_move rfl) ?_
          refine vl_val rfl (.some rfl) (by first | exact val_fieldAddr Try.runUnderlying62 rfl Try.sizeOf3 rfl | exact val_fieldAddrR Try.runUnderlying62 rfl Try.sizeOf3 rfl) ?_
          refine vl_val rfl (.some rfl) (val_load Try.isAgg3 rfl (by first | exact cell_cells (by repeat constructor) rfl | exact cell_rd (by first | exact rd_sl (by repeat constructor) | exact rd_old (by assumption) rfl) (by first | exact bcells_at (by omega) | exact ucells_at (by omega) | exact icells_at (by omega) | exact tcells_at (by omega) | exact bcells_get (by omega) | exact icells_get (by omega) | exact tcells_get (by omega) | exact ucells_get (by omega)) | exact cell_old (by assumption) (by simp [fps]))) ?_
          refine vl_callV rfl rfl (.some rfl) Try.call78 rfl (fun w hw => cZig _ (by omega) (by omega) w) ?_
          refine vl_call (C := []) rfl rfl (.some rfl) Try.call42 rfl .nil (fun w hw => cPut A27 c27 (outV l i ++ putN p.k.toNat) (zigS p.n) (zigS_lt hpn.1 hpn.2) (by omega) w (rdw (rd_sl (by repeat constructor)) hw)) (fun v H' h => ?_)
          obtain ⟨A34, c34, rfl, rfl⟩ := h
          show VL _ _ _ _ _ (_ :: _)
          rw [show outV l i ++ putN p.k.toNat ++ putN (zigS p.n) = outV l (i + 1) by rw [hst]; unfold putV; rw [if_neg hc2, if_neg hc3, List.append_assoc]]
          refine vl_val rfl (.some rfl) (val_assign rfl) ?_
          refine vl_nil ?_
          refine vc_region ?_
          refine vl_val rfl (.some rfl) (val_add rfl rfl (by first | exact w_i64 (by omega) (by omega) | rfl)) ?_
          refine vl_val rfl (.some rfl) (val_move rfl) ?_
          refine vl_nil ?_
          first
            | exact ⟨l.length - (i + 1), _, _, _, by omega, (by repeat (first | exact trivial | refine ⟨rfl, ?_⟩ | refine ⟨le_item rfl (by first | rfl | (congr 1; omega) | (simp; done) | (simp; omega)), ?_⟩)), (by repeat constructor), ⟨i + 1, A27, c27, by omega, rfl, rfl, rfl⟩⟩
            | exact ⟨l.length - (i + 1), _, _, _, by omega, (by repeat (first | exact trivial | refine ⟨rfl, ?_⟩ | refine ⟨le_item rfl (by first | rfl | (congr 1; omega) | (simp; done) | (simp; omega)), ?_⟩)), (by repeat constructor), ⟨i + 1, A47, k47, by omega, rfl, rfl, rfl⟩⟩
            | exact ⟨l.length - (i + 1), _, _, _, by omega, (by repeat (first | exact trivial | refine ⟨rfl, ?_⟩ | refine ⟨le_item rfl (by first | rfl | (congr 1; omega) | (simp; done) | (simp; omega)), ?_⟩)), (by repeat constructor), ⟨i + 1, A34, c34, by omega, rfl, rfl, rfl⟩⟩
  · (try replace hc0 := of_decide_eq_false hc0)
    obtain rfl : i = l.length := by omega
    rw [outV_all]
    refine vc_exit ?_
    refine vc_seq ?_
    refine vc_region ?_
    refine vl_val rfl (.some rfl) (val_move rfl) ?_
    refine vl_val rfl (.some rfl) (val_assign rfl) ?_
    refine vl_nil ?_
    refine vc_ret ?_
    refine ⟨_, [BY A3 (encV l).length c3 (encV l)], _, res1 Try.results45 rfl, (by repeat constructor), ?_⟩
    exact ⟨A3, c3, rfl, rfl⟩


end Go.Proofs.Ytdehjgpdcdjhjaa.K
