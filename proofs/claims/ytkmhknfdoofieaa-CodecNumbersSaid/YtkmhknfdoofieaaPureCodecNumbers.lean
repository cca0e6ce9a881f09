/-
  The pure law of CodecNumbers: numbers in bytes, ints without a sign, and what bytes begin with are the document's. No conditions.
-/
import Derived.Test.YtkmhknfdoofieaaTlCodec
import Derived.Test.YtkmhknfdoofieaaPCodecNumbersx11
namespace Go.Proofs.Ytkmhknfdoofieaa.Pure
open Go.RowKit Go.Proofs.Ytkmhknfdoofieaa.PCodecNumbers Go.Proofs.YtkmhknfdoofieaaW.PrintWords Go.Proofs.YtkmhknfdoofieaaW.PrintLast Go.Proofs.YtkmhknfdoofieaaW.PrintMore Go.Proofs.Ytkmhknfdoofieaa.Tl
set_option linter.unusedVariables false
namespace CodecNumbersL
theorem put_l0 : ∀ (k u : Nat) (xs : List Int), xs.length + (putN u).length ≤ 140737488355328 → (putN u).length ≤ k → codec_put.l0 k xs (u : Int) = some (xs ++ putN u)
  | 0, u, xs, _, hk => absurd hk (by have := putN_pos u; omega)
  | k + 1, u, xs, hl, hk => by
    simp only [codec_put.l0]
    by_cases h : u < 128
    · rw [putN_small h] at hl ⊢
      simp only [List.length_cons, List.length_nil] at hl
      rw [if_neg (by omega), if_pos (by omega), show ((u : Int) % 256) = u from by omega]
    · rw [putN_more h] at hl hk ⊢
      simp only [List.length_cons] at hl hk
      rw [if_pos (by omega), if_pos (by omega), u8_orhi (by omega) (by omega), show ((u : Int) / 128) = ((u / 128 : Nat) : Int) from by omega, show ((u : Int) % 256 % 128 + 128) = ((u % 128 + 128 : Nat) : Int) from by omega,
        put_l0 k (u / 128) _ (by simp only [List.length_append, List.length_cons, List.length_nil]; omega) (by omega)]
      simp
theorem put_f {k u : Nat} {xs : List Int} (hl : xs.length + 10 ≤ 140737488355328) (hu : u < 18446744073709551616) (hk : 10 ≤ k) : codec_put.f k xs (u : Int) = some (xs ++ putN u) := by
  have := putN_len64 hu
  exact put_l0 k u xs (by omega) (by omega)
theorem Put_f {k u : Nat} {xs : List Int} (hl : xs.length + 10 ≤ 140737488355328) (hu : u < 18446744073709551616) (hk : 10 ≤ k) : codec_Put.f k xs (u : Int) = some (xs ++ putN u) := by
  unfold codec_Put.f
  rw [if_pos (by simp only [List.length_nil]; omega), List.nil_append, put_f hl hu hk]
  rfl
theorem Get_l0 : ∀ (t pre : List Int) (a : Int) (k : Nat), pre.length ≤ 9 → (∀ x ∈ t, 0 ≤ x ∧ x < 256) → 0 ≤ a → a < 2 ^ (7 * pre.length) → (pre ++ t).length < 9223372036854775808 → 2 * (10 - pre.length) + 1 ≤ k →
    codec_Get.l0 k a (pre ++ t) ((pre ++ t).length : Int) (pre.length : Int) = some (getL t pre.length a)
  | [], pre, a, k, hi, hb, h0, h1, hl, hk => by
    obtain ⟨k, rfl⟩ : ∃ m, k = m + 1 := ⟨k - 1, by omega⟩
    simp only [codec_Get.l0]
    rw [if_neg (by simp)]
    rfl
  | x :: t, pre, a, k, hi, hb, h0, h1, hl, hk => by
    obtain ⟨k, rfl⟩ : ∃ m, k = m + 1 + 1 := ⟨k - 2, by omega⟩
    have hx := hb x (by simp)
    have hlen : (pre ++ x :: t).length = pre.length + 1 + t.length := by simp; omega
    have hw : wrap64 (7 * (pre.length : Int)) = 7 * (pre.length : Int) := w64 _ (by omega) (by omega)
    have hw1 : wrap64 ((pre.length : Int) + 1) = (pre.length : Int) + 1 := w64 _ (by omega) (by omega)
    have hr : rd (pre ++ x :: t) (pre.length : Int) = x := rd_append_self pre x t
    simp only [codec_Get.l0, codec_Get.j1]
    rw [if_pos (by omega), if_pos (by omega), if_pos (by omega), hr, hw, hw1]
    simp only [show ((0 : Int) ≤ 7 * (pre.length : Int)) = True from by simp; omega, if_true, u8_and127 hx.1 hx.2]
    have st : (pre.length = 9 → x % 128 ≤ 1) → _ := fun h => or_step (i := pre.length) hi h0 h1 (y := x % 128) (by omega) (by omega) h
    simp only [getL]
    by_cases hbr : (pre.length = 9 ∧ x > 1) ∨ (0 < pre.length ∧ x = 0)
    · rw [if_pos hbr]
      rcases hbr with ⟨h9, hx1⟩ | ⟨hp, hx0⟩
      · rw [if_pos (by omega), if_pos hx1]
      · have e : (x == 0) = true := by simp [hx0]
        rw [e]
        by_cases h9 : (pre.length : Int) = 9
        · rw [if_pos h9, if_neg (by omega), if_pos (by omega)]; simp
        · rw [if_neg h9, if_pos (by omega)]; simp
    · rw [if_neg hbr]
      have key : ∀ b : Bool, b = false → (if b = true then some ((0 : Int), (0 : Int)) else if x < 128 then some (Go.bits .or .u64 a (shl .u64 (IntKind.u64.wrap (x % 128)) (7 * (pre.length : Int))), (pre.length : Int) + 1) else codec_Get.l0 k (Go.bits .or .u64 a (shl .u64 (IntKind.u64.wrap (x % 128)) (7 * (pre.length : Int)))) (pre ++ x :: t) ((pre ++ x :: t).length : Int) ((pre.length : Int) + 1)) = some (if x < 128 then (a + x * 2 ^ (7 * pre.length), (pre.length : Int) + 1) else getL t (pre.length + 1) (a + (x - 128) * 2 ^ (7 * pre.length))) := by
        intro b hbf
        subst hbf
        obtain ⟨s1, s2, s3, s4, s5⟩ := st (fun h => by omega)
        rw [s1, s2, if_neg (by simp)]
        by_cases hlt : x < 128
        · rw [if_pos hlt, if_pos hlt, show x % 128 = x from by omega]
        · rw [if_neg hlt, if_neg hlt]
          have hn9 : pre.length < 9 := by omega
          have ih := Get_l0 t (pre ++ [x]) (a + (x % 128) * 2 ^ (7 * pre.length)) k (by simp; omega) (fun y hy => hb y (by simp [hy])) (by omega) (by rw [List.length_append]; exact s5 hn9) (by rw [List.append_assoc]; exact hl) (by simp; omega)
          rw [List.append_assoc, List.singleton_append, show (pre ++ [x]).length = pre.length + 1 from by simp] at ih
          rw [show ((pre.length : Int) + 1) = ((pre.length + 1 : Nat) : Int) from by omega, ih, show x % 128 = x - 128 from by omega]
      by_cases h9 : (pre.length : Int) = 9
      · rw [if_pos h9, if_neg (by omega), if_pos (by omega)]
        exact key _ (by simp; omega)
      · rw [if_neg h9]
        by_cases hp : (pre.length : Int) > 0
        · rw [if_pos hp]; exact key _ (by simp; omega)
        · rw [if_neg hp]; exact key _ rfl
theorem Get_f {k : Nat} {l : List Int} (hb : ∀ x ∈ l, 0 ≤ x ∧ x < 256) (hl : l.length < 9223372036854775808) (hk : 21 ≤ k) : codec_Get.f k l = some (getL l 0 0) := by
  have := Get_l0 l [] 0 k (by simp) hb (by omega) (by simp) (by simpa using hl) (by simpa using hk)
  simpa [codec_Get.f] using this
theorem lives_at {k : Nat} (h : 100 ≤ k) : taluslaw02_lives.f k = some true := by
  have h1 : codec_Pack.f k 3 [5, 2] = some ([21], 0) := at_rounds (codec_Pack.mono 3 [5, 2]) (show 16 ≤ k by omega) (by decide +kernel)
  have h2 : codec_Zig.f (-1) = some 1 := by decide +kernel
  have h3 : codec_Put.f k [] 300 = some [172, 2] := at_rounds (codec_Put.mono [] 300) (show 12 ≤ k by omega) (by decide +kernel)
  have h4 : codec_Runs.f k [7, 7, 7, 1] = some [7, 3, 1, 1] := at_rounds (codec_Runs.mono [7, 7, 7, 1]) (show 24 ≤ k by omega) (by decide +kernel)
  have h5 : codec_Deltas.f k [5, 3] = some [10, 3] := at_rounds (codec_Deltas.mono [5, 3]) (show 14 ≤ k by omega) (by decide +kernel)
  have h6 : codec_Sum.f k [49, 50, 51, 52, 53, 54, 55, 56, 57] = some 3421780262 := at_rounds (codec_Sum.mono [49, 50, 51, 52, 53, 54, 55, 56, 57]) (show 92 ≤ k by omega) (by decide +kernel)
  have s : ∀ l : List Int, talusref01_Same.f l l = some true := fun l => by unfold talusref01_Same.f; rw [strOfNums_eq rfl]
  unfold taluslaw02_lives.f
  simp only [h1, h2, h3, h4, h5, h6, s, Option.bind_some, if_true]
  rfl
theorem lend_l0 (l : List Int) (hl : l.length ≤ 140737488351232) : ∀ (t pre : List Int) (k : Nat), l = pre ++ t → t.length < k → talusref01_Lend.l0 k l (165 :: (pre ++ (List.replicate t.length 0 ++ [90]))) l (l.length : Int) (pre.length : Int) = some (165 :: (l ++ [90]))
  | [], pre, k, he, hk => by
    obtain ⟨k, rfl⟩ : ∃ m, k = m + 1 := ⟨k - 1, by omega⟩
    have hlen : l.length = pre.length := by rw [he]; simp
    have hw : wrap64 ((l.length : Int) + 1) = (l.length : Int) + 1 := w64 _ (by omega) (by omega)
    simp only [talusref01_Lend.l0, hw]
    rw [if_neg (by omega), if_pos (by omega), if_pos (by omega), if_pos (by simp; omega), he]
    simp
  | x :: t, pre, k, he, hk => by
    obtain ⟨k, rfl⟩ : ∃ m, k = m + 1 := ⟨k - 1, by simp at hk; omega⟩
    have hlen : l.length = pre.length + 1 + t.length := by rw [he]; simp; omega
    have hr : rd l (pre.length : Int) = x := by rw [he]; exact rd_append_self pre x t
    have hw1 : wrap64 ((pre.length : Int) + 1) = ((pre.length + 1 : Nat) : Int) := by rw [w64 _ (by omega) (by omega)]; rfl
    have ih := lend_l0 l hl t (pre ++ [x]) k (by rw [he]; simp) (by simp at hk; omega)
    simp only [talusref01_Lend.l0, hw1, hr]
    rw [if_pos (by omega), if_pos (by omega), if_pos (by omega), if_pos (by omega), if_pos (by simp; omega)]
    rw [show (pre ++ [x]).length = pre.length + 1 from by simp] at ih
    rw [show (165 :: (pre ++ (List.replicate (x :: t).length 0 ++ [90])) : List Int).set (((pre.length + 1 : Nat) : Int)).toNat x = 165 :: ((pre ++ [x]) ++ (List.replicate t.length 0 ++ [90])) from by
      rw [Int.toNat_natCast, List.set_cons_succ, List.set_append]
      simp [List.replicate_succ]]
    exact ih
theorem Lend_f {l : List Int} {k : Nat} (hl : l.length ≤ 140737488351232) (hk : l.length < k) : talusref01_Lend.f k l = some (165 :: (l ++ [90])) := by
  have hw1 : wrap64 ((l.length : Int) + 1) = ((l.length + 1 : Nat) : Int) := by rw [w64 _ (by omega) (by omega)]; rfl
  have hw2 : wrap64 ((l.length : Int) + 2) = ((l.length + 2 : Nat) : Int) := by rw [w64 _ (by omega) (by omega)]; rfl
  have := lend_l0 l hl l [] k rfl hk
  unfold talusref01_Lend.f
  rw [hw1, hw2, if_pos (by omega), if_pos (by omega), Option.bind_some, if_pos (by simp; omega), if_pos (by omega), if_pos (by simp; omega)]
  rw [show ((List.replicate (((l.length + 2 : Nat) : Int)).toNat (0 : Int)).set (0 : Int).toNat 165).set (((l.length + 1 : Nat) : Int)).toNat 90 = 165 :: ([] ++ (List.replicate l.length 0 ++ [90])) from by
    rw [Int.toNat_natCast, Int.toNat_natCast, List.replicate_succ, Int.toNat_zero, List.set_cons_zero, List.set_cons_succ, List.replicate_succ', List.set_append]
    simp]
  exact this
theorem Kept_f {l : List Int} (hl : l.length ≤ 140737488351232) : talusref01_Kept.f (165 :: (l ++ [90])) l = some true := by
  have hw1 : wrap64 ((l.length : Int) + 1) = ((l.length + 1 : Nat) : Int) := by rw [w64 _ (by omega) (by omega)]; rfl
  have hw2 : wrap64 ((l.length : Int) + 2) = ((l.length + 2 : Nat) : Int) := by rw [w64 _ (by omega) (by omega)]; rfl
  have hr : rd (165 :: (l ++ [90])) ((l.length + 1 : Nat) : Int) = 90 := by
    rw [rd_nat]; simp [List.getD]
  unfold talusref01_Kept.f
  rw [hw1, hw2, if_pos (by simp; omega), if_pos (by simp; omega), if_pos (by rfl), if_pos (by omega), if_pos (by simp; omega), hr, if_pos rfl, if_pos (by omega), if_pos (by simp; omega)]
  rw [show ((165 :: (l ++ [90])).take (((l.length + 1 : Nat) : Int)).toNat).drop 1 = l from by rw [Int.toNat_natCast, List.take_succ_cons]; simp]
  simp
theorem rGet_l0 : ∀ (t pre : List Int) (a : Int) (k : Nat), pre.length ≤ 9 → (∀ x ∈ t, 0 ≤ x ∧ x < 256) → 0 ≤ a → a < 2 ^ (7 * pre.length) → (pre ++ t).length < 9223372036854775808 → 3 * (10 - pre.length) + 3 ≤ k →
    talusref02_Get.l0 k (pre ++ t) a (pre.length : Int) = some (getL t pre.length a)
  | [], pre, a, k, hi, hb, h0, h1, hl, hk => by
    obtain ⟨k, rfl⟩ : ∃ m, k = m + 1 + 1 := ⟨k - 2, by omega⟩
    simp only [talusref02_Get.l0, talusref02_Get.j1]
    rw [if_neg (by simp), if_neg (by simp)]
    rfl
  | x :: t, pre, a, k, hi, hb, h0, h1, hl, hk => by
    obtain ⟨k, rfl⟩ : ∃ m, k = m + 1 + 1 + 1 := ⟨k - 3, by omega⟩
    have hx := hb x (by simp)
    have hlen : (pre ++ x :: t).length = pre.length + 1 + t.length := by simp; omega
    have hw : IntKind.u64.wrap (wrap64 (7 * (pre.length : Int))) = 7 * (pre.length : Int) := by rw [w64 _ (by omega) (by omega), u64_in _ (by omega) (by omega)]
    have hw1 : wrap64 ((pre.length : Int) + 1) = (pre.length : Int) + 1 := w64 _ (by omega) (by omega)
    have hr : rd (pre ++ x :: t) (pre.length : Int) = x := rd_append_self pre x t
    have ht : Int.tmod x 128 = x % 128 := Int.tmod_eq_emod_of_nonneg hx.1
    simp only [talusref02_Get.l0, talusref02_Get.j1, talusref02_Get.j2]
    rw [if_pos (by omega), if_pos (decide_eq_true (by omega)), if_pos (by omega), if_pos (by omega), hr, hw, hw1, ht]
    simp only [getL]
    have st : (pre.length = 9 → x % 128 ≤ 1) → _ := fun h => or_step (i := pre.length) hi h0 h1 (y := x % 128) (by omega) (by omega) h
    have key : ∀ b : Bool, (b = true → pre.length = 9 ∧ x > 1) → (b = false → ¬ (pre.length = 9 ∧ x > 1)) → (if b = true then some ((0 : Int), (0 : Int)) else if 0 ≤ 7 * (pre.length : Int) then (if 0 ≤ (pre.length : Int) then (if (pre.length : Int) < ((pre ++ x :: t).length : Int) then (if x < 128 then (if (pre.length : Int) > 0 then (if x = 0 then some (0, 0) else some (IntKind.u64.wrap (a + shl .u64 (IntKind.u64.wrap (x % 128)) (7 * (pre.length : Int))), (pre.length : Int) + 1)) else some (IntKind.u64.wrap (a + shl .u64 (IntKind.u64.wrap (x % 128)) (7 * (pre.length : Int))), (pre.length : Int) + 1)) else talusref02_Get.l0 k (pre ++ x :: t) (IntKind.u64.wrap (a + shl .u64 (IntKind.u64.wrap (x % 128)) (7 * (pre.length : Int)))) ((pre.length : Int) + 1)) else none) else none) else none) = some (if (pre.length = 9 ∧ x > 1) ∨ (0 < pre.length ∧ x = 0) then (0, 0) else if x < 128 then (a + x * 2 ^ (7 * pre.length), (pre.length : Int) + 1) else getL t (pre.length + 1) (a + (x - 128) * 2 ^ (7 * pre.length))) := by
      intro b hb1 hb0
      cases b with
      | true => rw [if_pos rfl, if_pos (.inl (hb1 rfl))]
      | false =>
        have hn := hb0 rfl
        rw [if_neg (by decide), if_pos (by omega), if_pos (by omega), if_pos (by omega)]
        by_cases hz : 0 < pre.length ∧ x = 0
        · rw [if_pos (by omega), if_pos (by omega), if_pos (by omega), if_pos (.inr hz)]
        · obtain ⟨s1, s2, s3, s4, s5⟩ := st (fun h => by omega)
          rw [if_neg (by omega : ¬ ((pre.length = 9 ∧ x > 1) ∨ (0 < pre.length ∧ x = 0))), s1, u64_in _ (by omega) s4]
          by_cases hlt : x < 128
          · rw [if_pos hlt, if_pos hlt, show x % 128 = x from by omega]
            by_cases hp : (pre.length : Int) > 0
            · rw [if_pos hp, if_neg (by omega)]
            · rw [if_neg hp]
          · rw [if_neg hlt, if_neg hlt]
            have hn9 : pre.length < 9 := by omega
            have ih := rGet_l0 t (pre ++ [x]) (a + (x % 128) * 2 ^ (7 * pre.length)) k (by simp; omega) (fun y hy => hb y (by simp [hy])) (by omega) (by rw [List.length_append]; exact s5 hn9) (by rw [List.append_assoc]; exact hl) (by simp; omega)
            rw [List.append_assoc, List.singleton_append, show (pre ++ [x]).length = pre.length + 1 from by simp] at ih
            rw [show ((pre.length : Int) + 1) = ((pre.length + 1 : Nat) : Int) from by omega, ih, show x % 128 = x - 128 from by omega]
    by_cases h9 : (pre.length : Int) = 9
    · rw [if_pos h9]
      exact key _ (fun h => ⟨by omega, of_decide_eq_true h⟩) (fun h => by have := of_decide_eq_false h; omega)
    · rw [if_neg h9]
      exact key _ (fun h => absurd h (by decide)) (fun _ => by omega)
theorem rGet_f {k : Nat} {l : List Int} (hb : ∀ x ∈ l, 0 ≤ x ∧ x < 256) (hl : l.length < 9223372036854775808) (hk : 33 ≤ k) : talusref02_Get.f k l = some (getL l 0 0) := by
  have := rGet_l0 l [] 0 k (by simp) hb (by omega) (by simp) (by simpa using hl) (by simpa using hk)
  simpa [talusref02_Get.f] using this
theorem rput_l0 : ∀ (k u : Nat) (xs : List Int), xs.length + (putN u).length ≤ 140737488355328 → (putN u).length ≤ k → u < 18446744073709551616 → talusref02_Put.l0 k (u : Int) xs = some (xs ++ putN u)
  | 0, u, xs, _, hk, _ => absurd hk (by have := putN_pos u; omega)
  | k + 1, u, xs, hl, hk, hu => by
    simp only [talusref02_Put.l0]
    by_cases h : u < 128
    · rw [putN_small h] at hl ⊢
      simp only [List.length_cons, List.length_nil] at hl
      rw [if_neg (by omega), if_pos (by omega), show ((u : Int) % 256) = u from by omega]
    · rw [putN_more h] at hl hk ⊢
      simp only [List.length_cons] at hl hk
      rw [if_pos (by omega), if_pos (by omega), Int.tmod_eq_emod_of_nonneg (by omega), Int.tdiv_eq_ediv_of_nonneg (by omega), u64_in _ (by omega) (by omega), show ((u : Int) / 128) = ((u / 128 : Nat) : Int) from by omega, show (((u : Int) % 128 + 128) % 256) = ((u % 128 + 128 : Nat) : Int) from by omega,
        rput_l0 k (u / 128) _ (by simp only [List.length_append, List.length_cons, List.length_nil]; omega) (by omega) (by omega)]
      simp
theorem rPut_f {k u : Nat} {xs : List Int} (hl : xs.length + 10 ≤ 140737488355327) (hu : u < 18446744073709551616) (hk : 10 ≤ k) : talusref02_Put.f k xs (u : Int) = some (xs ++ putN u) := by
  have := putN_len64 hu
  unfold talusref02_Put.f
  rw [Option.bind_some, if_pos (by simp only [List.length_nil]; omega), List.nil_append]
  exact rput_l0 k u xs (by omega) (by omega) hu
theorem Zig_both {n : Int} (h0 : -9223372036854775808 ≤ n) (h1 : n ≤ 9223372036854775807) : codec_Zig.f n = some (if n < 0 then -2 * n - 1 else 2 * n) ∧ talusref02_Zig.f n = some (if n < 0 then -2 * n - 1 else 2 * n) := by
  constructor
  · unfold codec_Zig.f
    by_cases c : n < 0
    · rw [if_pos c, show n / 9223372036854775808 = -1 from by omega, show IntKind.u64.wrap (-1) = 18446744073709551615 from by decide, u64_mod, u64_mod]
      obtain ⟨m, hm⟩ : ∃ m : Nat, n % 18446744073709551616 * 2 % 18446744073709551616 = (m : Int) := ⟨(n % 18446744073709551616 * 2 % 18446744073709551616).toNat, by omega⟩
      rw [hm, bxor_comm, not_u64 (by omega)]
      congr 1; omega
    · rw [if_neg c, show n / 9223372036854775808 = 0 from by omega, u64_mod, u64_mod, show IntKind.u64.wrap 0 = 0 from by decide, show n % 18446744073709551616 * 2 % 18446744073709551616 = 2 * n from by omega]
      obtain ⟨m, rfl⟩ := Int.eq_ofNat_of_zero_le (show 0 ≤ n by omega)
      rw [show (2 : Int) * (m : Int) = ((2 * m : Nat) : Int) from by omega, show (0 : Int) = ((0 : Nat) : Int) from rfl, xor_nat (k := .u64) rfl (by simp only [IntKind.bits, Nat.reducePow]; omega) (by decide), Nat.xor_zero]
  · unfold talusref02_Zig.f
    by_cases c : n < 0
    · rw [if_pos c, if_pos c, w64 (n + 1) (by omega) (by omega), w64 (-(n + 1)) (by omega) (by omega), u64_in (-(n + 1)) (by omega) (by omega), u64_in (2 * -(n + 1)) (by omega) (by omega), u64_in _ (by omega) (by omega)]
      congr 1; omega
    · rw [if_neg c, if_neg c, u64_in n (by omega) (by omega), u64_in _ (by omega) (by omega)]
theorem Zag_both {u : Nat} (h : u < 18446744073709551616) : codec_Zag.f (u : Int) = some (if u % 2 = 1 then -((u / 2 : Nat) : Int) - 1 else ((u / 2 : Nat) : Int)) ∧ talusref02_Zag.f (u : Int) = some (if u % 2 = 1 then -((u / 2 : Nat) : Int) - 1 else ((u / 2 : Nat) : Int)) := by
  constructor
  · unfold codec_Zag.f
    rw [show Go.bits .and .u64 (u : Int) 1 = (u : Int) % 2 from and_mask (k := .u64) rfl 1 (by decide) _ (by omega) (by simp only [IntKind.bits, Int.reducePow]; omega), show ((u : Int) / 2) = ((u / 2 : Nat) : Int) from by omega]
    by_cases c : u % 2 = 1
    · rw [if_pos c, show (u : Int) % 2 = 1 from by omega, show wrap64 (-(wrap64 1)) = -1 from by decide +kernel, w64 _ (by omega) (by omega), not_i64 (by omega)]
    · rw [if_neg c, show (u : Int) % 2 = 0 from by omega, show wrap64 (-(wrap64 0)) = 0 from by decide +kernel, w64 _ (by omega) (by omega), xor_zero_i64 (by omega)]
  · unfold talusref02_Zag.f
    rw [Int.tmod_eq_emod_of_nonneg (by omega), Int.tdiv_eq_ediv_of_nonneg (by omega), show ((u : Int) / 2) = ((u / 2 : Nat) : Int) from by omega, u64_in _ (by omega) (by omega), w64 (((u / 2 : Nat) : Int)) (by omega) (by omega)]
    by_cases c : u % 2 = 1
    · rw [if_pos (by omega), if_pos c, w64 (-((u / 2 : Nat) : Int)) (by omega) (by omega), w64 _ (by omega) (by omega)]
    · rw [if_neg (by omega), if_neg c]
end CodecNumbersL
theorem CodecNumbers : taluslaw02_CodecNumbers.Pure := by
  intro l u n _ _ hl hu hn
  obtain ⟨h0, h1⟩ := wf_u64 hu
  obtain ⟨u, rfl⟩ := Int.eq_ofNat_of_zero_le h0
  obtain ⟨n0, n1⟩ := wf_i64 hn
  have hb : ∀ x ∈ l, 0 ≤ x ∧ x < 256 := fun x hx => wf_u8 (hl x hx)
  have hu' : u < 18446744073709551616 := by omega
  refine ⟨2000, ?_⟩
  unfold taluslaw02_CodecNumbers.f
  by_cases hlen : (l.length : Int) > 1000
  · rw [if_pos hlen, CodecNumbersL.lives_at (by omega), Option.bind_some]
  · rw [if_neg hlen, CodecNumbersL.Lend_f (by omega) (by omega), Option.bind_some]
    have hw : wrap64 ((l.length : Int) + 1) = ((l.length + 1 : Nat) : Int) := by rw [w64 _ (by omega) (by omega)]; rfl
    rw [hw, if_pos (by omega), if_pos (by omega), if_pos (by simp; omega), Option.bind_some]
    rw [show ((165 :: (l ++ [90])).take (((l.length + 1 : Nat) : Int)).toNat).drop 1 = l from by rw [Int.toNat_natCast, List.take_succ_cons]; simp]
    rw [CodecNumbersL.Get_f hb (by omega) (by omega), Option.bind_some, CodecNumbersL.rGet_f hb (by omega) (by omega), Option.bind_some, CodecNumbersL.Put_f (by omega) hu' (by omega), Option.bind_some, CodecNumbersL.rPut_f (by omega) hu' (by omega), Option.bind_some]
    have s : ∀ l : List Int, talusref01_Same.f l l = some true := fun l => by unfold talusref01_Same.f; rw [strOfNums_eq rfl]
    rw [s, Option.bind_some, if_pos rfl, if_pos rfl, if_pos rfl, (CodecNumbersL.Zig_both n0 n1).1, Option.bind_some, (CodecNumbersL.Zig_both n0 n1).2, Option.bind_some, if_pos rfl, (CodecNumbersL.Zag_both hu').1, Option.bind_some, (CodecNumbersL.Zag_both hu').2, Option.bind_some, if_pos rfl, CodecNumbersL.Kept_f (by omega), Option.bind_some, if_pos rfl, CodecNumbersL.lives_at (by omega), Option.bind_some]
end Go.Proofs.Ytkmhknfdoofieaa.Pure
