/-
  The pure law of CodecShort: a number has one byte for each seven bits, and a longer one is never read. No conditions.
-/
import Derived.Test.YtkmhknfdoofieaaTlCodec
import Derived.Test.YtkmhknfdoofieaaPCodecShortx7
namespace Go.Proofs.Ytkmhknfdoofieaa.Pure
open Go.RowKit Go.Proofs.Ytkmhknfdoofieaa.PCodecShort Go.Proofs.YtkmhknfdoofieaaW.PrintWords Go.Proofs.YtkmhknfdoofieaaW.PrintLast Go.Proofs.YtkmhknfdoofieaaW.PrintMore Go.Proofs.Ytkmhknfdoofieaa.Tl
namespace CodecShortL
theorem put_l0 : ∀ (k u : Nat) (xs : List Int), xs.length + (putN u).length ≤ 140737488355328 → (putN u).length ≤ k → codec_put.l0 k xs (u : Int) = some (xs ++ putN u)
  | 0, u, xs, _, hk => absurd hk (by have := putN_pos u; omega)
  | k + 1, u, xs, hl, hk => by
    simp only [codec_put.l0]
    by_cases h : u < 128
    · rw [putN_small h] at hl ⊢
      simp only [List.length_cons, List.length_nil] at hl
      rw [if_neg (by omega), if_pos (by omega), show ((u : Int) % 256) = u from by omega]
    · rw [putN_more h] at hl hk ⊢
      simp only [List.length_cons] at hl hk
      rw [if_pos (by omega), if_pos (by omega), u8_orhi (by omega) (by omega), show ((u : Int) / 128) = ((u / 128 : Nat) : Int) from by omega, show ((u : Int) % 256 % 128 + 128) = ((u % 128 + 128 : Nat) : Int) from by omega,
        put_l0 k (u / 128) _ (by simp only [List.length_append, List.length_cons, List.length_nil]; omega) (by omega)]
      simp
theorem put_f {k u : Nat} {xs : List Int} (hl : xs.length + 10 ≤ 140737488355328) (hu : u < 18446744073709551616) (hk : 10 ≤ k) : codec_put.f k xs (u : Int) = some (xs ++ putN u) := by
  have := putN_len64 hu
  exact put_l0 k u xs (by omega) (by omega)
theorem Put_f {k u : Nat} {xs : List Int} (hl : xs.length + 10 ≤ 140737488355328) (hu : u < 18446744073709551616) (hk : 10 ≤ k) : codec_Put.f k xs (u : Int) = some (xs ++ putN u) := by
  unfold codec_Put.f
  rw [if_pos (by simp only [List.length_nil]; omega), List.nil_append, put_f hl hu hk]
  rfl
theorem Get_l0 : ∀ (t pre : List Int) (a : Int) (k : Nat), pre.length ≤ 9 → (∀ x ∈ t, 0 ≤ x ∧ x < 256) → 0 ≤ a → a < 2 ^ (7 * pre.length) → (pre ++ t).length < 9223372036854775808 → 2 * (10 - pre.length) + 1 ≤ k →
    codec_Get.l0 k a (pre ++ t) ((pre ++ t).length : Int) (pre.length : Int) = some (getL t pre.length a)
  | [], pre, a, k, hi, hb, h0, h1, hl, hk => by
    obtain ⟨k, rfl⟩ : ∃ m, k = m + 1 := ⟨k - 1, by omega⟩
    simp only [codec_Get.l0]
    rw [if_neg (by simp)]
    rfl
  | x :: t, pre, a, k, hi, hb, h0, h1, hl, hk => by
    obtain ⟨k, rfl⟩ : ∃ m, k = m + 1 + 1 := ⟨k - 2, by omega⟩
    have hx := hb x (by simp)
    have hlen : (pre ++ x :: t).length = pre.length + 1 + t.length := by simp; omega
    have hw : wrap64 (7 * (pre.length : Int)) = 7 * (pre.length : Int) := w64 _ (by omega) (by omega)
    have hw1 : wrap64 ((pre.length : Int) + 1) = (pre.length : Int) + 1 := w64 _ (by omega) (by omega)
    have hr : rd (pre ++ x :: t) (pre.length : Int) = x := rd_append_self pre x t
    simp only [codec_Get.l0, codec_Get.j1]
    rw [if_pos (by omega), if_pos (by omega), if_pos (by omega), hr, hw, hw1]
    simp only [show ((0 : Int) ≤ 7 * (pre.length : Int)) = True from by simp; omega, if_true, u8_and127 hx.1 hx.2]
    have st : (pre.length = 9 → x % 128 ≤ 1) → _ := fun h => or_step (i := pre.length) hi h0 h1 (y := x % 128) (by omega) (by omega) h
    simp only [getL]
    by_cases hbr : (pre.length = 9 ∧ x > 1) ∨ (0 < pre.length ∧ x = 0)
    · rw [if_pos hbr]
      rcases hbr with ⟨h9, hx1⟩ | ⟨hp, hx0⟩
      · rw [if_pos (by omega), if_pos hx1]
      · have e : (x == 0) = true := by simp [hx0]
        rw [e]
        by_cases h9 : (pre.length : Int) = 9
        · rw [if_pos h9, if_neg (by omega), if_pos (by omega)]; simp
        · rw [if_neg h9, if_pos (by omega)]; simp
    · rw [if_neg hbr]
      have key : ∀ b : Bool, b = false → (if b = true then some ((0 : Int), (0 : Int)) else if x < 128 then some (Go.bits .or .u64 a (shl .u64 (IntKind.u64.wrap (x % 128)) (7 * (pre.length : Int))), (pre.length : Int) + 1) else codec_Get.l0 k (Go.bits .or .u64 a (shl .u64 (IntKind.u64.wrap (x % 128)) (7 * (pre.length : Int)))) (pre ++ x :: t) ((pre ++ x :: t).length : Int) ((pre.length : Int) + 1)) = some (if x < 128 then (a + x * 2 ^ (7 * pre.length), (pre.length : Int) + 1) else getL t (pre.length + 1) (a + (x - 128) * 2 ^ (7 * pre.length))) := by
        intro b hbf
        subst hbf
        obtain ⟨s1, s2, s3, s4, s5⟩ := st (fun h => by omega)
        rw [s1, s2, if_neg (by simp)]
        by_cases hlt : x < 128
        · rw [if_pos hlt, if_pos hlt, show x % 128 = x from by omega]
        · rw [if_neg hlt, if_neg hlt]
          have hn9 : pre.length < 9 := by omega
          have ih := Get_l0 t (pre ++ [x]) (a + (x % 128) * 2 ^ (7 * pre.length)) k (by simp; omega) (fun y hy => hb y (by simp [hy])) (by omega) (by rw [List.length_append]; exact s5 hn9) (by rw [List.append_assoc]; exact hl) (by simp; omega)
          rw [List.append_assoc, List.singleton_append, show (pre ++ [x]).length = pre.length + 1 from by simp] at ih
          rw [show ((pre.length : Int) + 1) = ((pre.length + 1 : Nat) : Int) from by omega, ih, show x % 128 = x - 128 from by omega]
      by_cases h9 : (pre.length : Int) = 9
      · rw [if_pos h9, if_neg (by omega), if_pos (by omega)]
        exact key _ (by simp; omega)
      · rw [if_neg h9]
        by_cases hp : (pre.length : Int) > 0
        · rw [if_pos hp]; exact key _ (by simp; omega)
        · rw [if_neg hp]; exact key _ rfl
theorem Get_f {k : Nat} {l : List Int} (hb : ∀ x ∈ l, 0 ≤ x ∧ x < 256) (hl : l.length < 9223372036854775808) (hk : 21 ≤ k) : codec_Get.f k l = some (getL l 0 0) := by
  have := Get_l0 l [] 0 k (by simp) hb (by omega) (by simp) (by simpa using hl) (by simpa using hk)
  simpa [codec_Get.f] using this
theorem lives_at {k : Nat} (h : 100 ≤ k) : taluslaw02_lives.f k = some true := by
  have h1 : codec_Pack.f k 3 [5, 2] = some ([21], 0) := at_rounds (codec_Pack.mono 3 [5, 2]) (show 16 ≤ k by omega) (by decide +kernel)
  have h2 : codec_Zig.f (-1) = some 1 := by decide +kernel
  have h3 : codec_Put.f k [] 300 = some [172, 2] := at_rounds (codec_Put.mono [] 300) (show 12 ≤ k by omega) (by decide +kernel)
  have h4 : codec_Runs.f k [7, 7, 7, 1] = some [7, 3, 1, 1] := at_rounds (codec_Runs.mono [7, 7, 7, 1]) (show 24 ≤ k by omega) (by decide +kernel)
  have h5 : codec_Deltas.f k [5, 3] = some [10, 3] := at_rounds (codec_Deltas.mono [5, 3]) (show 14 ≤ k by omega) (by decide +kernel)
  have h6 : codec_Sum.f k [49, 50, 51, 52, 53, 54, 55, 56, 57] = some 3421780262 := at_rounds (codec_Sum.mono [49, 50, 51, 52, 53, 54, 55, 56, 57]) (show 92 ≤ k by omega) (by decide +kernel)
  have s : ∀ l : List Int, talusref01_Same.f l l = some true := fun l => by unfold talusref01_Same.f; rw [strOfNums_eq rfl]
  unfold taluslaw02_lives.f
  simp only [h1, h2, h3, h4, h5, h6, s, Option.bind_some, if_true]
  rfl

/-- Behind the count: the number is read back, and its long form is not. -/
theorem tail_yes {u k : Nat} (hu : u < 18446744073709551616) (hk : 200 ≤ k) : taluslaw02_CodecShort.l0 k (u : Int) (putN u) ((putN u).length : Int) 0 = some true := by
  obtain ⟨k, rfl⟩ : ∃ m, k = m + 1 + 1 := ⟨k - 2, by omega⟩
  have hl := putN_len64 hu
  have hp := putN_pos u
  have hb := putN_bytes u
  have e1 : wrap64 (((putN u).length : Int) - 1) = (((putN u).length - 1 : Nat) : Int) := by rw [w64 _ (by omega) (by omega)]; omega
  have e2 : wrap64 (((putN u).length : Int) + 1) = ((putN u).length : Int) + 1 := w64 _ (by omega) (by omega)
  have g1 : codec_Get.f (k + 1) (putN u ++ [255, 1]) = some ((u : Int), ((putN u).length : Int)) := by
    rw [Get_f (by
      intro x hx
      rcases List.mem_append.1 hx with h | h
      · exact hb x h
      · simp at h; omega) (by simp; omega) (by omega), getL_put0 _ hu]
  have hs := putM_set u []
  simp only [List.nil_append, List.length_nil, Nat.zero_add] at hs
  have hM : ∀ x ∈ putM u ++ [0], (0 : Int) ≤ x ∧ x < 256 := by
    intro x hx
    rcases List.mem_append.1 hx with h | h
    · rw [← hs] at h
      rcases List.mem_or_eq_of_mem_set h with h | h
      · exact hb x h
      · rw [h]
        have := bits_range (k := .u8) rfl .or (rd (putN u) (((putN u).length - 1 : Nat) : Int)) 128
        simpa [IntKind.bits] using this
    · simp at h; omega
  have g2 : codec_Get.f k (putM u ++ [0]) = some (0, 0) := by
    rw [Get_f hM (by have := putM_len u; simp; omega) (by omega), getL_long u 0 0 []]
  have hj : taluslaw02_CodecShort.j1 (k + 1) (putN u) ((putN u).length : Int) false = some true := by
    simp only [taluslaw02_CodecShort.j1, Bool.false_eq_true, if_false]
    rw [e1, if_pos (by omega), if_pos (by omega)]
    simp only [Option.bind_some, Int.toNat_natCast]
    rw [hs, if_pos (by have := putM_len u; omega), g2, Option.bind_some, if_pos rfl]
    rw [if_pos (by rw [e2]; have := putM_len u; simp; omega), lives_at (by omega), Option.bind_some]
  simp only [taluslaw02_CodecShort.l0]
  rw [if_neg (by omega)]
  simp only [Option.bind_some, List.nil_append]
  rw [if_pos (by simp; omega), if_pos (by simp; omega), g1]
  simp only [Option.bind_some, if_true]
  rw [show ((((putN u).length : Int)) != ((putN u).length : Int)) = false from by simp]
  exact hj

/-- The loop that counts a number's bytes, and all that follows. -/
theorem count : ∀ (d x n k u : Nat), x < 128 ^ d → (putN u).length = n + (if x = 0 then 0 else (putN x).length) → u < 18446744073709551616 → 200 + d ≤ k →
    taluslaw02_CodecShort.l0 k (u : Int) (putN u) (n : Int) (x : Int) = some true
  | d, 0, n, k, u, _, hn, hu, hk => by
    rw [if_pos rfl] at hn
    rw [show ((n : Nat) : Int) = ((putN u).length : Int) from by omega]
    exact tail_yes hu (by omega)
  | 0, x + 1, n, k, u, hx, _, _, _ => absurd hx (by simp)
  | d + 1, x + 1, n, k, u, hx, hn, hu, hk => by
    obtain ⟨k, rfl⟩ : ∃ m, k = m + 1 := ⟨k - 1, by omega⟩
    have hl := putN_len64 hu
    rw [if_neg (by omega)] at hn
    have ih := count d ((x + 1) / 128) (n + 1) k u (by rw [Nat.div_lt_iff_lt_mul (by decide), ← Nat.pow_succ]; exact hx) (by
      by_cases h : x + 1 < 128
      · rw [putN_small h] at hn
        rw [if_pos (by omega)]; simpa using hn
      · rw [putN_more h] at hn
        rw [if_neg (by omega)]
        simp only [List.length_cons] at hn
        omega) hu (by omega)
    simp only [taluslaw02_CodecShort.l0]
    rw [if_pos (by omega), w64 _ (by omega) (by omega)]
    rw [show ((n : Int) + 1) = ((n + 1 : Nat) : Int) from by omega, show (((x + 1 : Nat) : Int) / 128) = (((x + 1) / 128 : Nat) : Int) from by omega]
    exact ih
end CodecShortL
theorem CodecShort : taluslaw02_CodecShort.Pure := by
  intro a h
  obtain ⟨h0, h1⟩ := wf_u64 h
  obtain ⟨u, rfl⟩ := Int.eq_ofNat_of_zero_le h0
  have hu : u < 18446744073709551616 := by omega
  refine ⟨300, ?_⟩
  unfold taluslaw02_CodecShort.f
  rw [CodecShortL.Put_f (xs := []) (by simp) hu (by omega)]
  simp only [Option.bind_some, List.nil_append]
  rw [show ((u : Int) / 128) = ((u / 128 : Nat) : Int) from by omega]
  refine CodecShortL.count 10 (u / 128) 1 300 u ?_ ?_ hu (by omega)
  · have : (128 : Nat) ^ 10 = 1180591620717411303424 := by decide
    omega
  · by_cases hs : u < 128
    · rw [putN_small hs, if_pos (by omega)]; rfl
    · rw [putN_more hs, if_neg (by omega)]; simp only [List.length_cons]; omega
end Go.Proofs.Ytkmhknfdoofieaa.Pure
