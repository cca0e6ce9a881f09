/-
  The pure law of CodecTells: a beginning of a frame is too short; a frame one bit of whose content was turned is none. No conditions.
-/
import Derived.Test.YtkmhknfdoofieaaTlCrc
import Derived.Test.YtkmhknfdoofieaaPCodecTellsx8
namespace Go.Proofs.Ytkmhknfdoofieaa.Pure
open Go.RowKit Go.Proofs.Ytkmhknfdoofieaa.PCodecTells Go.Proofs.YtkmhknfdoofieaaW.PrintWords Go.Proofs.YtkmhknfdoofieaaW.PrintLast Go.Proofs.YtkmhknfdoofieaaW.PrintMore Go.Proofs.Ytkmhknfdoofieaa.Tl
set_option linter.unusedVariables false
namespace CodecTellsL
theorem lives_at {k : Nat} (h : 100 ≤ k) : taluslaw02_lives.f k = some true := by
  have h1 : codec_Pack.f k 3 [5, 2] = some ([21], 0) := at_rounds (codec_Pack.mono 3 [5, 2]) (show 16 ≤ k by omega) (by decide +kernel)
  have h2 : codec_Zig.f (-1) = some 1 := by decide +kernel
  have h3 : codec_Put.f k [] 300 = some [172, 2] := at_rounds (codec_Put.mono [] 300) (show 12 ≤ k by omega) (by decide +kernel)
  have h4 : codec_Runs.f k [7, 7, 7, 1] = some [7, 3, 1, 1] := at_rounds (codec_Runs.mono [7, 7, 7, 1]) (show 24 ≤ k by omega) (by decide +kernel)
  have h5 : codec_Deltas.f k [5, 3] = some [10, 3] := at_rounds (codec_Deltas.mono [5, 3]) (show 14 ≤ k by omega) (by decide +kernel)
  have h6 : codec_Sum.f k [49, 50, 51, 52, 53, 54, 55, 56, 57] = some 3421780262 := at_rounds (codec_Sum.mono [49, 50, 51, 52, 53, 54, 55, 56, 57]) (show 92 ≤ k by omega) (by decide +kernel)
  have s : ∀ l : List Int, talusref01_Same.f l l = some true := fun l => by unfold talusref01_Same.f; rw [strOfNums_eq rfl]
  unfold taluslaw02_lives.f
  simp only [h1, h2, h3, h4, h5, h6, s, Option.bind_some, if_true]
  rfl
theorem bitstep {s : Nat} (h : s < 4294967296) : Go.bits .xor .u32 ((s : Int) / 2) (Go.bits .and .u32 3988292384 ((-(Go.bits .and .u32 (s : Int) 1)) % 4294967296)) = ((crcStep s : Nat) : Int) := by
  rw [show Go.bits .and .u32 (s : Int) 1 = (s : Int) % 2 from and_mask (k := .u32) rfl 1 (by decide) _ (by omega) (by simp only [IntKind.bits, Int.reducePow]; omega)]
  unfold crcStep
  by_cases c : s % 2 = 1
  · rw [if_pos c, show (s : Int) % 2 = 1 from by omega, show Go.bits .and .u32 3988292384 ((-1) % 4294967296) = ((3988292384 : Nat) : Int) from by decide, show (s : Int) / 2 = ((s / 2 : Nat) : Int) from by omega, xor_nat (k := .u32) rfl (by simp only [IntKind.bits, Nat.reducePow]; omega) (by decide)]
  · rw [if_neg c, show (s : Int) % 2 = 0 from by omega, show Go.bits .and .u32 3988292384 ((-0) % 4294967296) = ((0 : Nat) : Int) from by decide, show (s : Int) / 2 = ((s / 2 : Nat) : Int) from by omega, xor_nat (k := .u32) rfl (by simp only [IntKind.bits, Nat.reducePow]; omega) (by decide)]
theorem Sum_l1 {l : List Int} {n i : Int} {k : Nat} : ∀ (d s : Nat), d ≤ 8 → s < 4294967296 → codec_Sum.l1 (k + d + 1) (s : Int) l n i (8 - (d : Int)) = codec_Sum.l0 k ((steps d s : Nat) : Int) l n (wrap64 (i + 1))
  | 0, s, _, _ => by
    rw [codec_Sum.l1.eq_def]
    simp only []
    rw [if_neg (by omega)]
    rfl
  | d + 1, s, hd, hs => by
    rw [codec_Sum.l1.eq_def]
    simp only []
    rw [if_pos (by omega), bitstep hs, w64 (8 - ((d + 1 : Nat) : Int) + 1) (by omega) (by omega), show 8 - ((d + 1 : Nat) : Int) + 1 = 8 - (d : Int) from by omega]
    exact Sum_l1 d (crcStep s) (by omega) (step_lt hs)
theorem Sum_l0 {l : List Int} (hm : l.length < 140737488355328) : ∀ (t p : List Int) (s k : Nat), l = p ++ t → (∀ x ∈ t, 0 ≤ x ∧ x < 256) → s < 4294967296 → 10 * t.length + 1 ≤ k → codec_Sum.l0 k (s : Int) l (l.length : Int) (p.length : Int) = some ((4294967295 ^^^ crc s t : Nat) : Int)
  | [], p, s, k, hl, _, hs, hk => by
    obtain ⟨k, rfl⟩ : ∃ m, k = m + 1 := ⟨k - 1, by omega⟩
    rw [codec_Sum.l0.eq_def]
    simp only []
    rw [if_neg (by rw [hl]; simp), show (4294967295 : Int) = ((4294967295 : Nat) : Int) from rfl, xor_nat (k := .u32) rfl (by decide) (by simp only [IntKind.bits, Nat.reducePow]; omega)]
    rfl
  | x :: t, p, s, k, hl, hb, hs, hk => by
    simp only [List.length_cons] at hk
    obtain ⟨k, rfl⟩ : ∃ m, k = m + 8 + 1 + 1 := ⟨k - 10, by omega⟩
    have hx := hb x (List.mem_cons_self ..)
    have hlen : l.length = p.length + (t.length + 1) := by rw [hl]; simp
    rw [codec_Sum.l0.eq_def]
    simp only []
    rw [if_pos (by omega), if_pos (by omega), if_pos (by omega)]
    have e1 : rd l (p.length : Int) = x := by rw [hl]; exact rd_append_self p x t
    obtain ⟨b, rfl⟩ := Int.eq_ofNat_of_zero_le hx.1
    rw [e1, show (b : Int) % 4294967296 = (b : Int) from by omega, xor_nat (k := .u32) rfl (by simp only [IntKind.bits, Nat.reducePow]; omega) (by simp only [IntKind.bits, Nat.reducePow]; omega)]
    have h2 := x32 hs hx
    rw [Int.toNat_natCast] at h2
    have := Sum_l1 (l := l) (n := (l.length : Int)) (i := (p.length : Int)) (k := k) 8 (s ^^^ b) (by omega) h2
    rw [show (8 : Int) - ((8 : Nat) : Int) = 0 from rfl] at this
    rw [this, w64 _ (by omega) (by omega)]
    have ih := Sum_l0 hm t (p ++ [(b : Int)]) (steps 8 (s ^^^ b)) k (by rw [hl]; simp) (fun y hy => hb y (List.mem_cons_of_mem _ hy)) (steps_lt 8 h2) (by omega)
    rw [show (((p ++ [(b : Int)]).length : Nat) : Int) = (p.length : Int) + 1 from by simp] at ih
    rw [ih]
    rfl
theorem Sum_f {l : List Int} {k : Nat} (hm : l.length < 140737488355328) (hb : ∀ x ∈ l, 0 ≤ x ∧ x < 256) (hk : 10 * l.length + 1 ≤ k) : codec_Sum.f k l = some ((sumL l : Nat) : Int) := by
  unfold codec_Sum.f
  exact Sum_l0 hm l [] 4294967295 k rfl hb (by decide) hk
theorem four_f {l : List Int} {n : Nat} (hm : l.length + 4 < 140737488355328) : codec_four.f l (n : Int) = some (l ++ fourL n) := by
  unfold codec_four.f
  rw [Option.bind_some, if_pos (by simpa using hm)]
  rw [show (n : Int) % 256 = ((n % 256 : Nat) : Int) from by omega, show (n : Int) / 256 % 256 = ((n / 256 % 256 : Nat) : Int) from by omega, show (n : Int) / 65536 % 256 = ((n / 65536 % 256 : Nat) : Int) from by omega, show (n : Int) / 16777216 % 256 = ((n / 16777216 % 256 : Nat) : Int) from by omega]
  rfl
theorem Fourth_step {k i s b : Nat} {xs : List Int} (hi : i < 4) (hl : i < xs.length) (hr : rd xs (i : Int) = (b : Int)) (hb : b < 256) (hs : s < 2 ^ (8 * i)) : codec_fourth.l0 (k + 1) xs (s : Int) (i : Int) = codec_fourth.l0 k xs ((s + b * 2 ^ (8 * i) : Nat) : Int) ((i + 1 : Nat) : Int) := by
  have hp : 2 ^ (8 * i) ≤ 2 ^ 24 := Nat.pow_le_pow_right (by decide) (by omega)
  have hpp := Nat.two_pow_pos (8 * i)
  have hmul : b * 2 ^ (8 * i) ≤ 255 * 2 ^ (8 * i) := Nat.mul_le_mul_right _ (by omega)
  have e1 : shl .u32 ((b : Int) % 4294967296) (8 * (i : Int)) = ((b * 2 ^ (8 * i) : Nat) : Int) := by
    unfold shl
    rw [show (8 * (i : Int)).toNat = 8 * i from by omega, Nat.min_eq_left (by simp only [IntKind.bits]; omega), show (b : Int) % 4294967296 = (b : Int) from by omega, show (b : Int) * 2 ^ (8 * i) = ((b * 2 ^ (8 * i) : Nat) : Int) from by simp]
    generalize b * 2 ^ (8 * i) = c at hmul ⊢
    generalize 2 ^ (8 * i) = q at *
    rw [u32_mod]; omega
  rw [codec_fourth.l0.eq_def]
  simp only []
  rw [if_pos (by omega), if_pos (by omega), if_pos (by omega), w64 (8 * (i : Int)) (by omega) (by omega), if_pos (by omega), hr, e1, w64 _ (by omega) (by omega), bor_comm]
  rw [or_add (k := .u32) rfl (8 * i) _ _ (by omega) (by
    have : b * 2 ^ (8 * i) % 2 ^ (8 * i) = 0 := Nat.mul_mod_left _ _
    exact_mod_cast this) (by simp only [IntKind.bits, Int.reducePow]; generalize b * 2 ^ (8 * i) = c at *; generalize 2 ^ (8 * i) = q at *; omega) (by omega) (by exact_mod_cast hs) (by simp only [IntKind.bits, Int.reducePow]; generalize 2 ^ (8 * i) = q at *; omega)]
  rw [show ((b * 2 ^ (8 * i) : Nat) : Int) + (s : Int) = ((s + b * 2 ^ (8 * i) : Nat) : Int) from by rw [Int.natCast_add, Int.add_comm]]
  rfl
theorem Fourth_f {n k : Nat} (t : List Int) (hn : n < 4294967296) (hk : 5 ≤ k) : codec_fourth.f k (fourL n ++ t) = some (n : Int) := by
  obtain ⟨k, rfl⟩ : ∃ m, k = m + 1 + 1 + 1 + 1 + 1 := ⟨k - 5, by omega⟩
  unfold codec_fourth.f
  have hl : 4 ≤ (fourL n ++ t).length := by simp [fourL_len]
  have a0 := Fourth_step (k := k + 1 + 1 + 1 + 1) (i := 0) (s := 0) (b := n % 256) (xs := fourL n ++ t) (by decide) (by omega) rfl (by omega) (by decide)
  have a1 := Fourth_step (k := k + 1 + 1 + 1) (i := 1) (s := 0 + n % 256 * 2 ^ (8 * 0)) (b := n / 256 % 256) (xs := fourL n ++ t) (by decide) (by omega) rfl (by omega) (by simp only [Nat.reduceMul, Nat.reducePow]; omega)
  have a2 := Fourth_step (k := k + 1 + 1) (i := 2) (s := 0 + n % 256 * 2 ^ (8 * 0) + n / 256 % 256 * 2 ^ (8 * 1)) (b := n / 65536 % 256) (xs := fourL n ++ t) (by decide) (by omega) rfl (by omega) (by simp only [Nat.reduceMul, Nat.reducePow]; omega)
  have a3 := Fourth_step (k := k + 1) (i := 3) (s := 0 + n % 256 * 2 ^ (8 * 0) + n / 256 % 256 * 2 ^ (8 * 1) + n / 65536 % 256 * 2 ^ (8 * 2)) (b := n / 16777216 % 256) (xs := fourL n ++ t) (by decide) (by omega) rfl (by omega) (by simp only [Nat.reduceMul, Nat.reducePow]; omega)
  refine (a0.trans (a1.trans (a2.trans a3))).trans ?_
  rw [codec_fourth.l0.eq_def]
  simp only []
  rw [if_neg (by decide)]
  refine congrArg some ?_
  simp only [Nat.reduceMul, Nat.reducePow]
  omega
/-- What a frame is. -/
def frameL (b : List Int) : List Int := fourL b.length ++ b ++ fourL (sumL (fourL b.length ++ b))
theorem frameL_len (b : List Int) : (frameL b).length = b.length + 8 := by simp [frameL, fourL_len]; omega
theorem bytes_app {a b : List Int} (ha : ∀ x ∈ a, (0 : Int) ≤ x ∧ x < 256) (hb : ∀ x ∈ b, (0 : Int) ≤ x ∧ x < 256) : ∀ x ∈ a ++ b, (0 : Int) ≤ x ∧ x < 256 := fun x hx => (List.mem_append.1 hx).elim (ha x) (hb x)
theorem Frame_f {l : List Int} {k : Nat} (hb : ∀ x ∈ l, 0 ≤ x ∧ x < 256) (hk : 3000000 ≤ k) : codec_Frame.f k l = if (l.length : Int) > 262144 then some [] else some (frameL l) := by
  unfold codec_Frame.f
  by_cases c : (l.length : Int) > 262144
  · rw [if_pos c, if_pos c]
  · rw [if_neg c, if_neg c, w64 _ (by omega) (by omega), if_pos (by omega), if_pos (by omega), show (l.length : Int) % 4294967296 = ((l.length : Nat) : Int) from by omega, four_f (by simp), Option.bind_some, List.nil_append, if_pos (by simp only [fourL_len]; omega), Option.bind_some]
    rw [Sum_f (by simp only [List.length_append, fourL_len]; omega) (bytes_app (fourL_bytes _) hb) (by simp only [List.length_append, fourL_len]; omega), Option.bind_some, four_f (by simp only [List.length_append, fourL_len]; omega), Option.bind_some]
    rfl
theorem Unframe_short {xs : List Int} {k : Nat} (h : xs.length < 4) : codec_Unframe.f k xs = some ([], 0, 10) := by
  unfold codec_Unframe.f
  rw [if_pos (by omega)]
theorem Unframe_cut {n k : Nat} {t : List Int} (hn : n ≤ 262144) (ht : t.length < n + 4) (hk : 5 ≤ k) : codec_Unframe.f k (fourL n ++ t) = some ([], 0, 10) := by
  unfold codec_Unframe.f
  have hlen : (fourL n ++ t).length = t.length + 4 := by simp [fourL_len]; omega
  rw [if_neg (by omega), Fourth_f t (by omega) hk, Option.bind_some, w64 (n : Int) (by omega) (by omega), if_neg (by omega), if_pos (by rw [w64 _ (by omega) (by omega)]; omega)]
theorem Unframe_read {b t : List Int} {s k : Nat} (hn : b.length ≤ 262144) (hb : ∀ x ∈ b, 0 ≤ x ∧ x < 256) (ht : t.length ≤ 1000) (hs : s < 4294967296) (hk : 3000000 ≤ k) : codec_Unframe.f k (fourL b.length ++ (b ++ (fourL s ++ t))) = if s = sumL (fourL b.length ++ b) then some (b, (b.length : Int) + 8, 0) else some ([], 0, 8) := by
  unfold codec_Unframe.f
  have hlen : (fourL b.length ++ (b ++ (fourL s ++ t))).length = b.length + 8 + t.length := by simp [fourL_len]; omega
  have e1 : (fourL b.length ++ (b ++ (fourL s ++ t))).drop (b.length + 4) = fourL s ++ t := by
    rw [← List.append_assoc]
    exact List.drop_left' (by simp [fourL_len]; omega)
  have e2 : (fourL b.length ++ (b ++ (fourL s ++ t))).take (b.length + 4) = fourL b.length ++ b := by
    rw [← List.append_assoc]
    exact List.take_left' (by simp [fourL_len]; omega)
  have e3 : (fourL b.length ++ b).drop 4 = b := List.drop_left' rfl
  have hsum := Sum_f (l := fourL b.length ++ b) (k := k) (by simp only [List.length_append, fourL_len]; omega) (bytes_app (fourL_bytes _) hb) (by simp only [List.length_append, fourL_len]; omega)
  rw [if_neg (by omega), Fourth_f (n := b.length) _ (by omega) (by omega), Option.bind_some, w64 (b.length : Int) (by omega) (by omega), if_neg (by omega), if_neg (by rw [w64 _ (by omega) (by omega)]; omega), w64 ((b.length : Int) + 4) (by omega) (by omega), if_pos (by omega), if_pos (by omega), show ((b.length : Int) + 4).toNat = b.length + 4 from by omega, e1, e2, e3, Fourth_f t hs (by omega), Option.bind_some, hsum, Option.bind_some]
  by_cases c : s = sumL (fourL b.length ++ b)
  · rw [if_pos c, if_pos (by omega), if_pos (by omega), if_pos (by simp only [List.length_nil]; omega), w64 _ (by omega) (by omega), List.nil_append]
  · rw [if_neg c, if_neg (by omega)]
theorem j0_yes {l : List Int} {a k : Nat} (hn : l.length ≤ 262144) (hb : ∀ x ∈ l, 0 ≤ x ∧ x < 256) (ha : a < 18446744073709551616) (hk : 3000000 ≤ k) : taluslaw02_CodecTells.j0 (k + 1) l (a : Int) (frameL l) false = some true := by
  rw [taluslaw02_CodecTells.j0.eq_def]
  simp only []
  rw [if_neg (by decide)]
  by_cases h0 : (l.length : Int) = 0
  · rw [if_pos h0, lives_at (by omega), Option.bind_some]
  · rw [if_neg h0]
    have e1 : IntKind.u64.wrap (wrap64 (8 * (l.length : Int))) = ((8 * l.length : Nat) : Int) := by rw [w64 _ (by omega) (by omega), u64_in _ (by omega) (by omega)]; omega
    have hm := Nat.mod_lt a (show 0 < 8 * l.length by omega)
    rw [e1, if_neg (by omega), Int.tmod_eq_emod_of_nonneg (a := (a : Int)) (by omega), show (a : Int) % ((8 * l.length : Nat) : Int) = ((a % (8 * l.length) : Nat) : Int) from rfl]
    generalize a % (8 * l.length) = m at hm ⊢
    rw [Int.tdiv_eq_ediv_of_nonneg (by omega), Int.tmod_eq_emod_of_nonneg (by omega), show (m : Int) / 8 = ((m / 8 : Nat) : Int) from by omega, show (m : Int) % 8 = ((m % 8 : Nat) : Int) from by omega, u64_in ((m / 8 : Nat) : Int) (by omega) (by omega), u64_in (4 + ((m / 8 : Nat) : Int)) (by omega) (by omega), if_pos (by omega), if_pos (by rw [frameL_len]; omega), if_pos (by omega)]
    have hq : m / 8 < l.length := by omega
    have hsplit : l = l.take (m / 8) ++ l[m / 8] :: l.drop (m / 8 + 1) := by rw [List.getElem_cons_drop, List.take_append_drop]
    have hplen : (l.take (m / 8)).length = m / 8 := by rw [List.length_take]; omega
    generalize l.take (m / 8) = p at hsplit hplen
    generalize l[m / 8] = x at hsplit
    generalize l.drop (m / 8 + 1) = t at hsplit
    rw [show 4 + ((m / 8 : Nat) : Int) = ((4 + p.length : Nat) : Int) from by omega, Int.toNat_natCast]
    subst hsplit
    have hx := hb x (by simp)
    have hp : ∀ z ∈ p, 0 ≤ z ∧ z < 256 := fun z hz => hb z (by simp [hz])
    have ht : ∀ z ∈ t, 0 ≤ z ∧ z < 256 := fun z hz => hb z (by simp [hz])
    obtain ⟨y, hy, hy1, hy2⟩ := turned hx (show m % 8 < 8 by omega)
    have hL : (p ++ x :: t).length = (p ++ y :: t).length := by simp
    have hF : frameL (p ++ x :: t) = (fourL (p ++ y :: t).length ++ p) ++ x :: (t ++ fourL (sumL (fourL (p ++ x :: t).length ++ (p ++ x :: t)))) := by
      unfold frameL
      rw [hL]
      simp [List.append_assoc]
    have hpl : (fourL (p ++ y :: t).length ++ p).length = 4 + p.length := by rw [List.length_append, fourL_len]
    have hr : rd (frameL (p ++ x :: t)) ((4 + p.length : Nat) : Int) = x := by
      rw [hF, ← hpl]
      exact rd_append_self _ _ _
    have hset : (frameL (p ++ x :: t)).set (4 + p.length) y = fourL (p ++ y :: t).length ++ ((p ++ y :: t) ++ (fourL (sumL (fourL (p ++ x :: t).length ++ (p ++ x :: t))) ++ [])) := by
      rw [hF, ← hpl, List.set_append_right _ _ (Nat.le_refl _), Nat.sub_self, List.set_cons_zero]
      simp [List.append_assoc]
    have hy' : ∀ z ∈ p ++ y :: t, 0 ≤ z ∧ z < 256 := by
      refine bytes_app hp ?_
      intro z hz
      rcases List.mem_cons.1 hz with rfl | hz
      · exact hy1
      · exact ht z hz
    rw [hr, hy, hset, Unframe_read (b := p ++ y :: t) (by rw [← hL]; exact hn) hy' (by simp) (sumL_lt (bytes_app (fourL_bytes _) hb)) hk, if_neg (by
      rw [hL, ← List.append_assoc, ← List.append_assoc]
      exact sumL_turned (bytes_app (fourL_bytes _) hp) ht hx hy1 hy2), Option.bind_some, if_pos rfl, lives_at (by omega), Option.bind_some]
end CodecTellsL
open CodecTellsL in
theorem CodecTells : taluslaw02_CodecTells.Pure := by
  intro l a c _ _ hl ha hc
  obtain ⟨h0, h1⟩ := wf_u64 ha
  obtain ⟨a, rfl⟩ := Int.eq_ofNat_of_zero_le h0
  obtain ⟨g0, g1⟩ := wf_u64 hc
  obtain ⟨c, rfl⟩ := Int.eq_ofNat_of_zero_le g0
  have hb : ∀ x ∈ l, 0 ≤ x ∧ x < 256 := fun x hx => wf_u8 (hl x hx)
  obtain ⟨K, hK⟩ : ∃ K : Nat, 3000000 < K := ⟨_, Nat.lt_succ_self _⟩
  refine ⟨K + 1, ?_⟩
  unfold taluslaw02_CodecTells.f
  rw [Frame_f hb (by omega)]
  by_cases hn : (l.length : Int) > 262144
  · rw [if_pos hn, Option.bind_some, if_pos hn, if_pos (by rw [List.length_nil]; rfl), lives_at (by omega), Option.bind_some]
  · rw [if_neg hn, Option.bind_some, if_neg hn]
    have hn' : l.length ≤ 262144 := by omega
    have hfl := frameL_len l
    have hm := Nat.mod_lt a (show 0 < l.length + 8 by omega)
    rw [hfl, w64 _ (by omega) (by omega), if_pos (by omega), u64_in _ (by omega) (by omega), if_neg (by omega), Int.tmod_eq_emod_of_nonneg (by omega), show (a : Int) % ((l.length + 8 : Nat) : Int) = ((a % (l.length + 8) : Nat) : Int) from rfl]
    generalize a % (l.length + 8) = m at hm ⊢
    rw [if_pos (by omega), if_pos (by omega), Int.toNat_natCast]
    have cut : codec_Unframe.f (K + 1) ((frameL l).take m) = some ([], 0, 10) := by
      by_cases h4 : m < 4
      · exact Unframe_short (by rw [List.length_take]; omega)
      · have e : (frameL l).take m = fourL l.length ++ (l ++ fourL (sumL (fourL l.length ++ l))).take (m - 4) := by
          unfold frameL
          rw [List.append_assoc, List.take_append, List.take_of_length_le (by rw [fourL_len]; omega), fourL_len]
        rw [e]
        exact Unframe_cut hn' (by rw [List.length_take]; omega) (by omega)
    have whole : codec_Unframe.f (K + 1) (frameL l ++ [1, 2]) = some (l, (l.length : Int) + 8, 0) := by
      have e : frameL l ++ [1, 2] = fourL l.length ++ (l ++ (fourL (sumL (fourL l.length ++ l)) ++ [1, 2])) := by
        unfold frameL
        simp only [List.append_assoc]
      rw [e, Unframe_read hn' hb (by simp) (sumL_lt (bytes_app (fourL_bytes _) hb)) (by omega), if_pos rfl]
    rw [cut, Option.bind_some, Option.bind_some, List.nil_append, if_pos (by simp only [List.length_nil]; omega), Option.bind_some, Option.bind_some, if_pos (by simp only [List.length_cons, List.length_nil]; omega), whole, Option.bind_some, if_pos rfl, if_pos rfl, if_pos (by simp)]
    have s : talusref01_Same.f l l = some true := by unfold talusref01_Same.f; rw [strOfNums_eq rfl]
    rw [s, Option.bind_some]
    exact j0_yes hn' hb (by omega) (by omega)
end Go.Proofs.Ytkmhknfdoofieaa.Pure
