/-
  The pure law of FieldDivides: inverses, quotients of products and hashes are those of the reference. No conditions.
-/
import Derived.Test.YtkmhknfdoofieaaTlPrime
import Derived.Test.YtkmhknfdoofieaaTlDiv
import Derived.Test.YtkmhknfdoofieaaPFieldDividesx7
namespace Go.Proofs.Ytkmhknfdoofieaa.Pure
open Go.RowKit Go.Proofs.Ytkmhknfdoofieaa.PFieldDivides Go.Proofs.YtkmhknfdoofieaaW.PrintWords Go.Proofs.YtkmhknfdoofieaaW.PrintLast Go.Proofs.YtkmhknfdoofieaaW.PrintMore Go.Proofs.Ytkmhknfdoofieaa.Tl
set_option linter.unusedVariables false
namespace FieldDividesL
theorem Of_f {a : Nat} (h : a < 18446744073709551616) : field_Of.f (a : Int) = some ((a % PP : Nat) : Int) := by
  unfold field_Of.f
  rw [and_m61 (by omega) (by omega), u64_in _ (by omega) (by omega), PP_is]
  by_cases c : (a : Int) % 2305843009213693952 + (a : Int) / 2305843009213693952 ≥ 2305843009213693951
  · rw [if_pos c, u64_in _ (by omega) (by omega)]
    congr 1
    omega
  · rw [if_neg c]
    congr 1
    omega
theorem Mul64_f {a b : Nat} (ha : a < 18446744073709551616) (hb : b < 18446744073709551616) : bits_Mul64.f (a : Int) (b : Int) = some (((a * b / 18446744073709551616 : Nat) : Int), ((a * b % 18446744073709551616 : Nat) : Int)) := by
  unfold bits_Mul64.f
  rw [and_m32 (x := (a : Int)) (by omega) (by omega), and_m32 (x := (b : Int)) (by omega) (by omega)]
  obtain ⟨p, q, r, s, e1, e2, e3, e4, hab, hp, hq, hr, hs⟩ := mul64_parts (a : Int) (b : Int) (by omega) (by omega) (by omega) (by omega)
  rw [e1, e2, e3, e4]
  rw [u64_in p (by omega) (by omega), u64_in q (by omega) (by omega), u64_in r (by omega) (by omega), u64_in s (by omega) (by omega)]
  rw [u64_in (q + s / 4294967296) (by omega) (by omega), and_m32 (by omega) (by omega)]
  rw [u64_in ((q + s / 4294967296) % 4294967296 + r) (by omega) (by omega), u64_in (p + (q + s / 4294967296) / 4294967296) (by omega) (by omega)]
  have hc : ((a * b : Nat) : Int) = p * 18446744073709551616 + (q + r) * 4294967296 + s := by rw [← hab]; simp
  generalize a * b = c at hc ⊢
  have hc' : (a : Int) * (b : Int) = (c : Int) := by rw [hab, hc]
  rw [hc', u64_mod, u64_mod]
  congr 1
  refine Prod.ext ?_ ?_ <;> dsimp only <;> omega
theorem fold_f {c : Nat} (h : c < 5316911983139663487003542222693990401) : field_Mul_1.f ((c / 18446744073709551616 : Nat) : Int) ((c % 18446744073709551616 : Nat) : Int) = some ((c / 2305843009213693952 % PP + c % 2305843009213693952 : Nat) : Int) := by
  unfold field_Mul_1.f
  rw [u64_in _ (by omega) (by omega), or_add (k := .u64) rfl 3 _ _ (by omega) (by simp) (by simp only [IntKind.bits, Int.reducePow]; omega) (by omega) (by simp only [Int.reducePow]; omega) (by simp only [IntKind.bits, Int.reducePow]; omega)]
  rw [show ((c / 18446744073709551616 : Nat) : Int) * 8 + ((c % 18446744073709551616 : Nat) : Int) / 2305843009213693952 = ((c / 2305843009213693952 : Nat) : Int) from by omega, Of_f (by omega), Option.bind_some, and_m61 (by omega) (by omega)]
  have hp : c / 2305843009213693952 % PP < 2305843009213693951 := Nat.mod_lt _ (by decide)
  generalize c / 2305843009213693952 % PP = d at hp ⊢
  rw [u64_in _ (by omega) (by omega)]
  congr 1
  omega
theorem Mul_f {a b : Nat} (ha : a < 18446744073709551616) (hb : b < 18446744073709551616) : field_Mul.f (a : Int) (b : Int) = some ((a * b % PP : Nat) : Int) := by
  unfold field_Mul.f
  have hp : ∀ x, x % PP < 2305843009213693951 := fun x => Nat.mod_lt _ (by decide)
  have h1 := hp a
  have h2 := hp b
  rw [Of_f ha, Option.bind_some, Of_f hb, Option.bind_some, Mul64_f (by omega) (by omega), Option.bind_some, fold_f (mulmod_lt a b), Option.bind_some, Of_f (by have := hp (a % PP * (b % PP) / 2305843009213693952); omega), Option.bind_some]
  congr 2
  rw [Nat.mod_add_mod, fold61, ← Nat.mul_mod]
theorem Add_f {a b : Nat} (ha : a < 18446744073709551616) (hb : b < 18446744073709551616) : field_Add.f (a : Int) (b : Int) = some (((a + b) % PP : Nat) : Int) := by
  unfold field_Add.f
  have hp : ∀ x, x % PP < 2305843009213693951 := fun x => Nat.mod_lt _ (by decide)
  have h1 := hp a
  have h2 := hp b
  rw [Of_f ha, Option.bind_some, Of_f hb, Option.bind_some, u64_in _ (by omega) (by omega), show ((a % PP : Nat) : Int) + ((b % PP : Nat) : Int) = ((a % PP + b % PP : Nat) : Int) from by simp, Of_f (by omega), Option.bind_some]
  congr 2
  rw [← Nat.add_mod]
theorem inv_l0 : ∀ (s r u v a k : Nat), s < k → s < 2305843009213693951 → r ≤ 2305843009213693951 → u < 2305843009213693951 → v < 2305843009213693951 → a < 2305843009213693951 → u * a % PP = r % PP → v * a % PP = s % PP →
    ∃ x : Nat, field_Inverse.l0 k (r : Int) (s : Int) (u : Int) (v : Int) = some ((x : Int), true) ∧ x < 2305843009213693951 ∧ x * a % PP = Nat.gcd r s % PP := by
  intro s
  induction s using Nat.strongRecOn with
  | _ s ih =>
    intro r u v a k hk hs hr hu hv ha h1 h2
    obtain ⟨k, rfl⟩ : ∃ m, k = m + 1 := ⟨k - 1, by omega⟩
    by_cases h0 : s = 0
    · subst h0
      exact ⟨u, by simp only [field_Inverse.l0]; rw [if_neg (by omega)], hu, by rw [Nat.gcd_zero_right]; exact h1⟩
    · have hq : r / s ≤ r := Nat.div_le_self r s
      have hqs : r / s * s ≤ r := Nat.div_mul_le_self r s
      have hrs : r / s * s + r % s = r := by rw [Nat.mul_comm]; exact Nat.div_add_mod r s
      have hlt : r % s < s := Nat.mod_lt _ (by omega)
      have ht : r / s * v % PP < 2305843009213693951 := Nat.mod_lt _ (by decide)
      have e1 : IntKind.u64.wrap (Int.tdiv (r : Int) (s : Int)) = ((r / s : Nat) : Int) := by
        have e0 : Int.tdiv (r : Int) (s : Int) = ((r / s : Nat) : Int) := by rw [Int.tdiv_eq_ediv_of_nonneg (by omega)]; rfl
        rw [e0]
        generalize r / s = c at hq ⊢
        rw [u64_in _ (by omega) (by omega)]
      have e2 : IntKind.u64.wrap (2305843009213693951 - ((r / s * v % PP : Nat) : Int)) = ((2305843009213693951 - r / s * v % PP : Nat) : Int) := by
        rw [u64_in _ (by omega) (by omega)]; omega
      have e3 : IntKind.u64.wrap ((r : Int) - IntKind.u64.wrap (((r / s : Nat) : Int) * (s : Int))) = ((r % s : Nat) : Int) := by
        have hc : ((r / s : Nat) : Int) * (s : Int) = ((r / s * s : Nat) : Int) := by simp
        rw [hc]
        generalize r / s * s = c at hqs hrs
        rw [u64_in (c : Int) (by omega) (by omega)]
        generalize r % s = d at hrs ⊢
        rw [u64_in _ (by omega) (by omega)]; omega
      have inv : (u + (2305843009213693951 - r / s * v % PP)) % PP * a % PP = r % s % PP := by
        have k1 : ((u + (2305843009213693951 - r / s * v % PP)) % PP + r / s * v) % PP = u % PP := by
          rw [PP_is] at ht ⊢
          omega
        have k2 : ((u + (2305843009213693951 - r / s * v % PP)) % PP + r / s * v) * a % PP = r % PP := by rw [Nat.mul_mod, k1, ← Nat.mul_mod]; exact h1
        have k3 : r / s * v * a % PP = r / s * s % PP := by rw [Nat.mul_assoc, Nat.mul_mod, h2, ← Nat.mul_mod]
        generalize (u + (2305843009213693951 - r / s * v % PP)) % PP = w at k2 ⊢
        rw [Nat.add_mul] at k2
        generalize r / s * v * a = b at k2 k3
        generalize r / s * s = c at hrs k3
        generalize w * a = d at k2 ⊢
        rw [PP_is] at k2 k3 ⊢
        omega
      obtain ⟨x, hx, hx1, hx2⟩ := ih (r % s) hlt s v ((u + (2305843009213693951 - r / s * v % PP)) % PP) a k (by omega) (by omega) (by omega) hv (Nat.mod_lt _ (by decide)) ha h2 inv
      refine ⟨x, ?_, hx1, ?_⟩
      · simp only [field_Inverse.l0]
        rw [if_pos (by omega), if_neg (by omega), e1, Mul_f (by omega) (by omega), Option.bind_some, e2, Add_f (by omega) (by omega), Option.bind_some, e3]
        exact hx
      · rw [hx2, Nat.gcd_comm r s, Nat.gcd_rec s r, Nat.gcd_comm]
theorem Inv_f {a k : Nat} (ha : a < 18446744073709551616) (hk : 2305843009213693951 < k) :
    (a % PP = 0 ∧ field_Inverse.f k (a : Int) = some (0, false)) ∨ (a % PP ≠ 0 ∧ ∃ x : Nat, field_Inverse.f k (a : Int) = some ((x : Int), true) ∧ x < 2305843009213693951 ∧ x * a % PP = 1) := by
  have hlt : a % PP < 2305843009213693951 := Nat.mod_lt _ (by decide)
  unfold field_Inverse.f
  rw [Of_f ha, Option.bind_some, Option.bind_some]
  by_cases h : a % PP = 0
  · exact .inl ⟨h, by rw [if_pos (by omega)]⟩
  · refine .inr ⟨h, ?_⟩
    obtain ⟨x, h1, h2, h3⟩ := inv_l0 (a % PP) 2305843009213693951 0 1 (a % PP) k (by omega) hlt (by decide) (by decide) (by decide) hlt (by rw [Nat.zero_mul]; decide) (by rw [Nat.one_mul])
    refine ⟨x, by rw [if_neg (by omega)]; exact h1, h2, ?_⟩
    rw [Nat.mul_mod_mod, Nat.gcd_comm, cop_prime (by omega) hlt] at h3
    exact h3
theorem rOf_f {a : Nat} : talusref03_Of.f (a : Int) = some ((a % PP : Nat) : Int) := by
  unfold talusref03_Of.f
  rw [Int.tmod_eq_emod_of_nonneg (by omega)]
  rfl
theorem rAdd_f {a b : Nat} : talusref03_Add.f (a : Int) (b : Int) = some (((a + b) % PP : Nat) : Int) := by
  unfold talusref03_Add.f
  have hp : ∀ x, x % PP < 2305843009213693951 := fun x => Nat.mod_lt _ (by decide)
  have h1 := hp a
  have h2 := hp b
  rw [rOf_f, Option.bind_some, rOf_f, Option.bind_some, u64_in _ (by omega) (by omega), Int.tmod_eq_emod_of_nonneg (by omega), show ((a % PP : Nat) : Int) + ((b % PP : Nat) : Int) = ((a % PP + b % PP : Nat) : Int) from by simp, Nat.add_mod]
  rfl
theorem rMul_l0 : ∀ (k a b s : Nat), b < 2 ^ k → a < PP → s < PP → b < 18446744073709551616 → talusref03_Mul.l0 (k + 1) (a : Int) (b : Int) (s : Int) = some (((s + a * b) % PP : Nat) : Int)
  | k, a, 0, s, _, _, hs, _ => by
    simp only [talusref03_Mul.l0]
    rw [if_neg (by omega), Nat.mul_zero, Nat.add_zero, Nat.mod_eq_of_lt hs]
  | 0, a, b + 1, s, hb, _, _, _ => by simp at hb
  | k + 1, a, b + 1, s, hb, ha, hs, hb' => by
    have hp : ∀ x, x % PP < PP := fun x => Nat.mod_lt _ (by decide)
    have hb2 : (b + 1) / 2 < 2 ^ k := by rw [Nat.div_lt_iff_lt_mul (by decide), ← Nat.pow_succ]; exact hb
    rw [talusref03_Mul.l0.eq_def]
    simp only []
    rw [if_pos (by omega), and_one (by omega) (by omega), rAdd_f, rAdd_f, Option.bind_some, Option.bind_some, Option.bind_some, show (((b + 1 : Nat) : Int) / 2) = (((b + 1) / 2 : Nat) : Int) from by omega]
    have e : (a + a) % PP * ((b + 1) / 2) % PP = a * (2 * ((b + 1) / 2)) % PP := by
      rw [Nat.mod_mul_mod, ← Nat.two_mul, Nat.mul_comm 2 a, Nat.mul_assoc]
    by_cases c : (((b + 1 : Nat) : Int) % 2) = 1
    · rw [if_pos c, rMul_l0 k _ _ _ hb2 (hp _) (hp _) (by omega)]
      congr 2
      rw [Nat.mod_add_mod, Nat.add_mod, e, ← Nat.add_mod]
      congr 1
      rw [show b + 1 = 2 * ((b + 1) / 2) + 1 from by omega, Nat.mul_add a]
      rw [show (2 * ((b + 1) / 2) + 1) / 2 = (b + 1) / 2 from by omega]
      omega
    · rw [if_neg c, rMul_l0 k _ _ _ hb2 (hp _) hs (by omega)]
      congr 2
      rw [Nat.add_mod, e, ← Nat.add_mod]
      congr 2
      rw [show 2 * ((b + 1) / 2) = b + 1 from by omega]
theorem rMul_f {k a b : Nat} (hk : 70 ≤ k) : talusref03_Mul.f k (a : Int) (b : Int) = some ((a * b % PP : Nat) : Int) := by
  have hp : ∀ x, x % PP < PP := fun x => Nat.mod_lt _ (by decide)
  have hp' : ∀ x, x % PP < 2305843009213693951 := hp
  refine at_rounds (talusref03_Mul.mono _ _) hk ?_
  unfold talusref03_Mul.f
  have h2 := hp' b
  rw [rOf_f, Option.bind_some, rOf_f, Option.bind_some, show (0 : Int) = ((0 : Nat) : Int) from rfl, rMul_l0 69 _ _ 0 (by simp only [Nat.reducePow]; omega) (hp _) (by decide) (by omega), Nat.zero_add, ← Nat.mul_mod]
theorem lives_at {k : Nat} (h : 100 ≤ k) : taluslaw03_lives.f k = some true := by
  have h1 : field_Inverse.f k 2 = some (1152921504606846976, true) := at_rounds (field_Inverse.mono 2) (show 8 ≤ k by omega) (by decide +kernel)
  have h2 : field_MulDiv.f k 9223372036854775808 6 3 = some (0, false) := at_rounds (field_MulDiv.mono _ _ _) (show 16 ≤ k by omega) (by decide +kernel)
  have h3 : field_MulDiv.f k 9223372036854775808 6 8 = some (6917529027641081856, true) := at_rounds (field_MulDiv.mono _ _ _) (show 16 ≤ k by omega) (by decide +kernel)
  have h4 : field_Mul.f 1152921504606846976 2 = some 1 := by decide +kernel
  have h5 : field_Hash.f 1 5 2305843009213693950 = some 4 := by decide +kernel
  unfold taluslaw03_lives.f
  rw [h1, Option.bind_some, h2, Option.bind_some, h3, Option.bind_some, h4, Option.bind_some, if_pos rfl, if_pos rfl, if_pos rfl, h5, Option.bind_some, if_pos rfl, if_neg (by decide), if_pos rfl]
  rfl
theorem Len_j0 {k x b : Nat} (h0 : 0 < x) (hx : x < 4294967296) (hb : b ≤ 32) : ∃ n : Nat, bits_Len64.j0 (k + 1) (x : Int) (b : Int) = some ((n + b : Nat) : Int) ∧ isLen x n ∧ n ≤ 32 := by
  rw [bits_Len64.j0.eq_2]
  have fin : ∀ (y c : Nat), y = x / 2 ^ c → 0 < y → y < 256 → c ≤ 24 → ∃ n t : Nat, bt lenTab (y : Int) = (t : Int) ∧ t ≤ 8 ∧ n = t + c ∧ isLen x n := by
    intro y c hy hy0 hy1 _
    obtain ⟨t, e, ht, hl⟩ := tab_len hy0 hy1
    exact ⟨t + c, t, e, ht, rfl, isLen_shift (hy ▸ hl)⟩
  by_cases c1 : (x : Int) ≥ 65536
  · rw [if_pos c1]
    by_cases c2 : (x : Int) / 65536 ≥ 256
    · rw [if_pos c2]
      obtain ⟨n, t, e, ht, hn, hl⟩ := fin (x / 16777216) 24 rfl (by omega) (by omega) (by omega)
      rw [show (x : Int) / 65536 / 256 % 256 = ((x / 16777216 : Nat) : Int) from by omega, if_pos (by omega), if_pos (by omega)]
      refine ⟨n, ?_, hl, by omega⟩
      change some (wrap64 (wrap64 (wrap64 ((b : Int) + 16) + 8) + wrap64 (bt lenTab ((x / 16777216 : Nat) : Int)))) = _
      rw [e, w64 ((b : Int) + 16) (by omega) (by omega), w64 ((b : Int) + 16 + 8) (by omega) (by omega), w64 (t : Int) (by omega) (by omega), w64 _ (by omega) (by omega)]
      refine congrArg some ?_
      omega
    · rw [if_neg c2]
      obtain ⟨n, t, e, ht, hn, hl⟩ := fin (x / 65536) 16 rfl (by omega) (by omega) (by omega)
      rw [show (x : Int) / 65536 % 256 = ((x / 65536 : Nat) : Int) from by omega, if_pos (by omega), if_pos (by omega)]
      refine ⟨n, ?_, hl, by omega⟩
      change some (wrap64 (wrap64 ((b : Int) + 16) + wrap64 (bt lenTab ((x / 65536 : Nat) : Int)))) = _
      rw [e, w64 ((b : Int) + 16) (by omega) (by omega), w64 (t : Int) (by omega) (by omega), w64 _ (by omega) (by omega)]
      refine congrArg some ?_
      omega
  · rw [if_neg c1]
    by_cases c2 : (x : Int) ≥ 256
    · rw [if_pos c2]
      obtain ⟨n, t, e, ht, hn, hl⟩ := fin (x / 256) 8 rfl (by omega) (by omega) (by omega)
      rw [show (x : Int) / 256 % 256 = ((x / 256 : Nat) : Int) from by omega, if_pos (by omega), if_pos (by omega)]
      refine ⟨n, ?_, hl, by omega⟩
      change some (wrap64 (wrap64 ((b : Int) + 8) + wrap64 (bt lenTab ((x / 256 : Nat) : Int)))) = _
      rw [e, w64 ((b : Int) + 8) (by omega) (by omega), w64 (t : Int) (by omega) (by omega), w64 _ (by omega) (by omega)]
      refine congrArg some ?_
      omega
    · rw [if_neg c2]
      obtain ⟨n, t, e, ht, hn, hl⟩ := fin x 0 (by simp) (by omega) (by omega) (by omega)
      rw [show (x : Int) % 256 = ((x : Nat) : Int) from by omega, if_pos (by omega), if_pos (by omega)]
      refine ⟨n, ?_, hl, by omega⟩
      change some (wrap64 ((b : Int) + wrap64 (bt lenTab ((x : Nat) : Int)))) = _
      rw [e, w64 (t : Int) (by omega) (by omega), w64 _ (by omega) (by omega)]
      refine congrArg some ?_
      omega
theorem Lead_f {a k : Nat} (h0 : 0 < a) (h : a < 18446744073709551616) (hk : 1 ≤ k) : ∃ s : Nat, bits_LeadingZeros64.f k (a : Int) = some (s : Int) ∧ s ≤ 63 ∧ 9223372036854775808 ≤ a * 2 ^ s ∧ a * 2 ^ s < 18446744073709551616 := by
  obtain ⟨k, rfl⟩ : ∃ m, k = m + 1 := ⟨k - 1, by omega⟩
  have main : ∃ n : Nat, bits_Len64.f (k + 1) (a : Int) = some (n : Int) ∧ isLen a n ∧ n ≤ 64 := by
    unfold bits_Len64.f
    by_cases c : (a : Int) ≥ 4294967296
    · rw [if_pos c, show (a : Int) / 4294967296 = ((a / 4294967296 : Nat) : Int) from by omega]
      obtain ⟨n, e, hl, hn⟩ := Len_j0 (k := k) (x := a / 4294967296) (b := 32) (by omega) (by omega) (by omega)
      exact ⟨n + 32, e, isLen_shift hl, by omega⟩
    · rw [if_neg c]
      obtain ⟨n, e, hl, hn⟩ := Len_j0 (k := k) (x := a) (b := 0) h0 (by omega) (by omega)
      exact ⟨n, e, hl, by omega⟩
  obtain ⟨n, e, ⟨h1, h2, h3⟩, hn⟩ := main
  unfold bits_LeadingZeros64.f
  rw [e, Option.bind_some, w64 _ (by omega) (by omega)]
  refine ⟨64 - n, by congr 1; omega, by omega, ?_, ?_⟩
  · have : 2 ^ (n - 1) * 2 ^ (64 - n) ≤ a * 2 ^ (64 - n) := Nat.mul_le_mul_right _ h2
    rw [← Nat.pow_add, show n - 1 + (64 - n) = 63 from by omega] at this
    exact this
  · have : a * 2 ^ (64 - n) < 2 ^ n * 2 ^ (64 - n) := Nat.mul_lt_mul_of_pos_right h3 (Nat.two_pow_pos _)
    rw [← Nat.pow_add, show n + (64 - n) = 64 from by omega] at this
    exact this
section
variable {y1 y0 u n1 n0 s : Nat}
/-- The second half. -/
theorem D_l1 {q : Nat} (hy : 2147483648 ≤ y1) (hy1 : y1 < 4294967296) (hy0 : y0 < 4294967296) (hu : u < y1 * 4294967296 + y0) (hn : n1 < 4294967296) (hq : q < 4294967296) (x17 : Nat) : ∀ (m k q1 rh : Nat), 4294967296 ≤ rh + m * 2147483648 → rh < 4294967296 → Guess y1 y0 u n1 q1 rh → 2 * m + 2 ≤ k →
    ∃ r, bits_Div64.l1 k ((y1 * 4294967296 + y0 : Nat) : Int) (s : Int) (y1 : Int) (y0 : Int) (n1 : Int) (q : Int) (rh : Int) (x17 : Int) (q1 : Int) = some (((q * 4294967296 + (u * 4294967296 + n1) / (y1 * 4294967296 + y0) : Nat) : Int), r)
  | 0, k, q1, rh, h1, h2, _, _ => by omega
  | m + 1, k, q1, rh, h1, h2, hg, hk => by
    obtain ⟨k, rfl⟩ : ∃ j, k = j + 2 := ⟨k - 2, by omega⟩
    have hd := digit_lt hu hn
    have done : q1 = (u * 4294967296 + n1) / (y1 * 4294967296 + y0) → ∃ r, bits_Div64.j4 (k + 1) ((y1 * 4294967296 + y0 : Nat) : Int) (s : Int) (y1 : Int) (y0 : Int) (n1 : Int) (q : Int) (rh : Int) (x17 : Int) (q1 : Int) false = some (((q * 4294967296 + (u * 4294967296 + n1) / (y1 * 4294967296 + y0) : Nat) : Int), r) := by
      intro e
      simp only [bits_Div64.j4, Bool.false_eq_true, if_false]
      rw [if_pos (by omega)]
      rw [← e] at hd ⊢
      refine ⟨_, by rw [u64_in ((q : Int) * 4294967296) (by omega) (by omega), u64_in ((q : Int) * 4294967296 + (q1 : Int)) (by omega) (by omega)]; rfl⟩
    have down : (4294967296 ≤ q1 ∨ rh * 4294967296 + n1 < q1 * y0) → ∃ r, bits_Div64.j4 (k + 1) ((y1 * 4294967296 + y0 : Nat) : Int) (s : Int) (y1 : Int) (y0 : Int) (n1 : Int) (q : Int) (rh : Int) (x17 : Int) (q1 : Int) true = some (((q * 4294967296 + (u * 4294967296 + n1) / (y1 * 4294967296 + y0) : Nat) : Int), r) := by
      intro hyes
      obtain ⟨hpos, hg'⟩ := guess_down hy hu hn hg hyes
      have hle := hg'.2.2
      have hb := hg.2.2
      have e1 : IntKind.u64.wrap ((rh : Int) + (y1 : Int)) = ((rh + y1 : Nat) : Int) := by rw [u64_in _ (by omega) (by omega)]; omega
      have e2 : IntKind.u64.wrap ((q1 : Int) - 1) = ((q1 - 1 : Nat) : Int) := by rw [u64_in _ (by omega) (by omega)]; omega
      simp only [bits_Div64.j4, if_true]
      rw [e1, e2]
      by_cases c : ((rh + y1 : Nat) : Int) ≥ 4294967296
      · have e := guess_rest hy hy0 hg' (by omega) (by omega)
        rw [if_pos c, if_pos (by omega)]
        rw [← e] at hd ⊢
        refine ⟨_, by rw [u64_in ((q : Int) * 4294967296) (by omega) (by omega), u64_in ((q : Int) * 4294967296 + ((q1 - 1 : Nat) : Int)) (by omega) (by omega)]; rfl⟩
      · rw [if_neg c]
        exact D_l1 hy hy1 hy0 hu hn hq x17 m k (q1 - 1) (rh + y1) (by omega) (by omega) hg' (by omega)
    simp only [bits_Div64.l1]
    by_cases c : (q1 : Int) ≥ 4294967296
    · rw [if_pos c]; exact down (.inl (by omega))
    · rw [if_neg c]
      have hm : q1 * y0 ≤ 4294967295 * 4294967295 := Nat.mul_le_mul (by omega) (by omega)
      have e3 : IntKind.u64.wrap ((q1 : Int) * (y0 : Int)) = ((q1 * y0 : Nat) : Int) := by
        rw [show (q1 : Int) * (y0 : Int) = ((q1 * y0 : Nat) : Int) from by simp]
        generalize q1 * y0 = p at hm ⊢
        exact u64_wrap_lt (by omega)
      have e4 : IntKind.u64.wrap (IntKind.u64.wrap (4294967296 * (rh : Int)) + (n1 : Int)) = ((rh * 4294967296 + n1 : Nat) : Int) := by
        rw [u64_in (4294967296 * (rh : Int)) (by omega) (by omega), u64_in _ (by omega) (by omega)]; omega
      rw [e3, e4]
      by_cases t : ((q1 * y0 : Nat) : Int) > ((rh * 4294967296 + n1 : Nat) : Int)
      · rw [decide_eq_true t]; exact down (.inr (by omega))
      · rw [decide_eq_false t]; exact done (guess_done (by omega) hg (by omega))
/-- The first half, and what follows it. -/
theorem D_l0 (hy : 2147483648 ≤ y1) (hy1 : y1 < 4294967296) (hy0 : y0 < 4294967296) (hu : u < y1 * 4294967296 + y0) (hn : n1 < 4294967296) (hn0 : n0 < 4294967296) : ∀ (m k q1 rh : Nat), 4294967296 ≤ rh + m * 2147483648 → rh < 4294967296 → Guess y1 y0 u n1 q1 rh → 2 * m + 12 ≤ k →
    ∃ r, bits_Div64.l0 k ((y1 * 4294967296 + y0 : Nat) : Int) (s : Int) (y1 : Int) (y0 : Int) (u : Int) (n1 : Int) (n0 : Int) (q1 : Int) (rh : Int) = some (((((u * 4294967296 + n1) * 4294967296 + n0) / (y1 * 4294967296 + y0) : Nat) : Int), r)
  | 0, k, q1, rh, h1, h2, _, _ => by omega
  | m + 1, k, q1, rh, h1, h2, hg, hk => by
    obtain ⟨k, rfl⟩ : ∃ j, k = j + 2 := ⟨k - 2, by omega⟩
    have hd := digit_lt hu hn
    have next : ∀ j, 9 ≤ j → ∃ r, bits_Div64.j2 j ((y1 * 4294967296 + y0 : Nat) : Int) (s : Int) (y1 : Int) (y0 : Int) (u : Int) (n1 : Int) (n0 : Int) (((u * 4294967296 + n1) / (y1 * 4294967296 + y0) : Nat) : Int) = some (((((u * 4294967296 + n1) * 4294967296 + n0) / (y1 * 4294967296 + y0) : Nat) : Int), r) := by
      intro j hj
      obtain ⟨j, rfl⟩ : ∃ i, j = i + 1 := ⟨j - 1, by omega⟩
      simp only [bits_Div64.j2]
      rw [if_neg (by omega)]
      have hr := Nat.mod_lt (u * 4294967296 + n1) (show 0 < y1 * 4294967296 + y0 by omega)
      have hqr := Nat.div_add_mod (u * 4294967296 + n1) (y1 * 4294967296 + y0)
      rw [two_digits (u * 4294967296 + n1) n0 (y1 * 4294967296 + y0) (by omega)]
      have e1 : IntKind.u64.wrap (IntKind.u64.wrap (IntKind.u64.wrap ((u : Int) * 4294967296) + (n1 : Int)) - IntKind.u64.wrap ((((u * 4294967296 + n1) / (y1 * 4294967296 + y0) : Nat) : Int) * ((y1 * 4294967296 + y0 : Nat) : Int))) = (((u * 4294967296 + n1) % (y1 * 4294967296 + y0) : Nat) : Int) := by
        rw [show (((u * 4294967296 + n1) / (y1 * 4294967296 + y0) : Nat) : Int) * ((y1 * 4294967296 + y0 : Nat) : Int) = (((y1 * 4294967296 + y0) * ((u * 4294967296 + n1) / (y1 * 4294967296 + y0)) : Nat) : Int) from by rw [Int.natCast_mul, Int.mul_comm]]
        generalize (y1 * 4294967296 + y0) * ((u * 4294967296 + n1) / (y1 * 4294967296 + y0)) = p at hqr ⊢
        generalize (u * 4294967296 + n1) % (y1 * 4294967296 + y0) = r at hr hqr ⊢
        rw [u64_mod, u64_mod, u64_mod, u64_mod]
        omega
      rw [e1]
      obtain ⟨v, hv⟩ : ∃ v, v = (u * 4294967296 + n1) % (y1 * 4294967296 + y0) := ⟨_, rfl⟩
      obtain ⟨q, hq⟩ : ∃ q, q = (u * 4294967296 + n1) / (y1 * 4294967296 + y0) := ⟨_, rfl⟩
      rw [← hv] at hr
      rw [← hq] at hd
      rw [← hv, ← hq]
      clear hqr hv hq e1
      have hvd : v / y1 ≤ v := Nat.div_le_self v y1
      have hvm := Nat.div_add_mod v y1
      have hvl := Nat.mod_lt v (show 0 < y1 by omega)
      have e2 : IntKind.u64.wrap (Int.tdiv (v : Int) (y1 : Int)) = ((v / y1 : Nat) : Int) := by
        rw [show Int.tdiv (v : Int) (y1 : Int) = ((v / y1 : Nat) : Int) from by rw [Int.tdiv_eq_ediv_of_nonneg (by omega)]; rfl]
        generalize v / y1 = c at hvd ⊢
        exact u64_wrap_lt (by omega)
      have e3 : IntKind.u64.wrap ((v : Int) - IntKind.u64.wrap (((v / y1 : Nat) : Int) * (y1 : Int))) = ((v % y1 : Nat) : Int) := by
        rw [show ((v / y1 : Nat) : Int) * (y1 : Int) = ((y1 * (v / y1) : Nat) : Int) from by rw [Nat.mul_comm, Int.natCast_mul]]
        generalize y1 * (v / y1) = c at hvm ⊢
        generalize v % y1 = d at hvm ⊢
        rw [u64_in (c : Int) (by omega) (by omega), u64_in _ (by omega) (by omega)]; omega
      rw [e2, e3]
      exact D_l1 hy hy1 hy0 hr hn0 hd v 2 j (v / y1) (v % y1) (by omega) (by omega) (guess_first hy hy0 hr hn0) (by omega)
    have done : q1 = (u * 4294967296 + n1) / (y1 * 4294967296 + y0) → ∃ r, bits_Div64.j1 (k + 1) ((y1 * 4294967296 + y0 : Nat) : Int) (s : Int) (y1 : Int) (y0 : Int) (u : Int) (n1 : Int) (n0 : Int) (q1 : Int) (rh : Int) false = some (((((u * 4294967296 + n1) * 4294967296 + n0) / (y1 * 4294967296 + y0) : Nat) : Int), r) := by
      intro e
      simp only [bits_Div64.j1, Bool.false_eq_true, if_false]
      rw [e]
      exact next k (by omega)
    have down : (4294967296 ≤ q1 ∨ rh * 4294967296 + n1 < q1 * y0) → ∃ r, bits_Div64.j1 (k + 1) ((y1 * 4294967296 + y0 : Nat) : Int) (s : Int) (y1 : Int) (y0 : Int) (u : Int) (n1 : Int) (n0 : Int) (q1 : Int) (rh : Int) true = some (((((u * 4294967296 + n1) * 4294967296 + n0) / (y1 * 4294967296 + y0) : Nat) : Int), r) := by
      intro hyes
      obtain ⟨hpos, hg'⟩ := guess_down hy hu hn hg hyes
      have hb := hg.2.2
      have e1 : IntKind.u64.wrap ((rh : Int) + (y1 : Int)) = ((rh + y1 : Nat) : Int) := by rw [u64_in _ (by omega) (by omega)]; omega
      have e2 : IntKind.u64.wrap ((q1 : Int) - 1) = ((q1 - 1 : Nat) : Int) := by rw [u64_in _ (by omega) (by omega)]; omega
      simp only [bits_Div64.j1, if_true]
      rw [e1, e2]
      by_cases c : ((rh + y1 : Nat) : Int) ≥ 4294967296
      · rw [if_pos c, guess_rest hy hy0 hg' (by omega) (by omega)]
        exact next k (by omega)
      · rw [if_neg c]
        exact D_l0 hy hy1 hy0 hu hn hn0 m k (q1 - 1) (rh + y1) (by omega) (by omega) hg' (by omega)
    simp only [bits_Div64.l0]
    by_cases c : (q1 : Int) ≥ 4294967296
    · rw [if_pos c]; exact down (.inl (by omega))
    · rw [if_neg c]
      have hm : q1 * y0 ≤ 4294967295 * 4294967295 := Nat.mul_le_mul (by omega) (by omega)
      have e3 : IntKind.u64.wrap ((q1 : Int) * (y0 : Int)) = ((q1 * y0 : Nat) : Int) := by
        rw [show (q1 : Int) * (y0 : Int) = ((q1 * y0 : Nat) : Int) from by simp]
        generalize q1 * y0 = p at hm ⊢
        exact u64_wrap_lt (by omega)
      have e4 : IntKind.u64.wrap (IntKind.u64.wrap (4294967296 * (rh : Int)) + (n1 : Int)) = ((rh * 4294967296 + n1 : Nat) : Int) := by
        rw [u64_in (4294967296 * (rh : Int)) (by omega) (by omega), u64_in _ (by omega) (by omega)]; omega
      rw [e3, e4]
      by_cases t : ((q1 * y0 : Nat) : Int) > ((rh * 4294967296 + n1 : Nat) : Int)
      · rw [decide_eq_true t]; exact down (.inr (by omega))
      · rw [decide_eq_false t]; exact done (guess_done (by omega) hg (by omega))
end
/-- The quotient of a number of two halves. -/
theorem Div64_f {hi lo c k : Nat} (hlt : hi < c) (hc : c < 18446744073709551616) (hlo : lo < 18446744073709551616) (hk : 20 ≤ k) : ∃ r, bits_Div64.f k (hi : Int) (lo : Int) (c : Int) = some ((((hi * 18446744073709551616 + lo) / c : Nat) : Int), r) := by
  unfold bits_Div64.f
  rw [if_neg (by omega), if_neg (by omega)]
  by_cases h0 : hi = 0
  · subst h0
    have hle := Nat.div_le_self lo c
    rw [if_pos (by omega), Nat.zero_mul, Nat.zero_add, show Int.tdiv (lo : Int) (c : Int) = ((lo / c : Nat) : Int) from by rw [Int.tdiv_eq_ediv_of_nonneg (by omega)]; rfl]
    generalize lo / c = d at hle ⊢
    rw [u64_wrap_lt (by omega)]
    exact ⟨_, rfl⟩
  · rw [if_neg (by omega)]
    obtain ⟨s, e, hs, hn1, hn2⟩ := Lead_f (a := c) (k := k) (by omega) hc (by omega)
    have hps := Nat.two_pow_pos s
    have hi2 : hi * 2 ^ s < c * 2 ^ s := Nat.mul_lt_mul_of_pos_right hlt hps
    have e1 : shl .u64 (c : Int) (IntKind.u64.wrap (s : Int)) = ((c * 2 ^ s : Nat) : Int) := by
      unfold shl
      rw [u64_wrap_lt (by omega), Int.toNat_natCast, Nat.min_eq_left (by simp only [IntKind.bits]; omega), show (c : Int) * 2 ^ s = ((c * 2 ^ s : Nat) : Int) from by simp]
      generalize c * 2 ^ s = d at hn2 ⊢
      exact u64_wrap_lt (by omega)
    have e2 : shl .u64 (hi : Int) (IntKind.u64.wrap (s : Int)) = ((hi * 2 ^ s : Nat) : Int) := by
      unfold shl
      rw [u64_wrap_lt (by omega), Int.toNat_natCast, Nat.min_eq_left (by simp only [IntKind.bits]; omega), show (hi : Int) * 2 ^ s = ((hi * 2 ^ s : Nat) : Int) from by simp]
      generalize hi * 2 ^ s = d at hi2 ⊢
      exact u64_wrap_lt (by omega)
    have e3 : shl .u64 (lo : Int) (IntKind.u64.wrap (s : Int)) = ((lo * 2 ^ s % 18446744073709551616 : Nat) : Int) := by
      unfold shl
      rw [u64_wrap_lt (by omega), Int.toNat_natCast, Nat.min_eq_left (by simp only [IntKind.bits]; omega), show (lo : Int) * 2 ^ s = ((lo * 2 ^ s : Nat) : Int) from by simp, u64_mod]
      rfl
    have e4 : shr .u64 (lo : Int) (IntKind.u64.wrap (64 - IntKind.u64.wrap (s : Int))) = ((lo / 2 ^ (64 - s) : Nat) : Int) := by
      unfold shr
      rw [u64_wrap_lt (by omega), u64_in (64 - (s : Int)) (by omega) (by omega), show (64 - (s : Int)).toNat = 64 - s from by omega, Nat.min_eq_left (by simp only [IntKind.bits]; omega)]
      simp
    have hlos : lo / 2 ^ (64 - s) = lo * 2 ^ s / 18446744073709551616 := by
      rw [show (18446744073709551616 : Nat) = 2 ^ (64 - s) * 2 ^ s from by rw [← Nat.pow_add, show 64 - s + s = 64 from by omega]]
      exact (Nat.mul_div_mul_right _ _ hps).symm
    have hls : lo * 2 ^ s / 18446744073709551616 < 2 ^ s := by
      rw [Nat.div_lt_iff_lt_mul (by decide), Nat.mul_comm (2 ^ s)]
      exact Nat.mul_lt_mul_of_pos_right hlo hps
    have hor : Go.bits .or .u64 ((hi * 2 ^ s : Nat) : Int) ((lo * 2 ^ s / 18446744073709551616 : Nat) : Int) = ((hi * 2 ^ s + lo * 2 ^ s / 18446744073709551616 : Nat) : Int) := by
      rw [or_add (k := .u64) rfl s _ _ (by omega) (by
        have : hi * 2 ^ s % 2 ^ s = 0 := Nat.mul_mod_left _ _
        exact_mod_cast this) (by simp only [IntKind.bits, Int.reducePow]; generalize hi * 2 ^ s = d at hi2 ⊢; omega) (by omega) (by exact_mod_cast hls) (by
        have h2 : 2 ^ s ≤ 2 ^ 63 := Nat.pow_le_pow_right (by decide) hs
        simp only [IntKind.bits, Int.reducePow]
        generalize lo * 2 ^ s / 18446744073709551616 = d at hls ⊢
        generalize 2 ^ s = p at hls h2
        omega)]
      simp
    -- the whole number is that of three parts
    have whole : (hi * 18446744073709551616 + lo) / c = (((hi * 2 ^ s + lo * 2 ^ s / 18446744073709551616) * 4294967296 + lo * 2 ^ s % 18446744073709551616 / 4294967296) * 4294967296 + lo * 2 ^ s % 18446744073709551616 % 4294967296) / (c * 2 ^ s) := by
      rw [← Nat.mul_div_mul_right _ _ hps, Nat.add_mul, Nat.mul_assoc, Nat.mul_comm 18446744073709551616, ← Nat.mul_assoc]
      refine congrArg (fun z => z / (c * 2 ^ s)) ?_
      generalize lo * 2 ^ s = a
      generalize hi * 2 ^ s = b
      omega
    have hu : hi * 2 ^ s + lo * 2 ^ s / 18446744073709551616 < c * 2 ^ s := by
      have h3 : (hi + 1) * 2 ^ s ≤ c * 2 ^ s := Nat.mul_le_mul_right _ hlt
      rw [Nat.add_mul, Nat.one_mul] at h3
      omega
    rw [e, Option.bind_some]
    have g1 : (0 : Int) ≤ IntKind.u64.wrap (s : Int) := by rw [u64_wrap_lt (by omega)]; omega
    have g2 : (0 : Int) ≤ IntKind.u64.wrap (64 - IntKind.u64.wrap (s : Int)) := by rw [u64_wrap_lt (n := s) (by omega), u64_in _ (by omega) (by omega)]; omega
    rw [if_pos g1, if_pos g2, e1, e2, e3, e4, hlos, hor, whole]
    generalize hi * 2 ^ s + lo * 2 ^ s / 18446744073709551616 = u at hu ⊢
    have hl : lo * 2 ^ s % 18446744073709551616 < 18446744073709551616 := Nat.mod_lt _ (by decide)
    generalize lo * 2 ^ s % 18446744073709551616 = l at hl ⊢
    generalize c * 2 ^ s = Y at hn1 hn2 hu ⊢
    obtain ⟨y1, y0, rfl, hy0⟩ : ∃ y1 y0, Y = y1 * 4294967296 + y0 ∧ y0 < 4294967296 := ⟨Y / 4294967296, Y % 4294967296, by omega, by omega⟩
    rw [and_m32 (x := ((y1 * 4294967296 + y0 : Nat) : Int)) (by omega) (by omega), and_m32 (x := (l : Int)) (by omega) (by omega), if_neg (by omega)]
    rw [show ((y1 * 4294967296 + y0 : Nat) : Int) / 4294967296 = (y1 : Int) from by omega, show ((y1 * 4294967296 + y0 : Nat) : Int) % 4294967296 = (y0 : Int) from by omega, show (l : Int) / 4294967296 = ((l / 4294967296 : Nat) : Int) from by omega, show (l : Int) % 4294967296 = ((l % 4294967296 : Nat) : Int) from by omega, u64_wrap_lt (n := s) (by omega)]
    have hvd : u / y1 ≤ u := Nat.div_le_self u y1
    have hvm := Nat.div_add_mod u y1
    have hvl := Nat.mod_lt u (show 0 < y1 by omega)
    have e2 : IntKind.u64.wrap (Int.tdiv (u : Int) (y1 : Int)) = ((u / y1 : Nat) : Int) := by
      rw [show Int.tdiv (u : Int) (y1 : Int) = ((u / y1 : Nat) : Int) from by rw [Int.tdiv_eq_ediv_of_nonneg (by omega)]; rfl]
      generalize u / y1 = c at hvd ⊢
      exact u64_wrap_lt (by omega)
    have e3 : IntKind.u64.wrap ((u : Int) - IntKind.u64.wrap (((u / y1 : Nat) : Int) * (y1 : Int))) = ((u % y1 : Nat) : Int) := by
      rw [show ((u / y1 : Nat) : Int) * (y1 : Int) = ((y1 * (u / y1) : Nat) : Int) from by rw [Nat.mul_comm, Int.natCast_mul]]
      generalize y1 * (u / y1) = c at hvm ⊢
      generalize u % y1 = d at hvm ⊢
      rw [u64_in (c : Int) (by omega) (by omega), u64_in _ (by omega) (by omega)]; omega
    rw [e2, e3]
    exact D_l0 (by omega) (by omega) hy0 hu (by omega) (by omega) 2 k (u / y1) (u % y1) (by omega) (by omega) (guess_first (by omega) hy0 hu (by omega)) (by omega)
theorem rPow_l0 : ∀ (n e s x k : Nat), e < 2 ^ n → s < PP → e < 18446744073709551616 → 70 ≤ k → talusref03_Pow.l0 (k + n + 1) (x : Int) (e : Int) (s : Int) = some ((s * x ^ e % PP : Nat) : Int)
  | n, 0, s, x, k, _, hs, _, _ => by
    rw [talusref03_Pow.l0.eq_def]
    simp only []
    rw [if_neg (by omega), Nat.pow_zero, Nat.mul_one, Nat.mod_eq_of_lt hs]
  | 0, e + 1, s, x, k, he, _, _, _ => by simp at he
  | n + 1, e + 1, s, x, k, he, hs, he', hk => by
    have hP : ∀ y, y % PP < PP := fun y => Nat.mod_lt y (by decide : 0 < PP)
    have he2 : (e + 1) / 2 < 2 ^ n := by rw [Nat.div_lt_iff_lt_mul (by decide), ← Nat.pow_succ]; exact he
    have ee : (x * x % PP) ^ ((e + 1) / 2) % PP = x ^ (2 * ((e + 1) / 2)) % PP := by rw [← Nat.pow_mod, Nat.pow_mul, Nat.pow_two]
    rw [talusref03_Pow.l0.eq_def]
    simp only []
    rw [if_pos (show ((e + 1 : Nat) : Int) > 0 by omega), and_one (by omega) (by omega), rMul_f (by omega), rMul_f (by omega), Option.bind_some, Option.bind_some, Option.bind_some, show (((e + 1 : Nat) : Int) / 2) = (((e + 1) / 2 : Nat) : Int) from by omega, show k + (n + 1) = k + n + 1 from rfl]
    by_cases c : (((e + 1 : Nat) : Int) % 2) = 1
    · rw [if_pos c, rPow_l0 n _ _ _ _ he2 (hP _) (by omega) hk]
      congr 2
      rw [Nat.mul_mod, ee, ← Nat.mul_mod, Nat.mod_mul_mod, Nat.mul_assoc, Nat.mul_comm x, ← Nat.pow_succ]
      congr 3; omega
    · rw [if_neg c, rPow_l0 n _ _ _ _ he2 hs (by omega) hk]
      congr 2
      rw [Nat.mul_mod, ee, ← Nat.mul_mod]
      congr 3; omega
def EE : Nat := 2305843009213693949
theorem rInv_f {a k : Nat} (hk : 200 ≤ k) : talusref03_Inverse.f k (a : Int) = if a % PP = 0 then some (0, false) else some (((a ^ EE % PP : Nat) : Int), true) := by
  unfold talusref03_Inverse.f
  rw [rOf_f, Option.bind_some]
  by_cases h : a % PP = 0
  · rw [if_pos (by omega), if_pos h]
  · rw [if_neg (by omega), if_neg h]
    have := at_rounds (fun k => talusref03_Pow.mono_l k _ _ _) (show 70 + 61 + 1 ≤ k by omega) (rPow_l0 61 EE 1 a 70 (by decide) (by decide) (by decide) (by omega))
    unfold talusref03_Pow.f
    rw [Nat.one_mul] at this
    rw [show (1 : Int) = ((1 : Nat) : Int) from rfl, show (2305843009213693949 : Int) = ((EE : Nat) : Int) from rfl, this, Option.bind_some]
theorem inv_both {a k : Nat} (ha : a < 18446744073709551616) (hk : 2305843009213693951 < k) : ∃ x, field_Inverse.f k (a : Int) = some x ∧ talusref03_Inverse.f k (a : Int) = some x := by
  have hr := rInv_f (a := a) (k := k) (by omega)
  rcases Inv_f ha hk with ⟨h0, h1⟩ | ⟨h0, x, h1, h2, h3⟩
  · rw [if_pos h0] at hr
    exact ⟨_, h1, hr⟩
  · rw [if_neg h0] at hr
    have hlt : a % PP < PP := Nat.mod_lt _ (by decide)
    have hf : a ^ EE % PP * a % PP = 1 := by
      have : (a % PP) ^ MM % PP = 1 := fermat (a := a % PP) (by omega) hlt
      rw [← Nat.pow_mod] at this
      rw [Nat.mod_mul_mod, ← Nat.pow_succ]
      exact this
    refine ⟨_, h1, ?_⟩
    rw [hr]
    have hy : a ^ EE % PP < PP := Nat.mod_lt _ (by decide)
    generalize a ^ EE % PP = y at hf hy ⊢
    have e : x = y := by
      have k1 : x * (y * a) % PP = x % PP := by rw [Nat.mul_mod, hf, Nat.mul_one, Nat.mod_mod]
      have k2 : y * (x * a) % PP = y % PP := by rw [Nat.mul_mod, h3, Nat.mul_one, Nat.mod_mod]
      rw [Nat.mul_left_comm] at k1
      have k3 := k1.symm.trans k2
      have k4 : x % PP = x := Nat.mod_eq_of_lt h2
      rwa [k4, Nat.mod_eq_of_lt hy] at k3
    rw [e]
theorem or1 {x y : Nat} (hx : x % 2 = 0) (hx1 : x < 18446744073709551616) (hy : y < 2) : Go.bits .or .u64 (x : Int) (y : Int) = ((x + y : Nat) : Int) := by
  rw [or_add (k := .u64) rfl 1 _ _ (by omega) (by simp only [Int.reducePow]; omega) (by simp only [IntKind.bits, Int.reducePow]; omega) (by omega) (by simp only [Int.reducePow]; omega) (by simp only [IntKind.bits, Int.reducePow]; omega)]
  omega
theorem rTimes_f {a b : Nat} (ha : a < 18446744073709551616) (hb : b < 18446744073709551616) : talusref03_Times.f (a : Int) (b : Int) = some (((a * b / 18446744073709551616 : Nat) : Int), ((a * b % 18446744073709551616 : Nat) : Int)) := by
  unfold talusref03_Times.f
  rw [and_m32 (x := (a : Int)) (by omega) (by omega), and_m32 (x := (b : Int)) (by omega) (by omega)]
  obtain ⟨p, q, r, s, e1, e2, e3, e4, hab, hp, hq, hr, hs⟩ := mul64_parts (a : Int) (b : Int) (by omega) (by omega) (by omega) (by omega)
  rw [e1, e2, e3, e4]
  rw [u64_in p (by omega) (by omega), u64_in q (by omega) (by omega), u64_in r (by omega) (by omega), u64_in s (by omega) (by omega)]
  rw [u64_in (q + s / 4294967296) (by omega) (by omega), and_m32 (x := q + s / 4294967296) (by omega) (by omega), and_m32 (x := s) (by omega) (by omega)]
  rw [u64_in (r + (q + s / 4294967296) % 4294967296) (by omega) (by omega), u64_in (p + (q + s / 4294967296) / 4294967296) (by omega) (by omega)]
  have hc : ((a * b : Nat) : Int) = p * 18446744073709551616 + (q + r) * 4294967296 + s := by rw [← hab]; simp
  have habs : a * b ≤ 18446744073709551615 * 18446744073709551615 := Nat.mul_le_mul (by omega) (by omega)
  generalize a * b = c at hc habs ⊢
  rw [u64_mod ((r + (q + s / 4294967296) % 4294967296) * 4294967296)]
  rw [or_add (k := .u64) rfl 32 _ _ (by omega) (by simp only [Int.reducePow]; omega) (by simp only [IntKind.bits, Int.reducePow]; omega) (by omega) (by simp only [Int.reducePow]; omega) (by simp only [IntKind.bits, Int.reducePow]; omega)]
  rw [u64_in _ (by omega) (by omega)]
  congr 1
  refine Prod.ext ?_ ?_ <;> dsimp only <;> omega
theorem bit_at {hi lo i : Nat} (hi63 : i ≤ 63) : (hi * 18446744073709551616 + lo) / 2 ^ i % 2 = lo / 2 ^ i % 2 := by
  rw [show (18446744073709551616 : Nat) = 2 ^ i * (2 ^ (63 - i) * 2) from by rw [← Nat.pow_succ, ← Nat.pow_add, show i + (63 - i + 1) = 64 from by omega], Nat.add_comm, Nat.mul_left_comm, Nat.add_mul_div_left _ _ (Nat.two_pow_pos i), ← Nat.mul_assoc]
  generalize hi * 2 ^ (63 - i) = x
  omega
theorem rDiv_l0 {hi lo c : Nat} (hlo : lo < 18446744073709551616) (hc : c < 18446744073709551616) : ∀ (k q r : Nat), k ≤ 64 → (hi * 18446744073709551616 + lo) / 2 ^ k = q * c + r → r < c → q < 2 ^ (64 - k) →
    ∃ z, talusref03_Divide.l0 (k + 1) (lo : Int) (c : Int) (r : Int) (q : Int) ((k : Int) - 1) = some ((((hi * 18446744073709551616 + lo) / c : Nat) : Int), z, true)
  | 0, q, r, _, h, hr, _ => by
    refine ⟨(r : Int), ?_⟩
    rw [talusref03_Divide.l0.eq_def]
    simp only []
    rw [if_neg (by omega)]
    rw [Nat.pow_zero, Nat.div_one] at h
    have : (hi * 18446744073709551616 + lo) / c = q := by
      rw [h, Nat.add_comm, Nat.add_mul_div_right _ _ (by omega), Nat.div_eq_of_lt hr, Nat.zero_add]
    rw [this]
  | k + 1, q, r, hk, h, hr, hq => by
    obtain ⟨s1, s2⟩ := bit_step h hr
    rw [bit_at (by omega)] at s1 s2
    have hb : lo / 2 ^ k % 2 < 2 := Nat.mod_lt _ (by decide)
    have hq' : 2 * q + 1 < 2 ^ (64 - k) := by
      rw [show 64 - k = (64 - (k + 1)) + 1 from by omega, Nat.pow_succ]
      omega
    have hq2 : 2 ^ (64 - k) ≤ 2 ^ 64 := Nat.pow_le_pow_right (by decide) (by omega)
    have eb : Go.bits .and .u64 (shr .u64 (lo : Int) (IntKind.u64.wrap (((k + 1 : Nat) : Int) - 1))) 1 = ((lo / 2 ^ k % 2 : Nat) : Int) := by
      have e0 : shr .u64 (lo : Int) (IntKind.u64.wrap (((k + 1 : Nat) : Int) - 1)) = ((lo / 2 ^ k : Nat) : Int) := by
        unfold shr
        rw [u64_in _ (by omega) (by omega), show (((k + 1 : Nat) : Int) - 1).toNat = k from by omega, Nat.min_eq_left (by simp only [IntKind.bits]; omega)]
        simp
      have hle := Nat.div_le_self lo (2 ^ k)
      rw [e0]
      generalize lo / 2 ^ k = d at hle ⊢
      rw [and_one (by omega) (by omega)]
      rfl
    generalize lo / 2 ^ k % 2 = bit at s1 s2 hb eb
    have g1 : (0 : Int) ≤ IntKind.u64.wrap (((k + 1 : Nat) : Int) - 1) := by rw [u64_in _ (by omega) (by omega)]; omega
    have eq2 : IntKind.u64.wrap ((q : Int) * 2) = ((2 * q : Nat) : Int) := by
      generalize 2 ^ (64 - k) = d at hq' hq2
      rw [u64_in _ (by omega) (by omega)]; omega
    have eq3 : Go.bits .or .u64 ((2 * q : Nat) : Int) 1 = ((2 * q + 1 : Nat) : Int) := by
      generalize 2 ^ (64 - k) = d at hq' hq2
      exact or1 (y := 1) (by omega) (by omega) (by decide)
    have ei : wrap64 (((k + 1 : Nat) : Int) - 1 - 1) = (k : Int) - 1 := by rw [w64 _ (by omega) (by omega)]; omega
    rw [talusref03_Divide.l0.eq_def]
    simp only []
    rw [if_pos (show ((k + 1 : Nat) : Int) - 1 ≥ 0 by omega), if_pos g1, eb, eq2, eq3, ei]
    by_cases c1 : (r : Int) / 9223372036854775808 = 1
    · have e1 : IntKind.u64.wrap ((r : Int) * 2) = ((2 * r - 18446744073709551616 : Nat) : Int) := by rw [u64_mod]; omega
      obtain ⟨t1, t2⟩ := s1 (by omega)
      rw [if_pos c1, e1, or1 (by omega) (by omega) hb]
      have e2 : IntKind.u64.wrap (((2 * r - 18446744073709551616 + bit : Nat) : Int) - (c : Int)) = ((2 * r + bit - c : Nat) : Int) := by rw [u64_mod]; omega
      rw [e2]
      exact rDiv_l0 hlo hc k (2 * q + 1) (2 * r + bit - c) (by omega) t1 t2 hq'
    · have e1 : IntKind.u64.wrap ((r : Int) * 2) = ((2 * r : Nat) : Int) := by rw [u64_mod]; omega
      rw [if_neg c1, e1, or1 (by omega) (by omega) hb]
      by_cases c2 : ((2 * r + bit : Nat) : Int) ≥ (c : Int)
      · obtain ⟨t1, t2⟩ := s1 (by omega)
        have e2 : IntKind.u64.wrap (((2 * r + bit : Nat) : Int) - (c : Int)) = ((2 * r + bit - c : Nat) : Int) := by rw [u64_mod]; omega
        rw [if_pos c2, e2]
        exact rDiv_l0 hlo hc k (2 * q + 1) (2 * r + bit - c) (by omega) t1 t2 hq'
      · have t1 := s2 (by omega)
        rw [if_neg c2]
        exact rDiv_l0 hlo hc k (2 * q) (2 * r + bit) (by omega) t1 (by omega) (by omega)
theorem muldiv_both {a b c k : Nat} (ha : a < 18446744073709551616) (hb : b < 18446744073709551616) (hc : c < 18446744073709551616) (hk : 100 ≤ k) : ∃ x, field_MulDiv.f k (a : Int) (b : Int) (c : Int) = some x ∧ talusref03_MulDiv.f k (a : Int) (b : Int) (c : Int) = some x := by
  have hN := Nat.div_add_mod (a * b) 18446744073709551616
  have hlo := Nat.mod_lt (a * b) (show 0 < 18446744073709551616 by decide)
  have hm := Mul64_f ha hb
  have ht := rTimes_f ha hb
  unfold field_MulDiv.f talusref03_MulDiv.f
  rw [hm, ht, Option.bind_some, Option.bind_some]
  generalize a * b / 18446744073709551616 = hi at hN ⊢
  generalize a * b % 18446744073709551616 = lo at hN hlo ⊢
  dsimp only
  unfold talusref03_Divide.f
  obtain ⟨k, rfl⟩ : ∃ j, k = j + 1 := ⟨k - 1, by omega⟩
  by_cases h0 : (c : Int) = 0
  · refine ⟨(0, false), by rw [if_pos (by omega)], ?_⟩
    rw [if_pos h0, talusref03_Divide.j0.eq_def]
    simp only []
    rw [if_pos trivial, Option.bind_some]
  · by_cases h1 : (hi : Int) ≥ (c : Int)
    · refine ⟨(0, false), by rw [if_pos h1], ?_⟩
      rw [if_neg h0, decide_eq_true h1, talusref03_Divide.j0.eq_def]
      simp only []
      rw [if_pos trivial, Option.bind_some]
    · obtain ⟨r, hr⟩ := Div64_f (k := k + 1) (hi := hi) (lo := lo) (c := c) (by omega) hc hlo (by omega)
      obtain ⟨z, hz⟩ := rDiv_l0 (hi := hi) hlo hc 64 0 hi (by omega) (by rw [Nat.zero_mul, Nat.zero_add, show (2 : Nat) ^ 64 = 18446744073709551616 from rfl]; omega) (by omega) (by decide)
      have hz' := at_rounds (fun k => (talusref03_Divide.mono_l k).2 _ _ _ _ _) (show 64 + 1 ≤ k by omega) hz
      refine ⟨_, by rw [if_neg h1, hr, Option.bind_some], ?_⟩
      rw [if_neg h0, decide_eq_false h1, talusref03_Divide.j0.eq_def]
      simp only []
      rw [if_neg (by decide)]
      rw [show (63 : Int) = ((64 : Nat) : Int) - 1 from rfl, show (0 : Int) = ((0 : Nat) : Int) from rfl, hz', Option.bind_some]
theorem hash_f {a b c : Nat} (ha : a < 18446744073709551616) (hb : b < 18446744073709551616) (hc : c < 18446744073709551616) : field_Hash.f (a : Int) (b : Int) (c : Int) = some (((a * c % PP + b) % PP : Nat) : Int) := by
  have hP : ∀ y, y % PP < 18446744073709551616 := fun y => Nat.lt_trans (Nat.mod_lt y (by decide : 0 < PP)) (by decide)
  unfold field_Hash.f
  rw [Mul_f ha hc, Option.bind_some, Add_f (hP _) hb, Option.bind_some]
theorem rHash_f {a b c k : Nat} (hk : 70 ≤ k) : talusref03_Hash.f k (a : Int) (b : Int) (c : Int) = some (((a * c % PP + b) % PP : Nat) : Int) := by
  unfold talusref03_Hash.f
  rw [rMul_f hk, Option.bind_some, rAdd_f, Option.bind_some]
end FieldDividesL
theorem FieldDivides : taluslaw03_FieldDivides.Pure := by
  intro a b c ha hb hc
  obtain ⟨h0, h1⟩ := wf_u64 ha
  obtain ⟨g0, g1⟩ := wf_u64 hb
  obtain ⟨f0, f1⟩ := wf_u64 hc
  obtain ⟨a, rfl⟩ := Int.eq_ofNat_of_zero_le h0
  obtain ⟨b, rfl⟩ := Int.eq_ofNat_of_zero_le g0
  obtain ⟨c, rfl⟩ := Int.eq_ofNat_of_zero_le f0
  have ha : a < 18446744073709551616 := by omega
  have hb : b < 18446744073709551616 := by omega
  have hc : c < 18446744073709551616 := by omega
  obtain ⟨K, hK⟩ : ∃ K : Nat, 2305843009213694951 < K := ⟨_, Nat.lt_succ_self _⟩
  refine ⟨K, ?_⟩
  obtain ⟨x, hx1, hx2⟩ := FieldDividesL.inv_both (k := K) ha (by omega)
  obtain ⟨y, hy1, hy2⟩ := FieldDividesL.muldiv_both (k := K) ha hb hc (by omega)
  unfold taluslaw03_FieldDivides.f
  rw [hx1, Option.bind_some, hx2, Option.bind_some, hy1, Option.bind_some, hy2, Option.bind_some, if_pos rfl, if_pos (by simp), if_pos rfl, if_pos (by simp), FieldDividesL.hash_f ha hb hc, Option.bind_some, FieldDividesL.rHash_f (by omega), Option.bind_some, if_pos rfl, FieldDividesL.lives_at (by omega), Option.bind_some]
end Go.Proofs.Ytkmhknfdoofieaa.Pure
