/-
  The pure law of FieldHashes: each hash leads back to its number. No conditions.
-/
import Derived.Test.YtkmhknfdoofieaaTlPrime
import Derived.Test.YtkmhknfdoofieaaPFieldHashesx5
namespace Go.Proofs.Ytkmhknfdoofieaa.Pure
open Go.RowKit Go.Proofs.Ytkmhknfdoofieaa.PFieldHashes Go.Proofs.YtkmhknfdoofieaaW.PrintWords Go.Proofs.YtkmhknfdoofieaaW.PrintLast Go.Proofs.YtkmhknfdoofieaaW.PrintMore Go.Proofs.Ytkmhknfdoofieaa.Tl
set_option linter.unusedVariables false
namespace FieldHashesL
theorem Of_f {a : Nat} (h : a < 18446744073709551616) : field_Of.f (a : Int) = some ((a % PP : Nat) : Int) := by
  unfold field_Of.f
  rw [and_m61 (by omega) (by omega), u64_in _ (by omega) (by omega), PP_is]
  by_cases c : (a : Int) % 2305843009213693952 + (a : Int) / 2305843009213693952 ≥ 2305843009213693951
  · rw [if_pos c, u64_in _ (by omega) (by omega)]
    congr 1
    omega
  · rw [if_neg c]
    congr 1
    omega
theorem Mul64_f {a b : Nat} (ha : a < 18446744073709551616) (hb : b < 18446744073709551616) : bits_Mul64.f (a : Int) (b : Int) = some (((a * b / 18446744073709551616 : Nat) : Int), ((a * b % 18446744073709551616 : Nat) : Int)) := by
  unfold bits_Mul64.f
  rw [and_m32 (x := (a : Int)) (by omega) (by omega), and_m32 (x := (b : Int)) (by omega) (by omega)]
  obtain ⟨p, q, r, s, e1, e2, e3, e4, hab, hp, hq, hr, hs⟩ := mul64_parts (a : Int) (b : Int) (by omega) (by omega) (by omega) (by omega)
  rw [e1, e2, e3, e4]
  rw [u64_in p (by omega) (by omega), u64_in q (by omega) (by omega), u64_in r (by omega) (by omega), u64_in s (by omega) (by omega)]
  rw [u64_in (q + s / 4294967296) (by omega) (by omega), and_m32 (by omega) (by omega)]
  rw [u64_in ((q + s / 4294967296) % 4294967296 + r) (by omega) (by omega), u64_in (p + (q + s / 4294967296) / 4294967296) (by omega) (by omega)]
  have hc : ((a * b : Nat) : Int) = p * 18446744073709551616 + (q + r) * 4294967296 + s := by rw [← hab]; simp
  generalize a * b = c at hc ⊢
  have hc' : (a : Int) * (b : Int) = (c : Int) := by rw [hab, hc]
  rw [hc', u64_mod, u64_mod]
  congr 1
  refine Prod.ext ?_ ?_ <;> dsimp only <;> omega
theorem fold_f {c : Nat} (h : c < 5316911983139663487003542222693990401) : field_Mul_1.f ((c / 18446744073709551616 : Nat) : Int) ((c % 18446744073709551616 : Nat) : Int) = some ((c / 2305843009213693952 % PP + c % 2305843009213693952 : Nat) : Int) := by
  unfold field_Mul_1.f
  rw [u64_in _ (by omega) (by omega), or_add (k := .u64) rfl 3 _ _ (by omega) (by simp) (by simp only [IntKind.bits, Int.reducePow]; omega) (by omega) (by simp only [Int.reducePow]; omega) (by simp only [IntKind.bits, Int.reducePow]; omega)]
  rw [show ((c / 18446744073709551616 : Nat) : Int) * 8 + ((c % 18446744073709551616 : Nat) : Int) / 2305843009213693952 = ((c / 2305843009213693952 : Nat) : Int) from by omega, Of_f (by omega), Option.bind_some, and_m61 (by omega) (by omega)]
  have hp : c / 2305843009213693952 % PP < 2305843009213693951 := Nat.mod_lt _ (by decide)
  generalize c / 2305843009213693952 % PP = d at hp ⊢
  rw [u64_in _ (by omega) (by omega)]
  congr 1
  omega
theorem Mul_f {a b : Nat} (ha : a < 18446744073709551616) (hb : b < 18446744073709551616) : field_Mul.f (a : Int) (b : Int) = some ((a * b % PP : Nat) : Int) := by
  unfold field_Mul.f
  have hp : ∀ x, x % PP < 2305843009213693951 := fun x => Nat.mod_lt _ (by decide)
  have h1 := hp a
  have h2 := hp b
  rw [Of_f ha, Option.bind_some, Of_f hb, Option.bind_some, Mul64_f (by omega) (by omega), Option.bind_some, fold_f (mulmod_lt a b), Option.bind_some, Of_f (by have := hp (a % PP * (b % PP) / 2305843009213693952); omega), Option.bind_some]
  congr 2
  rw [Nat.mod_add_mod, fold61, ← Nat.mul_mod]
theorem Add_f {a b : Nat} (ha : a < 18446744073709551616) (hb : b < 18446744073709551616) : field_Add.f (a : Int) (b : Int) = some (((a + b) % PP : Nat) : Int) := by
  unfold field_Add.f
  have hp : ∀ x, x % PP < 2305843009213693951 := fun x => Nat.mod_lt _ (by decide)
  have h1 := hp a
  have h2 := hp b
  rw [Of_f ha, Option.bind_some, Of_f hb, Option.bind_some, u64_in _ (by omega) (by omega), show ((a % PP : Nat) : Int) + ((b % PP : Nat) : Int) = ((a % PP + b % PP : Nat) : Int) from by simp, Of_f (by omega), Option.bind_some]
  congr 2
  rw [← Nat.add_mod]
theorem inv_l0 : ∀ (s r u v a k : Nat), s < k → s < 2305843009213693951 → r ≤ 2305843009213693951 → u < 2305843009213693951 → v < 2305843009213693951 → a < 2305843009213693951 → u * a % PP = r % PP → v * a % PP = s % PP →
    ∃ x : Nat, field_Inverse.l0 k (r : Int) (s : Int) (u : Int) (v : Int) = some ((x : Int), true) ∧ x < 2305843009213693951 ∧ x * a % PP = Nat.gcd r s % PP := by
  intro s
  induction s using Nat.strongRecOn with
  | _ s ih =>
    intro r u v a k hk hs hr hu hv ha h1 h2
    obtain ⟨k, rfl⟩ : ∃ m, k = m + 1 := ⟨k - 1, by omega⟩
    by_cases h0 : s = 0
    · subst h0
      exact ⟨u, by simp only [field_Inverse.l0]; rw [if_neg (by omega)], hu, by rw [Nat.gcd_zero_right]; exact h1⟩
    · have hq : r / s ≤ r := Nat.div_le_self r s
      have hqs : r / s * s ≤ r := Nat.div_mul_le_self r s
      have hrs : r / s * s + r % s = r := by rw [Nat.mul_comm]; exact Nat.div_add_mod r s
      have hlt : r % s < s := Nat.mod_lt _ (by omega)
      have ht : r / s * v % PP < 2305843009213693951 := Nat.mod_lt _ (by decide)
      have e1 : IntKind.u64.wrap (Int.tdiv (r : Int) (s : Int)) = ((r / s : Nat) : Int) := by
        have e0 : Int.tdiv (r : Int) (s : Int) = ((r / s : Nat) : Int) := by rw [Int.tdiv_eq_ediv_of_nonneg (by omega)]; rfl
        rw [e0]
        generalize r / s = c at hq ⊢
        rw [u64_in _ (by omega) (by omega)]
      have e2 : IntKind.u64.wrap (2305843009213693951 - ((r / s * v % PP : Nat) : Int)) = ((2305843009213693951 - r / s * v % PP : Nat) : Int) := by
        rw [u64_in _ (by omega) (by omega)]; omega
      have e3 : IntKind.u64.wrap ((r : Int) - IntKind.u64.wrap (((r / s : Nat) : Int) * (s : Int))) = ((r % s : Nat) : Int) := by
        have hc : ((r / s : Nat) : Int) * (s : Int) = ((r / s * s : Nat) : Int) := by simp
        rw [hc]
        generalize r / s * s = c at hqs hrs
        rw [u64_in (c : Int) (by omega) (by omega)]
        generalize r % s = d at hrs ⊢
        rw [u64_in _ (by omega) (by omega)]; omega
      have inv : (u + (2305843009213693951 - r / s * v % PP)) % PP * a % PP = r % s % PP := by
        have k1 : ((u + (2305843009213693951 - r / s * v % PP)) % PP + r / s * v) % PP = u % PP := by
          rw [PP_is] at ht ⊢
          omega
        have k2 : ((u + (2305843009213693951 - r / s * v % PP)) % PP + r / s * v) * a % PP = r % PP := by rw [Nat.mul_mod, k1, ← Nat.mul_mod]; exact h1
        have k3 : r / s * v * a % PP = r / s * s % PP := by rw [Nat.mul_assoc, Nat.mul_mod, h2, ← Nat.mul_mod]
        generalize (u + (2305843009213693951 - r / s * v % PP)) % PP = w at k2 ⊢
        rw [Nat.add_mul] at k2
        generalize r / s * v * a = b at k2 k3
        generalize r / s * s = c at hrs k3
        generalize w * a = d at k2 ⊢
        rw [PP_is] at k2 k3 ⊢
        omega
      obtain ⟨x, hx, hx1, hx2⟩ := ih (r % s) hlt s v ((u + (2305843009213693951 - r / s * v % PP)) % PP) a k (by omega) (by omega) (by omega) hv (Nat.mod_lt _ (by decide)) ha h2 inv
      refine ⟨x, ?_, hx1, ?_⟩
      · simp only [field_Inverse.l0]
        rw [if_pos (by omega), if_neg (by omega), e1, Mul_f (by omega) (by omega), Option.bind_some, e2, Add_f (by omega) (by omega), Option.bind_some, e3]
        exact hx
      · rw [hx2, Nat.gcd_comm r s, Nat.gcd_rec s r, Nat.gcd_comm]
theorem Inv_f {a k : Nat} (ha : a < 18446744073709551616) (hk : 2305843009213693951 < k) :
    (a % PP = 0 ∧ field_Inverse.f k (a : Int) = some (0, false)) ∨ (a % PP ≠ 0 ∧ ∃ x : Nat, field_Inverse.f k (a : Int) = some ((x : Int), true) ∧ x < 2305843009213693951 ∧ x * a % PP = 1) := by
  have hlt : a % PP < 2305843009213693951 := Nat.mod_lt _ (by decide)
  unfold field_Inverse.f
  rw [Of_f ha, Option.bind_some, Option.bind_some]
  by_cases h : a % PP = 0
  · exact .inl ⟨h, by rw [if_pos (by omega)]⟩
  · refine .inr ⟨h, ?_⟩
    obtain ⟨x, h1, h2, h3⟩ := inv_l0 (a % PP) 2305843009213693951 0 1 (a % PP) k (by omega) hlt (by decide) (by decide) (by decide) hlt (by rw [Nat.zero_mul]; decide) (by rw [Nat.one_mul])
    refine ⟨x, by rw [if_neg (by omega)]; exact h1, h2, ?_⟩
    rw [Nat.mul_mod_mod, Nat.gcd_comm, cop_prime (by omega) hlt] at h3
    exact h3
theorem lives_at {k : Nat} (h : 100 ≤ k) : taluslaw03_lives.f k = some true := by
  have h1 : field_Inverse.f k 2 = some (1152921504606846976, true) := at_rounds (field_Inverse.mono 2) (show 8 ≤ k by omega) (by decide +kernel)
  have h2 : field_MulDiv.f k 9223372036854775808 6 3 = some (0, false) := at_rounds (field_MulDiv.mono _ _ _) (show 16 ≤ k by omega) (by decide +kernel)
  have h3 : field_MulDiv.f k 9223372036854775808 6 8 = some (6917529027641081856, true) := at_rounds (field_MulDiv.mono _ _ _) (show 16 ≤ k by omega) (by decide +kernel)
  have h4 : field_Mul.f 1152921504606846976 2 = some 1 := by decide +kernel
  have h5 : field_Hash.f 1 5 2305843009213693950 = some 4 := by decide +kernel
  unfold taluslaw03_lives.f
  rw [h1, Option.bind_some, h2, Option.bind_some, h3, Option.bind_some, h4, Option.bind_some, if_pos rfl, if_pos rfl, if_pos rfl, h5, Option.bind_some, if_pos rfl, if_neg (by decide), if_pos rfl]
  rfl
theorem Hash_f {a b x : Nat} (ha : a < 18446744073709551616) (hb : b < 18446744073709551616) (hx : x < 18446744073709551616) : field_Hash.f (a : Int) (b : Int) (x : Int) = some (((a * x + b) % PP : Nat) : Int) := by
  have hP : ∀ y, y % PP < 18446744073709551616 := fun y => Nat.lt_trans (Nat.mod_lt y (by decide : 0 < PP)) (by decide)
  unfold field_Hash.f
  rw [Mul_f ha hx, Option.bind_some, Add_f (hP _) hb, Option.bind_some, Nat.mod_add_mod]
theorem loop (l : List Int) (hl : ∀ x ∈ l, (Lit.int .u64 x).wf = true) (hlen : l.length ≤ 1000) {a b i : Nat} (ha : a < 2305843009213693951) (hb : b < 2305843009213693951) (hi : i < 2305843009213693951) (hai : i * a % PP = 1) :
    ∀ (d j k : Nat), j + d = l.length → 200 + d ≤ k → taluslaw03_FieldHashes.l0 k (i : Int) l (l.length : Int) (j : Int) (a : Int) (b : Int) = some true
  | 0, j, k, hj, hk => by
    obtain ⟨k, rfl⟩ : ∃ m, k = m + 1 := ⟨k - 1, by omega⟩
    simp only [taluslaw03_FieldHashes.l0]
    rw [if_neg (by omega), lives_at (by omega), Option.bind_some]
  | d + 1, j, k, hj, hk => by
    obtain ⟨k, rfl⟩ : ∃ m, k = m + 1 := ⟨k - 1, by omega⟩
    have hP : ∀ y, y % PP < 2305843009213693951 := fun y => Nat.mod_lt y (by decide : 0 < PP)
    have hin : rd l (j : Int) ∈ l := by
      rw [rd_nat, List.getD_eq_getElem?_getD, List.getElem?_eq_getElem (by omega)]
      exact List.getElem_mem _
    obtain ⟨x0, x1⟩ := wf_u64 (hl _ hin)
    obtain ⟨x, hx⟩ := Int.eq_ofNat_of_zero_le x0
    have h1 := hP (a * x + b)
    have ih := loop l hl hlen ha hb hi hai d (j + 1) k (by omega) (by omega)
    simp only [taluslaw03_FieldHashes.l0]
    rw [if_pos (by omega), if_pos (by omega), if_pos (by omega), hx, Hash_f (by omega) (by omega) (by omega), Option.bind_some]
    unfold field_Good.f
    rw [Option.bind_some, if_pos (decide_eq_true (by omega)), u64_in (2305843009213693951 - (b : Int)) (by omega) (by omega), show 2305843009213693951 - (b : Int) = ((2305843009213693951 - b : Nat) : Int) from by omega, Add_f (by omega) (by omega), Option.bind_some, Mul_f (by have := hP ((a * x + b) % PP + (2305843009213693951 - b)); omega) (by omega), Option.bind_some, Of_f (by omega), Option.bind_some, if_pos ?_, w64 _ (by omega) (by omega)]
    · exact ih
    · congr 1
      have e : ((a * x + b) % PP + (2305843009213693951 - b)) % PP = a * x % PP := by
        generalize a * x = q
        rw [PP_is]; omega
      rw [e, Nat.mod_mul_mod, Nat.mul_assoc, Nat.mul_comm a, Nat.mul_assoc, Nat.mul_mod, hai, Nat.mul_one, Nat.mod_mod]
end FieldHashesL
theorem FieldHashes : taluslaw03_FieldHashes.Pure := by
  intro a b l ha hb _ _ hl
  obtain ⟨h0, h1⟩ := wf_u64 ha
  obtain ⟨g0, g1⟩ := wf_u64 hb
  obtain ⟨a, rfl⟩ := Int.eq_ofNat_of_zero_le h0
  obtain ⟨b, rfl⟩ := Int.eq_ofNat_of_zero_le g0
  have hP : ∀ y, y % PP < 2305843009213693951 := fun y => Nat.mod_lt y (by decide : 0 < PP)
  have hPa := hP a
  have hPb := hP b
  obtain ⟨K, hK⟩ : ∃ K : Nat, 2305843009213696951 < K := ⟨_, Nat.lt_succ_self _⟩
  refine ⟨K + 1, ?_⟩
  unfold taluslaw03_FieldHashes.f
  rw [FieldHashesL.Of_f (by omega), Option.bind_some, FieldHashesL.Of_f (by omega), Option.bind_some]
  have yes : ∀ (u v w : Int), taluslaw03_FieldHashes.j0 (K + 1) l u true v w = some true := by
    intro u v w
    simp only [taluslaw03_FieldHashes.j0, if_true]
    rw [FieldHashesL.lives_at (by omega), Option.bind_some]
  rcases FieldHashesL.Inv_f (a := a % PP) (k := K + 1) (by omega) (by omega) with ⟨e, hi⟩ | ⟨e, x, hi, hx, hm⟩
  · rw [hi, Option.bind_some, if_neg (by decide)]; exact yes _ _ _
  · rw [hi, Option.bind_some, if_pos rfl]
    by_cases hlen : l.length ≤ 1000
    · rw [show decide ((l.length : Int) > 1000) = false from decide_eq_false (by omega)]
      simp only [taluslaw03_FieldHashes.j0, Bool.false_eq_true, if_false]
      exact FieldHashesL.loop l hl hlen hPa hPb hx hm l.length 0 K (by omega) (by omega)
    · rw [show decide ((l.length : Int) > 1000) = true from decide_eq_true (by omega)]; exact yes _ _ _
end Go.Proofs.Ytkmhknfdoofieaa.Pure
