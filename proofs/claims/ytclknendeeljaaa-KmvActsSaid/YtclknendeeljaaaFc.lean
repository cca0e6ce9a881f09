/- A framework of our own for walks over the model: Fc. -/
import Derived.Test.YtclknendeeljaaaFa
namespace Go.Proofs.Ytclknendeeljaaa.K
/-! ### 2^61 - 1 is a prime -/


/-- A power modulo p, by squares. -/
def pm (p : Nat) : Nat → Nat → Nat → Nat
  | 0, _, _ => 1 % p
  | k + 1, b, e => if e = 0 then 1 % p else if e % 2 = 1 then b * pm p k (b * b % p) (e / 2) % p else pm p k (b * b % p) (e / 2)
theorem pm_is (p : Nat) : ∀ (k b e : Nat), e < 2 ^ k → pm p k b e = b ^ e % p
  | 0, b, e, h => by
    have : e = 0 := by simpa using h
    subst this; rfl
  | k + 1, b, e, h => by
    unfold pm
    by_cases h0 : e = 0
    · rw [if_pos h0, h0, Nat.pow_zero]
    · rw [if_neg h0]
      have he : e / 2 < 2 ^ k := by rw [Nat.div_lt_iff_lt_mul (by decide), ← Nat.pow_succ]; exact h
      have ih := pm_is p k (b * b % p) (e / 2) he
      have hsq : (b * b % p) ^ (e / 2) % p = b ^ (2 * (e / 2)) % p := by
        rw [← Nat.pow_mod, Nat.pow_mul, Nat.pow_two]
      by_cases h1 : e % 2 = 1
      · rw [if_pos h1, ih, hsq, Nat.mul_mod_mod, Nat.mul_comm, ← Nat.pow_succ]
        congr 2; omega
      · rw [if_neg h1, ih, hsq]
        congr 2; omega

/-- So many unlike values want so many places. -/
theorem places : ∀ (n m : Nat) (f : Nat → Nat), (∀ i, i < m → f i < n) → (∀ i j, i < m → j < m → f i = f j → i = j) → m ≤ n
  | 0, m, f, h, _ => by
    rcases Nat.eq_zero_or_pos m with h0 | h0
    · omega
    · exact absurd (h 0 h0) (by omega)
  | n + 1, 0, f, _, _ => by omega
  | n + 1, m + 1, f, h, hi => by
    by_cases hex : ∃ i, i < m + 1 ∧ f i = n
    · obtain ⟨i, him, hin⟩ := hex
      have := places n m (fun j => if j = i then f m else f j) (fun j hj => by
        by_cases hji : j = i
        · simp only [hji, if_true]
          have h1 := h m (by omega)
          have h2 : f m ≠ n := fun e => by
            have := hi m i (by omega) him (by rw [e, hin])
            omega
          omega
        · simp only [hji, if_false]
          have h1 := h j (by omega)
          have h2 : f j ≠ n := fun e => hji (hi j i (by omega) him (by rw [e, hin]))
          omega) (fun j k hj hk e => by
        by_cases hji : j = i
        · by_cases hki : k = i
          · omega
          · simp only [hji, hki, if_true, if_false] at e
            have := hi m k (by omega) (by omega) e
            omega
        · by_cases hki : k = i
          · simp only [hji, hki, if_true, if_false] at e
            have := hi j m (by omega) (by omega) e
            omega
          · simp only [hji, hki, if_false] at e
            exact hi j k (by omega) (by omega) e)
      omega
    · have := places n (m + 1) f (fun j hj => by
        have h1 := h j hj
        have h2 : f j ≠ n := fun e => hex ⟨j, hj, e⟩
        omega) hi
      omega

/-- Powers that are 1: so is that of the greatest common divisor. -/
theorem pow_gcd (d g : Nat) (a b : Nat) (ha : g ^ a % d = 1 % d) (hb : g ^ b % d = 1 % d) : g ^ (Nat.gcd a b) % d = 1 % d := by
  induction a, b using Nat.gcd.induction with
  | H0 b => rw [Nat.gcd_zero_left]; exact hb
  | H1 a b h ih =>
    rw [Nat.gcd_rec]
    refine ih ?_ ha
    have e : g ^ b = (g ^ a) ^ (b / a) * g ^ (b % a) := by rw [← Nat.pow_mul, ← Nat.pow_add, Nat.div_add_mod]
    rw [e, Nat.mul_mod, Nat.pow_mod, ha, ← Nat.pow_mod, Nat.one_pow, ← Nat.mul_mod, Nat.one_mul] at hb
    exact hb

/-- The factors of 2^61 - 2. -/
def qs : List Nat := [2, 3, 5, 7, 11, 13, 31, 41, 61, 151, 331, 1321]
theorem qs_prime : ∀ q ∈ qs, 0 < q ∧ ∀ d, d ∣ q → d = 1 ∨ d = q := by
  have key : (qs.all fun q => decide (0 < q) && (List.range (q + 1)).all fun d => !(decide (0 < d) && (q % d == 0)) || d == 1 || d == q) = true := by decide +kernel
  intro q hq
  have h1 := List.all_eq_true.1 key q hq
  rw [Bool.and_eq_true] at h1
  have h0 : 0 < q := of_decide_eq_true h1.1
  refine ⟨h0, fun d hd => ?_⟩
  have hle := Nat.le_of_dvd h0 hd
  have hdp : 0 < d := Nat.pos_of_dvd_of_pos hd h0
  have h2 := List.all_eq_true.1 h1.2 d (List.mem_range.2 (by omega))
  have hm : q % d = 0 := Nat.mod_eq_zero_of_dvd hd
  simp [hdp, hm] at h2
  exact h2
theorem cop_or {c q : Nat} (hq : q ∈ qs) : Nat.Coprime c q ∨ q ∣ c := by
  rcases (qs_prime q hq).2 (Nat.gcd c q) (Nat.gcd_dvd_right c q) with h | h
  · exact .inl h
  · exact .inr (h ▸ Nat.gcd_dvd_left c q)
/-- A divisor that is not 1 has one of the factors. -/
theorem factor {c : Nat} (hc : c ∣ 2305843009213693950) (h1 : c ≠ 1) : ∃ q ∈ qs, q ∣ c := by
  refine Classical.byContradiction fun hno => h1 ?_
  have cop : ∀ q ∈ qs, Nat.Coprime c q := fun q hq => (cop_or hq).resolve_right fun hd => hno ⟨q, hq, hd⟩
  have c2 := cop 2 (by decide)
  have c3 := cop 3 (by decide)
  have c5 := cop 5 (by decide)
  have c7 := cop 7 (by decide)
  have c11 := cop 11 (by decide)
  have c13 := cop 13 (by decide)
  have c31 := cop 31 (by decide)
  have c41 := cop 41 (by decide)
  have c61 := cop 61 (by decide)
  have c151 := cop 151 (by decide)
  have c331 := cop 331 (by decide)
  have c1321 := cop 1321 (by decide)
  have all : Nat.Coprime c (2 * (3 * (3 * (5 * (5 * (7 * (11 * (13 * (31 * (41 * (61 * (151 * (331 * 1321))))))))))))) :=
    c2.mul_right (c3.mul_right (c3.mul_right (c5.mul_right (c5.mul_right (c7.mul_right (c11.mul_right (c13.mul_right (c31.mul_right (c41.mul_right (c61.mul_right (c151.mul_right (c331.mul_right c1321))))))))))))
  have e : (2 * (3 * (3 * (5 * (5 * (7 * (11 * (13 * (31 * (41 * (61 * (151 * (331 * 1321))))))))))))) = 2305843009213693950 := by decide
  rw [e] at all
  exact Nat.Coprime.eq_one_of_dvd all hc

/-- 2^61 - 2, under a name: it stands as a power. -/
def MM : Nat := 2305843009213693950
theorem MM_is : MM = 2305843009213693950 := rfl
theorem g_one : 37 ^ MM % 2305843009213693951 = 1 := by
  rw [← pm_is 2305843009213693951 64 37 _ (by decide)]; decide +kernel
theorem g_not : ∀ q ∈ qs, Nat.gcd (pm 2305843009213693951 64 37 (MM / q) - 1) 2305843009213693951 = 1 ∧ 0 < pm 2305843009213693951 64 37 (MM / q) := by decide +kernel

/-- Modulo a divisor that is not 1, no lower power of 37 is 1. -/
theorem g_order {d : Nat} (hd : d ∣ 2305843009213693951) (h1 : d ≠ 1) {t : Nat} (ht : 0 < t) (htM : t < MM) : 37 ^ t % d ≠ 1 % d := by
  intro hone
  have hMM := MM_is
  have hM : 37 ^ MM % d = 1 % d := by
    have := congrArg (· % d) g_one
    simp only [Nat.mod_mod_of_dvd _ hd] at this
    exact this
  have hg := pow_gcd d 37 t _ hone hM
  have hh : Nat.gcd t MM ∣ MM := Nat.gcd_dvd_right _ _
  have hlt : Nat.gcd t MM ≤ t := Nat.le_of_dvd ht (Nat.gcd_dvd_left _ _)
  generalize Nat.gcd t MM = h at hg hh hlt
  obtain ⟨c, hc⟩ := hh
  have hc1 : c ≠ 1 := by rintro rfl; omega
  obtain ⟨q, hq, ⟨e, he⟩⟩ := factor (c := c) ⟨h, by rw [Nat.mul_comm, ← MM_is]; exact hc⟩ hc1
  have hqp := (qs_prime q hq).1
  have hdiv : MM / q = h * e := by
    rw [hc, he]
    rw [show h * (q * e) = h * e * q from by rw [Nat.mul_comm q e, Nat.mul_assoc]]
    exact Nat.mul_div_cancel _ hqp
  have hpow : 37 ^ (MM / q) % d = 1 % d := by rw [hdiv, Nat.pow_mul, Nat.pow_mod, hg, ← Nat.pow_mod, Nat.one_pow]
  have hlt2 : MM / q < 2 ^ 64 := Nat.lt_of_le_of_lt (Nat.div_le_self _ _) (by decide)
  obtain ⟨hcop, hpos⟩ := g_not q hq
  rw [pm_is _ 64 37 _ hlt2] at hcop hpos
  have hdd : d ∣ 37 ^ (MM / q) % 2305843009213693951 - 1 := by
    have e1 : 37 ^ (MM / q) % 2305843009213693951 % d = 1 % d := by rw [Nat.mod_mod_of_dvd _ hd]; exact hpow
    generalize 37 ^ (MM / q) % 2305843009213693951 = v at hpos e1 ⊢
    exact Nat.dvd_of_mod_eq_zero (Nat.sub_mod_eq_zero_of_mod_eq e1)
  have := Nat.dvd_gcd hdd hd
  rw [hcop] at this
  exact h1 (Nat.dvd_one.1 this)

/-- The powers of 37 are unlike each other. -/
theorem g_unlike {d : Nat} (hd : d ∣ 2305843009213693951) (h1 : d ≠ 1) : ∀ i j, i < j → j < MM → 37 ^ i % d ≠ 37 ^ j % d := by
  intro i j hij hj e
  have hMM := MM_is
  have hM : 37 ^ MM % d = 1 % d := by
    have := congrArg (· % d) g_one
    simp only [Nat.mod_mod_of_dvd _ hd] at this
    exact this
  refine g_order hd h1 (t := j - i) (by omega) (by omega) ?_
  -- multiply by the power that is behind i
  have e2 : 37 ^ i * 37 ^ (MM - i) % d = 37 ^ j * 37 ^ (MM - i) % d := by rw [Nat.mul_mod, e, ← Nat.mul_mod]
  rw [← Nat.pow_add, ← Nat.pow_add, show i + (MM - i) = MM from by omega, hM, show j + (MM - i) = (j - i) + MM from by omega, Nat.pow_add, Nat.mul_mod, hM, ← Nat.mul_mod, Nat.mul_one] at e2
  exact e2.symm
theorem g_pos {d : Nat} (hd : d ∣ 2305843009213693951) (h1 : d ≠ 1) (i : Nat) : 0 < 37 ^ i % d := by
  rcases Nat.eq_zero_or_pos (37 ^ i % d) with h | h
  · exfalso
    have hM : 37 ^ MM % d = 1 % d := by
      have := congrArg (· % d) g_one
      simp only [Nat.mod_mod_of_dvd _ hd] at this
      exact this
    have hdp : 0 < d := Nat.pos_of_dvd_of_pos hd (by decide)
    have e : 37 ^ (i * MM) % d = 1 % d := by rw [Nat.mul_comm, Nat.pow_mul, Nat.pow_mod, hM, ← Nat.pow_mod, Nat.one_pow]
    rw [Nat.pow_mul, Nat.pow_mod, h, Nat.zero_pow (by rw [MM_is]; decide), Nat.zero_mod, Nat.mod_eq_of_lt (by omega : 1 < d)] at e
    omega
  · exact h

/-- 2^61 - 1 has no other divisors. -/
theorem prime {d : Nat} (hd : d ∣ 2305843009213693951) (h1 : d ≠ 1) : d = 2305843009213693951 := by
  have hMM := MM_is
  have hdp : 0 < d := Nat.pos_of_dvd_of_pos hd (by decide)
  have hle : d ≤ 2305843009213693951 := Nat.le_of_dvd (by decide) hd
  have := places (d - 1) MM (fun i => 37 ^ i % d - 1) (fun i _ => by
    have h2 := g_pos hd h1 i
    have h3 := Nat.mod_lt (37 ^ i) hdp
    show 37 ^ i % d - 1 < d - 1
    omega) (fun i j hi hj e => by
    have h2 := g_pos hd h1 i
    have h3 := g_pos hd h1 j
    have e' : 37 ^ i % d = 37 ^ j % d := by
      have : 37 ^ i % d - 1 = 37 ^ j % d - 1 := e
      omega
    rcases Nat.lt_trichotomy i j with h | h | h
    · exact absurd e' (g_unlike hd h1 i j h hj)
    · exact h
    · exact absurd e'.symm (g_unlike hd h1 j i h hi))
  omega
theorem cop_prime {a : Nat} (h0 : 0 < a) (h : a < 2305843009213693951) : Nat.gcd a 2305843009213693951 = 1 := by
  refine Classical.byContradiction fun hne => ?_
  have h1 := prime (Nat.gcd_dvd_right a 2305843009213693951) hne
  have h2 := Nat.le_of_dvd h0 (Nat.gcd_dvd_left a 2305843009213693951)
  omega

theorem mul_inj {a x y : Nat} (h0 : 0 < a) (h : a < 2305843009213693951) (e : a * x % 2305843009213693951 = a * y % 2305843009213693951) : x % 2305843009213693951 = y % 2305843009213693951 := by
  have key : ∀ {x y : Nat}, y ≤ x → a * x % 2305843009213693951 = a * y % 2305843009213693951 → x % 2305843009213693951 = y % 2305843009213693951 := by
    intro x y hle e
    have hd : 2305843009213693951 ∣ a * (x - y) := by
      rw [Nat.mul_sub]
      have := Nat.mul_le_mul_left a hle
      generalize a * x = p at e this
      generalize a * y = q at e this
      omega
    have hc : Nat.Coprime 2305843009213693951 a := by
      show Nat.gcd _ _ = 1
      rw [Nat.gcd_comm]; exact cop_prime h0 h
    have := Nat.Coprime.dvd_of_dvd_mul_left hc hd
    omega
  rcases Nat.le_total y x with c | c
  · exact key c e
  · exact (key c e.symm).symm
/-- A number's hash. -/
def hashN (s : Nat × Nat) (x : Nat) : Nat := (s.1 * x % pM + s.2 % pM) % pM
theorem hashN_lt (s : Nat × Nat) (x : Nat) : hashN s x < 2305843009213693951 := Nat.mod_lt _ (by decide)
theorem hashN_inj {s : Nat × Nat} {x y : Nat} (h0 : 0 < s.1) (h : s.1 < pM) : hashN s x = hashN s y ↔ x % pM = y % pM := by
  constructor
  · intro e
    refine mul_inj h0 h ?_
    unfold hashN pM at e
    have := Nat.mod_lt (s.1 * x) (show 0 < 2305843009213693951 by decide)
    have := Nat.mod_lt (s.1 * y) (show 0 < 2305843009213693951 by decide)
    have := Nat.mod_lt s.2 (show 0 < 2305843009213693951 by decide)
    omega
  · intro e
    unfold hashN
    rw [Nat.mul_mod, e, ← Nat.mul_mod]
end Go.Proofs.Ytclknendeeljaaa.K
