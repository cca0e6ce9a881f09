/- A framework of our own for walks over the model: Ma. -/
import Derived.Test.YtdehjgpdcdjhjaaDoorCa
namespace Go.Proofs.YtdehjgpdcdjhjaaDoor.K
/-! ### The t least of a set of numbers -/
abbrev Rise (l : List Nat) : Prop := l.Pairwise (· < ·)
def lowN (l : List Nat) (h : Nat) : Nat := l.countP (· < h)
def putK (t : Nat) (l : List Nat) (h : Nat) : List Nat :=
  if h ∈ l ∨ t ≤ lowN l h then l else (l.take (lowN l h) ++ h :: l.drop (lowN l h)).take t
theorem lowN_le (l : List Nat) (h : Nat) : lowN l h ≤ l.length := List.countP_le_length
/-- In a rising list the numbers below h stand ahead. -/
theorem low_split : ∀ {l : List Nat} {h : Nat}, Rise l → (∀ x ∈ l.take (lowN l h), x < h) ∧ (∀ x ∈ l.drop (lowN l h), h ≤ x)
  | [], h, _ => by simp
  | a :: l, h, hr => by
    obtain ⟨h1, h2⟩ := List.pairwise_cons.1 hr
    obtain ⟨i1, i2⟩ := low_split (h := h) h2
    by_cases c : a < h
    · have e : lowN (a :: l) h = lowN l h + 1 := by unfold lowN; rw [List.countP_cons_of_pos (by simpa using c)]
      rw [e]
      refine ⟨fun x hx => ?_, fun x hx => i2 x (by simpa using hx)⟩
      rw [List.take_succ_cons, List.mem_cons] at hx
      rcases hx with rfl | hx
      · exact c
      · exact i1 x hx
    · have e : lowN (a :: l) h = 0 := by
        unfold lowN
        rw [List.countP_eq_zero]
        intro x hx
        rcases List.mem_cons.1 hx with rfl | hx
        · simpa using c
        · have := h1 x hx; simp; omega
      rw [e]
      refine ⟨by simp, fun x hx => ?_⟩
      rw [List.drop_zero] at hx
      rcases List.mem_cons.1 hx with rfl | hx
      · omega
      · have := h1 x hx; omega
theorem low_at {l : List Nat} {h j : Nat} (hr : Rise l) (hj : j < l.length) : l.getD j 0 < h ↔ j < lowN l h := by
  obtain ⟨h1, h2⟩ := low_split (h := h) hr
  have hg : l.getD j 0 = l[j] := by simp [List.getD, hj]
  rw [hg]
  constructor
  · intro hlt
    rcases Nat.lt_or_ge j (lowN l h) with c | c
    · exact c
    · have : l[j] ∈ l.drop (lowN l h) := by
        rw [List.mem_iff_getElem]
        exact ⟨j - lowN l h, by simp; omega, by simp; congr 1; omega⟩
      have := h2 _ this; omega
  · intro c
    have : l[j] ∈ l.take (lowN l h) := by
      rw [List.mem_iff_getElem]
      exact ⟨j, by simp; omega, by simp⟩
    exact h1 _ this
/-- The place is where a search ends. -/
theorem low_is {l : List Nat} {h i : Nat} (hr : Rise l) (hi : i ≤ l.length) (h1 : 0 < i → l.getD (i - 1) 0 < h) (h2 : i < l.length → ¬ l.getD i 0 < h) : i = lowN l h := by
  have a : lowN l h ≤ i := by
    rcases Nat.lt_or_ge i l.length with c | c
    · have := (not_congr (low_at (h := h) hr c)).1 (h2 c); omega
    · have := lowN_le l h; omega
  have b : i ≤ lowN l h := by
    rcases Nat.eq_zero_or_pos i with c | c
    · omega
    · have := (low_at (h := h) hr (by omega)).1 (h1 c); omega
  omega
theorem low_mem {l : List Nat} {h : Nat} (hr : Rise l) : h ∈ l ↔ lowN l h < l.length ∧ l.getD (lowN l h) 0 = h := by
  constructor
  · intro hm
    obtain ⟨j, hj, e⟩ := List.mem_iff_getElem.1 hm
    have hg : l.getD j 0 = h := by simp [List.getD, hj, e]
    have h1 : ¬ j < lowN l h := (not_congr (low_at (h := h) hr hj)).1 (by omega)
    have hl : lowN l h < l.length := by omega
    refine ⟨hl, ?_⟩
    have h2 : ¬ l.getD (lowN l h) 0 < h := (not_congr (low_at (h := h) hr hl)).2 (by omega)
    rcases Nat.lt_or_ge (lowN l h) j with c | c
    · have := List.pairwise_iff_getElem.1 hr (lowN l h) j hl hj c
      have e2 : l.getD (lowN l h) 0 = l[lowN l h] := by simp [List.getD, hl]
      omega
    · rw [show lowN l h = j by omega]; exact hg
  · rintro ⟨h1, h2⟩
    rw [← h2]
    simp [List.getD, h1]
theorem rise_ins {l : List Nat} {h : Nat} (hr : Rise l) (hn : h ∉ l) : Rise (l.take (lowN l h) ++ h :: l.drop (lowN l h)) := by
  obtain ⟨h1, h2⟩ := low_split (h := h) hr
  refine List.pairwise_append.2 ⟨hr.sublist (List.take_sublist _ _), List.pairwise_cons.2 ⟨fun x hx => ?_, hr.sublist (List.drop_sublist _ _)⟩, fun x hx y hy => ?_⟩
  · have := h2 x hx
    rcases Nat.lt_or_ge h x with c | c
    · exact c
    · exact absurd (List.mem_of_mem_drop (show h ∈ _ by rw [show h = x by omega]; exact hx)) hn
  · have := h1 x hx
    rcases List.mem_cons.1 hy with rfl | hy
    · exact this
    · have := h2 y hy; omega
/-- l is what is kept of the set S: its t least. -/
structure Kept6 (t : Nat) (S : Nat → Prop) (l : List Nat) : Prop where
  rise : Rise l
  len : l.length ≤ t
  sub : ∀ x ∈ l, S x
  all : ∀ s, S s → s ∈ l ∨ (l.length = t ∧ ∀ x ∈ l, x < s)
theorem Kept6.nil (t : Nat) : Kept6 t (fun _ => False) [] := ⟨List.Pairwise.nil, Nat.zero_le _, by simp, fun _ h => h.elim⟩
theorem Kept6.congr {t : Nat} {S S' : Nat → Prop} {l : List Nat} (h : Kept6 t S l) (e : ∀ x, S x ↔ S' x) : Kept6 t S' l :=
  ⟨h.rise, h.len, fun x hx => (e x).1 (h.sub x hx), fun s hs => h.all s ((e s).2 hs)⟩
theorem Kept6.put {t : Nat} {S : Nat → Prop} {l : List Nat} (k : Kept6 t S l) (h : Nat) : Kept6 t (fun x => S x ∨ x = h) (putK t l h) := by
  have hr := k.rise
  unfold putK
  split
  · rename_i c
    refine ⟨hr, k.len, fun x hx => .inl (k.sub x hx), fun s hs => ?_⟩
    rcases hs with hs | rfl
    · exact k.all s hs
    · rcases c with c | c
      · exact .inl c
      · have h1 := lowN_le l s
        have h2 := k.len
        refine .inr ⟨by omega, fun x hx => ?_⟩
        have h3 := (low_split (h := s) hr).1
        rw [show lowN l s = l.length by omega, List.take_length] at h3
        exact h3 x hx
  · rename_i c
    have hn : h ∉ l := fun hm => c (.inl hm)
    have hlt : lowN l h < t := Nat.lt_of_not_le fun hm => c (.inr hm)
    have hri := rise_ins hr hn
    have hle := lowN_le l h
    have hlen : (l.take (lowN l h) ++ h :: l.drop (lowN l h)).length = l.length + 1 := by simp; omega
    have hmem : ∀ x, x ∈ l.take (lowN l h) ++ h :: l.drop (lowN l h) ↔ x ∈ l ∨ x = h := fun x => by
      rw [List.mem_append, List.mem_cons]
      have : x ∈ l ↔ x ∈ l.take (lowN l h) ∨ x ∈ l.drop (lowN l h) := by rw [← List.mem_append, List.take_append_drop]
      rw [this]
      constructor
      · rintro (a | a | a)
        · exact .inl (.inl a)
        · exact .inr a
        · exact .inl (.inr a)
      · rintro ((a | a) | a)
        · exact .inl a
        · exact .inr (.inr a)
        · exact .inr (.inl a)
    generalize hL : l.take (lowN l h) ++ h :: l.drop (lowN l h) = L at hri hlen hmem
    have hsplit : ∀ x ∈ L.drop t, ∀ y ∈ L.take t, y < x := by
      have := hri
      rw [← List.take_append_drop t L] at this
      exact fun x hx y hy => (List.pairwise_append.1 this).2.2 y hy x hx
    have full : ∀ s ∈ L, s ∈ L.take t ∨ ((L.take t).length = t ∧ ∀ x ∈ L.take t, x < s) := fun s hs => by
      rw [← List.take_append_drop t L] at hs
      rcases List.mem_append.1 hs with a | a
      · exact .inl a
      · refine .inr ⟨?_, hsplit s a⟩
        rw [List.length_take]
        have : 0 < (L.drop t).length := List.length_pos_of_mem a
        rw [List.length_drop] at this
        omega
    refine ⟨hri.sublist (List.take_sublist _ _), by rw [List.length_take]; omega, fun x hx => ?_, fun s hs => ?_⟩
    · rcases (hmem x).1 (List.mem_of_mem_take hx) with a | a
      · exact .inl (k.sub x a)
      · exact .inr a
    · rcases hs with hs | rfl
      · rcases k.all s hs with a | ⟨a, b⟩
        · exact full s ((hmem s).2 (.inl a))
        · -- s was left out: l was full, and below s; the new one is below l's last, or stands among l
          refine .inr ⟨by rw [List.length_take]; omega, fun x hx => ?_⟩
          rcases (hmem x).1 (List.mem_of_mem_take hx) with c2 | rfl
          · exact b x c2
          · -- h < t-th place: some of l is above h
            have hll : lowN l x < l.length := by omega
            have := (low_split (h := x) hr).2 (l[lowN l x]) (by rw [List.mem_iff_getElem]; exact ⟨0, by simp; omega, by simp⟩)
            have := b _ (List.getElem_mem hll)
            omega
      · exact full s ((hmem s).2 (.inr rfl))
theorem nodup_sub_len : ∀ {a b : List Nat}, a.Nodup → (∀ x ∈ a, x ∈ b) → a.length ≤ b.length
  | [], _, _, _ => Nat.zero_le _
  | x :: a, b, hn, hs => by
    obtain ⟨h1, h2⟩ := List.nodup_cons.1 hn
    have hx := hs x (by simp)
    have := nodup_sub_len (b := b.erase x) h2 fun y hy => (List.mem_erase_of_ne (fun e => h1 (by rw [← e]; exact hy))).2 (hs y (by simp [hy]))
    rw [List.length_erase_of_mem hx] at this
    have := List.length_pos_of_mem hx
    simp only [List.length_cons]; omega
theorem Rise.nodup {l : List Nat} (h : Rise l) : l.Nodup := h.imp fun hlt => Nat.ne_of_lt hlt
theorem rise_ext : ∀ {a b : List Nat}, Rise a → Rise b → (∀ x, x ∈ a ↔ x ∈ b) → a = b
  | [], [], _, _, _ => rfl
  | [], y :: b, _, _, h => absurd ((h y).2 (by simp)) (by simp)
  | x :: a, [], _, _, h => absurd ((h x).1 (by simp)) (by simp)
  | x :: a, y :: b, ha, hb, h => by
    obtain ⟨a1, a2⟩ := List.pairwise_cons.1 ha
    obtain ⟨b1, b2⟩ := List.pairwise_cons.1 hb
    have e : x = y := by
      have h1 := (h x).1 (by simp)
      have h2 := (h y).2 (by simp)
      rcases List.mem_cons.1 h1 with h1 | h1
      · exact h1
      · rcases List.mem_cons.1 h2 with h2 | h2
        · exact h2.symm
        · have := b1 x h1; have := a1 y h2; omega
    subst e
    rw [rise_ext a2 b2 fun z => ?_]
    constructor
    · intro hz
      rcases List.mem_cons.1 ((h z).1 (by simp [hz])) with rfl | hz2
      · exact absurd (a1 z hz) (Nat.lt_irrefl _)
      · exact hz2
    · intro hz
      rcases List.mem_cons.1 ((h z).2 (by simp [hz])) with rfl | hz2
      · exact absurd (b1 z hz) (Nat.lt_irrefl _)
      · exact hz2
theorem Kept6.le {t : Nat} {S : Nat → Prop} {l l' : List Nat} (k : Kept6 t S l) (k' : Kept6 t S l') : ∀ x ∈ l, x ∈ l' := by
  intro x hx
  rcases k'.all x (k.sub x hx) with a | ⟨a, b⟩
  · exact a
  · -- l' is full and below x: all of l' lies in l, and x besides
    exfalso
    have : ∀ y ∈ x :: l', y ∈ l := fun y hy => by
      rcases List.mem_cons.1 hy with rfl | hy
      · exact hx
      · rcases k.all y (k'.sub y hy) with c | ⟨c, d⟩
        · exact c
        · have := d x hx; have := b y hy; omega
    have hn : (x :: l').Nodup := List.nodup_cons.2 ⟨fun hm => Nat.lt_irrefl _ (b x hm), k'.rise.nodup⟩
    have := nodup_sub_len hn this
    have := k.len
    simp only [List.length_cons] at *
    omega
theorem Kept6.uniq {t : Nat} {S S' : Nat → Prop} {l l' : List Nat} (k : Kept6 t S l) (k' : Kept6 t S' l') (e : ∀ x, S x ↔ S' x) : l = l' := by
  have k2 := k'.congr (S' := S) fun x => (e x).symm
  exact rise_ext k.rise k'.rise fun x => ⟨k.le k2 x, k2.le k x⟩
theorem Kept6.puts {t : Nat} : ∀ (m : List Nat) {S : Nat → Prop} {l : List Nat}, Kept6 t S l → Kept6 t (fun x => S x ∨ x ∈ m) (m.foldl (putK t) l)
  | [], S, l, k => k.congr (by simp)
  | h :: m, S, l, k => ((k.put h).puts m).congr fun x => by simp [or_assoc]
/-- What is kept of a set with what is kept of another one, is what is kept of both. -/
theorem Kept6.merge {t : Nat} {S S' : Nat → Prop} {l lo : List Nat} (k : Kept6 t (fun x => S x ∨ x ∈ lo) l) (k' : Kept6 t S' lo) : Kept6 t (fun x => S x ∨ S' x) l := by
  refine ⟨k.rise, k.len, fun x hx => ?_, fun s hs => ?_⟩
  · rcases k.sub x hx with a | a
    · exact .inl a
    · exact .inr (k'.sub x a)
  · rcases hs with hs | hs
    · exact k.all s (.inl hs)
    · rcases k'.all s hs with a | ⟨a, b⟩
      · exact k.all s (.inr a)
      · by_cases hm : s ∈ l
        · exact .inl hm
        · -- lo is full and below s
          have key : ∀ x ∈ l, x < s := fun x hx => Nat.lt_of_not_le fun hge => by
            have : ∀ y ∈ x :: lo, y ∈ l := fun y hy => by
              rcases List.mem_cons.1 hy with rfl | hy
              · exact hx
              · rcases k.all y (.inr hy) with c | ⟨c, d⟩
                · exact c
                · have := d x hx; have := b y hy; omega
            have hn : (x :: lo).Nodup := List.nodup_cons.2 ⟨fun hm => by have := b x hm; omega, k'.rise.nodup⟩
            have := nodup_sub_len hn this
            have := k.len
            simp only [List.length_cons] at *
            omega
          refine .inr ⟨?_, key⟩
          rcases Nat.lt_or_ge l.length t with c | c
          · exfalso
            have : ∀ y ∈ lo, y ∈ l := fun y hy => by
              rcases k.all y (.inr hy) with e | ⟨e, _⟩
              · exact e
              · omega
            have := nodup_sub_len k'.rise.nodup this
            omega
          · have := k.len; omega
theorem putK_rise {t : Nat} {l : List Nat} {h : Nat} (hr : Rise l) (hl : l.length ≤ t) : Rise (putK t l h) ∧ (putK t l h).length ≤ t :=
  have k : Kept6 t (· ∈ l) l := ⟨hr, hl, fun _ h => h, fun _ h => .inl h⟩
  ⟨(k.put h).rise, (k.put h).len⟩
theorem putK_mem {t : Nat} {l : List Nat} {h : Nat} (hr : Rise l) (hl : l.length ≤ t) : ∀ x ∈ putK t l h, x ∈ l ∨ x = h :=
  have k : Kept6 t (· ∈ l) l := ⟨hr, hl, fun _ h => h, fun _ h => .inl h⟩
  (k.put h).sub
end Go.Proofs.YtdehjgpdcdjhjaaDoor.K
