/- A framework of our own for walks over the model: Ma. -/
import Derived.Test.YtclknendeeljaaaDoorCa
namespace Go.Proofs.YtclknendeeljaaaDoor.K
/-! ### The t least of a set of numbers -/
abbrev Rise (l : List Nat) : Prop := l.Pairwise (· < ·)
def lowN (l : List Nat) (h : Nat) : Nat := l.countP (· < h)
def putK (t : Nat) (l : List Nat) (h : Nat) : List Nat :=
  if h ∈ l ∨ t ≤ lowN l h then l else (l.take (lowN l h) ++ h :: l.drop (lowN l h)).take t
theorem lowN_le (l : List Nat) (h : Nat) : lowN l h ≤ l.length := List.countP_le_length
/-- In a rising list the numbers below h stand ahead. -/
theorem low_split : ∀ {l : List Nat} {h : Nat}, Rise l → (∀ x ∈ l.take (lowN l h), x < h) ∧ (∀ x ∈ l.drop (lowN l h), h ≤ x)
  | [], h, _ => by simp
  | a :: l, h, hr => by
    obtain ⟨h1, h2⟩ := List.pairwise_cons.1 hr
    obtain ⟨i1, i2⟩ := low_split (h := h) h2
    by_cases c : a < h
    · have e : lowN (a :: l) h = lowN l h + 1 := by unfold lowN; rw [List.countP_cons_of_pos (by simpa using c)]
      rw [e]
      refine ⟨fun x hx => ?_, fun x hx => i2 x (by simpa using hx)⟩
      rw [List.take_succ_cons, List.mem_cons] at hx
      rcases hx with rfl | hx
      · exact c
      · exact i1 x hx
    · have e : lowN (a :: l) h = 0 := by
        unfold lowN
        rw [List.countP_eq_zero]
        intro x hx
        rcases List.mem_cons.1 hx with rfl | hx
        · simpa using c
        · have := h1 x hx; simp; omega
      rw [e]
      refine ⟨by simp, fun x hx => ?_⟩
      rw [List.drop_zero] at hx
      rcases List.mem_cons.1 hx with rfl | hx
      · omega
      · have := h1 x hx; omega
theorem rise_ins {l : List Nat} {h : Nat} (hr : Rise l) (hn : h ∉ l) : Rise (l.take (lowN l h) ++ h :: l.drop (lowN l h)) := by
  obtain ⟨h1, h2⟩ := low_split (h := h) hr
  refine List.pairwise_append.2 ⟨hr.sublist (List.take_sublist _ _), List.pairwise_cons.2 ⟨fun x hx => ?_, hr.sublist (List.drop_sublist _ _)⟩, fun x hx y hy => ?_⟩
  · have := h2 x hx
    rcases Nat.lt_or_ge h x with c | c
    · exact c
    · exact absurd (List.mem_of_mem_drop (show h ∈ _ by rw [show h = x by omega]; exact hx)) hn
  · have := h1 x hx
    rcases List.mem_cons.1 hy with rfl | hy
    · exact this
    · have := h2 y hy; omega
/-- l is what is kept of the set S: its t least. -/
structure Kept6 (t : Nat) (S : Nat → Prop) (l : List Nat) : Prop where
  rise : Rise l
  len : l.length ≤ t
  sub : ∀ x ∈ l, S x
  all : ∀ s, S s → s ∈ l ∨ (l.length = t ∧ ∀ x ∈ l, x < s)
theorem Kept6.nil (t : Nat) : Kept6 t (fun _ => False) [] := ⟨List.Pairwise.nil, Nat.zero_le _, by simp, fun _ h => h.elim⟩
theorem Kept6.congr {t : Nat} {S S' : Nat → Prop} {l : List Nat} (h : Kept6 t S l) (e : ∀ x, S x ↔ S' x) : Kept6 t S' l :=
  ⟨h.rise, h.len, fun x hx => (e x).1 (h.sub x hx), fun s hs => h.all s ((e s).2 hs)⟩
theorem Kept6.put {t : Nat} {S : Nat → Prop} {l : List Nat} (k : Kept6 t S l) (h : Nat) : Kept6 t (fun x => S x ∨ x = h) (putK t l h) := by
  have hr := k.rise
  unfold putK
  split
  · rename_i c
    refine ⟨hr, k.len, fun x hx => .inl (k.sub x hx), fun s hs => ?_⟩
    rcases hs with hs | rfl
    · exact k.all s hs
    · rcases c with c | c
      · exact .inl c
      · have h1 := lowN_le l s
        have h2 := k.len
        refine .inr ⟨by omega, fun x hx => ?_⟩
        have h3 := (low_split (h := s) hr).1
        rw [show lowN l s = l.length by omega, List.take_length] at h3
        exact h3 x hx
  · rename_i c
    have hn : h ∉ l := fun hm => c (.inl hm)
    have hlt : lowN l h < t := Nat.lt_of_not_le fun hm => c (.inr hm)
    have hri := rise_ins hr hn
    have hle := lowN_le l h
    have hlen : (l.take (lowN l h) ++ h :: l.drop (lowN l h)).length = l.length + 1 := by simp; omega
    have hmem : ∀ x, x ∈ l.take (lowN l h) ++ h :: l.drop (lowN l h) ↔ x ∈ l ∨ x = h := fun x => by
      rw [List.mem_append, List.mem_cons]
      have : x ∈ l ↔ x ∈ l.take (lowN l h) ∨ x ∈ l.drop (lowN l h) := by rw [← List.mem_append, List.take_append_drop]
      rw [this]
      constructor
      · rintro (a | a | a)
        · exact .inl (.inl a)
        · exact .inr a
        · exact .inl (.inr a)
      · rintro ((a | a) | a)
        · exact .inl a
        · exact .inr (.inr a)
        · exact .inr (.inl a)
    generalize hL : l.take (lowN l h) ++ h :: l.drop (lowN l h) = L at hri hlen hmem
    have hsplit : ∀ x ∈ L.drop t, ∀ y ∈ L.take t, y < x := by
      have := hri
      rw [← List.take_append_drop t L] at this
      exact fun x hx y hy => (List.pairwise_append.1 this).2.2 y hy x hx
    have full : ∀ s ∈ L, s ∈ L.take t ∨ ((L.take t).length = t ∧ ∀ x ∈ L.take t, x < s) := fun s hs => by
      rw [← List.take_append_drop t L] at hs
      rcases List.mem_append.1 hs with a | a
      · exact .inl a
      · refine .inr ⟨?_, hsplit s a⟩
        rw [List.length_take]
        have : 0 < (L.drop t).length := List.length_pos_of_mem a
        rw [List.length_drop] at this
        omega
    refine ⟨hri.sublist (List.take_sublist _ _), by rw [List.length_take]; omega, fun x hx => ?_, fun s hs => ?_⟩
    · rcases (hmem x).1 (List.mem_of_mem_take hx) with a | a
      · exact .inl (k.sub x a)
      · exact .inr a
    · rcases hs with hs | rfl
      · rcases k.all s hs with a | ⟨a, b⟩
        · exact full s ((hmem s).2 (.inl a))
        · -- s was left out: l was full, and below s; the new one is below l's last, or stands among l
          refine .inr ⟨by rw [List.length_take]; omega, fun x hx => ?_⟩
          rcases (hmem x).1 (List.mem_of_mem_take hx) with c2 | rfl
          · exact b x c2
          · -- h < t-th place: some of l is above h
            have hll : lowN l x < l.length := by omega
            have := (low_split (h := x) hr).2 (l[lowN l x]) (by rw [List.mem_iff_getElem]; exact ⟨0, by simp; omega, by simp⟩)
            have := b _ (List.getElem_mem hll)
            omega
      · exact full s ((hmem s).2 (.inr rfl))
theorem nodup_sub_len : ∀ {a b : List Nat}, a.Nodup → (∀ x ∈ a, x ∈ b) → a.length ≤ b.length
  | [], _, _, _ => Nat.zero_le _
  | x :: a, b, hn, hs => by
    obtain ⟨h1, h2⟩ := List.nodup_cons.1 hn
    have hx := hs x (by simp)
    have := nodup_sub_len (b := b.erase x) h2 fun y hy => (List.mem_erase_of_ne (fun e => h1 (by rw [← e]; exact hy))).2 (hs y (by simp [hy]))
    rw [List.length_erase_of_mem hx] at this
    have := List.length_pos_of_mem hx
    simp only [List.length_cons]; omega
theorem Rise.nodup {l : List Nat} (h : Rise l) : l.Nodup := h.imp fun hlt => Nat.ne_of_lt hlt
theorem Kept6.le {t : Nat} {S : Nat → Prop} {l l' : List Nat} (k : Kept6 t S l) (k' : Kept6 t S l') : ∀ x ∈ l, x ∈ l' := by
  intro x hx
  rcases k'.all x (k.sub x hx) with a | ⟨a, b⟩
  · exact a
  · -- l' is full and below x: all of l' lies in l, and x besides
    exfalso
    have : ∀ y ∈ x :: l', y ∈ l := fun y hy => by
      rcases List.mem_cons.1 hy with rfl | hy
      · exact hx
      · rcases k.all y (k'.sub y hy) with c | ⟨c, d⟩
        · exact c
        · have := d x hx; have := b y hy; omega
    have hn : (x :: l').Nodup := List.nodup_cons.2 ⟨fun hm => Nat.lt_irrefl _ (b x hm), k'.rise.nodup⟩
    have := nodup_sub_len hn this
    have := k.len
    simp only [List.length_cons] at *
    omega
end Go.Proofs.YtclknendeeljaaaDoor.K
