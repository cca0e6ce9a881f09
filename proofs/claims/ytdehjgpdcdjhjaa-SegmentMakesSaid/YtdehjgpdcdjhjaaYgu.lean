/- Walks of the program's functions, printed by a program of this session; Lean checks them. -/
import Derived.Test.YtdehjgpdcdjhjaaMo
import Derived.Test.YtdehjgpdcdjhjaaYgq
namespace Go.Proofs.Ytdehjgpdcdjhjaa.K
open Go Go.RowKit Go.Proofs
set_option linter.unusedVariables false
set_option linter.unusedSimpArgs false


abbrev Vq := Int × Int × ByteArray × Unit
def vqC (v : Vq) : List Value := [.int .i64 v.1] ++ ([.int .i64 v.2.1] ++ ([.string v.2.2.1] ++ []))
def toVk (v : Vq) : Vk := ⟨v.1, v.2.1, v.2.2.1⟩
theorem flat_vq (l : List Vq) : flat (l.map toVk) = l.flatMap vqC := by
  unfold flat
  rw [List.flatMap_map]
  rfl
def rwQ (s : Sl Vq) : Rw := (s.A, s.c, s.l.map toVk)
def slQ (s : Sl Vq) : List Value := [.slice s.A s.l.length s.c]
theorem row_vq : ∀ l : List (Sl Vq), (l.map rwQ).flatMap rowV = l.flatMap slQ
  | [] => rfl
  | s :: l => by
    rw [List.map_cons, List.flatMap_cons, List.flatMap_cons, row_vq l]
    show Value.slice s.A (s.l.map toVk).length s.c :: _ = Value.slice s.A s.l.length s.c :: _
    rw [List.length_map]
abbrev GoodQ (w : World) (s : Sl Vq) : Prop := Reads w s.A (s.l.flatMap vqC) ∧ s.l.length ≤ s.c ∧ s.l.length * 32 ≤ 140737488351232 ∧ ∀ v ∈ s.l, (-9223372036854775808 ≤ v.1 ∧ v.1 < 9223372036854775808) ∧ (-9223372036854775808 ≤ v.2.1 ∧ v.2.1 < 9223372036854775808) ∧ v.2.2.1.size ≤ 140737488351232 ∧ True
theorem rows_vq {w : World} {l : List (Sl Vq)} (h : ∀ s ∈ l, GoodQ w s) : (∀ q ∈ l.map rwQ, q.2.2.length ≤ 4611686018427387904) ∧ ∀ q ∈ l.map rwQ, Reads w q.1 (flat q.2.2) ∧ ∀ p ∈ q.2.2, WV p := by
  refine ⟨fun q hq => ?_, fun q hq => ?_⟩
  · obtain ⟨s, hs, rfl⟩ := List.mem_map.1 hq
    show (s.l.map toVk).length ≤ _
    rw [List.length_map]
    have := (h s hs).2.2.1; omega
  · obtain ⟨s, hs, rfl⟩ := List.mem_map.1 hq
    refine ⟨?_, fun p hp => ?_⟩
    · show Reads w s.A (flat (s.l.map toVk))
      rw [flat_vq]; exact (h s hs).1
    · obtain ⟨v, hv, rfl⟩ := List.mem_map.1 hp
      exact ((h s hs).2.2.2 v hv).2.1
theorem law_SegmentMakes (Ak : Option Addr) (ck : Nat) (ks : List Int) (A1 : Option Addr) (c1 : Nat) (R1 : List (Sl Vq)) (A2 : Option Addr) (c2 : Nat) (R2 : List (Sl Vq)) (w : World)
    (hk : Reads w Ak (icells .i64 ks)) (k1 : ks.length ≤ ck) (k2 : ks.length * 8 ≤ 140737488351232) (k3 : ∀ n ∈ ks, -9223372036854775808 ≤ n ∧ n < 9223372036854775808)
    (hd1 : Reads w A1 (R1.flatMap slQ)) (a1 : R1.length ≤ c1) (a2 : R1.length * 24 ≤ 140737488351232) (a3 : ∀ s ∈ R1, GoodQ w s)
    (hd2 : Reads w A2 (R2.flatMap slQ)) (b1 : R2.length ≤ c2) (b2 : R2.length * 24 ≤ 140737488351232) (b3 : ∀ s ∈ R2, GoodQ w s) :
    FnV Try.prog 3 [.slice Ak ks.length ck, .slice A1 R1.length c1, .slice A2 R2.length c2] (.bool true) w := by
  have h := law_SegmentMakes0 Ak ck ks A1 c1 (R1.map rwQ) A2 c2 (R2.map rwQ) (by rw [List.length_map]; omega) (by rw [List.length_map]; omega) (rows_vq a3).1 (rows_vq b3).1 w hk (by rw [row_vq]; exact hd1) (rows_vq a3).2 (by rw [row_vq]; exact hd2) (rows_vq b3).2
  rw [List.length_map, List.length_map] at h
  exact h




end Go.Proofs.Ytdehjgpdcdjhjaa.K
