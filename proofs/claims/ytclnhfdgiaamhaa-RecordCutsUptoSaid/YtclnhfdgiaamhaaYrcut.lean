/- Walks of the program's functions, printed by a program of this session; Lean checks them. -/
import Derived.Test.YtclnhfdgiaamhaaCg
import Derived.Test.YtclnhfdgiaamhaaMp
import Derived.Test.YtclnhfdgiaamhaaYrp
namespace Go.Proofs.Ytclnhfdgiaamhaa.K
open Go Go.RowKit Go.Proofs
set_option linter.unusedVariables false
set_option linter.unusedSimpArgs false


/-! Frames in a row are scanned one by one. -/
theorem frame_len {p : Tx} (h : ¬ 262144 < p.length) : (frameL p).length = p.length + 8 := by
  rw [frame_is h]
  simp only [List.length_append, four_len]
  omega
theorem unfr_frame {p : Tx} (hp : ¬ 262144 < p.length) (t : Tx) : unfrE (frameL p ++ t) = 0 ∧ unfrL (frameL p ++ t) = p ∧ unfrN (frameL p ++ t) = (frameL p).length := by
  have hl := frame_len hp
  have e : frameL p ++ t = four4 p.length ++ (p ++ (four4 (sumS (four4 p.length ++ p)) ++ t)) := by rw [frame_is hp]; simp only [List.append_assoc]
  have e2 : frameL p ++ t = (four4 p.length ++ p) ++ (four4 (sumS (four4 p.length ++ p)) ++ t) := by rw [e]; simp only [List.append_assoc]
  have hq : (four4 p.length ++ p).length = p.length + 4 := by rw [List.length_append, four_len]; omega
  have hn : fourN (frameL p ++ t) = p.length := by rw [e]; exact four_back (by omega) _
  have hbl : (frameL p ++ t).length = p.length + 8 + t.length := by rw [List.length_append, hl]
  have hd : (frameL p ++ t).drop (p.length + 4) = four4 (sumS (four4 p.length ++ p)) ++ t := by rw [e2]; exact List.drop_left' hq
  have ht : (frameL p ++ t).take (p.length + 4) = four4 p.length ++ p := by rw [e2]; exact List.take_left' hq
  have h0 : unfrE (frameL p ++ t) = 0 := unfr_0 (by omega) (by omega) (by omega) (by rw [hn, hd, ht]; exact four_back (sumS_lt _) _)
  obtain ⟨o1, o2⟩ := unfr_ok h0
  refine ⟨h0, ?_, by rw [o2, hn, hl]⟩
  rw [o1, hn, e, List.drop_left' (four_len _), List.take_left]
def OKr (x : Rec) : Prop := goodRec x ∧ RecW x ∧ ¬ 262144 < (recB x).length
abbrev frR (x : Rec) : Tx := frameL (recB x)
theorem scan_frames : ∀ (ks : List Rec) (f : Nat) (mo : Tx), (∀ x ∈ ks, OKr x) → mo.length < 4 → ks.length ≤ f → scanF f (ks.flatMap frR ++ mo) = (ks, (ks.flatMap frR).length)
  | [], f, mo, _, hm, _ => scan_bad (by
      show unfrE mo ≠ 0
      rw [unfr_1 hm]; decide)
  | x :: ks, 0, mo, _, _, hf => by simp at hf
  | x :: ks, f + 1, mo, h, hm, hf => by
    obtain ⟨o1, o2, o3⟩ := h x (List.Mem.head _)
    have e : (x :: ks).flatMap frR ++ mo = frameL (recB x) ++ (ks.flatMap frR ++ mo) := by rw [List.flatMap_cons, List.append_assoc]
    obtain ⟨u1, u2, u3⟩ := unfr_frame o3 (ks.flatMap frR ++ mo)
    rw [e, scan_some (x := x) u1 (by rw [u2]; exact (load_rec o1 o2 o3).1), u3, List.drop_left, scan_frames ks f mo (fun y hy => h y (List.Mem.tail _ hy)) hm (by simp at hf; omega), List.flatMap_cons, List.length_append]
theorem nrecs_at {l : List RecM} {i : Nat} (h : i < l.length) : ((l.flatMap recC).drop (Int.toNat (i : Int) * 9)).take 9 = recC (l.getD i rec0M) := by
  rw [Int.toNat_natCast]
  exact flat_atM (m := 9) (f := recC) (fun _ => rfl) rec0M l i h
theorem nrecs_in {l : List RecM} {i : Nat} (h : i < l.length) : l.getD i rec0M ∈ l := by simp [List.getD, h]
/-- What is known of each record that a law is given. -/
structure RecK (m : RecM) : Prop where
  s : RecS m
  b : RecB m
  w : RecW (recOf m)
theorem byt_zero {x : Rec} (h : bytE x = 0) : goodRec x ∧ ¬ 262144 < (recB x).length := by
  by_cases hg : goodRec x
  · by_cases h2 : 262144 < (recB x).length
    · rw [(byt_full hg h2).2] at h; exact absurd h (by decide)
    · exact ⟨hg, h2⟩
  · rw [(byt_bad hg).2] at h; exact absurd h (by decide)
abbrev colW (p : ByteArray × Int × Unit) : List Value := [.string p.1] ++ ([.int .i64 p.2.1] ++ [])
def colOf (p : ByteArray × Int × Unit) : Cq := (p.1.data.toList, p.2.1)
theorem colW_flat (l : List (ByteArray × Int × Unit)) : (l.map colOf).flatMap colV = l.flatMap colW := by
  rw [List.flatMap_map]
  refine congrArg (fun f => List.flatMap f l) (funext fun p => ?_)
  show [Value.string (sL p.1.data.toList), Value.int .i64 p.2.1] = _
  rw [sL_eta]; rfl
abbrev meaW (p : Int × ByteArray × Unit) : List Value := [.int .i64 p.1] ++ ([.string p.2.1] ++ [])
def meaOf (p : Int × ByteArray × Unit) : Mq := (p.1, p.2.1.data.toList)
theorem meaW_flat (l : List (Int × ByteArray × Unit)) : (l.map meaOf).flatMap meaV = l.flatMap meaW := by
  rw [List.flatMap_map]
  refine congrArg (fun f => List.flatMap f l) (funext fun p => ?_)
  show [Value.int .i64 p.1, Value.string (sL p.2.1.data.toList)] = _
  rw [sL_eta]; rfl
theorem txt_flat (l : List ByteArray) : tcS (l.map fun s => s.data.toList) = scells l := by
  unfold tcS scells
  rw [List.map_map]
  refine congrArg (fun f => List.map f l) (funext fun s => ?_)
  show Value.string (sL s.data.toList) = _
  rw [sL_eta]
abbrev valW (p : Int × Int × ByteArray × Unit) : List Value := [.int .i64 p.1] ++ ([.int .i64 p.2.1] ++ ([.string p.2.2.1] ++ []))
def vkOf (p : Int × Int × ByteArray × Unit) : Vk := ⟨p.1, p.2.1, p.2.2.1⟩
abbrev RowW := Sl (Int × Int × ByteArray × Unit)
abbrev slW (s : RowW) : List Value := [.slice s.A s.l.length s.c]
def rwOf (s : RowW) : Rw := (s.A, s.c, s.l.map vkOf)
theorem row_flat (l : List RowW) : (l.map rwOf).flatMap rowV = l.flatMap slW := by
  rw [List.flatMap_map]
  refine congrArg (fun f => List.flatMap f l) (funext fun p => ?_)
  show [Value.slice p.A (p.l.map vkOf).length p.c] = _
  rw [List.length_map]
theorem val_flat (l : List (Int × Int × ByteArray × Unit)) : flat (l.map vkOf) = l.flatMap valW := by
  unfold flat
  rw [List.flatMap_map]
  rfl
theorem len_48 {s : ByteArray} (h : s.size ≤ 140737488351232) : s.data.toList.length < 562949953421312 := by
  have hl : s.data.toList.length = s.size := Array.length_toList
  omega
/-- The record that a law is given. -/
def recOfW (k : Int) (tn : ByteArray) (Ac : Option Addr) (cc : Nat) (cs : List (ByteArray × Int × Unit)) (rn rt : ByteArray) (Ad : Option Addr) (cd : Nat) (ds : List ByteArray) (Am : Option Addr) (cm : Nat) (ms : List (Int × ByteArray × Unit)) (nm : ByteArray) (Ar : Option Addr) (cr : Nat) (rs : List RowW) : RecM :=
  ⟨k, tn.data.toList, Ac, cc, cs.map colOf, rn.data.toList, rt.data.toList, Ad, cd, ds.map fun s => s.data.toList, Am, cm, ms.map meaOf, nm.data.toList, Ar, cr, rs.map rwOf⟩
section
variable {k : Int} {tn : ByteArray} {Ac : Option Addr} {cc : Nat} {cs : List (ByteArray × Int × Unit)} {rn rt : ByteArray} {Ad : Option Addr} {cd : Nat} {ds : List ByteArray} {Am : Option Addr} {cm : Nat} {ms : List (Int × ByteArray × Unit)} {nm : ByteArray} {Ar : Option Addr} {cr : Nat} {rs : List RowW} {w : World}
  (g0 : -9223372036854775808 ≤ k ∧ k < 9223372036854775808) (g1 : tn.size ≤ 140737488351232) (g2 : Reads w Ac (cs.flatMap colW)) (g3 : cs.length ≤ cc) (g4 : cs.length * 24 ≤ 140737488351232) (g5 : ∀ a ∈ cs, a.1.size ≤ 140737488351232 ∧ (-9223372036854775808 ≤ a.2.1 ∧ a.2.1 < 9223372036854775808) ∧ True)
  (g6 : rn.size ≤ 140737488351232) (g7 : rt.size ≤ 140737488351232) (g8 : Reads w Ad (scells ds)) (g9 : ds.length ≤ cd) (g10 : ds.length * 16 ≤ 140737488351232) (g11 : ∀ a ∈ ds, a.size ≤ 140737488351232) (g12 : Reads w Am (ms.flatMap meaW)) (g13 : ms.length ≤ cm) (g14 : ms.length * 24 ≤ 140737488351232) (g15 : ∀ a ∈ ms, (-9223372036854775808 ≤ a.1 ∧ a.1 < 9223372036854775808) ∧ a.2.1.size ≤ 140737488351232 ∧ True)
  (g16 : nm.size ≤ 140737488351232) (g17 : Reads w Ar (rs.flatMap slW)) (g18 : rs.length ≤ cr) (g19 : rs.length * 24 ≤ 140737488351232) (g20 : ∀ s ∈ rs, Reads w s.A (s.l.flatMap valW) ∧ s.l.length ≤ s.c ∧ s.l.length * 32 ≤ 140737488351232 ∧ ∀ a ∈ s.l, (-9223372036854775808 ≤ a.1 ∧ a.1 < 9223372036854775808) ∧ (-9223372036854775808 ≤ a.2.1 ∧ a.2.1 < 9223372036854775808) ∧ a.2.2.1.size ≤ 140737488351232 ∧ True)
include g1 g4 g5 g6 g7 g10 g11 g14 g15 g16 g19 g20 in
theorem law_recS : RecS (recOfW k tn Ac cc cs rn rt Ad cd ds Am cm ms nm Ar cr rs) := by
  refine ⟨len_48 g1, len_48 g6, len_48 g7, len_48 g16, ?_, ?_, ?_, ?_, fun q hq => ?_, fun c hc => ?_, fun c hc => ?_, fun c hc => ?_⟩
  · show (cs.map colOf).length < _
    rw [List.length_map]; omega
  · show (ds.map _).length < _
    rw [List.length_map]; omega
  · show (ms.map meaOf).length < _
    rw [List.length_map]; omega
  · show (rs.map rwOf).length < _
    rw [List.length_map]; omega
  · obtain ⟨s, hs, rfl⟩ := List.mem_map.1 hq
    show (s.l.map vkOf).length < _
    have := g20 s hs
    rw [List.length_map]; omega
  · obtain ⟨a, ha, rfl⟩ := List.mem_map.1 hc
    exact Nat.le_of_lt (len_48 (g5 a ha).1)
  · obtain ⟨a, ha, rfl⟩ := List.mem_map.1 hc
    exact Nat.le_of_lt (len_48 (g11 a ha))
  · obtain ⟨a, ha, rfl⟩ := List.mem_map.1 hc
    exact Nat.le_of_lt (len_48 (g15 a ha).2.1)
include g2 g8 g12 g17 g20 in
theorem law_recR : RecR w (recOfW k tn Ac cc cs rn rt Ad cd ds Am cm ms nm Ar cr rs) := by
  refine ⟨?_, ?_, ?_, ?_, fun q hq => ?_⟩
  · show Reads w Ac ((cs.map colOf).flatMap colV)
    rw [colW_flat]; exact g2
  · show Reads w Ad (tcS (ds.map fun s => s.data.toList))
    rw [txt_flat]; exact g8
  · show Reads w Am ((ms.map meaOf).flatMap meaV)
    rw [meaW_flat]; exact g12
  · show Reads w Ar ((rs.map rwOf).flatMap rowV)
    rw [row_flat]; exact g17
  · obtain ⟨s, hs, rfl⟩ := List.mem_map.1 hq
    refine ⟨?_, fun p hp => ?_⟩
    · show Reads w s.A (flat (s.l.map vkOf))
      rw [val_flat]; exact (g20 s hs).1
    · obtain ⟨a, ha, rfl⟩ := List.mem_map.1 hp
      exact ((g20 s hs).2.2.2 a ha).2.1
theorem law_recA : recA (recOfW k tn Ac cc cs rn rt Ad cd ds Am cm ms nm Ar cr rs) = .agg #[.int .i64 k, .string tn, .slice Ac cs.length cc, .string rn, .string rt, .slice Ad ds.length cd, .slice Am ms.length cm, .string nm, .slice Ar rs.length cr] := by
  show Value.agg #[.int .i64 k, .string (sL tn.data.toList), .slice Ac (cs.map colOf).length cc, .string (sL rn.data.toList), .string (sL rt.data.toList), .slice Ad (ds.map _).length cd, .slice Am (ms.map meaOf).length cm, .string (sL nm.data.toList), .slice Ar (rs.map rwOf).length cr] = _
  rw [sL_eta, sL_eta, sL_eta, sL_eta, List.length_map, List.length_map, List.length_map, List.length_map]
include g1 g4 g5 g6 g7 g10 g11 g14 g15 g16 g19 g20 in
theorem law_recW : RecW (recOf (recOfW k tn Ac cc cs rn rt Ad cd ds Am cm ms nm Ar cr rs)) := by
  refine (law_recS g1 g4 g5 g6 g7 g10 g11 g14 g15 g16 g19 g20).recW (fun c hc => ?_) (fun c hc => ?_) (fun q hq p hp => ?_)
  · obtain ⟨a, ha, rfl⟩ := List.mem_map.1 hc
    exact (g5 a ha).2.1
  · obtain ⟨a, ha, rfl⟩ := List.mem_map.1 hc
    exact (g15 a ha).1
  · obtain ⟨s, hs, rfl⟩ := List.mem_map.1 hq
    obtain ⟨a, ha, rfl⟩ := List.mem_map.1 hp
    exact ((g20 s hs).2.2.2 a ha).2.1
end

section
variable {k : Int} {tn : ByteArray} {Ac : Option Addr} {cc : Nat} {cs : List (ByteArray × Int × Unit)} {rn rt : ByteArray} {Ad : Option Addr} {cd : Nat} {ds : List ByteArray} {Am : Option Addr} {cm : Nat} {ms : List (Int × ByteArray × Unit)} {nm : ByteArray} {Ar : Option Addr} {cr : Nat} {rs : List RowW} {w : World}
theorem len_20 {s : ByteArray} (h : s.size ≤ 1048576) : s.data.toList.length ≤ 2000000 := by
  have hl : s.data.toList.length = s.size := Array.length_toList
  omega
theorem bulkK (g0 : -9223372036854775808 ≤ k ∧ k < 9223372036854775808) (g1 : tn.size ≤ 1048576) (g2 : Reads w Ac (cs.flatMap colW)) (g3 : cs.length ≤ cc) (g4 : cs.length ≤ 1048576) (g5 : ∀ a ∈ cs, a.1.size ≤ 1048576 ∧ (-9223372036854775808 ≤ a.2.1 ∧ a.2.1 < 9223372036854775808) ∧ True)
  (g6 : rn.size ≤ 1048576) (g7 : rt.size ≤ 1048576) (g8 : Reads w Ad (scells ds)) (g9 : ds.length ≤ cd) (g10 : ds.length ≤ 1048576) (g11 : ∀ a ∈ ds, a.size ≤ 1048576) (g12 : Reads w Am (ms.flatMap meaW)) (g13 : ms.length ≤ cm) (g14 : ms.length ≤ 1048576) (g15 : ∀ a ∈ ms, (-9223372036854775808 ≤ a.1 ∧ a.1 < 9223372036854775808) ∧ a.2.1.size ≤ 1048576 ∧ True)
  (g16 : nm.size ≤ 1048576) (g17 : Reads w Ar (rs.flatMap slW)) (g18 : rs.length ≤ cr) (g19 : rs.length ≤ 1048576) (g20 : ∀ s ∈ rs, Reads w s.A (s.l.flatMap valW) ∧ s.l.length ≤ s.c ∧ s.l.length ≤ 1048576 ∧ ∀ a ∈ s.l, (-9223372036854775808 ≤ a.1 ∧ a.1 < 9223372036854775808) ∧ (-9223372036854775808 ≤ a.2.1 ∧ a.2.1 < 9223372036854775808) ∧ a.2.2.1.size ≤ 1048576 ∧ True) : RecK (recOfW k tn Ac cc cs rn rt Ad cd ds Am cm ms nm Ar cr rs) ∧ RecR w (recOfW k tn Ac cc cs rn rt Ad cd ds Am cm ms nm Ar cr rs) := by
  have e1 : tn.size ≤ 140737488351232 := Nat.le_trans g1 (by decide)
  have e4 : cs.length * 24 ≤ 140737488351232 := by omega
  have e5 : ∀ a ∈ cs, a.1.size ≤ 140737488351232 ∧ (-9223372036854775808 ≤ a.2.1 ∧ a.2.1 < 9223372036854775808) ∧ True := fun a ha => ⟨Nat.le_trans (g5 a ha).1 (by decide), (g5 a ha).2⟩
  have e6 : rn.size ≤ 140737488351232 := Nat.le_trans g6 (by decide)
  have e7 : rt.size ≤ 140737488351232 := Nat.le_trans g7 (by decide)
  have e10 : ds.length * 16 ≤ 140737488351232 := by omega
  have e11 : ∀ a ∈ ds, a.size ≤ 140737488351232 := fun a ha => Nat.le_trans (g11 a ha) (by decide)
  have e14 : ms.length * 24 ≤ 140737488351232 := by omega
  have e15 : ∀ a ∈ ms, (-9223372036854775808 ≤ a.1 ∧ a.1 < 9223372036854775808) ∧ a.2.1.size ≤ 140737488351232 ∧ True := fun a ha => ⟨(g15 a ha).1, Nat.le_trans (g15 a ha).2.1 (by decide), trivial⟩
  have e16 : nm.size ≤ 140737488351232 := Nat.le_trans g16 (by decide)
  have e19 : rs.length * 24 ≤ 140737488351232 := by omega
  have e20 : ∀ s ∈ rs, Reads w s.A (s.l.flatMap valW) ∧ s.l.length ≤ s.c ∧ s.l.length * 32 ≤ 140737488351232 ∧ ∀ a ∈ s.l, (-9223372036854775808 ≤ a.1 ∧ a.1 < 9223372036854775808) ∧ (-9223372036854775808 ≤ a.2.1 ∧ a.2.1 < 9223372036854775808) ∧ a.2.2.1.size ≤ 140737488351232 ∧ True := fun s hs => ⟨(g20 s hs).1, (g20 s hs).2.1, by have := (g20 s hs).2.2.1; omega, fun a ha => ⟨((g20 s hs).2.2.2 a ha).1, ((g20 s hs).2.2.2 a ha).2.1, Nat.le_trans ((g20 s hs).2.2.2 a ha).2.2.1 (by decide), trivial⟩⟩
  refine ⟨⟨law_recS e1 e4 e5 e6 e7 e10 e11 e14 e15 e16 e19 e20, ?_, law_recW e1 e4 e5 e6 e7 e10 e11 e14 e15 e16 e19 e20⟩, law_recR g2 g8 g12 g17 e20⟩
  refine ⟨len_20 g1, len_20 g6, len_20 g7, len_20 g16, fun x hx => ?_, fun x hx => ?_, fun x hx => ?_⟩
  · obtain ⟨a, ha, rfl⟩ := List.mem_map.1 hx
    exact len_20 (g5 a ha).1
  · obtain ⟨a, ha, rfl⟩ := List.mem_map.1 hx
    exact len_20 (g11 a ha)
  · obtain ⟨a, ha, rfl⟩ := List.mem_map.1 hx
    exact len_20 (g15 a ha).2.1
end
abbrev RecT := Int × (ByteArray × Sl (ByteArray × Int × Unit) × Unit) × (ByteArray × ByteArray × Sl ByteArray × Sl (Int × ByteArray × Unit) × Unit) × ByteArray × Sl RowW × Unit
abbrev recWc (p : RecT) : List Value := [.int .i64 p.1] ++ (([.string p.2.1.1] ++ ([.slice p.2.1.2.1.A p.2.1.2.1.l.length p.2.1.2.1.c] ++ [])) ++ (([.string p.2.2.1.1] ++ ([.string p.2.2.1.2.1] ++ ([.slice p.2.2.1.2.2.1.A p.2.2.1.2.2.1.l.length p.2.2.1.2.2.1.c] ++ ([.slice p.2.2.1.2.2.2.1.A p.2.2.1.2.2.2.1.l.length p.2.2.1.2.2.2.1.c] ++ [])))) ++ ([.string p.2.2.2.1] ++ ([.slice p.2.2.2.2.1.A p.2.2.2.2.1.l.length p.2.2.2.2.1.c] ++ []))))
def toRec (p : RecT) : RecM := recOfW p.1 p.2.1.1 p.2.1.2.1.A p.2.1.2.1.c p.2.1.2.1.l p.2.2.1.1 p.2.2.1.2.1 p.2.2.1.2.2.1.A p.2.2.1.2.2.1.c p.2.2.1.2.2.1.l p.2.2.1.2.2.2.1.A p.2.2.1.2.2.2.1.c p.2.2.1.2.2.2.1.l p.2.2.2.1 p.2.2.2.2.1.A p.2.2.2.2.1.c p.2.2.2.2.1.l
theorem rec_flat (l : List RecT) : (l.map toRec).flatMap recC = l.flatMap recWc := by
  rw [List.flatMap_map]
  refine congrArg (fun f => List.flatMap f l) (funext fun p => ?_)
  have h := law_recA (k := p.1) (tn := p.2.1.1) (Ac := p.2.1.2.1.A) (cc := p.2.1.2.1.c) (cs := p.2.1.2.1.l) (rn := p.2.2.1.1) (rt := p.2.2.1.2.1) (Ad := p.2.2.1.2.2.1.A) (cd := p.2.2.1.2.2.1.c) (ds := p.2.2.1.2.2.1.l) (Am := p.2.2.1.2.2.2.1.A) (cm := p.2.2.1.2.2.2.1.c) (ms := p.2.2.1.2.2.2.1.l) (nm := p.2.2.2.1) (Ar := p.2.2.2.2.1.A) (cr := p.2.2.2.2.1.c) (rs := p.2.2.2.2.1.l)
  exact congrArg Array.toList (Value.agg.inj h)
abbrev GoodRW (w : World) (p : RecT) : Prop := ((-9223372036854775808 ≤ p.1 ∧ p.1 < 9223372036854775808) ∧ (p.2.1.1.size ≤ 1048576 ∧ (Reads w p.2.1.2.1.A (p.2.1.2.1.l.flatMap colW) ∧ p.2.1.2.1.l.length ≤ p.2.1.2.1.c ∧ p.2.1.2.1.l.length ≤ 1048576 ∧ ∀ a ∈ p.2.1.2.1.l, a.1.size ≤ 1048576 ∧ (-9223372036854775808 ≤ a.2.1 ∧ a.2.1 < 9223372036854775808) ∧ True) ∧ True) ∧ (p.2.2.1.1.size ≤ 1048576 ∧ p.2.2.1.2.1.size ≤ 1048576 ∧ (Reads w p.2.2.1.2.2.1.A (scells p.2.2.1.2.2.1.l) ∧ p.2.2.1.2.2.1.l.length ≤ p.2.2.1.2.2.1.c ∧ p.2.2.1.2.2.1.l.length ≤ 1048576 ∧ ∀ a ∈ p.2.2.1.2.2.1.l, a.size ≤ 1048576) ∧ (Reads w p.2.2.1.2.2.2.1.A (p.2.2.1.2.2.2.1.l.flatMap meaW) ∧ p.2.2.1.2.2.2.1.l.length ≤ p.2.2.1.2.2.2.1.c ∧ p.2.2.1.2.2.2.1.l.length ≤ 1048576 ∧ ∀ a ∈ p.2.2.1.2.2.2.1.l, (-9223372036854775808 ≤ a.1 ∧ a.1 < 9223372036854775808) ∧ a.2.1.size ≤ 1048576 ∧ True) ∧ True) ∧ p.2.2.2.1.size ≤ 1048576 ∧ (Reads w p.2.2.2.2.1.A (p.2.2.2.2.1.l.flatMap slW) ∧ p.2.2.2.2.1.l.length ≤ p.2.2.2.2.1.c ∧ p.2.2.2.2.1.l.length ≤ 1048576 ∧ ∀ s ∈ p.2.2.2.2.1.l, Reads w s.A (s.l.flatMap valW) ∧ s.l.length ≤ s.c ∧ s.l.length ≤ 1048576 ∧ ∀ a ∈ s.l, (-9223372036854775808 ≤ a.1 ∧ a.1 < 9223372036854775808) ∧ (-9223372036854775808 ≤ a.2.1 ∧ a.2.1 < 9223372036854775808) ∧ a.2.2.1.size ≤ 1048576 ∧ True) ∧ True)
theorem toRec_K {w : World} {p : RecT} (h : GoodRW w p) : RecK (toRec p) ∧ RecR w (toRec p) := by
  obtain ⟨h0, ⟨h1, ⟨h2, h3, h4, h5⟩, _⟩, ⟨h6, h7, ⟨h8, h9, h10, h11⟩, ⟨h12, h13, h14, h15⟩, _⟩, h16, ⟨h17, h18, h19, h20⟩, _⟩ := h
  exact bulkK h0 h1 h2 h3 h4 h5 h6 h7 h8 h9 h10 h11 h12 h13 h14 h15 h16 h17 h18 h19 h20

/-! A journal cut at any place. -/
def bsI (id : Nat) (ks : List Rec) : Tx := beginL id ++ ks.flatMap frR
theorem bsI_snoc (id : Nat) (ks : List Rec) (x : Rec) : bsI id ks ++ frameL (recB x) = bsI id (ks ++ [x]) := by unfold bsI; simp
theorem beg_ok {id : Nat} : ¬ 262144 < (0 :: putN id).length := by
  have := putN_len id
  simp only [List.length_cons]; omega
theorem beg_other {a b : Nat} (ha : a < 18446744073709551616) (hb : b < 18446744073709551616) (h : a ≠ b) (t : Tx) : scO b (beginL a ++ t) = false := by
  refine decide_eq_false fun hp => h ?_
  obtain ⟨u, hu⟩ : ∃ u, beginL a ++ t = beginL b ++ u := ⟨(beginL a ++ t).drop (beginL b).length, by
    have h9 := List.take_append_drop (beginL b).length (beginL a ++ t)
    rw [hp] at h9
    exact h9.symm⟩
  have h1 := (unfr_frame (beg_ok (id := a)) t).2.1
  have h2 := (unfr_frame (beg_ok (id := b)) u).2.1
  have h3 : (0 : UInt8) :: putN a = 0 :: putN b := by
    rw [← h1, ← h2]
    exact congrArg unfrL hu
  have h4 : putN a = putN b := List.cons.inj h3 |>.2
  have g1 := get_put ha []
  have g2 := get_put hb []
  rw [h4] at g1
  rw [g1] at g2
  exact congrArg Prod.fst g2
theorem scan_cut : ∀ (ks : List Rec) (f n : Nat), (∀ x ∈ ks, OKr x) → ((ks.flatMap frR).take n).length ≤ f → ∃ j, j ≤ ks.length ∧ scanF f ((ks.flatMap frR).take n) = (ks.take j, ((ks.take j).flatMap frR).length) ∧ ((ks.take j).flatMap frR).length ≤ n
  | [], f, n, _, _ => ⟨0, Nat.le_refl _, by rw [List.flatMap_nil, List.take_nil]; exact scan_bad (by decide), Nat.zero_le _⟩
  | x :: ks, f, n, h, hf => by
    obtain ⟨o1, o2, o3⟩ := h x (List.Mem.head _)
    have hl := frame_len o3
    rw [List.flatMap_cons] at hf ⊢
    by_cases hn : n < (frR x).length
    · refine ⟨0, Nat.zero_le _, ?_, Nat.zero_le _⟩
      have e : (frR x ++ ks.flatMap frR).take n = (frR x).take n := List.take_append_of_le_length (by omega)
      rw [e]
      refine scan_bad ?_
      have hlt : ((frR x).take n).length = n := by rw [List.length_take]; omega
      by_cases h4 : n < 4
      · rw [unfr_1 (by omega)]; decide
      · have h5 : fourN ((frR x).take n) = (recB x).length := by
          have e1 := fourN_take ((frR x).take n)
          have e2 := fourN_take (frR x)
          rw [List.take_take, Nat.min_eq_left (by omega)] at e1
          have e3 : fourN (frR x) = (recB x).length := by
            have e4 : frR x = four4 (recB x).length ++ (recB x ++ four4 (sumS (four4 (recB x).length ++ recB x))) := by
              show frameL (recB x) = _
              rw [frame_is o3]; simp only [List.append_assoc]
            rw [e4]; exact four_back (by omega) _
          rw [← e1, e2, e3]
        have hl2 : (frR x).length = (recB x).length + 8 := hl
        rw [unfr_3 (by omega) (by omega) (by omega)]; decide
    · have hl2 : (frR x).length = (recB x).length + 8 := hl
      have e : (frR x ++ ks.flatMap frR).take n = frameL (recB x) ++ (ks.flatMap frR).take (n - (frR x).length) := by rw [List.take_append, List.take_of_length_le (by omega)]
      rw [e] at hf ⊢
      rw [List.length_append] at hf
      obtain ⟨u1, u2, u3⟩ := unfr_frame o3 ((ks.flatMap frR).take (n - (frR x).length))
      cases f with
      | zero => omega
      | succ f =>
        obtain ⟨j, j1, j2, j3⟩ := scan_cut ks f (n - (frR x).length) (fun y hy => h y (List.Mem.tail _ hy)) (by omega)
        refine ⟨j + 1, by simp only [List.length_cons]; omega, ?_, ?_⟩
        · rw [scan_some (x := x) u1 (by rw [u2]; exact (load_rec o1 o2 o3).1), u3, List.drop_left, j2, List.take_succ_cons, List.flatMap_cons, List.length_append]
        · rw [List.take_succ_cons, List.flatMap_cons, List.length_append]; omega
theorem rcut_no {id k : Nat} {b : Tx} (h : scO id (b.take k) = false) (hp : b.take (beginL id).length = beginL id) : k < (beginL id).length := by
  refine Decidable.byContradiction fun hk => ?_
  have : scO id (b.take k) = true := decide_eq_true (by rw [List.take_take, Nat.min_eq_left (by omega)]; exact hp)
  rw [h] at this; cases this
theorem bsI_pre (id : Nat) (ks : List Rec) : (bsI id ks).take (beginL id).length = beginL id := by unfold bsI; rw [List.take_left]
theorem rcut_yes {id k : Nat} {ks : List Rec} (h : ∀ x ∈ ks, OKr x) (hk : k ≤ (bsI id ks).length) (ho : scO id ((bsI id ks).take k) = true) : ∃ j, j ≤ ks.length ∧ scL id ((bsI id ks).take k) = ks.take j ∧ scN id ((bsI id ks).take k) ≤ k ∧ (k = (bsI id ks).length → j = ks.length) := by
  have hle := scO_le ho
  rw [List.length_take, Nat.min_eq_left hk] at hle
  have hd : ((bsI id ks).take k).drop (beginL id).length = (ks.flatMap frR).take (k - (beginL id).length) := by
    unfold bsI
    rw [List.drop_take, List.drop_left]
  by_cases hkl : k = (bsI id ks).length
  · have hf := flat_pos (p := frR) (l := ks) (fun x hx => by
      show 1 ≤ (frameL (recB x)).length
      rw [frame_len (h x hx).2.2]; omega)
    have hlen : (bsI id ks).length = (beginL id).length + (ks.flatMap frR).length := by unfold bsI; rw [List.length_append]
    have hs := scan_frames ks ((bsI id ks).take k).length [] h (by decide) (by rw [List.length_take]; omega)
    rw [List.append_nil] at hs
    have hs2 : scanF ((bsI id ks).take k).length (((bsI id ks).take k).drop (beginL id).length) = (ks, (ks.flatMap frR).length) := by
      rw [hd, show (ks.flatMap frR).take (k - (beginL id).length) = ks.flatMap frR from List.take_of_length_le (by omega)]; exact hs
    obtain ⟨e1, e2⟩ := sc_2 ho hs2
    exact ⟨ks.length, Nat.le_refl _, by rw [e1, List.take_length], by rw [e2]; omega, fun _ => rfl⟩
  · obtain ⟨j, j1, j2, j3⟩ := scan_cut ks ((bsI id ks).take k).length (k - (beginL id).length) h (by rw [List.length_take, List.length_take]; unfold bsI; rw [List.length_append]; omega)
    have hs2 : scanF ((bsI id ks).take k).length (((bsI id ks).take k).drop (beginL id).length) = (ks.take j, ((ks.take j).flatMap frR).length) := by rw [hd]; exact j2
    obtain ⟨e1, e2⟩ := sc_2 ho hs2
    exact ⟨j, j1, e1, by rw [e2]; omega, fun he => absurd he hkl⟩
theorem scan_all_bs {id : Nat} {ks : List Rec} (h : ∀ x ∈ ks, OKr x) : scO id (bsI id ks) = true ∧ scL id (bsI id ks) = ks ∧ scN id (bsI id ks) = (bsI id ks).length := by
  have ho : scO id (bsI id ks) = true := decide_eq_true (bsI_pre id ks)
  have hf := flat_pos (p := frR) (l := ks) (fun x hx => by
    show 1 ≤ (frameL (recB x)).length
    rw [frame_len (h x hx).2.2]; omega)
  have hs : scanF (bsI id ks).length ((bsI id ks).drop (beginL id).length) = (ks, (ks.flatMap frR).length) := by
    have := scan_frames ks (bsI id ks).length [] h (by decide) (by unfold bsI; rw [List.length_append]; omega)
    rw [List.append_nil] at this
    unfold bsI at this ⊢
    rw [List.drop_left]; exact this
  obtain ⟨e1, e2⟩ := sc_2 ho hs
  exact ⟨ho, e1, by rw [e2]; unfold bsI; rw [List.length_append]⟩
theorem wu64_nat (n : Nat) : IntKind.u64.wrap ((n : Int) + 1) = (((n + 1) % 18446744073709551616 : Nat) : Int) := by
  unfold IntKind.wrap
  simp [IntKind.signed, IntKind.bits]
theorem recL_eq {a b : RecM} (h : recOf a = recOf b) (hb : RecL b) : RecL a := by
  have h1 : a.tn = b.tn := congrArg (fun x : Rec => x.t.n) h
  have h2 : a.cs = b.cs := congrArg (fun x : Rec => x.t.cs) h
  have h3 : a.rn = b.rn := congrArg (fun x : Rec => x.r.n) h
  have h4 : a.rt = b.rt := congrArg (fun x : Rec => x.r.t) h
  have h5 : a.ds = b.ds := congrArg (fun x : Rec => x.r.ds) h
  have h6 : a.ms = b.ms := congrArg (fun x : Rec => x.r.ms) h
  have h7 : a.nm = b.nm := congrArg (fun x : Rec => x.nm) h
  have h8 : rows a = rows b := congrArg (fun x : Rec => x.rows) h
  refine ⟨h1 ▸ hb.tn, h3 ▸ hb.rn, h4 ▸ hb.rt, h7 ▸ hb.nm, h2 ▸ hb.cs, h5 ▸ hb.ds, h6 ▸ hb.ms, ?_, fun q hq => ?_⟩
  · have := congrArg List.length h8
    rw [List.length_map, List.length_map] at this
    rw [this]; exact hb.rs
  · have hm : q.2.2 ∈ rows b := h8 ▸ List.mem_map.2 ⟨q, hq, rfl⟩
    obtain ⟨q2, hq2, he⟩ := List.mem_map.1 hm
    rw [← he]; exact hb.row q2 hq2
theorem recB_eq {a b : RecM} (h : recOf a = recOf b) (hb : RecB b) : RecB a := by
  have h1 : a.tn = b.tn := congrArg (fun x : Rec => x.t.n) h
  have h2 : a.cs = b.cs := congrArg (fun x : Rec => x.t.cs) h
  have h3 : a.rn = b.rn := congrArg (fun x : Rec => x.r.n) h
  have h4 : a.rt = b.rt := congrArg (fun x : Rec => x.r.t) h
  have h5 : a.ds = b.ds := congrArg (fun x : Rec => x.r.ds) h
  have h6 : a.ms = b.ms := congrArg (fun x : Rec => x.r.ms) h
  have h7 : a.nm = b.nm := congrArg (fun x : Rec => x.nm) h
  exact ⟨h1 ▸ hb.tn, h3 ▸ hb.rn, h4 ▸ hb.rt, h7 ▸ hb.nm, h2 ▸ hb.cs, h5 ▸ hb.ds, h6 ▸ hb.ms⟩
theorem rd_recsC {X : Cx} {H : List Chunk} {l : List Chunk} {ms : List RecM} {A : Option Addr} (hD : RecsD l ms A) (h : In (big l) H) : Rd X H A (ms.flatMap recC) := fun w hw => (hD w (hw.chunk (big l) h.mem)).1
theorem nrecs_map {l : List RecM} {i : Nat} (h : i < l.length) : recOf (l.getD i rec0M) = (l.map recOf).getD i rec0 := by simp [List.getD, h]
theorem rtake_getD {l : List Rec} {i j : Nat} (h : i < j) : (l.take j).getD i rec0 = l.getD i rec0 := by simp [List.getD, List.getElem?_take, h]

set_option maxRecDepth 20000 in
set_option maxHeartbeats 4000000 in
theorem xCuts (A : Option Addr) (c : Nat) (l : List RecM) (id cut : Nat) (hid : id < 18446744073709551616) (hcu : cut < 18446744073709551616) (hl : l.length ≤ 1048576) (hK : ∀ m ∈ l, RecK m) (w : World) (hr : Reads w A (l.flatMap recC)) (hRR : ∀ m ∈ l, RecR w m) : FnV Try.prog 5 [.slice A l.length c, .int .u64 id, .int .u64 cut] (.bool true) w := by
  have hb3 := frame_len (beg_ok (id := id))
  have hbl : (beginL id).length ≤ 30 := by
    have := putN_len id
    show (frameL (0 :: putN id)).length ≤ 30
    rw [hb3, List.length_cons]; omega
  refine fn_enter Try.func5 rfl Try.ntmps5 rfl ?_
  refine vc_seq ?_
  refine vc_region ?_
  refine vl_val rfl (.some rfl) (val_assign rfl) ?_
  refine vl_nil ?_
  refine vc_seq ?_
  refine vc_region ?_
  refine vl_val rfl (.some rfl) (val_move rfl) ?_
  refine vl_call (C := []) rfl rfl (.some rfl) Try.call18 rfl .nil (fun w hw => xBegin id hid w) (fun v H' h => ?_)
  obtain ⟨B7, d7, rfl, rfl⟩ := h
  show VL _ _ _ _ _ (_ :: _)
  rw [show beginL id = bsI id (([] : List RecM).map recOf) by unfold bsI; simp]
  refine vl_val rfl (.some rfl) (val_assign rfl) ?_
  refine vl_nil ?_
  refine vc_seq ?_
  refine vc_region ?_
  refine vl_val rfl (.some rfl) (val_assign rfl) ?_
  refine vl_nil ?_
  refine vc_seq ?_
  refine vc_seq ?_
  refine vc_region ?_
  refine vl_val rfl (.some rfl) (val_move rfl) ?_
  refine vl_val rfl (.some rfl) (val_lenSl Try.runUnderlying25 rfl) ?_
  refine vl_val rfl (.some rfl) (val_move rfl) ?_
  refine vl_nil ?_
  refine vc_block ?_
  refine vc_nilSl 43 9 ?_
  refine vc_loopw (fun q E H => ∃ (i : Nat) (ins : List RecM) (A7 : Option Addr) (c7 : Nat) (A8 : Option Addr) (c8 : Nat), i ≤ l.length ∧ q = l.length - i ∧ ins.length ≤ i ∧ (∀ m ∈ ins, OKr (recOf m) ∧ RecK m ∧ RecR w m) ∧ (bsI id (ins.map recOf)).length ≤ 800000 ∧ E = [(1, .int .u64 (id : Nat)), (2, .int .u64 (cut : Nat)), (7, .slice A7 (bsI id (ins.map recOf)).length c7), (8, .slice A8 ins.length c8), (25, .slice A l.length c), (26, .int .i64 (l.length : Nat)), (27, .int .i64 i)] ∧ H = [BY A7 (bsI id (ins.map recOf)).length c7 (bsI id (ins.map recOf)), sl A8 ins.length c8 43 9 (ins.flatMap recC)]) (l.length) ⟨_, _, _, ⟨0, [], B7, d7, none, 0, by omega, rfl, Nat.le_refl _, (fun x hx => by cases hx), (by unfold bsI; simp; omega), rfl, rfl⟩, (by repeat (first | exact trivial | refine ⟨rfl, ?_⟩ | refine ⟨le_item rfl (by first | rfl | (congr 1; omega) | (simp; done) | (simp; omega)), ?_⟩)), (by repeat constructor)⟩ ?_
  intro q E H hI
  obtain ⟨i, ins, A7, c7, A8, c8, hi, rfl, hki, hks, hlb, rfl, rfl⟩ := hI
  refine vc_seq ?_
  refine vc_region ?_
  refine vl_val rfl (.some rfl) (val_lt rfl rfl) ?_
  refine vl_nil ?_
  refine vc_seq ?_
  refine vc_cond rfl (fun hc0 => ?_) (fun hc0 => ?_)
  · (try replace hc0 := of_decide_eq_true hc0)
    refine vc_skip ?_
    refine vc_seq ?_
    refine vc_block ?_
    refine vc_seq ?_
    refine vc_region ?_
    refine vl_val rfl (.some rfl) (val_indexAddr Try.runUnderlying25 Try.sizeOf43 rfl rfl (vs := l.flatMap recC) (rd_old hr rfl) (by omega) (by omega) (by rw [recs_len, Int.toNat_natCast]; omega)) ?_
    refine vl_val rfl (.some rfl) (val_loadAgg Try.isAgg43 Try.sizeOf43 rfl (cells_rd (us := recC (l.getD i rec0M)) (rd_old hr rfl) (nrecs_at (by omega))) rfl) ?_
    refine vl_alloc rfl rfl (.some rfl) Try.zeroValue43 (fun r10 => ?_)
    first | refine vl_store rfl rfl .none rfl rfl Try.sizeOf43 rfl (by repeat constructor) (by first | decide | exact Nat.le_refl _ | exact Nat.le_of_ble_eq_true rfl | (simp; omega)) ?_ | refine vl_storeSl rfl rfl .none rfl rfl Try.sizeOf43 rfl (by simp [Value.cells]) (by repeat constructor) (by first | decide | (simp [Value.cells]; omega)) ?_
    refine vl_nil ?_
    refine vc_seq ?_
    refine vc_region ?_
    refine vl_val rfl (.some rfl) (val_loadAgg Try.isAgg43 Try.sizeOf43 rfl (by first | exact cells_whole (by repeat constructor) | exact cells_part (by repeat constructor) rfl) rfl) ?_
    have hKi := hK _ (nrecs_in (l := l) (i := i) (by omega))
    have hRi := hRR _ (nrecs_in (l := l) (i := i) (by omega))
    refine vl_call (C := []) rfl rfl (.some rfl) Try.call22 rfl .nil (fun w hw => xBytesR (l.getD i rec0M) hKi.s.recL (fun _ => hKi.b) w (rec_here hRi hw)) (fun v H' h => ?_)
    obtain ⟨A11, c11, rfl, rfl⟩ := h
    show VL _ _ _ _ _ (_ :: _)
    refine vl_val rfl (.some rfl) (val_move rfl) ?_
    refine vl_val rfl (.some rfl) (val_extract rfl rfl) ?_
    refine vl_val rfl (.some rfl) (val_extract rfl rfl) ?_
    refine vl_val rfl (.some rfl) (val_assign rfl) ?_
    refine vl_val rfl (.some rfl) (val_assign rfl) ?_
    refine vl_nil ?_
    refine vc_seq ?_
    refine vc_seq ?_
    refine vc_region ?_
    refine vl_val rfl (.some rfl) (val_move rfl) ?_
    refine vl_val rfl (.some rfl) (val_ne rfl rfl) ?_
    refine vl_val rfl (.some rfl) (val_move rfl) ?_
    refine vl_split (t := 38) rfl (fun hg38 => ?_) (fun hg38 => ?_)
    · (try replace hg38 := of_decide_eq_true hg38)
      refine vl_off rfl rfl rfl rfl (.some rfl) ?_
      refine vl_off rfl rfl rfl rfl (.some rfl) ?_
      refine vl_val rfl (.some rfl) (val_pick rfl rfl) ?_
      refine vl_val rfl (.some rfl) (val_move rfl) ?_
      refine vl_off rfl rfl rfl rfl (.some rfl) ?_
      refine vl_off rfl rfl rfl rfl (.some rfl) ?_
      refine vl_off rfl rfl rfl rfl (.some rfl) ?_
      refine vl_val rfl (.some rfl) (val_pick rfl rfl) ?_
      refine vl_nil ?_
      refine vc_cond rfl (fun _ => ?_) (fun h => by cases h)
      refine vc_exit ?_
      refine vc_region ?_
      refine vl_val rfl (.some rfl) (val_add rfl rfl (by first | exact w_i64 (by omega) (by omega) | rfl)) ?_
      refine vl_val rfl (.some rfl) (val_move rfl) ?_
      refine vl_nil ?_
      first
        | exact ⟨(l.length - (i + 1)), _, _, _, by omega, (by repeat (first | exact trivial | refine ⟨rfl, ?_⟩ | refine ⟨le_item rfl (by first | rfl | (congr 1; omega) | (simp; done) | (simp; omega)), ?_⟩)), (by repeat constructor), ⟨i + 1, ins ++ [(l.getD i rec0M)], A52, k52, A56, k56, by omega, rfl, (List.length_append ▸ Nat.succ_le_succ hki), (fun x hx => (List.mem_append.1 hx).elim (hks x) (fun h => by rw [List.mem_singleton.1 h]; exact ⟨hok, hKi, hRi⟩)), (by rw [List.map_append, List.map_cons, List.map_nil, ← bsI_snoc, List.length_append]; omega), rfl, rfl⟩⟩
        | exact ⟨(l.length - (i + 1)), _, _, _, by omega, (by repeat (first | exact trivial | refine ⟨rfl, ?_⟩ | refine ⟨le_item rfl (by first | rfl | (congr 1; omega) | (simp; done) | (simp; omega)), ?_⟩)), (by repeat constructor), ⟨i + 1, ins, A7, c7, A8, c8, by omega, rfl, by omega, hks, hlb, rfl, rfl⟩⟩
    · (try replace hg38 := of_decide_eq_false hg38)
      refine vl_on rfl rfl rfl rfl ?_
      refine vl_val rfl (.some rfl) (val_loadAgg Try.isAgg43 Try.sizeOf43 rfl (by first | exact cells_whole (by repeat constructor) | exact cells_part (by repeat constructor) rfl) rfl) ?_
      refine vl_on rfl rfl rfl rfl ?_
      refine vl_call (C := []) rfl rfl (.some rfl) Try.call21 rfl .nil (fun w hw => xGreat (l.getD i rec0M) hKi.s w (rec_here hRi hw)) (fun v H' h => ?_)
      obtain ⟨gr, rfl, _, rfl⟩ := h
      show VL _ _ _ _ _ _
      refine vl_val rfl (.some rfl) (val_pick rfl rfl) ?_
      refine vl_val rfl (.some rfl) (val_move rfl) ?_
      refine vl_split (t := 42) rfl (fun hg42 => ?_) (fun hg42 => ?_)
      · (try replace hg42 := of_decide_eq_true hg42)
        refine vl_off rfl rfl rfl rfl (.some rfl) ?_
        refine vl_off rfl rfl rfl rfl (.some rfl) ?_
        refine vl_off rfl rfl rfl rfl (.some rfl) ?_
        refine vl_val rfl (.some rfl) (val_pick rfl rfl) ?_
        refine vl_nil ?_
        refine vc_cond rfl (fun _ => ?_) (fun h => by cases h)
        refine vc_exit ?_
        refine vc_region ?_
        refine vl_val rfl (.some rfl) (val_add rfl rfl (by first | exact w_i64 (by omega) (by omega) | rfl)) ?_
        refine vl_val rfl (.some rfl) (val_move rfl) ?_
        refine vl_nil ?_
        first
          | exact ⟨(l.length - (i + 1)), _, _, _, by omega, (by repeat (first | exact trivial | refine ⟨rfl, ?_⟩ | refine ⟨le_item rfl (by first | rfl | (congr 1; omega) | (simp; done) | (simp; omega)), ?_⟩)), (by repeat constructor), ⟨i + 1, ins ++ [(l.getD i rec0M)], A52, k52, A56, k56, by omega, rfl, (List.length_append ▸ Nat.succ_le_succ hki), (fun x hx => (List.mem_append.1 hx).elim (hks x) (fun h => by rw [List.mem_singleton.1 h]; exact ⟨hok, hKi, hRi⟩)), (by rw [List.map_append, List.map_cons, List.map_nil, ← bsI_snoc, List.length_append]; omega), rfl, rfl⟩⟩
          | exact ⟨(l.length - (i + 1)), _, _, _, by omega, (by repeat (first | exact trivial | refine ⟨rfl, ?_⟩ | refine ⟨le_item rfl (by first | rfl | (congr 1; omega) | (simp; done) | (simp; omega)), ?_⟩)), (by repeat constructor), ⟨i + 1, ins, A7, c7, A8, c8, by omega, rfl, by omega, hks, hlb, rfl, rfl⟩⟩
      · (try replace hg42 := of_decide_eq_false hg42)
        refine vl_on rfl rfl rfl rfl ?_
        refine vl_val rfl (.some rfl) (val_move rfl) ?_
        refine vl_on rfl rfl rfl rfl ?_
        refine vl_val rfl (.some rfl) (val_lenSl Try.runUnderlying22 rfl) ?_
        refine vl_on rfl rfl rfl rfl ?_
        refine vl_val rfl (.some rfl) (val_gt rfl rfl) ?_
        refine vl_val rfl (.some rfl) (val_pick rfl rfl) ?_
        refine vl_nil ?_
        refine vc_cond rfl (fun hc1 => ?_) (fun hc1 => ?_)
        · (try replace hc1 := of_decide_eq_true hc1)
          refine vc_exit ?_
          refine vc_region ?_
          refine vl_val rfl (.some rfl) (val_add rfl rfl (by first | exact w_i64 (by omega) (by omega) | rfl)) ?_
          refine vl_val rfl (.some rfl) (val_move rfl) ?_
          refine vl_nil ?_
          first
            | exact ⟨(l.length - (i + 1)), _, _, _, by omega, (by repeat (first | exact trivial | refine ⟨rfl, ?_⟩ | refine ⟨le_item rfl (by first | rfl | (congr 1; omega) | (simp; done) | (simp; omega)), ?_⟩)), (by repeat constructor), ⟨i + 1, ins ++ [(l.getD i rec0M)], A52, k52, A56, k56, by omega, rfl, (List.length_append ▸ Nat.succ_le_succ hki), (fun x hx => (List.mem_append.1 hx).elim (hks x) (fun h => by rw [List.mem_singleton.1 h]; exact ⟨hok, hKi, hRi⟩)), (by rw [List.map_append, List.map_cons, List.map_nil, ← bsI_snoc, List.length_append]; omega), rfl, rfl⟩⟩
            | exact ⟨(l.length - (i + 1)), _, _, _, by omega, (by repeat (first | exact trivial | refine ⟨rfl, ?_⟩ | refine ⟨le_item rfl (by first | rfl | (congr 1; omega) | (simp; done) | (simp; omega)), ?_⟩)), (by repeat constructor), ⟨i + 1, ins, A7, c7, A8, c8, by omega, rfl, by omega, hks, hlb, rfl, rfl⟩⟩
        · (try replace hc1 := of_decide_eq_false hc1)
          obtain ⟨hok1, hok2⟩ := byt_zero (x := recOf (l.getD i rec0M)) (by omega)
          obtain ⟨e1, e2⟩ := byt_ok hok1 hok2
          have hok : OKr (recOf (l.getD i rec0M)) := ⟨hok1, hKi.w, hok2⟩
          rw [e1]
          have hlb2 : (bsI id (ins.map recOf)).length ≤ 500000 := by omega
          refine vc_skip ?_
          refine vc_seq ?_
          refine vc_region ?_
          refine vl_lit0 sT22 Try.sizeOf5 rfl rfl (.some rfl) (fun r47 => ?_)
          refine vl_val rfl (.some rfl) (val_move rfl) ?_
          refine vl_append (vs := []) (us := bcells (bsI id (ins.map recOf))) sT22 rfl rfl (.some rfl) rfl rfl (rd_sl (vs := bcells (bsI id (ins.map recOf))) (by repeat constructor)) (by rw [bcells_length, Nat.mul_one]) (one_b _) (by omega) (by omega) (by repeat constructor) (fun A49 k49 => ?_)
          rw [List.nil_append, Nat.zero_add]
          refine vl_val rfl (.some rfl) (val_move rfl) ?_
          refine vl_call (C := []) rfl rfl (.some rfl) Try.call29 rfl .nil (fun w hw => cFrame A11 c11 (recB (recOf (l.getD i rec0M))) (by omega) w (rdw (rd_sl (vs := bcells (recB (recOf (l.getD i rec0M)))) (by repeat constructor)) hw)) (fun v H' h => ?_)
          obtain ⟨A51, c51, rfl, rfl⟩ := h
          show VL _ _ _ _ _ (_ :: _)
          have hfl := frame_len hok.2.2
          refine vl_append (us := bcells (frameL (recB (recOf (l.getD i rec0M))))) sT22 rfl rfl (.some rfl) rfl rfl (rd_sl (by repeat constructor)) (by rw [bcells_length, Nat.mul_one]) (one_b _) (by omega) (by omega) (by repeat constructor) (fun A52 k52 => ?_)
          rw [bcells_app, ← List.length_append, bsI_snoc, show (ins.map recOf) ++ [recOf (l.getD i rec0M)] = (ins ++ [(l.getD i rec0M)]).map recOf by simp]
          refine vl_val rfl (.some rfl) (val_assign rfl) ?_
          refine vl_nil ?_
          refine vc_region ?_
          refine vl_val rfl (.some rfl) (val_move rfl) ?_
          refine vl_val rfl (.some rfl) (val_loadAgg Try.isAgg43 Try.sizeOf43 rfl (by first | exact cells_whole (by repeat constructor) | exact cells_part (by repeat constructor) rfl) rfl) ?_
          refine vl_lit sT25 rfl rfl (.some rfl) rfl rfl rfl (by decide) (by decide) rfl rfl (fun r55 => ?_)
          refine vl_append (vs := ins.flatMap recC) (us := recC (l.getD i rec0M)) sT25 rfl rfl (.some rfl) rfl rfl (rd_sl (by repeat constructor)) rfl rfl (by omega) (by omega) (by repeat constructor) (fun A56 k56 => ?_)
          rw [show ins.flatMap recC ++ recC (l.getD i rec0M) = (ins ++ [(l.getD i rec0M)]).flatMap recC by simp, show ins.length + 1 = (ins ++ [(l.getD i rec0M)]).length by simp]
          refine vl_val rfl (.some rfl) (val_assign rfl) ?_
          refine vl_nil ?_
          refine vc_region ?_
          refine vl_val rfl (.some rfl) (val_add rfl rfl (by first | exact w_i64 (by omega) (by omega) | rfl)) ?_
          refine vl_val rfl (.some rfl) (val_move rfl) ?_
          refine vl_nil ?_
          first
            | exact ⟨(l.length - (i + 1)), _, _, _, by omega, (by repeat (first | exact trivial | refine ⟨rfl, ?_⟩ | refine ⟨le_item rfl (by first | rfl | (congr 1; omega) | (simp; done) | (simp; omega)), ?_⟩)), (by repeat constructor), ⟨i + 1, ins ++ [(l.getD i rec0M)], A52, k52, A56, k56, by omega, rfl, (List.length_append ▸ Nat.succ_le_succ hki), (fun x hx => (List.mem_append.1 hx).elim (hks x) (fun h => by rw [List.mem_singleton.1 h]; exact ⟨hok, hKi, hRi⟩)), (by rw [List.map_append, List.map_cons, List.map_nil, ← bsI_snoc, List.length_append]; omega), rfl, rfl⟩⟩
            | exact ⟨(l.length - (i + 1)), _, _, _, by omega, (by repeat (first | exact trivial | refine ⟨rfl, ?_⟩ | refine ⟨le_item rfl (by first | rfl | (congr 1; omega) | (simp; done) | (simp; omega)), ?_⟩)), (by repeat constructor), ⟨i + 1, ins, A7, c7, A8, c8, by omega, rfl, by omega, hks, hlb, rfl, rfl⟩⟩
  · (try replace hc0 := of_decide_eq_false hc0)
    refine vc_exit ?_
    refine vc_seq ?_
    refine vc_region ?_
    refine vl_val rfl (.some rfl) (val_move rfl) ?_
    refine vl_val rfl (.some rfl) (val_move rfl) ?_
    refine vl_slCap (A := A7) (n := (bsI id (ins.map recOf)).length) (c := c7) (sz := 1) (e := 5) (vs := bcells (bsI id (ins.map recOf))) (by repeat constructor) (fun hcap => ?_)
    have hoks : ∀ x ∈ (ins.map recOf), OKr x := fun x hx => by
      obtain ⟨m, hm, rfl⟩ := List.mem_map.1 hx
      exact (hks m hm).1
    obtain ⟨f1, f2, f3⟩ := scan_all_bs (id := id) hoks
    refine vl_call (C := []) rfl rfl (.some rfl) Try.call15 rfl .nil (fun w hw => xScan A7 c7 (bsI id (ins.map recOf)) (by first | omega | (rw [List.length_take]; omega)) (hcap) id hid w (rdw (rd_sl (vs := bcells (bsI id (ins.map recOf))) (by repeat constructor)) hw)) (fun v H' h => ?_)
    obtain ⟨ms4, A4, c4, l4, rfl, hms4, hD4, hH4⟩ := h
    rw [hH4]
    refine vl_eqv (eqv_big l4 _).symm ?_
    rw [f2] at hms4
    have hml : ms4.length = ins.length := by have := congrArg List.length hms4; simpa using this
    rw [f1, f3, hml]
    refine vl_val rfl (.some rfl) (val_move rfl) ?_
    refine vl_val rfl (.some rfl) (val_extract rfl rfl) ?_
    refine vl_val rfl (.some rfl) (val_extract rfl rfl) ?_
    refine vl_val rfl (.some rfl) (val_extract rfl rfl) ?_
    refine vl_val rfl (.some rfl) (val_assign rfl) ?_
    refine vl_val rfl (.some rfl) (val_assign rfl) ?_
    refine vl_val rfl (.some rfl) (val_assign rfl) ?_
    refine vl_nil ?_
    refine vc_seq ?_
    refine vc_seq ?_
    refine vc_region ?_
    refine vl_val rfl (.some rfl) (val_move rfl) ?_
    refine vl_val rfl (.some rfl) (val_not rfl) ?_
    refine vl_val rfl (.some rfl) (val_move rfl) ?_
    refine vl_split (t := 67) rfl (fun hg67 => ?_) (fun hg67 => ?_)
    · (try replace hg67 := of_decide_eq_true hg67)
      refine vl_off rfl rfl rfl rfl (.some rfl) ?_
      refine vl_off rfl rfl rfl rfl (.some rfl) ?_
      refine vl_off rfl rfl rfl rfl (.some rfl) ?_
      refine vl_off rfl rfl rfl rfl (.some rfl) ?_
      refine vl_val rfl (.some rfl) (val_pick rfl rfl) ?_
      refine vl_val rfl (.some rfl) (val_move rfl) ?_
      refine vl_off rfl rfl rfl rfl (.some rfl) ?_
      refine vl_off rfl rfl rfl rfl (.some rfl) ?_
      refine vl_off rfl rfl rfl rfl (.some rfl) ?_
      refine vl_off rfl rfl rfl rfl (.some rfl) ?_
      refine vl_off rfl rfl rfl rfl (.some rfl) ?_
      refine vl_val rfl (.some rfl) (val_pick rfl rfl) ?_
      refine vl_nil ?_
      refine vc_cond rfl (fun _ => ?_) (fun h => by cases h)
      refine vc_seq ?_
      refine vc_region ?_
      refine vl_val rfl (.some rfl) (val_assign rfl) ?_
      refine vl_nil ?_
      refine vc_ret ?_
      refine ⟨_, [], _, res1 Try.results5 rfl, .nil, ?_⟩
      first | rfl | (exfalso; first | omega | contradiction | exact absurd rfl (by assumption) | (simp_all; done))
    · (try replace hg67 := of_decide_eq_false hg67)
      refine vl_on rfl rfl rfl rfl ?_
      refine vl_val rfl (.some rfl) (val_move rfl) ?_
      refine vl_on rfl rfl rfl rfl ?_
      refine vl_val rfl (.some rfl) (val_move rfl) ?_
      refine vl_on rfl rfl rfl rfl ?_
      refine vl_val rfl (.some rfl) (val_lenSl Try.runUnderlying22 rfl) ?_
      refine vl_on rfl rfl rfl rfl ?_
      refine vl_val rfl (.some rfl) (val_net rfl rfl (rfl)) ?_
      refine vl_val rfl (.some rfl) (val_pick rfl rfl) ?_
      refine vl_val rfl (.some rfl) (val_move rfl) ?_
      refine vl_on rfl rfl rfl rfl ?_
      refine vl_val rfl (.some rfl) (val_move rfl) ?_
      refine vl_on rfl rfl rfl rfl ?_
      refine vl_val rfl (.some rfl) (val_lenSl Try.runUnderlying25 rfl) ?_
      refine vl_on rfl rfl rfl rfl ?_
      refine vl_val rfl (.some rfl) (val_move rfl) ?_
      refine vl_on rfl rfl rfl rfl ?_
      refine vl_val rfl (.some rfl) (val_lenSl Try.runUnderlying25 rfl) ?_
      refine vl_on rfl rfl rfl rfl ?_
      refine vl_val rfl (.some rfl) (val_net rfl rfl (rfl)) ?_
      refine vl_val rfl (.some rfl) (val_pick rfl rfl) ?_
      refine vl_nil ?_
      refine vc_cond rfl (fun h => by cases h) (fun _ => ?_)
      refine vc_skip ?_
      refine vc_seq ?_
      refine vc_seq ?_
      refine vc_region ?_
      refine vl_val rfl (.some rfl) (val_move rfl) ?_
      refine vl_val rfl (.some rfl) (val_move rfl) ?_
      refine vl_val rfl (.some rfl) (val_add rfl rfl (wu64_nat id)) ?_
      have f5 : scO ((id + 1) % 18446744073709551616) (bsI id (ins.map recOf)) = false := beg_other hid (Nat.mod_lt _ (by decide)) (by omega) _
      refine vl_call (C := []) rfl rfl (.some rfl) Try.call15 rfl .nil (fun w hw => xScan A7 c7 (bsI id (ins.map recOf)) (by first | omega | (rw [List.length_take]; omega)) (hcap) ((id + 1) % 18446744073709551616) (Nat.mod_lt _ (by decide)) w (rdw (rd_sl (vs := bcells (bsI id (ins.map recOf))) (by repeat constructor)) hw)) (fun v H' h => ?_)
      obtain ⟨ms5, A5, c5, l5, rfl, hms5, hD5, hH5⟩ := h
      rw [hH5]
      refine vl_eqv (eqv_big l5 _).symm ?_
      rw [f5]
      refine vl_val rfl (.some rfl) (val_move rfl) ?_
      refine vl_val rfl (.some rfl) (val_extract rfl rfl) ?_
      refine vl_val rfl (.some rfl) (val_extract rfl rfl) ?_
      refine vl_val rfl (.some rfl) (val_extract rfl rfl) ?_
      refine vl_val rfl (.some rfl) (val_assign rfl) ?_
      refine vl_val rfl (.some rfl) (val_assign rfl) ?_
      refine vl_val rfl (.some rfl) (val_assign rfl) ?_
      refine vl_nil ?_
      refine vc_seq ?_
      refine vc_region ?_
      refine vl_val rfl (.some rfl) (val_move rfl) ?_
      refine vl_nil ?_
      refine vc_cond rfl (fun hc3 => False.elim (by (try replace hc3 := of_decide_eq_true hc3); cases hc3)) (fun hc3 => ?_)
      (try replace hc3 := of_decide_eq_false hc3)
      refine vc_skip ?_
      refine vc_seq ?_
      refine vc_region ?_
      refine vl_val rfl (.some rfl) (val_move rfl) ?_
      refine vl_val rfl (.some rfl) (val_move rfl) ?_
      refine vl_val rfl (.some rfl) (val_lenSl Try.runUnderlying22 rfl) ?_
      refine vl_val rfl (.some rfl) (val_add rfl rfl (by first | exact w_i64 (by omega) (by omega) | rfl)) ?_
      refine vl_val rfl (.some rfl) (val_convInt Try.runUnderlying3 Try.runUnderlying59 rfl (show _ = (((bsI id (ins.map recOf)).length + 1 : Nat) : Int) by rw [w_u64 (by omega) (by omega)]; omega)) ?_
      refine vl_val rfl (.some rfl) (val_rem rfl rfl (by omega) (show _ = (((cut % ((bsI id (ins.map recOf)).length + 1)) : Nat) : Int) by rw [rem_nn (by omega)]; rfl)) ?_
      refine vl_val rfl (.some rfl) (val_convInt Try.runUnderlying59 Try.runUnderlying3 rfl (show _ = (((cut % ((bsI id (ins.map recOf)).length + 1)) : Nat) : Int) from w_i64 (by omega) (by have := Nat.mod_lt cut (show 0 < (bsI id (ins.map recOf)).length + 1 by omega); omega))) ?_
      refine vl_val rfl (.some rfl) (val_assign rfl) ?_
      refine vl_nil ?_
      refine vc_seq ?_
      refine vc_region ?_
      refine vl_val rfl (.some rfl) (val_move rfl) ?_
      refine vl_val rfl (.some rfl) (val_move rfl) ?_
      have hkb := Nat.mod_lt cut (show 0 < (bsI id (ins.map recOf)).length + 1 by omega)
      obtain ⟨k, hk⟩ : ∃ k, (cut % ((bsI id (ins.map recOf)).length + 1)) = k := ⟨_, rfl⟩
      rw [hk] at hkb ⊢
      refine vl_val rfl (.some rfl) (val_cutTo Try.runUnderlying22 Try.sizeOf5 rfl rfl (by omega) (by omega)) ?_
      rw [Int.toNat_natCast, show Value.slice A7 k c7 = .slice A7 ((bsI id (ins.map recOf)).take k).length c7 by rw [List.length_take, Nat.min_eq_left (by omega)]]
      refine vl_val rfl (.some rfl) (val_move rfl) ?_
      refine vl_call (C := []) rfl rfl (.some rfl) Try.call15 rfl .nil (fun w hw => xScan A7 c7 ((bsI id (ins.map recOf)).take k) (by first | omega | (rw [List.length_take]; omega)) (by rw [List.length_take]; omega) id hid w (reads_takeB (rdw (rd_sl (vs := bcells (bsI id (ins.map recOf))) (by repeat constructor)) hw) k)) (fun v H' h => ?_)
      obtain ⟨ms6, A6, c6, l6, rfl, hms6, hD6, hH6⟩ := h
      rw [hH6]
      refine vl_eqv (eqv_big l6 _).symm ?_
      refine vl_val rfl (.some rfl) (val_move rfl) ?_
      refine vl_val rfl (.some rfl) (val_extract rfl rfl) ?_
      refine vl_val rfl (.some rfl) (val_extract rfl rfl) ?_
      refine vl_val rfl (.some rfl) (val_extract rfl rfl) ?_
      refine vl_val rfl (.some rfl) (val_assign rfl) ?_
      refine vl_val rfl (.some rfl) (val_assign rfl) ?_
      refine vl_val rfl (.some rfl) (val_assign rfl) ?_
      refine vl_nil ?_
      refine vc_seq ?_
      refine vc_seq ?_
      refine vc_region ?_
      refine vl_val rfl (.some rfl) (val_move rfl) ?_
      refine vl_val rfl (.some rfl) (val_not rfl) ?_
      refine vl_nil ?_
      refine vc_cond rfl (fun hc4 => ?_) (fun hc4 => ?_)
      · (try replace hc4 := of_decide_eq_true hc4)
        have hpo : scO id ((bsI id (ins.map recOf)).take k) = false := by simpa using hc4
        have hkh := rcut_no hpo (bsI_pre id (ins.map recOf))
        obtain ⟨q1, q2⟩ := sc_1 hpo
        have hm0 : ms6 = [] := by rw [q1] at hms6; simpa using hms6
        rw [q2, hm0, List.length_nil]
        refine vc_seq ?_
        refine vc_region ?_
        refine vl_val rfl (.some rfl) (val_move rfl) ?_
        refine vl_val rfl (.some rfl) (val_move rfl) ?_
        refine vl_call (C := []) rfl rfl (.some rfl) Try.call18 rfl .nil (fun w hw => xBegin id hid w) (fun v H' h => ?_)
        obtain ⟨A109, c109, rfl, rfl⟩ := h
        show VL _ _ _ _ _ (_ :: _)
        refine vl_val rfl (.some rfl) (val_lenSl Try.runUnderlying22 rfl) ?_
        refine vl_val rfl (.some rfl) (val_lt rfl rfl) ?_
        refine vl_val rfl (.some rfl) (val_move rfl) ?_
        refine vl_split (t := 112) rfl (fun hg112 => ?_) (fun hg112 => ?_)
        · (try replace hg112 := of_decide_eq_true hg112)
          refine vl_on rfl rfl rfl rfl ?_
          refine vl_val rfl (.some rfl) (val_move rfl) ?_
          refine vl_on rfl rfl rfl rfl ?_
          refine vl_val rfl (.some rfl) (val_eqt rfl rfl (rfl)) ?_
          refine vl_val rfl (.some rfl) (val_pick rfl rfl) ?_
          refine vl_val rfl (.some rfl) (val_move rfl) ?_
          refine vl_on rfl rfl rfl rfl ?_
          refine vl_val rfl (.some rfl) (val_move rfl) ?_
          refine vl_on rfl rfl rfl rfl ?_
          refine vl_val rfl (.some rfl) (val_lenSl Try.runUnderlying25 rfl) ?_
          refine vl_on rfl rfl rfl rfl ?_
          refine vl_val rfl (.some rfl) (val_eqt rfl rfl (rfl)) ?_
          refine vl_val rfl (.some rfl) (val_pick rfl rfl) ?_
          refine vl_val rfl (.some rfl) (val_move rfl) ?_
          refine vl_on rfl rfl rfl rfl ?_
          refine vl_call (C := []) rfl rfl (.some rfl) Try.call14 rfl .nil (fun w hw => xLives w) (fun v H' h => ?_)
          obtain ⟨rfl, rfl⟩ := h
          show VL _ _ _ _ _ _
          refine vl_val rfl (.some rfl) (val_pick rfl rfl) ?_
          refine vl_val rfl (.some rfl) (val_assign rfl) ?_
          refine vl_nil ?_
          refine vc_ret ?_
          refine ⟨_, [], _, res1 Try.results5 rfl, .nil, ?_⟩
          first | rfl | (exfalso; first | omega | contradiction | exact absurd rfl (by assumption) | (simp_all; done))
        · (try replace hg112 := of_decide_eq_false hg112)
          refine vl_off rfl rfl rfl rfl (.some rfl) ?_
          refine vl_off rfl rfl rfl rfl (.some rfl) ?_
          refine vl_val rfl (.some rfl) (val_pick rfl rfl) ?_
          refine vl_val rfl (.some rfl) (val_move rfl) ?_
          refine vl_off rfl rfl rfl rfl (.some rfl) ?_
          refine vl_off rfl rfl rfl rfl (.some rfl) ?_
          refine vl_off rfl rfl rfl rfl (.some rfl) ?_
          refine vl_val rfl (.some rfl) (val_pick rfl rfl) ?_
          refine vl_val rfl (.some rfl) (val_move rfl) ?_
          refine vl_off rfl rfl rfl rfl (.some rfl) ?_
          refine vl_val rfl (.some rfl) (val_pick rfl rfl) ?_
          refine vl_val rfl (.some rfl) (val_assign rfl) ?_
          refine vl_nil ?_
          refine vc_ret ?_
          refine ⟨_, [], _, res1 Try.results5 rfl, .nil, ?_⟩
          first | rfl | (exfalso; first | omega | contradiction | exact absurd rfl (by assumption) | (simp_all; done))
      · (try replace hc4 := of_decide_eq_false hc4)
        have hpo : scO id ((bsI id (ins.map recOf)).take k) = true := by simpa using hc4
        obtain ⟨j, hj1, hj2, hj3, hj4⟩ := rcut_yes hoks (by omega : k ≤ (bsI id (ins.map recOf)).length) hpo
        rw [List.length_map] at hj1 hj4
        have hm6 : ms6.length = j := by
          have := congrArg List.length (hms6.trans hj2)
          rw [List.length_map, List.length_take, List.length_map] at this
          omega
        refine vc_skip ?_
        refine vc_seq ?_
        refine vc_seq ?_
        refine vc_region ?_
        refine vl_val rfl (.some rfl) (val_move rfl) ?_
        refine vl_val rfl (.some rfl) (val_move rfl) ?_
        refine vl_val rfl (.some rfl) (val_gt rfl rfl) ?_
        refine vl_val rfl (.some rfl) (val_move rfl) ?_
        refine vl_split (t := 127) rfl (fun hg127 => ?_) (fun hg127 => ?_)
        · (try replace hg127 := of_decide_eq_true hg127)
          refine vl_off rfl rfl rfl rfl (.some rfl) ?_
          refine vl_off rfl rfl rfl rfl (.some rfl) ?_
          refine vl_off rfl rfl rfl rfl (.some rfl) ?_
          refine vl_off rfl rfl rfl rfl (.some rfl) ?_
          refine vl_off rfl rfl rfl rfl (.some rfl) ?_
          refine vl_val rfl (.some rfl) (val_pick rfl rfl) ?_
          refine vl_val rfl (.some rfl) (val_move rfl) ?_
          refine vl_off rfl rfl rfl rfl (.some rfl) ?_
          refine vl_off rfl rfl rfl rfl (.some rfl) ?_
          refine vl_off rfl rfl rfl rfl (.some rfl) ?_
          refine vl_off rfl rfl rfl rfl (.some rfl) ?_
          refine vl_off rfl rfl rfl rfl (.some rfl) ?_
          refine vl_offU rfl rfl rfl rfl (.some rfl) ?_
          refine vl_offU rfl rfl rfl rfl (.some rfl) ?_
          refine vl_offU rfl rfl rfl rfl (.some rfl) ?_
          refine vl_offU rfl rfl rfl rfl (.some rfl) ?_
          refine vl_offU rfl rfl rfl rfl (.some rfl) ?_
          refine vl_off rfl rfl rfl rfl (.some rfl) ?_
          refine vl_val rfl (.some rfl) (val_pick rfl rfl) ?_
          refine vl_nil ?_
          refine vc_cond rfl (fun _ => ?_) (fun h => by cases h)
          refine vc_seq ?_
          refine vc_region ?_
          refine vl_val rfl (.some rfl) (val_assign rfl) ?_
          refine vl_nil ?_
          refine vc_ret ?_
          refine ⟨_, [], _, res1 Try.results5 rfl, .nil, ?_⟩
          first | rfl | (exfalso; first | omega | contradiction | exact absurd rfl (by assumption) | (simp_all; done))
        · (try replace hg127 := of_decide_eq_false hg127)
          refine vl_on rfl rfl rfl rfl ?_
          refine vl_val rfl (.some rfl) (val_move rfl) ?_
          refine vl_on rfl rfl rfl rfl ?_
          refine vl_val rfl (.some rfl) (val_lenSl Try.runUnderlying25 rfl) ?_
          refine vl_on rfl rfl rfl rfl ?_
          refine vl_val rfl (.some rfl) (val_move rfl) ?_
          refine vl_on rfl rfl rfl rfl ?_
          refine vl_val rfl (.some rfl) (val_lenSl Try.runUnderlying25 rfl) ?_
          refine vl_on rfl rfl rfl rfl ?_
          refine vl_val rfl (.some rfl) (val_gt rfl rfl) ?_
          refine vl_val rfl (.some rfl) (val_pick rfl rfl) ?_
          refine vl_val rfl (.some rfl) (val_move rfl) ?_
          refine vl_split (t := 134) rfl (fun hg134 => ?_) (fun hg134 => ?_)
          · (try replace hg134 := of_decide_eq_true hg134)
            refine vl_off rfl rfl rfl rfl (.some rfl) ?_
            refine vl_off rfl rfl rfl rfl (.some rfl) ?_
            refine vl_off rfl rfl rfl rfl (.some rfl) ?_
            refine vl_off rfl rfl rfl rfl (.some rfl) ?_
            refine vl_off rfl rfl rfl rfl (.some rfl) ?_
            refine vl_offU rfl rfl rfl rfl (.some rfl) ?_
            refine vl_offU rfl rfl rfl rfl (.some rfl) ?_
            refine vl_offU rfl rfl rfl rfl (.some rfl) ?_
            refine vl_offU rfl rfl rfl rfl (.some rfl) ?_
            refine vl_offU rfl rfl rfl rfl (.some rfl) ?_
            refine vl_off rfl rfl rfl rfl (.some rfl) ?_
            refine vl_val rfl (.some rfl) (val_pick rfl rfl) ?_
            refine vl_nil ?_
            refine vc_cond rfl (fun _ => ?_) (fun h => by cases h)
            refine vc_seq ?_
            refine vc_region ?_
            refine vl_val rfl (.some rfl) (val_assign rfl) ?_
            refine vl_nil ?_
            refine vc_ret ?_
            refine ⟨_, [], _, res1 Try.results5 rfl, .nil, ?_⟩
            first | rfl | (exfalso; first | omega | contradiction | exact absurd rfl (by assumption) | (simp_all; done))
          · (try replace hg134 := of_decide_eq_false hg134)
            refine vl_on rfl rfl rfl rfl ?_
            refine vl_val rfl (.some rfl) (val_move rfl) ?_
            refine vl_on rfl rfl rfl rfl ?_
            refine vl_val rfl (.some rfl) (val_move rfl) ?_
            refine vl_on rfl rfl rfl rfl ?_
            refine vl_val rfl (.some rfl) (val_lenSl Try.runUnderlying22 rfl) ?_
            refine vl_on rfl rfl rfl rfl ?_
            refine vl_val rfl (.some rfl) (val_eq rfl rfl) ?_
            refine vl_on rfl rfl rfl rfl ?_
            refine vl_val rfl (.some rfl) (val_move rfl) ?_
            refine vl_split (t := 139) rfl (fun hg139 => ?_) (fun hg139 => ?_)
            · (try replace hg139 := of_decide_eq_true hg139)
              refine vl_on rfl rfl rfl rfl ?_
              refine vl_val rfl (.some rfl) (val_move rfl) ?_
              refine vl_on rfl rfl rfl rfl ?_
              refine vl_val rfl (.some rfl) (val_lenSl Try.runUnderlying25 rfl) ?_
              refine vl_on rfl rfl rfl rfl ?_
              refine vl_val rfl (.some rfl) (val_move rfl) ?_
              refine vl_on rfl rfl rfl rfl ?_
              refine vl_val rfl (.some rfl) (val_lenSl Try.runUnderlying25 rfl) ?_
              refine vl_on rfl rfl rfl rfl ?_
              refine vl_val rfl (.some rfl) (val_ne rfl rfl) ?_
              refine vl_on rfl rfl rfl rfl ?_
              refine vl_val rfl (.some rfl) (val_pick rfl rfl) ?_
              refine vl_val rfl (.some rfl) (val_pick rfl rfl) ?_
              refine vl_nil ?_
              refine vc_cond rfl (fun hc5 => ?_) (fun hc5 => ?_)
              · (try replace hc5 := of_decide_eq_true hc5)
                refine vc_seq ?_
                refine vc_region ?_
                refine vl_val rfl (.some rfl) (val_assign rfl) ?_
                refine vl_nil ?_
                refine vc_ret ?_
                refine ⟨_, [], _, res1 Try.results5 rfl, .nil, ?_⟩
                first | rfl | (exfalso; first | omega | contradiction | exact absurd rfl (by assumption) | (simp_all; done))
              · (try replace hc5 := of_decide_eq_false hc5)
                refine vc_skip ?_
                refine vc_seq ?_
                refine vc_seq ?_
                refine vc_region ?_
                refine vl_val rfl (.some rfl) (val_move rfl) ?_
                refine vl_val rfl (.some rfl) (val_lenSl Try.runUnderlying25 rfl) ?_
                refine vl_val rfl (.some rfl) (val_move rfl) ?_
                refine vl_nil ?_
                refine vc_block ?_
                refine vc_loopw (fun q E H => ∃ i : Nat, i ≤ ms6.length ∧ q = ms6.length - i ∧ E = [(8, .slice A8 ins.length c8), (20, .slice A6 ms6.length c6), (147, .slice A6 ms6.length c6), (148, .int .i64 (ms6.length : Nat)), (149, .int .i64 i)] ∧ H = [sl A8 ins.length c8 43 9 (ins.flatMap recC), big l6]) (ms6.length) ⟨_, _, _, ⟨0, by omega, rfl, rfl, rfl⟩, (by repeat (first | exact trivial | refine ⟨rfl, ?_⟩ | refine ⟨le_item rfl (by first | rfl | (congr 1; omega) | (simp; done) | (simp; omega)), ?_⟩)), (by repeat constructor)⟩ ?_
                intro q E H hI
                obtain ⟨i, hi, rfl, rfl, rfl⟩ := hI
                refine vc_seq ?_
                refine vc_region ?_
                refine vl_val rfl (.some rfl) (val_lt rfl rfl) ?_
                refine vl_nil ?_
                refine vc_seq ?_
                refine vc_cond rfl (fun hc6 => ?_) (fun hc6 => ?_)
                · (try replace hc6 := of_decide_eq_true hc6)
                  refine vc_skip ?_
                  refine vc_seq ?_
                  refine vc_block ?_
                  refine vc_seq ?_
                  refine vc_region ?_
                  refine vl_val rfl (.some rfl) (val_move rfl) ?_
                  refine vl_val rfl (.some rfl) (val_assign rfl) ?_
                  refine vl_nil ?_
                  refine vc_seq ?_
                  refine vc_draws [0, 1, 2, 3, 4, 5, 6, 7, 10] [] [0, 1, 2, 3, 4, 5, 6, 7, 8, 9, 10] rfl (by kernel_rfl) (fun _ _ _ h => h) ?_
                  refine vd_val rfl rfl rfl (.some rfl) (val_move rfl) ?_
                  refine vd_val rfl rfl rfl (.some rfl) (val_move rfl) ?_
                  refine vd_val rfl rfl rfl (.some rfl) (val_indexAddr Try.runUnderlying25 Try.sizeOf43 rfl rfl (vs := ms6.flatMap recC) (rd_recsC hD6 (by repeat constructor)) (by omega) (by omega) (by rw [recs_len, Int.toNat_natCast]; omega)) ?_
                  refine vd_val rfl rfl rfl (.some rfl) (val_loadAgg Try.isAgg43 Try.sizeOf43 rfl (cells_rd (us := recC (ms6.getD i rec0M)) (rd_recsC hD6 (by repeat constructor)) (nrecs_at (by omega))) rfl) ?_
                  refine vd_val rfl rfl rfl (.some rfl) (val_move rfl) ?_
                  refine vd_val rfl rfl rfl (.some rfl) (val_move rfl) ?_
                  refine vd_val rfl rfl rfl (.some rfl) (val_indexAddr Try.runUnderlying25 Try.sizeOf43 rfl rfl (vs := ins.flatMap recC) (rd_sl (by repeat constructor)) (by omega) (by omega) (by rw [recs_len, Int.toNat_natCast]; omega)) ?_
                  refine vd_val rfl rfl rfl (.some rfl) (val_loadAgg Try.isAgg43 Try.sizeOf43 rfl (cells_rd (us := recC (ins.getD i rec0M)) (rd_sl (by repeat constructor)) (nrecs_at (by omega))) rfl) ?_
                  refine vd_op rfl rfl ?_
                  refine vl_callV rfl rfl (.some rfl) Try.call24 rfl (fun w hw => lPlain (ins.getD i rec0M) w) ?_
                  refine vl_nil ?_
                  refine ⟨fun _ => ⟨_, (by repeat (first | exact .nil | exact sub_self _ | exact sub_skip (sub_self _) | exact sub_skip (sub_skip (sub_self _)) | exact sub_skip (sub_skip (sub_skip (sub_self _))) | (apply Sub.cons; · repeat (first | exact .head | apply Take.tail))))⟩, ?_⟩
                  refine vd_op rfl rfl ?_
                  have hii : i < ins.length := by omega
                  obtain ⟨hok, hKi, hRi⟩ := hks _ (nrecs_in (l := ins) (i := i) hii)
                  have he : recOf (ms6.getD i rec0M) = recOf (ins.getD i rec0M) := by rw [nrecs_map (by omega), nrecs_map hii, hms6, hj2, rtake_getD (by omega)]
                  refine vl_call (C := []) rfl rfl (.some rfl) Try.call20 rfl .nil (fun w hw => xSame (ms6.getD i rec0M) (ins.getD i rec0M) he (.inl ⟨hok.1, hok.2.2⟩) (recL_eq he hKi.s.recL) hKi.s.recL (recB_eq he hKi.b) hKi.b w ((hD6 w (hw.chunk (big l6) (In.mem (by repeat constructor)))).2 _ (nrecs_in (by omega))) (rec_here hRi hw)) (fun v H' h => ?_)
                  obtain ⟨rfl, rfl⟩ := h
                  show VL _ _ _ _ _ _
                  refine vl_nil ?_
                  refine ⟨fun _ => ⟨_, (by repeat (first | exact .nil | exact sub_self _ | exact sub_skip (sub_self _) | exact sub_skip (sub_skip (sub_self _)) | exact sub_skip (sub_skip (sub_skip (sub_self _))) | (apply Sub.cons; · repeat (first | exact .head | apply Take.tail))))⟩, ?_⟩
                  refine vd_val rfl rfl rfl (.some rfl) (val_not rfl) ?_
                  refine vd_nil ?_
                  refine vc_cond rfl (fun h => by cases h) (fun _ => ?_)
                  refine vc_skip ?_
                  refine vc_region ?_
                  refine vl_val rfl (.some rfl) (val_add rfl rfl (by first | exact w_i64 (by omega) (by omega) | rfl)) ?_
                  refine vl_val rfl (.some rfl) (val_move rfl) ?_
                  refine vl_nil ?_
                  exact ⟨(ms6.length - (i + 1)), _, _, _, by omega, (by repeat (first | exact trivial | refine ⟨rfl, ?_⟩ | refine ⟨le_item rfl (by first | rfl | (congr 1; omega) | (simp; done) | (simp; omega)), ?_⟩)), (by repeat constructor), ⟨i + 1, by omega, rfl, rfl, rfl⟩⟩
                · (try replace hc6 := of_decide_eq_false hc6)
                  refine vc_exit ?_
                  refine vc_seq ?_
                  refine vc_region ?_
                  refine vl_call (C := []) rfl rfl (.some rfl) Try.call14 rfl .nil (fun w hw => xLives w) (fun v H' h => ?_)
                  obtain ⟨rfl, rfl⟩ := h
                  show VL _ _ _ _ _ _
                  refine vl_val rfl (.some rfl) (val_assign rfl) ?_
                  refine vl_nil ?_
                  refine vc_ret ?_
                  refine ⟨_, [], _, res1 Try.results5 rfl, .nil, ?_⟩
                  first | rfl | (exfalso; first | omega | contradiction | exact absurd rfl (by assumption) | (simp_all; done))
            · (try replace hg139 := of_decide_eq_false hg139)
              refine vl_off rfl rfl rfl rfl (.some rfl) ?_
              refine vl_off rfl rfl rfl rfl (.some rfl) ?_
              refine vl_off rfl rfl rfl rfl (.some rfl) ?_
              refine vl_off rfl rfl rfl rfl (.some rfl) ?_
              refine vl_off rfl rfl rfl rfl (.some rfl) ?_
              refine vl_on rfl rfl rfl rfl ?_
              refine vl_val rfl (.some rfl) (val_pick rfl rfl) ?_
              refine vl_val rfl (.some rfl) (val_pick rfl rfl) ?_
              refine vl_nil ?_
              refine vc_cond rfl (fun h => by cases h) (fun _ => ?_)
              refine vc_skip ?_
              refine vc_seq ?_
              refine vc_seq ?_
              refine vc_region ?_
              refine vl_val rfl (.some rfl) (val_move rfl) ?_
              refine vl_val rfl (.some rfl) (val_lenSl Try.runUnderlying25 rfl) ?_
              refine vl_val rfl (.some rfl) (val_move rfl) ?_
              refine vl_nil ?_
              refine vc_block ?_
              refine vc_loopw (fun q E H => ∃ i : Nat, i ≤ ms6.length ∧ q = ms6.length - i ∧ E = [(8, .slice A8 ins.length c8), (20, .slice A6 ms6.length c6), (147, .slice A6 ms6.length c6), (148, .int .i64 (ms6.length : Nat)), (149, .int .i64 i)] ∧ H = [sl A8 ins.length c8 43 9 (ins.flatMap recC), big l6]) (ms6.length) ⟨_, _, _, ⟨0, by omega, rfl, rfl, rfl⟩, (by repeat (first | exact trivial | refine ⟨rfl, ?_⟩ | refine ⟨le_item rfl (by first | rfl | (congr 1; omega) | (simp; done) | (simp; omega)), ?_⟩)), (by repeat constructor)⟩ ?_
              intro q E H hI
              obtain ⟨i, hi, rfl, rfl, rfl⟩ := hI
              refine vc_seq ?_
              refine vc_region ?_
              refine vl_val rfl (.some rfl) (val_lt rfl rfl) ?_
              refine vl_nil ?_
              refine vc_seq ?_
              refine vc_cond rfl (fun hc6 => ?_) (fun hc6 => ?_)
              · (try replace hc6 := of_decide_eq_true hc6)
                refine vc_skip ?_
                refine vc_seq ?_
                refine vc_block ?_
                refine vc_seq ?_
                refine vc_region ?_
                refine vl_val rfl (.some rfl) (val_move rfl) ?_
                refine vl_val rfl (.some rfl) (val_assign rfl) ?_
                refine vl_nil ?_
                refine vc_seq ?_
                refine vc_draws [0, 1, 2, 3, 4, 5, 6, 7, 10] [] [0, 1, 2, 3, 4, 5, 6, 7, 8, 9, 10] rfl (by kernel_rfl) (fun _ _ _ h => h) ?_
                refine vd_val rfl rfl rfl (.some rfl) (val_move rfl) ?_
                refine vd_val rfl rfl rfl (.some rfl) (val_move rfl) ?_
                refine vd_val rfl rfl rfl (.some rfl) (val_indexAddr Try.runUnderlying25 Try.sizeOf43 rfl rfl (vs := ms6.flatMap recC) (rd_recsC hD6 (by repeat constructor)) (by omega) (by omega) (by rw [recs_len, Int.toNat_natCast]; omega)) ?_
                refine vd_val rfl rfl rfl (.some rfl) (val_loadAgg Try.isAgg43 Try.sizeOf43 rfl (cells_rd (us := recC (ms6.getD i rec0M)) (rd_recsC hD6 (by repeat constructor)) (nrecs_at (by omega))) rfl) ?_
                refine vd_val rfl rfl rfl (.some rfl) (val_move rfl) ?_
                refine vd_val rfl rfl rfl (.some rfl) (val_move rfl) ?_
                refine vd_val rfl rfl rfl (.some rfl) (val_indexAddr Try.runUnderlying25 Try.sizeOf43 rfl rfl (vs := ins.flatMap recC) (rd_sl (by repeat constructor)) (by omega) (by omega) (by rw [recs_len, Int.toNat_natCast]; omega)) ?_
                refine vd_val rfl rfl rfl (.some rfl) (val_loadAgg Try.isAgg43 Try.sizeOf43 rfl (cells_rd (us := recC (ins.getD i rec0M)) (rd_sl (by repeat constructor)) (nrecs_at (by omega))) rfl) ?_
                refine vd_op rfl rfl ?_
                refine vl_callV rfl rfl (.some rfl) Try.call24 rfl (fun w hw => lPlain (ins.getD i rec0M) w) ?_
                refine vl_nil ?_
                refine ⟨fun _ => ⟨_, (by repeat (first | exact .nil | exact sub_self _ | exact sub_skip (sub_self _) | exact sub_skip (sub_skip (sub_self _)) | exact sub_skip (sub_skip (sub_skip (sub_self _))) | (apply Sub.cons; · repeat (first | exact .head | apply Take.tail))))⟩, ?_⟩
                refine vd_op rfl rfl ?_
                have hii : i < ins.length := by omega
                obtain ⟨hok, hKi, hRi⟩ := hks _ (nrecs_in (l := ins) (i := i) hii)
                have he : recOf (ms6.getD i rec0M) = recOf (ins.getD i rec0M) := by rw [nrecs_map (by omega), nrecs_map hii, hms6, hj2, rtake_getD (by omega)]
                refine vl_call (C := []) rfl rfl (.some rfl) Try.call20 rfl .nil (fun w hw => xSame (ms6.getD i rec0M) (ins.getD i rec0M) he (.inl ⟨hok.1, hok.2.2⟩) (recL_eq he hKi.s.recL) hKi.s.recL (recB_eq he hKi.b) hKi.b w ((hD6 w (hw.chunk (big l6) (In.mem (by repeat constructor)))).2 _ (nrecs_in (by omega))) (rec_here hRi hw)) (fun v H' h => ?_)
                obtain ⟨rfl, rfl⟩ := h
                show VL _ _ _ _ _ _
                refine vl_nil ?_
                refine ⟨fun _ => ⟨_, (by repeat (first | exact .nil | exact sub_self _ | exact sub_skip (sub_self _) | exact sub_skip (sub_skip (sub_self _)) | exact sub_skip (sub_skip (sub_skip (sub_self _))) | (apply Sub.cons; · repeat (first | exact .head | apply Take.tail))))⟩, ?_⟩
                refine vd_val rfl rfl rfl (.some rfl) (val_not rfl) ?_
                refine vd_nil ?_
                refine vc_cond rfl (fun h => by cases h) (fun _ => ?_)
                refine vc_skip ?_
                refine vc_region ?_
                refine vl_val rfl (.some rfl) (val_add rfl rfl (by first | exact w_i64 (by omega) (by omega) | rfl)) ?_
                refine vl_val rfl (.some rfl) (val_move rfl) ?_
                refine vl_nil ?_
                exact ⟨(ms6.length - (i + 1)), _, _, _, by omega, (by repeat (first | exact trivial | refine ⟨rfl, ?_⟩ | refine ⟨le_item rfl (by first | rfl | (congr 1; omega) | (simp; done) | (simp; omega)), ?_⟩)), (by repeat constructor), ⟨i + 1, by omega, rfl, rfl, rfl⟩⟩
              · (try replace hc6 := of_decide_eq_false hc6)
                refine vc_exit ?_
                refine vc_seq ?_
                refine vc_region ?_
                refine vl_call (C := []) rfl rfl (.some rfl) Try.call14 rfl .nil (fun w hw => xLives w) (fun v H' h => ?_)
                obtain ⟨rfl, rfl⟩ := h
                show VL _ _ _ _ _ _
                refine vl_val rfl (.some rfl) (val_assign rfl) ?_
                refine vl_nil ?_
                refine vc_ret ?_
                refine ⟨_, [], _, res1 Try.results5 rfl, .nil, ?_⟩
                first | rfl | (exfalso; first | omega | contradiction | exact absurd rfl (by assumption) | (simp_all; done))

theorem law_RecordCuts (A : Option Addr) (c : Nat) (l : List RecT) (id cut : Nat) (w : World)
  (f1 : Reads w A (l.flatMap recWc)) (f2 : l.length ≤ c) (f3 : l.length ≤ 1048576) (f4 : ∀ a ∈ l, GoodRW w a) (f5 : id < 18446744073709551616) (f6 : cut < 18446744073709551616) :
    FnV Try.prog 5 [.slice A l.length c, .int .u64 id, .int .u64 cut] (.bool true) w := by
  have h := xCuts A c (l.map toRec) id cut f5 f6 (by rw [List.length_map]; exact f3) (fun m hm => by
    obtain ⟨p, hp, rfl⟩ := List.mem_map.1 hm
    exact (toRec_K (f4 p hp)).1) w (by rw [rec_flat]; exact f1) (fun m hm => by
    obtain ⟨p, hp, rfl⟩ := List.mem_map.1 hm
    exact (toRec_K (f4 p hp)).2)
  rw [List.length_map] at h
  exact h


end Go.Proofs.Ytclnhfdgiaamhaa.K
