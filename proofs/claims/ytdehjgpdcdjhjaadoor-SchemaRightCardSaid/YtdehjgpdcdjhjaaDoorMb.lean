/- A framework of our own for walks over the model: Mb. -/
import Derived.Test.YtdehjgpdcdjhjaaDoorKr
import Derived.Test.YtdehjgpdcdjhjaaDoorKt
import Derived.Test.YtdehjgpdcdjhjaaDoorCa
import Derived.Lib.AppendZerosOnto
import Derived.Lib.Overlaps
namespace Go.Proofs.YtdehjgpdcdjhjaaDoor.K
open Go Go.RowKit
set_option linter.unusedVariables false
set_option linter.unusedSimpArgs false
/-! ### Chunks under one name; the same memory in other pieces -/
def big (l : List Chunk) : Chunk := ⟨fps l, fun w => ∀ c ∈ l, c.A w, fun w w' h hA c hc => c.loc w w' (fun b hb => h b (List.mem_flatMap.2 ⟨c, hc, hb⟩)) (hA c hc)⟩
structure Eqv (H H' : List Chunk) : Prop where
  fp : (fps H).Perm (fps H')
  to : ∀ w, (∀ c ∈ H, c.A w) → ∀ c ∈ H', c.A w
  back : ∀ w, (∀ c ∈ H', c.A w) → ∀ c ∈ H, c.A w
theorem Eqv.symm {H H' : List Chunk} (e : Eqv H H') : Eqv H' H := ⟨e.fp.symm, e.back, e.to⟩
theorem Eqv.trans {H H' H2 : List Chunk} (e : Eqv H H') (e2 : Eqv H' H2) : Eqv H H2 := ⟨e.fp.trans e2.fp, fun w h => e2.to w (e.to w h), fun w h => e.back w (e2.back w h)⟩
theorem Eqv.refl (H : List Chunk) : Eqv H H := ⟨.refl _, fun _ h => h, fun _ h => h⟩
theorem Eqv.perm {H H' : List Chunk} (p : H.Perm H') : Eqv H H' := ⟨fps_perm p, fun _ h c hc => h c (p.mem_iff.2 hc), fun _ h c hc => h c (p.mem_iff.1 hc)⟩
theorem Eqv.app {H H' : List Chunk} (e : Eqv H H') (F : List Chunk) : Eqv (H ++ F) (H' ++ F) := by
  refine ⟨by rw [fps_append, fps_append]; exact e.fp.append_right _, fun w h c hc => ?_, fun w h c hc => ?_⟩
  · rcases List.mem_append.1 hc with hc | hc
    · exact e.to w (fun d hd => h d (by simp [hd])) c hc
    · exact h c (by simp [hc])
  · rcases List.mem_append.1 hc with hc | hc
    · exact e.back w (fun d hd => h d (by simp [hd])) c hc
    · exact h c (by simp [hc])
theorem Eqv.cons {H H' : List Chunk} (d : Chunk) (e : Eqv H H') : Eqv (d :: H) (d :: H') := by
  refine ⟨e.fp.append_left _, fun w h c hc => ?_, fun w h c hc => ?_⟩
  · rcases List.mem_cons.1 hc with rfl | hc
    · exact h _ (by simp)
    · exact e.to w (fun d hd => h d (by simp [hd])) c hc
  · rcases List.mem_cons.1 hc with rfl | hc
    · exact h _ (by simp)
    · exact e.back w (fun d hd => h d (by simp [hd])) c hc
theorem Holds.eqv {w0 w : World} {M : List Nat} {H H' : List Chunk} (h : Holds w0 M H w) (e : Eqv H H') : Holds w0 M H' w :=
  ⟨e.to w h.chunk, e.fp.nodup_iff.1 h.nodup, fun b hb => h.mine b (e.fp.mem_iff.2 hb), h.size, h.old, h.os, h.tape, h.output⟩
theorem Holds.mem {w0 w : World} {M M' : List Nat} {H : List Chunk} (h : Holds w0 M H w) (e : ∀ b, b ∈ M ↔ b ∈ M') : Holds w0 M' H w :=
  ⟨h.chunk, h.nodup, fun b hb => ⟨(h.mine b hb).1, by rw [← e]; exact (h.mine b hb).2⟩, h.size, fun b hb hm => h.old b hb (by rw [e]; exact hm), h.os, h.tape, h.output⟩
theorem Fn.eqv {P : Program} {f : FuncId} {args : List Value} {C C' : List Chunk} {R : Ending → List Chunk → Prop} {w : World} (h : Fn P f args C' R w) (e : Eqv C C') : Fn P f args C R w := fun hw =>
  (h ((hw.eqv e).mem fun b => e.fp.mem_iff)).mono fun _ _ ⟨H', h1, h2⟩ => ⟨H', h1, h2.mem fun b => e.fp.symm.mem_iff⟩
theorem Fn.out {P : Program} {f : FuncId} {args : List Value} {C : List Chunk} {φ ψ : Value → List Chunk → Prop} {w : World} (h : Fn P f args C (ret φ) w) (e : ∀ v H, φ v H → ∃ H' F, Eqv H (H' ++ F) ∧ ψ v H') : Fn P f args C (ret ψ) w := fun hw =>
  (h hw).mono fun en _ ⟨H', h1, h2⟩ => by
    cases en with
    | returned v =>
      obtain ⟨H2, F, e1, e2⟩ := e v H' h1
      exact ⟨H2, e2, (h2.eqv e1).left⟩
    | panicked ch => exact h1.elim
    | outgrown => exact h1.elim
theorem eqv_big (l F : List Chunk) : Eqv (big l :: F) (l ++ F) := by
  refine ⟨by rw [fps_append]; exact .refl _, fun w h c hc => ?_, fun w h c hc => ?_⟩
  · rcases List.mem_append.1 hc with hc | hc
    · exact h (big l) (by simp) c hc
    · exact h c (by simp [hc])
  · rcases List.mem_cons.1 hc with rfl | hc
    · exact fun d hd => h d (by simp [hd])
    · exact h c (by simp [hc])
theorem eqv_big_mid (a : List Chunk) (x : Chunk) (b F : List Chunk) : Eqv (big (a ++ x :: b) :: F) (x :: big (a ++ b) :: F) :=
  (eqv_big _ F).trans (Eqv.trans (H' := x :: (a ++ b) ++ F) ((Eqv.perm List.perm_middle).app F) ((eqv_big (a ++ b) F).symm.cons x))
theorem eqv_big_push (a : List Chunk) (x : Chunk) (F : List Chunk) : Eqv (x :: big a :: F) (big (a ++ [x]) :: F) := by
  have := (eqv_big_mid a x [] F).symm
  rwa [List.append_nil] at this
section
variable {X : Cx} {Q : Post} {E : Env} {H H' : List Chunk} {ops : Array Oper} {rest : List Oper}
theorem vl_eqv (e : Eqv H H') (h : VL X ops rest Q E H') : VL X ops rest Q E H := fun a w ha hw => h a w ha (hw.eqv e)
theorem vc_eqv {c : Code} (e : Eqv H H') (h : VC X c Q E H') : VC X c Q E H := fun a w ha hw => h a w ha (hw.eqv e)
/-- Memory beside what a callee is given reads the same in it. -/
theorem readsM_in {A : Option Addr} {vs : List Value} {C F : List Chunk} {c : Chunk} {w : World} (hs : Sub C H F) (hc : In c F) (hr : ∀ w, c.A w → ∀ j u, vs[j]? = some u → ∃ x, A = some x ∧ (x.add j).block ∈ c.fp ∧ w.cell? (x.add j) = some u) (hw : Holds X.w0 X.M H w) : ReadsM w (fps C) A vs := by
  have hp := hw.perm hs.perm
  have hnd := hp.nodup
  rw [fps_append] at hnd
  intro j u hu
  obtain ⟨x, rfl, hx, hcell⟩ := hr w (hp.chunk c (by simp [hc.mem])) j u hu
  refine ⟨x, rfl, fun hm => ?_, hcell⟩
  exact (List.nodup_append.1 hnd).2.2 _ hm _ (List.mem_flatMap.2 ⟨c, hc.mem, hx⟩) rfl
theorem readsM_sl {A : Option Addr} {n c sz : Nat} {e : TypeId} {vs : List Value} {C F : List Chunk} {w : World} (hs : Sub C H F) (hc : In (sl A n c e sz vs) F) (hw : Holds X.w0 X.M H w) : ReadsM w (fps C) A vs := by
  refine readsM_in hs hc (fun w hA j u hu => ?_) hw
  have hA : w.ownsRow 0 e sz (.slice A n c) n vs := hA
  obtain ⟨x, rfl, hx⟩ := reads_own hA j u hu
  exact ⟨x, rfl, by simp only [sl, ownFp, List.mem_singleton, Addr.add]; split <;> rfl, hx⟩
theorem readsM_old {A : Option Addr} {vs : List Value} {C F : List Chunk} {w : World} (h : ReadsM X.w0 X.M A vs) (hs : Sub C H F) (hw : Holds X.w0 X.M H w) : ReadsM w (fps C) A vs := by
  intro j u hu
  obtain ⟨x, rfl, hm, hx⟩ := h j u hu
  have hlt := World.block_lt_of_cell? _ _ hx
  refine ⟨x, rfl, fun hc => ?_, ?_⟩
  · have := (hw.perm hs.perm).mine _ (by rw [fps_append]; exact List.mem_append_left _ hc)
    rcases this.2 with h | h
    · exact hm h
    · omega
  · rw [World.cell?_of_block (w := X.w0) (hw.old _ hlt hm)]; exact hx
theorem Reads.m {w : World} {A : Option Addr} {vs : List Value} (h : Reads w A vs) : ReadsM w [] A vs := fun j u hu => by
  obtain ⟨x, e, hx⟩ := h j u hu
  exact ⟨x, e, by simp, hx⟩
theorem ReadsM.reads {w : World} {M : List Nat} {A : Option Addr} {vs : List Value} (h : ReadsM w M A vs) : Reads w A vs := fun j u hu => by
  obtain ⟨x, e, _, hx⟩ := h j u hu
  exact ⟨x, e, hx⟩
/-- A big chunk's rows read. -/
theorem rd_big {l : List Chunk} {A : Option Addr} {n c sz : Nat} {e : TypeId} {vs : List Value} (h : In (big l) H) (hm : sl A n c e sz vs ∈ l) : Rd X H A vs := fun w hw =>
  reads_own (n := n) (c := c) (e := e) (sz := sz) (hw.chunk _ h.mem _ hm)
/-! ### copy, spare cells, a row that grows by zeros -/
theorem vl_spare {F : List Chunk} {A : Option Addr} {n c sz k : Nat} {e : TypeId} {vs : List Value} (hin : Take (sl A n c e sz vs) H F) (hk : n + k ≤ c) (hn : 0 < n) (h : ∀ us : List Value, us.length = k * sz → VL X ops rest Q E (sl A (n + k) c e sz (vs ++ us) :: F)) : VL X ops rest Q E H := by
  intro a w ha hw
  have hp := hw.perm hin.perm
  have hown : w.ownsRow 0 e sz (.slice A n c) n vs := hp.chunk (sl A n c e sz vs) (by simp)
  rcases hown.2 with ⟨he, h0⟩ | ⟨g, cap, cur, he, hb, hg, hnc, hcm, hcs, ht⟩
  · omega
  · simp only [Value.slice.injEq] at he
    obtain ⟨rfl, _, rfl⟩ := he
    have hlen : ((cur.toList.drop (n * sz)).take (k * sz)).length = k * sz := by
      rw [List.length_take, List.length_drop, Array.length_toList, hcs]
      have := Nat.mul_le_mul_right sz hk
      rw [Nat.add_mul] at this
      omega
    have hA : w.ownsRow 0 e sz (.slice (some ⟨g, 0, none⟩) (n + k) c) (n + k) (vs ++ (cur.toList.drop (n * sz)).take (k * sz)) := by
      refine ⟨by rw [List.length_append, hown.1, hlen, Nat.add_mul], .inr ⟨g, c, cur, rfl, hb, hg, hk, hcm, hcs, ?_⟩⟩
      rw [Nat.add_mul, List.take_add, ht]
    refine h _ hlen a w ha ⟨fun d hd => ?_, hp.nodup, hp.mine, hp.size, hp.old, hp.os, hp.tape, hp.output⟩
    rcases List.mem_cons.1 hd with rfl | hd
    · exact hA
    · exact hp.chunk d (by simp [hd])
/-- The front of a row that one owns, and what it keeps. -/
theorem vl_front {F : List Chunk} {A : Option Addr} {n c sz k : Nat} {e : TypeId} {vs : List Value} (hin : Take (sl A n c e sz vs) H F) (hk : k ≤ n) (hn : 0 < n) (h : VL X ops rest Q E (sl A k c e sz (vs.take (k * sz)) :: F)) : VL X ops rest Q E H := by
  intro a w ha hw
  have hp := hw.perm hin.perm
  have hown : w.ownsRow 0 e sz (.slice A n c) n vs := hp.chunk (sl A n c e sz vs) (by simp)
  rcases hown.2 with ⟨he, h0⟩ | ⟨g, cap, cur, he, hb, hg, hnc, hcm, hcs, ht⟩
  · omega
  · simp only [Value.slice.injEq] at he
    obtain ⟨rfl, _, rfl⟩ := he
    have hkk := Nat.mul_le_mul_right sz hk
    have hA : w.ownsRow 0 e sz (.slice (some ⟨g, 0, none⟩) k c) k (vs.take (k * sz)) := by
      refine ⟨by rw [List.length_take, hown.1]; omega, .inr ⟨g, c, cur, rfl, hb, hg, by omega, hcm, hcs, ?_⟩⟩
      rw [← ht, List.take_take, Nat.min_eq_left hkk]
    refine h a w ha ⟨fun d hd => ?_, hp.nodup, hp.mine, hp.size, hp.old, hp.os, hp.tape, hp.output⟩
    rcases List.mem_cons.1 hd with rfl | hd
    · exact hA
    · exact hp.chunk d (by simp [hd])
theorem vl_copy {fE : Value → Env} {o : Oper} {dT sT e : TypeId} {x y : Operand} {A B : Option Addr} {D : Option Addr} {n c dn dc sn sc off : Nat} {vs us : List Value} (ho : o.op = .call { callee := .builtin .copy, args := #[x, y], argTypes := #[dT, sT] }) (hg : o.guard = none) (hd : DstF X E o.dst fE)
    (hu1 : X.P.underlying dT = some (.slice e)) (hs1 : (X.P.info? e).map (·.size) = some 1) (hx : E.ev x = some (.slice D dn dc)) (hD : D = some ((adr A).add off)) (hy : E.ev y = some (.slice B sn sc)) (hr : Rd X H B us) (hl0 : us.length = min sn dn) (h1 : us.all (·.oneCell') = true) (hne : us ≠ [])
    (hu : Upd (sl A n c e 1 vs) (sl A n c e 1 (laid vs off us)) H H') (hi : off + us.length ≤ vs.length) (h : VL X ops rest Q (fE (.int .i64 us.length)) H') : VL X ops (o :: rest) Q E H := by
  intro a w ha hw
  refine wpList_plain hg fun K hK => ?_
  have hl : us.length = Nat.min sn dn := hl0
  obtain ⟨F, p1, p2⟩ := hu.perm
  have hb : w.ownsRow 0 e 1 (.slice A n c) n vs := (hw.perm p1).chunk (sl A n c e 1 vs) (by simp)
  obtain ⟨w', hst, ho', hgr⟩ := own_store (P := X.P) hb hi h1 hne
  subst hD
  obtain ⟨v0, vt, rfl⟩ : ∃ v0 vt, us = v0 :: vt := by cases us with | nil => exact absurd rfl hne | cons a b => exact ⟨a, b, rfl⟩
  obtain ⟨bb, rfl, _⟩ := hr w hw 0 v0 (by simp)
  have hld := run_loadCells_list (P := X.P) w bb (v0 :: vt) (fun j u hj => by obtain ⟨x, hx', hc⟩ := hr w hw j u hj; cases hx'; exact hc)
  have : (execOp a.eval o).run X.P w = .ok (.value (.int .i64 (v0 :: vt).length)) w' := by
    cases hq : X.P.info? e with
    | none => simp [hq] at hs1
    | some i =>
      have hi : i.size = 1 := by simpa [hq] using hs1
      simp only [execOp, ho, resolve, invoke, builtin, Sem.run_bind, Sem.run_pure, Result.andThen_ok, List.map_toArray, List.map_cons, List.map_nil, ha.ev hx, ha.ev hy]
      simp [Builtin.copy_, run_underlying hu1, Builtin.lenOf, Builtin.firstCells, sizeOf, typeInfo, hq, hi, ← hl]
      simp at hld hst
      simp [hld, hst, goInt]
  unfold Oper.wp
  rw [this]
  refine hK _ _ (h _ _ (ha.setF hd) (hw.grown hu hgr ?_ ho' ?_ ?_))
  · intro k hk; cases A <;> simp_all [Value.ownBlock, sl, ownFp]
  · cases A <;> simp [sl, ownFp]
  · intro b hb'
    refine ⟨?_, .inl hb'⟩
    have := (hw.perm p1).mine b (by simp [fps]; exact .inl hb')
    exact Nat.lt_of_lt_of_le this.1 hgr.size
/-- append(s, make([]T, k)...) where s has no room: a new row. -/
theorem vl_appendMake {fE : Value → Env} {o : Oper} {T U e : TypeId} {x y : Operand} {A : Option Addr} {n c by_ : Nat} {z : Value} {vs : List Value} {kn kq : IntKind} {q : Int} (ht : SlT X.P T e 1 by_ z) (hz1 : z.cells = #[z]) (hU : X.P.underlying U = some (.int kn))
    (ho : o.op = .call { callee := .builtin .append, args := #[x, y], argTypes := #[T, U] }) (hg : o.guard = none) (hd : DstF X E o.dst fE)
    (hx : E.ev x = some (.slice A n c)) (hy : E.ev y = some (.int kq q)) (hr : Rd X H A vs) (hl : vs.length = n) (hq : 0 < q) (hgr : (c : Int) < n + q)
    (hb : (n + q) * by_ ≤ 140737488355328) (hb2 : n + q < 140737488355328) (h : ∀ r k, VL X ops rest Q (fE (.slice (some ⟨r, 0, none⟩) (n + q.toNat) k)) (sl (some ⟨r, 0, none⟩) (n + q.toNat) k e 1 (vs ++ List.replicate q.toNat z) :: H)) : VL X ops (o :: rest) Q E H := by
  intro a w ha hw
  refine wpList_plain hg fun K hK => ?_
  obtain ⟨i, hi, hz, hsz, hby⟩ := ht.i
  obtain ⟨k, rfl⟩ : ∃ k : Nat, q = k := ⟨q.toNat, by omega⟩
  have hfold : (Builtin.firstCells i.size n (.slice A n c)).run X.P w.drew = .ok vs.toArray w.drew := by
    have hrw := hr w hw
    cases A with
    | none =>
      have : vs = [] := by
        cases vs with
        | nil => rfl
        | cons v t => obtain ⟨x, hx', _⟩ := hrw 0 v (by simp); cases hx'
      subst this
      exact run_firstCells_none w.drew _ _ _ _
    | some b => exact run_firstCells_some w.drew i.size n b n c vs (by rw [hsz]; omega) (fun j v hj => by
        obtain ⟨x, hx', hc⟩ := hrw j v hj
        cases hx'
        simpa using hc)
  have hbn : (n + k) * by_ ≤ 140737488355328 := by
    rw [← Int.natCast_add, ← Int.natCast_mul] at hb
    omega
  have hkb : k * by_ ≤ (n + k) * by_ := Nat.mul_le_mul_right _ (by omega)
  have hrun := Lib.run_append_grow_zeros (P := X.P) w T U o.type e i z kq kn ht.u hU hi hz A n c vs hfold k (by omega) (by omega) (by omega) (by omega) (by rw [hby]; omega) (growslice_fits (by omega) (by rw [hby]; exact hbn))
  have hge := grownCap_ge w (n + k) c e
  have hcm : grownCap w (n + k) c e ≤ maxLen := grownCap_le_maxLen w (n + k) c e (by unfold maxLen; omega)
  have hzc : ∀ m, (Builtin.zeroCells z.cells m).toList = List.replicate m z := fun m => by
    apply List.ext_getElem
    · simp [Builtin.zeroCells, hz1]
    · intro j h1 h2
      simp [Builtin.zeroCells, hz1, Nat.mod_one]
  have hsz2 : ∀ m, (Builtin.zeroCells z.cells m).size = m := fun m => by rw [← Array.length_toList, hzc, List.length_replicate]
  unfold Oper.wp
  have : (execOp a.eval o).run X.P w = .ok (.value (.slice (some ⟨w.heap.size, 0, none⟩) (n + k) (grownCap w (n + k) c e))) (w.drew.alloc (.cells (vs.toArray ++ Builtin.zeroCells z.cells k ++ Builtin.zeroCells z.cells (grownCap w (n + k) c e - (n + k))) e)) := by
    simp only [execOp, ho, resolve, invoke, builtin, Sem.run_bind, Sem.run_pure, Result.andThen_ok, List.map_toArray, List.map_cons, List.map_nil, ha.ev hx, ha.ev hy, hrun]
  rw [this]
  have hown : (w.drew.alloc (.cells (vs.toArray ++ Builtin.zeroCells z.cells k ++ Builtin.zeroCells z.cells (grownCap w (n + k) c e - (n + k))) e)).ownsRow 0 e 1 (.slice (some ⟨w.heap.size, 0, none⟩) (n + k) (grownCap w (n + k) c e)) (n + k) (vs ++ List.replicate k z) := by
    refine ⟨by simp [hl], .inr ⟨w.heap.size, _, _, rfl, Nat.zero_le _, heap_alloc_new w.drew _, hge, hcm, ?_, ?_⟩⟩
    · simp only [Array.size_append, List.size_toArray, hsz2, hl]; omega
    · rw [Array.toList_append, Array.toList_append, List.toList_toArray, hzc, hzc, Nat.mul_one]
      exact List.take_left' (by simp [hl])
  refine hK _ _ (h w.heap.size _ _ _ (ha.setF hd) (hw.grownNew (w' := w.drew.alloc _) ⟨rfl, rfl, rfl, by simp, fun k hk _ => heap_alloc_old w.drew _ k hk⟩ hown (by simp [sl, ownFp]) ?_))
  intro b hb'
  simp [sl, ownFp] at hb'
  subst hb'
  exact ⟨(hown.lt w.heap.size (by simp [Value.ownBlock])).2, Nat.le_refl _⟩
theorem vl_extW {fE : Value → Env} {o : Oper} {f : FuncId} {xs : Array Operand} {ats : Array TypeId} {args : List Value} {v : Value} (ho : o.op = .call { callee := .value (.func f), args := xs, argTypes := ats })
    (hg : o.guard = none) (hd : DstF X E o.dst fE) (hx : E.evs xs.toList = some args) (hc : ∀ w, Holds X.w0 X.M H w → (callFunc f args.toArray).run X.P w = .ok (.value v) w) (h : VL X ops rest Q (fE v) H) : VL X ops (o :: rest) Q E H := by
  intro a w ha hw
  refine wpList_plain hg fun K hK => ?_
  unfold Oper.wp
  have h1 : xs.map a.eval = args.toArray := by rw [← evs_map ha _ _ hx, ← Array.toList_map]
  have : (execOp a.eval o).run X.P w = .ok (.value v) w := by simp [execOp, ho, resolve, h1, Act.eval, Deferred.ofValue, invoke, hc w hw]
  rw [this]
  exact hK _ _ (h _ _ (ha.setF hd) hw)
end
theorem cut_some1 {a : Addr} {c i : Nat} (h : i < c) : cutA (some a) c i 1 = some ((adr (some a)).add i) := by
  unfold cutA; rw [if_neg (by omega), Nat.mul_one]; rfl
theorem cut_some {a : Addr} {c i sz : Nat} (h : i < c) : cutA (some a) c i sz = some ((adr (some a)).add (i * sz)) := by
  unfold cutA; rw [if_neg (by omega)]; rfl
theorem ucells_appM (a b : List Nat) : ucells a ++ ucells b = ucells (a ++ b) := by simp [ucells]
theorem ucells_takeM (l : List Nat) (i : Nat) : ucells (l.take i) = (ucells l).take i := by simp [ucells, List.map_take]
theorem ucells_dropM (l : List Nat) (i : Nat) : ucells (l.drop i) = (ucells l).drop i := by simp [ucells, List.map_drop]
theorem ucells_repM (n : Nat) : List.replicate n (Value.int .u64 0) = ucells (List.replicate n 0) := by simp [ucells]
theorem laid_uM (l m : List Nat) (i : Nat) : laid (ucells l) i (ucells m) = ucells (l.take i ++ m ++ l.drop (i + m.length)) := by simp [laid, ucells, List.map_take, List.map_drop]
theorem ins_a {l : List Nat} {h i n q : Nat} (hi : i < n) (hn : l.length = n) (hq : q = n + 1 - i) : laid (ucells (l.take i ++ List.replicate q 0)) i (ucells [h]) = ucells (l.take i ++ h :: List.replicate (n - i) 0) := by
  have hl : (l.take i).length = i := by rw [List.length_take]; omega
  rw [laid_uM, List.take_left' hl, List.drop_append, List.drop_of_length_le (by simp; omega), hl, hq]
  simp only [List.length_cons, List.length_nil, List.drop_replicate, List.nil_append, List.append_assoc, List.cons_append]
  rw [show n + 1 - i - (i + (0 + 1) - i) = n - i by omega]
theorem ins_b {l : List Nat} {h i n : Nat} (hi : i < n) (hn : l.length = n) : laid (ucells (l.take i ++ h :: List.replicate (n - i) 0)) (i + 1) (ucells (l.drop i)) = ucells (l.take i ++ h :: l.drop i) := by
  have hl : (l.take i).length = i := by rw [List.length_take]; omega
  have e : (l.take i ++ h :: List.replicate (n - i) 0).drop (i + 1 + (l.drop i).length) = [] := List.drop_of_length_le (by simp; omega)
  rw [laid_uM, e, List.append_nil, List.take_append, hl]
  rw [List.take_of_length_le (by omega), show i + 1 - i = 1 by omega]
  simp
theorem ins_c {l : List Nat} {us : List Value} {i n : Nat} (hi : i < n) (hn : l.length = n) (hu : us.length = 1) : laid (ucells l ++ us) (i + 1) (ucells (l.drop i)) = ucells (l.take (i + 1) ++ l.drop i) := by
  have e : (ucells l ++ us).drop (i + 1 + (ucells (l.drop i)).length) = [] := List.drop_of_length_le (by simp [ucells_length, hu]; omega)
  unfold laid
  rw [e, List.append_nil, List.take_append_of_le_length (by rw [ucells_length]; omega), ← ucells_takeM, ucells_appM]
theorem ins_d {l : List Nat} {h i n : Nat} (hi : i < n) (hn : l.length = n) : laid (ucells (l.take (i + 1) ++ l.drop i)) i (ucells [h]) = ucells (l.take i ++ h :: l.drop i) := by
  have hl : (l.take (i + 1)).length = i + 1 := by rw [List.length_take]; omega
  rw [laid_uM, List.take_append_of_le_length (by omega), List.take_take, Nat.min_eq_left (by omega)]
  simp only [List.length_cons, List.length_nil, Nat.zero_add]
  rw [List.drop_left' hl]
  simp
theorem rd_dropi {X : Cx} {H : List Chunk} {A : Option Addr} {c i : Nat} {l : List Nat} {us : List Value} (h : Rd X H A (ucells l ++ us)) (hc : l.length ≤ c) : Rd X H (cutA A c i 1) (ucells (l.drop i)) := by
  have h1 := h.take (ucells l).length
  rw [List.take_left' rfl] at h1
  have h2 := h1.cut (c := c) (l := i) (sz := 1) (by rw [ucells_length]; omega)
  rw [Nat.mul_one, ← ucells_dropM] at h2
  exact h2
theorem flat_atM {α : Type} {f : α → List Value} {m : Nat} (hm : ∀ a, (f a).length = m) (d : α) : ∀ (l : List α) (i : Nat), i < l.length → ((l.flatMap f).drop (i * m)).take m = f (l.getD i d)
  | [], i, h => absurd h (by simp)
  | a :: l, 0, _ => by
    rw [Nat.zero_mul, List.drop_zero, List.flatMap_cons, List.take_append_of_le_length (by rw [hm]; omega), List.take_of_length_le (by rw [hm]; omega)]
    rfl
  | a :: l, i + 1, h => by
    rw [List.flatMap_cons, List.drop_append, List.drop_of_length_le (by rw [hm, Nat.add_mul]; omega), hm, Nat.add_mul, Nat.one_mul, Nat.add_sub_cancel, List.nil_append]
    exact flat_atM hm d l i (by simpa using h)
end Go.Proofs.YtdehjgpdcdjhjaaDoor.K
