/- A framework of our own for walks over the model: Mk. -/
import Derived.Test.YtclnhfdgiaamhaaKw
import Derived.Test.YtclnhfdgiaamhaaKv
import Derived.Test.YtclnhfdgiaamhaaKr
import Derived.Test.YtclnhfdgiaamhaaCb
import Derived.Laws.MakeOwn
namespace Go.Proofs.Ytclnhfdgiaamhaa.K
open Go Go.RowKit
set_option linter.unusedVariables false
set_option linter.unusedSimpArgs false
section
variable {X : Cx} {Q : Post} {E : Env} {H : List Chunk} {ops : Array Oper} {rest : List Oper}
/-- make([]T, 0, n): a row of its own, with nothing in it. -/
theorem vl_make0 {fE : Value → Env} {o : Oper} {T e sz by_ : Nat} {z : Value} {x y : Operand} {k j : IntKind} {n : Nat} {p q : Int} (ht : SlT X.P T e sz by_ z)
    (ho : o.op = .makeSlice T x y) (hg : o.guard = none) (hd : DstF X E o.dst fE) (hx : E.ev x = some (.int k p)) (hp : p = 0) (hy : E.ev y = some (.int j q)) (hq : q = (n : Int)) (hb : n * by_ ≤ 140737488355328) (h63 : n < 9223372036854775808)
    (h : ∀ r, VL X ops rest Q (fE (.slice (some ⟨r, 0, none⟩) 0 n)) (sl (some ⟨r, 0, none⟩) 0 n e sz [] :: H)) : VL X ops (o :: rest) Q E H := by
  intro a w ha hw
  refine wpList_plain hg fun K hK => ?_
  unfold Oper.wp
  subst hp; subst hq
  obtain ⟨i, hi2, hz, hsz, hby⟩ := ht.i
  have hb' : i.bytes * n ≤ 281474976710656 := by rw [hby, Nat.mul_comm]; omega
  obtain ⟨w', hr, hown, hgr⟩ := run_make_own (P := X.P) w 0 T e i z sz ht.u hi2 hz hsz k j n hb' (by unfold maxLen; omega) (Nat.zero_le _)
  have : (execOp a.eval o).run X.P w = .ok (.value (.slice (some ⟨w.heap.size, 0, none⟩) 0 n)) w' := by
    simp [execOp, ho, ha.ev hx, ha.ev hy, hr]
  rw [this]
  refine hK _ _ (h w.heap.size _ _ (ha.setF hd) (hw.grownNew hgr hown (by simp [sl, ownFp]) ?_))
  intro b hb
  simp [sl, ownFp] at hb
  subst hb
  exact ⟨(hown.lt w.heap.size (by simp [Value.ownBlock])).2, Nat.le_refl _⟩
end
/-! ### Frames -/
theorem wr_u8 (n : Nat) : IntKind.u8.wrap (n : Int) = ((n % 256 : Nat) : Int) := by unfold IntKind.wrap; simp [IntKind.signed, IntKind.bits]
def four4 (n : Nat) : List UInt8 := [UInt8.ofNat (n % 256), UInt8.ofNat (n / 256 % 256), UInt8.ofNat (n / 65536 % 256), UInt8.ofNat (n / 16777216 % 256)]
theorem four_len (n : Nat) : (four4 n).length = 4 := rfl
theorem four_cells (n : Nat) : [Value.int .u8 ((n % 256 : Nat) : Int), .int .u8 ((n / 256 % 256 : Nat) : Int), .int .u8 ((n / 65536 % 256 : Nat) : Int), .int .u8 ((n / 16777216 % 256 : Nat) : Int)] = bcells (four4 n) := by
  unfold four4 bcells
  simp only [List.map_cons, List.map_nil]
  rw [u8_ofNat (by omega), u8_ofNat (by omega), u8_ofNat (by omega), u8_ofNat (by omega)]
def fourN (b : List UInt8) : Nat := (b.getD 0 0).toNat + (b.getD 1 0).toNat * 256 + (b.getD 2 0).toNat * 65536 + (b.getD 3 0).toNat * 16777216
theorem fourN_lt (b : List UInt8) : fourN b < 4294967296 := by
  have h0 := (b.getD 0 0).toNat_lt
  have h1 := (b.getD 1 0).toNat_lt
  have h2 := (b.getD 2 0).toNat_lt
  have h3 := (b.getD 3 0).toNat_lt
  unfold fourN; omega
theorem four_back {n : Nat} (h : n < 4294967296) (t : List UInt8) : fourN (four4 n ++ t) = n := by
  unfold fourN four4
  simp only [List.cons_append, List.getD_cons_zero, List.getD_cons_succ]
  rw [u8_ofNat (by omega), u8_ofNat (by omega), u8_ofNat (by omega), u8_ofNat (by omega)]
  omega
def frameL (b : List UInt8) : List UInt8 := if 262144 < b.length then [] else (four4 b.length ++ b) ++ four4 (sumS (four4 b.length ++ b))
def unfrE (b : List UInt8) : Int := if b.length < 4 then 10 else if 262144 < fourN b then 6 else if b.length < fourN b + 8 then 10 else if fourN (b.drop (fourN b + 4)) ≠ sumS (b.take (fourN b + 4)) then 8 else 0
def unfrL (b : List UInt8) : List UInt8 := if unfrE b = 0 then (b.drop 4).take (fourN b) else []
def unfrN (b : List UInt8) : Nat := if unfrE b = 0 then fourN b + 8 else 0
theorem unfr_bad {b : List UInt8} {e : Int} (h : unfrE b = e) (h0 : e ≠ 0) : unfrL b = [] ∧ unfrN b = 0 := by
  unfold unfrL unfrN
  rw [h, if_neg h0, if_neg h0]; exact ⟨rfl, rfl⟩
theorem unfr_ok {b : List UInt8} (h : unfrE b = 0) : unfrL b = (b.drop 4).take (fourN b) ∧ unfrN b = fourN b + 8 := by
  unfold unfrL unfrN
  rw [h, if_pos rfl, if_pos rfl]; exact ⟨rfl, rfl⟩
theorem unfr_1 {b : List UInt8} (h : b.length < 4) : unfrE b = 10 := if_pos h
theorem unfr_2 {b : List UInt8} (h : ¬ b.length < 4) (h2 : 262144 < fourN b) : unfrE b = 6 := by unfold unfrE; rw [if_neg h, if_pos h2]
theorem unfr_3 {b : List UInt8} (h : ¬ b.length < 4) (h2 : ¬ 262144 < fourN b) (h3 : b.length < fourN b + 8) : unfrE b = 10 := by unfold unfrE; rw [if_neg h, if_neg h2, if_pos h3]
theorem unfr_4 {b : List UInt8} (h : ¬ b.length < 4) (h2 : ¬ 262144 < fourN b) (h3 : ¬ b.length < fourN b + 8) (h4 : fourN (b.drop (fourN b + 4)) ≠ sumS (b.take (fourN b + 4))) : unfrE b = 8 := by unfold unfrE; rw [if_neg h, if_neg h2, if_neg h3, if_pos h4]
theorem unfr_0 {b : List UInt8} (h : ¬ b.length < 4) (h2 : ¬ 262144 < fourN b) (h3 : ¬ b.length < fourN b + 8) (h4 : fourN (b.drop (fourN b + 4)) = sumS (b.take (fourN b + 4))) : unfrE b = 0 := by unfold unfrE; rw [if_neg h, if_neg h2, if_neg h3, if_neg (fun e => e h4)]
theorem unfr_is {b : List UInt8} (h : unfrE b = 0) : 4 ≤ b.length ∧ fourN b ≤ 262144 ∧ fourN b + 8 ≤ b.length ∧ fourN (b.drop (fourN b + 4)) = sumS (b.take (fourN b + 4)) := by
  unfold unfrE at h
  split at h
  · cases h
  · split at h
    · cases h
    · split at h
      · cases h
      · split at h
        · cases h
        · rename_i h1 h2 h3 h4
          exact ⟨by omega, by omega, by omega, by simpa using h4⟩
end Go.Proofs.Ytclnhfdgiaamhaa.K
namespace Go.Proofs.Ytclnhfdgiaamhaa.K
open Go Go.RowKit
/-! ### Methods called through an interface value, whatever they make; nil -/
section
variable {X : Cx} {E : Env} {H F C : List Chunk} {Q : Post} {ops : Array Oper} {rest : List Oper}
theorem vl_invoke {φ : Value → List Chunk → Prop} {fE : Value → Env} {o : Oper} {f : FuncId} {recv : Operand} {name : String} {xs : Array Operand} {ats : Array TypeId} {args : List Value} {r v : Value} (ho : o.op = .call { callee := .invoke recv name, args := xs, argTypes := ats })
    (hg : o.guard = none) (hd : DstF X E o.dst fE) (hr : E.ev recv = some r) (hx : E.evs xs.toList = some args) (hm : ∀ args w, (callMethod r name args).run X.P w = .ok (.enter f (#[v] ++ args)) w)
    (hs : Sub C H F) (hf : ∀ w, Holds X.w0 X.M H w → Fn X.P f (v :: args) C (ret φ) w) (h : ∀ u H', φ u H' → VL X ops rest Q (fE u) (H' ++ F)) : VL X ops (o :: rest) Q E H :=
  vl_callA (run_invoke ho hr hx hm) hg hd hs hf h (fun _ _ h => h.elim) (fun _ h => h.elim)
theorem bin_iface_ne {P : Program} {T t : TypeId} {ms : Array (String × TypeId)} {v : Value} (hu : ∀ w, (underlying T).run P w = .ok (.interface ms) w) (w : World) : (binOp .neq T (.iface t v) .nilIface).run P w = .ok (.bool true) w := by
  have h : ∀ d, (Op.equalIn (d + 1) T (.iface t v) .nilIface).run P w = .ok false w := fun d => by simp [Op.equalIn, hu]
  have h := h 9999
  show ((do pure (.bool (!(← Op.equal T (.iface t v) .nilIface))) : Sem Value)).run P w = _
  rw [Sem.run_bind, show Op.equal T (.iface t v) .nilIface = Op.equalIn (9999 + 1) T (.iface t v) .nilIface from rfl, h]
  rfl
theorem bin_ifnil_ne {P : Program} {T : TypeId} {ms : Array (String × TypeId)} (hu : ∀ w, (underlying T).run P w = .ok (.interface ms) w) (w : World) : (binOp .neq T .nilIface .nilIface).run P w = .ok (.bool false) w := by
  have h : ∀ d, (Op.equalIn (d + 1) T .nilIface .nilIface).run P w = .ok true w := fun d => by simp [Op.equalIn, hu]
  have h := h 9999
  show ((do pure (.bool (!(← Op.equal T .nilIface .nilIface))) : Sem Value)).run P w = _
  rw [Sem.run_bind, show Op.equal T .nilIface .nilIface = Op.equalIn (9999 + 1) T .nilIface .nilIface from rfl, h]
  rfl
theorem val_nilM {x : Operand} {ty : TypeId} {name : String} {t : TypeId} {v : Value} {cs : Array Value} (hx : E.ev x = some (.func (.method name) #[.iface t v] cs)) (hn : ∀ w, (nilAhead (X.P.types.size + Made.depth) t v name).run X.P w = .ok (some false) w) : Val X E H (.nilCheck x) ty (.func (.method name) #[.iface t v] cs) := by
  intro a w o ho _ ha _
  simp [execOp, ho, ha.ev hx, hn]
end
end Go.Proofs.Ytclnhfdgiaamhaa.K
