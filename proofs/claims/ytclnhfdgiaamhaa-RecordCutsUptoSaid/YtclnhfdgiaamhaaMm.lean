/- A framework of our own for walks over the model: Mm. -/
import Derived.Test.YtclnhfdgiaamhaaMk
import Derived.Test.YtclnhfdgiaamhaaMb
import Derived.Test.YtclnhfdgiaamhaaKy
import Derived.Lib.ConvBytes
namespace Go.Proofs.Ytclnhfdgiaamhaa.K
open Go Go.RowKit
set_option linter.unusedVariables false
set_option linter.unusedSimpArgs false
/-! ### []byte(s) of a text: a new row that is only read -/
def ro (b : Nat) (vs : List Value) : Chunk := ⟨[b], fun w => ∀ j u, vs[j]? = some u → w.cell? ⟨b, j, none⟩ = some u, fun w w' h hA j u hu => by
  rw [World.cell?_of_block (w := w) (w' := w') (h b (by simp))]
  exact hA j u hu⟩
section
variable {X : Cx} {Q : Post} {E : Env} {H F : List Chunk} {ops : Array Oper} {rest : List Oper}
theorem rd_ro {b : Nat} {vs : List Value} (h : In (ro b vs) H) : Rd X H (some ⟨b, 0, none⟩) vs := by
  intro w hw j u hu
  refine ⟨_, rfl, ?_⟩
  rw [Addr.add_lit, Nat.zero_add]
  exact hw.chunk _ h.mem j u hu
theorem vl_strBytes {fE : Value → Env} {o : Oper} {S T e : TypeId} {x : Operand} {s : ByteArray} (ho : o.op = .convert S T x) (hg : o.guard = none) (hd : DstF X E o.dst fE) (hS : X.P.underlying S = some .string) (hT : X.P.underlying T = some (.slice e)) (he : X.P.underlying e = some (.int .u8)) (hx : E.ev x = some (.string s))
    (h : ∀ r c, s.size ≤ c → VL X ops rest Q (fE (.slice (some ⟨r, 0, none⟩) s.size c)) (ro r (bcells s.data.toList) :: H)) : VL X ops (o :: rest) Q E H := by
  intro a w ha hw
  refine wpList_plain hg fun K hK => ?_
  unfold Oper.wp
  have hrun := Lib.run_convert_string_bytes (P := X.P) w S T e s hS hT he
  have : (execOp a.eval o).run X.P w = .ok (.value (.slice (some ⟨w.heap.size, 0, none⟩) s.size (grownCap w s.size 0 e))) (Lib.bytesWorld w e s) := by
    simp [execOp, ho, ha.ev hx, hrun]
  rw [this]
  refine hK _ _ (h w.heap.size _ (grownCap_ge w s.size 0 e) _ _ (ha.setF hd) (hw.grownNew (w' := Lib.bytesWorld w e s) ⟨rfl, rfl, rfl, ?_, fun k hk _ => Lib.bytesWorld_at_old w e s k hk⟩ ?_ ?_ ?_))
  · rw [Lib.bytesWorld_size]; omega
  · intro j u hu
    have hj : j < s.size := by
      have := (List.getElem?_eq_some_iff.1 hu).1
      simpa [bcells] using this
    rw [Lib.bytesWorld_cell w e s j hj, ← hu]
    have hl : j < s.data.size := hj
    simp [bcells, List.getD, Array.getElem?_eq_getElem hl]
  · simp [ro]
  · intro b hb
    simp [ro] at hb
    subst hb
    exact ⟨by rw [Lib.bytesWorld_size]; omega, Nat.le_refl _⟩
end
/-! ### The rest of some bytes -/
structure Sfx (A : Option Addr) (b : List UInt8) (A2 : Option Addr) (c2 : Nat) (b2 : List UInt8) : Prop where
  cap : b2.length ≤ c2
  len : b2.length ≤ b.length
  rd : ∀ w M, ReadsM w M A (bcells b) → ReadsM w M A2 (bcells b2)
theorem Sfx.refl {A : Option Addr} {b : List UInt8} {c : Nat} (h : b.length ≤ c) : Sfx A b A c b := ⟨h, Nat.le_refl _, fun _ _ h => h⟩
theorem Sfx.trans {A A2 A3 : Option Addr} {b b2 b3 : List UInt8} {c2 c3 : Nat} (h : Sfx A b A2 c2 b2) (h2 : Sfx A2 b2 A3 c3 b3) : Sfx A b A3 c3 b3 := ⟨h2.cap, Nat.le_trans h2.len h.len, fun w M hr => h2.rd w M (h.rd w M hr)⟩
theorem Sfx.cut {A : Option Addr} {b : List UInt8} {c n : Nat} (h : b.length ≤ c) : Sfx A b (cutA A c n 1) (c - n) (b.drop n) :=
  ⟨by rw [List.length_drop]; omega, by rw [List.length_drop]; omega, fun w M hr => by rw [← bdrop]; exact hr.cut (c := c) (by rw [bcells_length]; omega)⟩
theorem eqv_two_big (l L F : List Chunk) : Eqv (big l :: big L :: F) (big (L ++ l) :: F) := by
  refine ((eqv_big l (big L :: F)).trans ?_)
  refine Eqv.trans (H' := big L :: (l ++ F)) (Eqv.perm List.perm_middle) ?_
  refine (eqv_big L (l ++ F)).trans ?_
  rw [← List.append_assoc]
  exact (eqv_big (L ++ l) F).symm
end Go.Proofs.Ytclnhfdgiaamhaa.K
