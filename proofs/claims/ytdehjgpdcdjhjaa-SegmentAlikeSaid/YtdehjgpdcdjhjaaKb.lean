/- A framework of our own for walks over the model: Kb. -/
import Derived.Test.YtdehjgpdcdjhjaaKa
import Derived.Lib.AppendStr
import Derived.Laws.OwnMore
import Derived.DataElems
import Derived.Laws.ResultCell
namespace Go.Proofs.Ytdehjgpdcdjhjaa.K
open Go Go.RowKit
set_option linter.unusedVariables false
set_option linter.unusedSimpArgs false

/-! ### Chunks: a block of cells; a row of the call's own -/
def cells (b : Nat) (vs : List Value) (T : TypeId) : Chunk :=
  ⟨[b], fun w => w.heap[b]? = some (.cells vs.toArray T (0, 0)), fun w w' h hA => by rw [h b (by simp)]; exact hA⟩
def ownFp : Option Addr → List Nat
  | some a => [a.block]
  | none => []
/-- A slice value '.slice A n c' that owns its row: elements of type e, sz cells each; the cells vs. -/
def sl (A : Option Addr) (n c : Nat) (e : TypeId) (sz : Nat) (vs : List Value) : Chunk :=
  ⟨ownFp A, fun w => w.ownsRow 0 e sz (.slice A n c) n vs, fun w w' h hA => by
    refine ⟨hA.1, ?_⟩
    rcases hA.2 with hn | ⟨g, cap, cur, he, hb, hg, rest⟩
    · exact .inl hn
    · refine .inr ⟨g, cap, cur, he, hb, ?_, rest⟩
      simp only [Value.slice.injEq] at he
      rw [h g (by rw [he.1]; simp [ownFp])]
      exact hg⟩
/-- A row that is read alone (what a conversion of a string leaves). -/
def slr (b : Nat) (vs : List Value) : Chunk :=
  ⟨[b], fun w => ∃ cur T fr, w.heap[b]? = some (.cells cur T fr) ∧ cur.toList.take vs.length = vs, fun w w' h hA => by rw [h b (by simp)]; exact hA⟩
/-! ### Reading -/
/-- The slice base A leads to the cells vs. -/
def Reads (w : World) (A : Option Addr) (vs : List Value) : Prop := ∀ j u, vs[j]? = some u → ∃ x, A = some x ∧ w.cell? (x.add j) = some u
def Cell (X : Cx) (H : List Chunk) (a : Addr) (v : Value) : Prop := ∀ w, Holds X.w0 X.M H w → w.cell? a = some v
def Rd (X : Cx) (H : List Chunk) (A : Option Addr) (vs : List Value) : Prop := ∀ w, Holds X.w0 X.M H w → Reads w A vs
def adr (A : Option Addr) : Addr := A.getD default
section read
variable {X : Cx} {E : Env} {H : List Chunk}
theorem cell_cells {b i : Nat} {vs : List Value} {T : TypeId} {v : Value} (h : In (cells b vs T) H) (hv : vs[i]? = some v) : Cell X H ⟨b, i, none⟩ v := by
  intro w hw
  have := hw.chunk _ h.mem
  rw [cell_of_row w b i vs.toArray T (0, 0) this]
  simpa using hv
theorem reads_own {w : World} {A : Option Addr} {n c : Nat} {e : TypeId} {sz : Nat} {vs : List Value} (h : w.ownsRow 0 e sz (.slice A n c) n vs) : Reads w A vs := by
  intro j u hu
  rcases h.2 with ⟨he, h0⟩ | ⟨g, cap, cur, he, _⟩
  · have : vs = [] := List.eq_nil_of_length_eq_zero (by rw [h.1, h0]; simp)
    simp [this] at hu
  · simp only [Value.slice.injEq] at he
    obtain ⟨rfl, _, rfl⟩ := he
    exact ⟨_, rfl, h.cells (g := g) (by simp [Value.ownBlock]) j u hu⟩
theorem rd_sl {A : Option Addr} {n c : Nat} {e : TypeId} {sz : Nat} {vs : List Value} (h : In (sl A n c e sz vs) H) : Rd X H A vs :=
  fun w hw => reads_own (hw.chunk _ h.mem)
theorem rd_slr {b : Nat} {vs : List Value} (h : In (slr b vs) H) : Rd X H (some ⟨b, 0, none⟩) vs := by
  intro w hw j u hu
  obtain ⟨cur, T, fr, hg, ht⟩ := hw.chunk _ h.mem
  refine ⟨_, rfl, ?_⟩
  rw [Addr.add_lit, Nat.zero_add, cell_of_row w b j cur T fr hg]
  have hj : j < vs.length := by
    rcases Nat.lt_or_ge j vs.length with h | h
    · exact h
    · simp [List.getElem?_eq_none h] at hu
  rw [← ht, List.getElem?_take, if_pos hj] at hu
  simpa using hu
theorem rd_old {A : Option Addr} {vs : List Value} (h : Reads X.w0 A vs) (hm : X.M = []) : Rd X H A vs := by
  intro w hw j u hu
  obtain ⟨x, rfl, hx⟩ := h j u hu
  refine ⟨x, rfl, ?_⟩
  have hlt := World.block_lt_of_cell? _ _ hx
  rw [World.cell?_of_block (w := X.w0) (hw.old _ hlt (by simp [hm]))]
  exact hx
theorem rd_nil {A : Option Addr} : Rd X H A [] := fun w _ j u hu => by simp at hu
theorem Reads.take {w : World} {A : Option Addr} {vs : List Value} (h : Reads w A vs) (k : Nat) : Reads w A (vs.take k) := by
  intro j u hu
  rw [List.getElem?_take] at hu
  split at hu
  · exact h j u hu
  · cases hu
theorem Rd.take {A : Option Addr} {vs : List Value} (h : Rd X H A vs) (k : Nat) : Rd X H A (vs.take k) := fun w hw => (h w hw).take k
theorem cell_rd {A : Option Addr} {vs : List Value} {k : Nat} {u : Value} (h : Rd X H A vs) (hu : vs[k]? = some u) : Cell X H ((adr A).add k) u := by
  intro w hw
  obtain ⟨x, rfl, hx⟩ := h w hw k u hu
  exact hx
theorem cell_old {a : Addr} {v : Value} (h : X.w0.cell? a = some v) (hm : a.block ∉ X.M) : Cell X H a v := by
  intro w hw
  rw [World.cell?_of_block (w := X.w0) (hw.old _ (World.block_lt_of_cell? _ _ h) hm)]
  exact h

/-! ### Operations that read -/
theorem val_load {T ty : TypeId} {x : Operand} {a : Addr} {v : Value} (hg : ∀ w, (isAgg T).run X.P w = .ok false w) (hx : E.ev x = some (.pointer (some a))) (hc : Cell X H a v) : Val X E H (.load T x) ty v := by
  intro ac w o ho _ ha hw
  simp [execOp, ho, ha.ev hx, Instr.loadAt, Instr.sureAddr, loadVar, hg, hc w hw]
theorem val_loadAgg {T ty : TypeId} {x : Operand} {a : Addr} {vs : List Value} {n : Nat} (hg : ∀ w, (isAgg T).run X.P w = .ok true w) (hs : ∀ w, (sizeOf T).run X.P w = .ok n w) (hx : E.ev x = some (.pointer (some a)))
    (hc : ∀ i v, vs[i]? = some v → Cell X H (a.add i) v) (hn : vs.length = n) : Val X E H (.load T x) ty (.agg vs.toArray) := by
  intro ac w o ho _ ha hw
  subst hn
  have := run_loadCells_list (P := X.P) w a vs (fun j v hv => hc j v hv w hw)
  simp [execOp, ho, ha.ev hx, Instr.loadAt, Instr.sureAddr, loadVar, hg, hs, this]
theorem cells_whole {b : Nat} {vs : List Value} {T : TypeId} (h : In (cells b vs T) H) : ∀ i v, vs[i]? = some v → Cell X H ((⟨b, 0, none⟩ : Addr).add i) v := by
  intro i v hv
  rw [Addr.add_lit, Nat.zero_add]
  exact cell_cells h hv
theorem cells_part {b o : Nat} {vs us : List Value} {T : TypeId} (h : In (cells b vs T) H) (hu : (vs.drop o).take us.length = us) : ∀ i v, us[i]? = some v → Cell X H ((⟨b, o, none⟩ : Addr).add i) v := by
  intro i v hv
  rw [Addr.add_lit]
  refine cell_cells h ?_
  have hi : i < us.length := by
    rcases Nat.lt_or_ge i us.length with h | h
    · exact h
    · simp [List.getElem?_eq_none h] at hv
  rw [← hu, List.getElem?_take, if_pos hi, List.getElem?_drop] at hv
  exact hv
theorem cells_rd {A : Option Addr} {vs us : List Value} {k : Nat} (h : Rd X H A vs) (hu : (vs.drop k).take us.length = us) : ∀ i v, us[i]? = some v → Cell X H (((adr A).add k).add i) v := by
  intro i v hv
  rw [Addr.add_add]
  refine cell_rd h ?_
  have hi : i < us.length := by
    rcases Nat.lt_or_ge i us.length with h | h
    · exact h
    · simp [List.getElem?_eq_none h] at hv
  rw [← hu, List.getElem?_take, if_pos hi, List.getElem?_drop] at hv
  exact hv
theorem val_fieldAddr {T ty : TypeId} {x : Operand} {b i j s : Nat} {fs : Array Field} {f : Field} (hu : ∀ w, (underlying T).run X.P w = .ok (.struct fs) w) (hf : fs[j]? = some f)
    (hs : ∀ w, (sizeOf f.type).run X.P w = .ok (s + 1) w) (hx : E.ev x = some (.pointer (some ⟨b, i, none⟩))) : Val X E H (.fieldAddr T x j) ty (.pointer (some ⟨b, i + f.offset, none⟩)) := by
  intro ac w o ho _ ha hw
  simp [execOp, ho, ha.ev hx, Instr.fieldAt, Instr.sureAddr, hu, hf, fieldPlace, hs, Addr.add_lit]
theorem val_fieldAddrR {T ty : TypeId} {x : Operand} {A : Option Addr} {i j s : Nat} {fs : Array Field} {f : Field} (hu : ∀ w, (underlying T).run X.P w = .ok (.struct fs) w) (hf : fs[j]? = some f)
    (hs : ∀ w, (sizeOf f.type).run X.P w = .ok (s + 1) w) (hx : E.ev x = some (.pointer (some ((adr A).add i)))) : Val X E H (.fieldAddr T x j) ty (.pointer (some ((adr A).add (i + f.offset)))) := by
  intro ac w o ho _ ha hw
  simp [execOp, ho, ha.ev hx, Instr.fieldAt, Instr.sureAddr, hu, hf, fieldPlace, hs, Addr.add_add]
theorem val_indexAddr {T e ty : TypeId} {x y : Operand} {A : Option Addr} {n c sz : Nat} {k : IntKind} {i : Int} {vs : List Value} (hu : ∀ w, (underlying T).run X.P w = .ok (.slice e) w) (hs : ∀ w, (sizeOf e).run X.P w = .ok sz w)
    (hx : E.ev x = some (.slice A n c)) (hy : E.ev y = some (.int k i)) (hr : Rd X H A vs) (h0 : 0 ≤ i) (h1 : i < n) (hl : i.toNat * sz < vs.length) :
    Val X E H (.indexAddr T x y) ty (.pointer (some ((adr A).add (i.toNat * sz)))) := by
  intro ac w o ho _ ha hw
  obtain ⟨a, rfl, _⟩ := hr w hw (i.toNat * sz) _ (List.getElem?_eq_getElem hl)
  simp [execOp, ho, ha.ev hx, ha.ev hy, Instr.indexAt, asIntOf, hu, hs, h0, h1, adr]
theorem val_indexAddrArr {T e ty : TypeId} {x y : Operand} {b o n sz : Nat} {k : IntKind} {i : Int} (hu : ∀ w, (underlying T).run X.P w = .ok (.array n e) w) (hs : ∀ w, (sizeOf e).run X.P w = .ok sz w)
    (hx : E.ev x = some (.pointer (some ⟨b, o, none⟩))) (hy : E.ev y = some (.int k i)) (h0 : 0 ≤ i) (h1 : i < n) :
    Val X E H (.indexAddr T x y) ty (.pointer (some ⟨b, o + i.toNat * sz, none⟩)) := by
  intro ac w o' ho _ ha hw
  simp [execOp, ho, ha.ev hx, ha.ev hy, Instr.indexAt, Instr.sureAddr, asIntOf, hu, hs, h0, h1, Addr.add_lit]
/-- byte i of s -/
def bt (s : ByteArray) (i : Nat) : Nat := (s.data.toList.getD i 0).toNat
theorem val_indexStr {T ty : TypeId} {x y : Operand} {s : ByteArray} {k : IntKind} {i : Int} (hu : ∀ w, (underlying T).run X.P w = .ok .string w)
    (hx : E.ev x = some (.string s)) (hy : E.ev y = some (.int k i)) (h0 : 0 ≤ i) (h1 : i < s.size) : Val X E H (.index T x y) ty (.int .u8 (bt s i.toNat)) := by
  intro ac w o ho _ ha hw
  have hlt : i.toNat < s.size := by omega
  have hlt' : i.toNat < s.data.size := hlt
  have : s[i.toNat]? = some (s.data[i.toNat]) := by rw [getElem?_pos s i.toNat hlt]; rfl
  have hb : bt s i.toNat = (s.data[i.toNat]).toNat := by unfold bt; rw [List.getD_eq_getElem?_getD, Array.getElem?_toList, Array.getElem?_eq_getElem hlt']; rfl
  simp [execOp, ho, ha.ev hx, ha.ev hy, Instr.index, asIntOf, hu, h0, this, hb]
theorem val_extract {x : Operand} {i : Nat} {ty : TypeId} {vs : Array Value} {v : Value} (hx : E.ev x = some (.tuple vs)) (hv : vs[i]? = some v) : Val X E H (.extract x i) ty v := by
  intro ac w o ho _ ha hw
  simp [execOp, ho, ha.ev hx, Instr.extract, hv]
theorem val_convInt {T U ty : TypeId} {x : Operand} {d : TypeDesc} {k j : IntKind} {p r : Int} (hT : ∀ w, (underlying T).run X.P w = .ok d w) (hU : ∀ w, (underlying U).run X.P w = .ok (.int k) w) (hx : E.ev x = some (.int j p)) (hr : k.wrap p = r) :
    Val X E H (.convert T U x) ty (.int k r) := by
  intro ac w o ho _ ha hw
  subst hr
  simp [execOp, ho, ha.ev hx, convert, hT, hU, Conv.intToInt]
theorem val_lenStr {x : Operand} {T ty : TypeId} {s : ByteArray} (hu : ∀ w, (underlying T).run X.P w = .ok .string w) (hx : E.ev x = some (.string s)) : Val X E H (.call { callee := .builtin .len, args := #[x], argTypes := #[T] }) ty (.int .i64 s.size) := by
  intro ac w o ho _ ha hw
  simp [execOp, ho, ha.ev hx, resolve, invoke, builtin, Builtin.len_, hu, goInt]
theorem val_lenSl {x : Operand} {T e ty : TypeId} {A : Option Addr} {n c : Nat} (hu : ∀ w, (underlying T).run X.P w = .ok (.slice e) w) (hx : E.ev x = some (.slice A n c)) : Val X E H (.call { callee := .builtin .len, args := #[x], argTypes := #[T] }) ty (.int .i64 n) := by
  intro ac w o ho _ ha hw
  simp [execOp, ho, ha.ev hx, resolve, invoke, builtin, Builtin.len_, hu, goInt]
theorem val_mkFunc {f : Fn} {ty : TypeId} {xs ys : Array Operand} {us vs : List Value} (hx : xs.toList.mapM E.ev = some us) (hy : ys.toList.mapM E.ev = some vs) : Val X E H (.makeFunc f xs ys) ty (.func f us.toArray vs.toArray) := by
  intro ac w o ho _ ha hw
  have go : ∀ (l : List Operand) (us : List Value), l.mapM E.ev = some us → l.map ac.eval = us := by
    intro l
    induction l with
    | nil => intro us h; simp at h; simp [h]
    | cons x l ih =>
      intro us h
      simp only [List.mapM_cons, Option.bind_eq_bind, Option.bind_eq_some_iff, Option.pure_def, Option.some.injEq] at h
      obtain ⟨u, hu, us', hus, rfl⟩ := h
      simp [ha.ev hu, ih us' hus]
  have h1 : xs.map ac.eval = us.toArray := by rw [← go _ _ hx, ← Array.toList_map]
  have h2 : ys.map ac.eval = vs.toArray := by rw [← go _ _ hy, ← Array.toList_map]
  simp [execOp, ho, Instr.makeFunc, h1, h2]
theorem val_mkIface {T ty : TypeId} {x : Operand} {d : TypeDesc} {v : Value} (hu : ∀ w, (underlying T).run X.P w = .ok d w) (hd : (match d with | .interface _ => false | _ => true) = true) (hx : E.ev x = some v) : Val X E H (.makeInterface T x) ty (.iface T v) := by
  intro ac w o ho _ ha hw
  cases d <;> simp_all [execOp, ha.ev hx, Instr.makeInterface]
end read
end Go.Proofs.Ytdehjgpdcdjhjaa.K
