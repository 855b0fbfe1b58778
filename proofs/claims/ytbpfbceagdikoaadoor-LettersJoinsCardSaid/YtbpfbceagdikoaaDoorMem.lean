/- Words for slices that the call itself makes: what they hold, how an append of one element leaves them. -/
import Derived.Test.YtbpfbceagdikoaaDoorWords
import Derived.Maps.AppendAt
import Derived.Lib.AppendStr
import Derived.Lib.BufferRead
import Derived.Laws.IdiomStrings
namespace Go.Proofs.YtbpfbceagdikoaaDoor
open Go.RowKit

/-- slice value v owns the one-cell elements cs, in blocks from B on -/
def Own (B : Nat) (e : TypeId) (v : Value) (cs : List Value) (w : World) : Prop := w.ownsRow B e 1 v cs.length cs
theorem Own.nil (B : Nat) (e : TypeId) (w : World) : Own B e (.slice none 0 0) [] w := World.ownsRow_nil w B e 1
theorem Own.grown {B : Nat} {e : TypeId} {v : Value} {cs : List Value} {w w' : World} (h : Own B e v cs w) {row : Option Nat} (hg : w.grownBy w' row) (hne : v.ownBlock = none ∨ v.ownBlock ≠ row) : Own B e v cs w' := World.ownsRow.kept h hg hne
theorem Own.below {B : Nat} {e : TypeId} {v : Value} {cs : List Value} {w w' : World} (h : Own B e v cs w) (hb : Below w.heap.size w w') : Own B e v cs w' :=
  World.ownsRow.kept h (grown_of_below hb none) (by cases v.ownBlock <;> simp)
theorem Own.alloc {B : Nat} {e : TypeId} {v : Value} {cs : List Value} {w : World} (h : Own B e v cs w) (o : Obj) : Own B e v cs (w.alloc o) := World.ownsRow.alloc h o
theorem Own.lt {B : Nat} {e : TypeId} {v : Value} {cs : List Value} {w : World} (h : Own B e v cs w) : ∀ k, v.ownBlock = some k → B ≤ k ∧ k < w.heap.size := World.ownsRow.lt h
theorem Own.iter {B : Nat} {e : TypeId} {v : Value} {cs : List Value} {w : World} (h : Own B e v cs w) {k : Nat} {s : ByteArray} {p : Nat} (hk : w.heap[k]? = some (.stringIter s p)) : some k ≠ v.ownBlock := by
  rcases h.2 with ⟨rfl, _⟩ | ⟨g, cap, cur, rfl, _, hg, _⟩
  · simp [Value.ownBlock]
  · intro e
    simp only [Value.ownBlock, Option.some.injEq] at e
    subst e
    rw [hg] at hk; cases hk
theorem Own.iterAt {B : Nat} {e : TypeId} {v : Value} {cs : List Value} {w : World} (h : Own B e v cs w) {k : Nat} {s : ByteArray} {p : Nat} (hk : w.heap[k]? = some (.stringIter s p)) (p' : Nat) : Own B e v cs (w.iterAt k s p') := by
  refine World.ownsRow.kept h (row := some k) ⟨rfl, rfl, rfl, by rw [Lib.iterAt_size]; exact Nat.le_refl _, fun j _ hj => Lib.iterAt_other w k j s p' (fun e => hj (by rw [e]))⟩ ?_
  exact Or.inr (fun e => h.iter hk e.symm)
theorem Own.iterGrown {B : Nat} {e : TypeId} {v : Value} {cs : List Value} {w w' : World} (h : Own B e v cs w) {k : Nat} {s : ByteArray} {p : Nat} (hk : w.heap[k]? = some (.stringIter s p)) (hg : w.grownBy w' v.ownBlock) : w'.heap[k]? = some (.stringIter s p) :=
  (hg.block _ (Array.getElem?_eq_some_iff.1 hk).1 (h.iter hk)).trans hk
theorem Own.row {B : Nat} {e : TypeId} {v : Value} {cs : List Value} {w : World} (h : Own B e v cs w) : Row w v cs := by
  rcases h.2 with ⟨rfl, h0⟩ | ⟨g, cap, cur, rfl, hB, hg, hn, hm, hc, ht⟩
  · obtain rfl : cs = [] := List.eq_nil_of_length_eq_zero h0
    exact Row.nil w
  · refine ⟨_, _, rfl, hn, fun _ => ⟨g, 0, rfl, ?_, fun j u hu => ?_⟩⟩
    · exact (Array.getElem?_eq_some_iff.1 hg).1
    · have := World.ownsRow.cells h (g := g) rfl j u hu
      rw [Nat.zero_add]
      have e : (⟨g, 0, none⟩ : Addr).add j = ⟨g, j, none⟩ := by unfold Addr.add; split <;> simp_all
      rwa [e] at this

section
variable {P : Program}
/-- append of one element that has just been laid in a block of its own -/
theorem wpList_app1 {ops : Array Oper} {rest : List Oper} {o : Oper} {a : Act} {Q : Exit → Act → World → Prop} {w : World} {e : TypeId} {u : Value} (hgd : o.guard = none) (s x : Operand) (t : TypeId)
    (ho : o.op = .call { callee := .builtin .append, args := #[s, x], argTypes := #[t, t] })
    (B : Nat) (i : TypeInfo) (z : Value) (bytes : Nat) (ht : P.underlying t = some (.slice e)) (hi : P.info? e = some i) (hz : i.zero = some z)
    (hsize : i.size = 1) (hby : i.bytes = bytes) (hzs : z.cells.size = 1)
    (v : Value) (cs : List Value) (hs : a.eval s = v) (hown : Own B e v cs w) (c : Nat) (hx : a.eval x = .slice (some ⟨w.heap.size, 0, none⟩) 1 c) (h1 : u.oneCell' = true)
    (hb1 : cs.length + 1 ≤ maxLen) (hbytes : (cs.length + 1) * bytes ≤ 140737488355328) (hB : B ≤ w.heap.size)
    (h : ∀ v' w', Own B e v' (cs ++ [u]) w' → w.grownBy w' v.ownBlock → Below B w w' → wpList P ops Q rest (a.put o.dst v') w') : wpList P ops Q (o :: rest) a (w.alloc (.cells #[u] e)) := by
  refine wpList_append_own _ hgd s x t ho B e i z 1 bytes ht hi hz hsize hby hzs (by decide) v cs.length cs hs (hown.alloc _) ⟨w.heap.size, 0, none⟩ 1 c [u] hx rfl ?_ ?_ hb1 hbytes (by simp; omega) ?_
  · intro j y hy
    match j, hy with
    | 0, hy => simp at hy; subst hy; simp [Addr.add]
  · intro y hy; simp at hy; subst hy; exact h1
  · intro v' w' h2 h3 h4
    have hg : w.grownBy w' v.ownBlock := ⟨h3.os, h3.tape, h3.output, Nat.le_trans (by simp) h3.size, fun k hk hne => (h3.block k (by simp; omega) hne).trans (Below.heap_alloc w _ k hk)⟩
    refine h v' w' (by unfold Own; rw [List.length_append]; exact h2) hg ?_
    exact (Below.refl B w).grown hg hB (fun k hk => (hown.lt k hk).1)
/-- append(bytes, string...) -/
theorem wpList_appS {ops : Array Oper} {rest : List Oper} {o : Oper} {a : Act} {Q : Exit → Act → World → Prop} {w : World} {s : ByteArray} (hgd : o.guard = none) (sl x : Operand) (t u : TypeId)
    (ho : o.op = .call { callee := .builtin .append, args := #[sl, x], argTypes := #[t, u] })
    (B : Nat) (e : TypeId) (i : TypeInfo) (ht : P.underlying t = some (.slice e)) (hu : P.underlying u = some .string) (hi : P.info? e = some i) (hz : i.zero = some (.int .u8 0))
    (hsize : i.size = 1) (hby : i.bytes = 1)
    (v : Value) (l : Bs) (hs : a.eval sl = v) (hown : Own B e v (Lib.byteCells l) w) (hx : a.eval x = .string s)
    (hlen : l.length + s.size ≤ 140737488355328) (hB : B ≤ w.heap.size)
    (h : ∀ v' w', Own B e v' (Lib.byteCells (l ++ s.data.toList)) w' → Below B w w' → wpList P ops Q rest (a.put o.dst v') w') : wpList P ops Q (o :: rest) a w := by
  have hown' : w.ownsRow B e 1 v l.length (Lib.byteCells l) := by have := hown; unfold Own at this; rwa [Lib.byteCells_length] at this
  refine Lib.wpList_append_own_string _ hgd sl x t u ho B e i ht hu hi hz hsize hby v l.length _ hs hown' s hx (by unfold maxLen; omega) hlen hB ?_
  intro v' w' h2 h3 h4
  refine h v' w' ?_ ((Below.refl B w).grown h3 hB (fun k hk => (hown'.lt k hk).1))
  unfold Own
  rw [Lib.byteCells_length, List.length_append, Lib.byteCells_append, ← Lib.strCells_eq, ← Lib.size_eq]
  exact h2
/-- string(bytes) -/
theorem own_string {src dst e : TypeId} {B : Nat} {v : Value} {l : Bs} {w : World} (hs : P.underlying src = some (.slice e)) (he : P.underlying e = some (.int .u8)) (hd : P.underlying dst = some .string) (h : Own B e v (Lib.byteCells l) w) :
    (convert src dst v).run P w = .ok (.string ⟨l.toArray⟩) w := by
  have h' : w.ownsRow B e 1 v l.length (Lib.byteCells l) := by have := h; unfold Own at this; rwa [Lib.byteCells_length] at this
  rcases h'.2 with ⟨rfl, h0⟩ | ⟨g, cap, cur, rfl, _, hg, _, _, _, ht⟩
  · obtain rfl : l = [] := List.eq_nil_of_length_eq_zero h0
    exact Lib.run_convert_nil_bytes w src dst e 0 hs he hd
  · exact run_convert_bytes_back w src dst e ⟨g, 0, none⟩ cap l hs he hd (Lib.bytes_of_row hg (by rw [← ht, Nat.mul_one]))
theorem byteCells_snoc1 (l : Bs) (c : UInt8) : Lib.byteCells l ++ [.int .u8 c.toNat] = Lib.byteCells (l ++ [c]) := by rw [Lib.byteCells_append]; rfl
end
end Go.Proofs.YtbpfbceagdikoaaDoor
