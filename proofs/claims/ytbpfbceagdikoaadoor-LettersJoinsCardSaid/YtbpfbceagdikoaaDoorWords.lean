/- Words for memory: what the package-level variables hold; a slice that reads as a list of cells; values of strings. -/
import Derived.Test.YtbpfbceagdikoaaDoorShelf
import Derived.Test.YtbpfbceagdikoaaDoorPlain
import Derived.Test.YtbpfbceagdikoaaDoorRet
import Derived.Handy
import Derived.IntWalk
import Derived.Laws.Rows
import Derived.Lib.Hide
import Derived.WalkSmall
import Derived.Lib.SmallJoins
import Derived.Lib.FrozenHead2
import Derived.Lib.OthersKept
import Derived.Lib.UnsafeStr
namespace Go.Proofs.YtbpfbceagdikoaaDoor
open Go.RowKit

/-- the cells of letters.classes -/
def spanCells : Array Value := #[.int .i32 97, .int .i32 122, .int .i64 1, .int .i32 181, .int .i32 181, .int .i64 1, .int .i32 223, .int .i32 246, .int .i64 1, .int .i32 248, .int .i32 255, .int .i64 1, .int .i32 65, .int .i32 90, .int .i64 2, .int .i32 192, .int .i32 214, .int .i64 2, .int .i32 216, .int .i32 222, .int .i64 2, .int .i32 48, .int .i32 57, .int .i64 3, .int .i32 9, .int .i32 13, .int .i64 4, .int .i32 32, .int .i32 32, .int .i64 4, .int .i32 160, .int .i32 160, .int .i64 4, .int .i32 33, .int .i32 126, .int .i64 5]

/-- What the listed variables hold. -/
structure Tabs (w : World) : Prop where
  u8 : Lib.Utf8Tabs 2 3 w
  cls : ∃ t fr, w.heap[0]? = some (.cells spanCells t fr)
  syn : ∃ te pe, w.cell? ⟨4, 0, none⟩ = some (.iface te pe)
  lt : 9 ≤ w.heap.size

theorem cell_lt {w : World} {a : Addr} {v : Value} (h : w.cell? a = some v) : a.block < w.heap.size := by
  rcases Nat.lt_or_ge a.block w.heap.size with hh | hh
  · exact hh
  · unfold World.cell? at h; rw [Array.getElem?_eq_none hh] at h; cases h
theorem Tabs.below {w w' : World} (h : Tabs w) (hb : Below w.heap.size w w') : Tabs w' := by
  obtain ⟨⟨h1, h2⟩, ⟨t, fr, h3⟩, ⟨te, pe, h4⟩, h5⟩ := h
  have key : ∀ {a : Addr} {v : Value}, w.cell? a = some v → w'.cell? a = some v := fun {a v} hc => (hb.cell (cell_lt hc)).trans hc
  refine ⟨⟨fun c hc => key (h1 c hc), fun i hi => ⟨key (h2 i hi).1, key (h2 i hi).2⟩⟩, ⟨t, fr, ?_⟩, ⟨te, pe, key h4⟩, Nat.le_trans h5 hb.size⟩
  rw [hb.block _ (by omega)]; exact h3

/-- A slice value that reads as these cells. -/
def Row (w : World) (v : Value) (cs : List Value) : Prop :=
  ∃ A c, v = .slice A cs.length c ∧ cs.length ≤ c ∧ (cs ≠ [] → ∃ b o, A = some ⟨b, o, none⟩ ∧ b < w.heap.size ∧ ∀ (j : Nat) u, cs[j]? = some u → w.cell? ⟨b, o + j, none⟩ = some u)
theorem Row.below {w w' : World} {v : Value} {cs : List Value} (h : Row w v cs) (hb : Below w.heap.size w w') : Row w' v cs := by
  obtain ⟨A, c, rfl, hc, hr⟩ := h
  refine ⟨A, c, rfl, hc, fun hne => ?_⟩
  obtain ⟨b, o, rfl, hlt, hcell⟩ := hr hne
  exact ⟨b, o, rfl, Nat.lt_of_lt_of_le hlt hb.size, fun j u hu => (hb.cell (p := ⟨b, o + j, none⟩) hlt).trans (hcell j u hu)⟩
/-- the cells behind an address -/
def RowAt (w : World) (A : Option Addr) (cs : List Value) : Prop :=
  cs ≠ [] → ∃ b o, A = some ⟨b, o, none⟩ ∧ b < w.heap.size ∧ ∀ (j : Nat) u, cs[j]? = some u → w.cell? ⟨b, o + j, none⟩ = some u
theorem RowAt.below {w w' : World} {A : Option Addr} {cs : List Value} (h : RowAt w A cs) (hb : Below w.heap.size w w') : RowAt w' A cs := fun hne => by
  obtain ⟨b, o, rfl, hlt, hcell⟩ := h hne
  exact ⟨b, o, rfl, Nat.lt_of_lt_of_le hlt hb.size, fun j u hu => (hb.cell (p := ⟨b, o + j, none⟩) hlt).trans (hcell j u hu)⟩
theorem RowAt.nil (w : World) (A : Option Addr) : RowAt w A [] := fun h => absurd rfl h
theorem Row.to {w : World} {v : Value} {cs : List Value} {n : Nat} (h : Row w v cs) (hn : cs.length = n) : ∃ A c, v = .slice A n c ∧ n ≤ c ∧ RowAt w A cs := by
  obtain ⟨A, c, rfl, hc, hr⟩ := h
  subst hn
  exact ⟨A, c, rfl, hc, hr⟩
theorem Row.nil (w : World) : Row w (.slice none 0 0) [] := ⟨none, 0, rfl, Nat.le_refl _, fun h => absurd rfl h⟩
theorem Tabs.belowB {w w' : World} {B : Nat} (h : Tabs w) (hB : 9 ≤ B) (hb : Below B w w') : Tabs w' := by
  obtain ⟨⟨h1, h2⟩, ⟨t, fr, h3⟩, ⟨te, pe, h4⟩, h5⟩ := h
  have key : ∀ {a : Addr} {v : Value}, a.block < 9 → w.cell? a = some v → w'.cell? a = some v := fun {a v} ha hc => (hb.cell (by omega)).trans hc
  refine ⟨⟨fun c hc => key (by simp) (h1 c hc), fun i hi => ⟨key (by simp) (h2 i hi).1, key (by simp) (h2 i hi).2⟩⟩, ⟨t, fr, ?_⟩, ⟨te, pe, key (by simp) h4⟩, Nat.le_trans h5 hb.size⟩
  rw [hb.block _ (by omega)]; exact h3
theorem grown_of_below {w w' : World} (h : Below w.heap.size w w') (row : Option Nat) : w.grownBy w' row := ⟨h.os, h.tape, h.output, h.size, fun k hk _ => h.block k hk⟩
/-- a strings.Builder of the call's own in block b that holds these bytes -/
def Bld (B b : Nat) (l : Bs) (w : World) : Prop := Lib.IsBuilderF 44 5 B b (Lib.byteCells l) w
theorem Bld.lt {B b : Nat} {l : Bs} {w : World} (h : Bld B b l w) : B ≤ b ∧ b < w.heap.size := by
  rcases h with h | h
  · exact ⟨h.1, h.lt⟩
  · exact ⟨h.1, h.lt⟩
theorem BuilderAtF_grown {T e B b : Nat} {p : Value} {bs : List Value} {w w' : World} (h : Lib.BuilderAtF T e B b p bs w) (hg : w.grownBy w' none) : Lib.BuilderAtF T e B b p bs w' := by
  have hlt := h.lt
  obtain ⟨hB, v, hb, hown, hne⟩ := h
  exact ⟨hB, v, (hg.block b hlt (by simp)).trans hb, hown.kept hg (by cases hv : v.ownBlock <;> simp), hne⟩
theorem Bld.below {B b : Nat} {l : Bs} {w w' : World} (h : Bld B b l w) (hb : Below w.heap.size w w') : Bld B b l w' := by
  rcases h with h | h
  · exact Or.inl (BuilderAtF_grown h (grown_of_below hb none))
  · exact Or.inr (BuilderAtF_grown h (grown_of_below hb none))
/-- one call more, behind calls that only made memory -/
theorem bstep {w w1 w2 : World} (h : Below w.heap.size w w1) (hb : Below w1.heap.size w1 w2) : Below w.heap.size w w2 := h.trans (hb.mono h.size)
theorem size_cat (a b : ByteArray) : (a ++ b).size = a.size + b.size := by
  rw [Lib.size_eq, Joins.data_append, List.length_append, ← Lib.size_eq, ← Lib.size_eq]
theorem ext_data (s : ByteArray) (a b : Nat) : (s.extract a b).data.toList = (s.data.toList.drop a).take (b - a) := Lib.extract_data s a b
/-- a string's size, of a slot -/
def strLen : Value → Nat | .string s => s.size | _ => 0
theorem data_nil {s : ByteArray} (h : s.size = 0) : s.data.toList = [] := List.eq_nil_of_length_eq_zero (by rw [← Lib.size_eq]; exact h)
theorem data_ne {s : ByteArray} (h : ¬ s.size = 0) : ¬ s.data.toList = [] := fun e => h (by rw [Lib.size_eq, e]; rfl)
theorem isEmpty_of {s : ByteArray} (h : s.size = 0) : s.toList.isEmpty = true := by rw [Lib.toList_data, data_nil h]; rfl
theorem not_isEmpty_of {s : ByteArray} (h : ¬ s.size = 0) : s.toList.isEmpty = false := by
  rw [Lib.toList_data]
  cases hl : s.data.toList with
  | nil => exact absurd hl (data_ne h)
  | cons _ _ => rfl
theorem Bld.new (w : World) : Bld w.heap.size w.heap.size [] (w.alloc (.cells #[.pointer none, .slice none 0 0] 44)) :=
  Or.inl ⟨Nat.le_refl _, .slice none 0 0, Go.heap_alloc_new w _, World.ownsRowF_nil _ _ _ _, by simp [Value.ownBlock]⟩
theorem byte0 (t : ByteArray) (ht : 0 < t.size) : t[0] = t.data.toList.headD 0 := by
  cases t with
  | mk d =>
    cases d with
    | mk l =>
      cases l with
      | nil => exact absurd ht (by decide)
      | cons x r => rfl
end Go.Proofs.YtbpfbceagdikoaaDoor
