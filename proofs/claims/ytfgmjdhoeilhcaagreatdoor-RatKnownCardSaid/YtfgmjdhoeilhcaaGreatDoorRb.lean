/- Words for memory and for slices that the call itself makes; small laws for walks. -/
import Derived.Test.YtfgmjdhoeilhcaaGreatDoorProg
import Derived.Test.YtfgmjdhoeilhcaaGreatDoorNz
import Derived.Handy
import Derived.IntWalk
import Derived.Laws.Rows
import Derived.Lib.Hide
import Derived.WalkSmall
import Derived.Lib.SmallJoins
import Derived.Lib.FrozenHead2
import Derived.Lib.OthersKept
import Derived.Lib.UnsafeStr
import Derived.Maps.AppendAt
import Derived.Lib.AppendStr
import Derived.Lib.BufferRead
import Derived.Laws.IdiomStrings
import Derived.Deep.RegionHeld3
import Derived.WalkSpells
import Derived.WalkLawsBesides
import Derived.Deep.Light
import Derived.BigQuiet
import Derived.Deep.QuietTactic
import Derived.Lib.Strings
namespace Go.Proofs.YtfgmjdhoeilhcaaGreatDoor
open Go.RowKit
set_option linter.unusedVariables false

theorem ret_int {k : IntKind} {a b : Int} (h : a = b) : Ending.returned (.int k a) = .returned (.int k b) := by rw [h]
theorem ret_bool {a b : Bool} (h : a = b) : Ending.returned (.bool a) = .returned (.bool b) := by rw [h]
theorem ret_int2 {k k' : IntKind} {a b c d : Int} (h : a = b) (h' : c = d) : Ending.returned (.tuple #[.int k a, .int k' c]) = .returned (.tuple #[.int k b, .int k' d]) := by rw [h, h']
theorem ret_str {a b : ByteArray} (h : a.data.toList = b.data.toList) : Ending.returned (.string a) = .returned (.string b) := by
  have : a = b := by
    cases a; cases b; simp at h; rw [h]
  rw [this]

theorem cell_lt {w : World} {a : Addr} {v : Value} (h : w.cell? a = some v) : a.block < w.heap.size := by
  rcases Nat.lt_or_ge a.block w.heap.size with hh | hh
  · exact hh
  · unfold World.cell? at h; rw [Array.getElem?_eq_none hh] at h; cases h
/-- A slice value that reads as these cells. -/
def Row (w : World) (v : Value) (cs : List Value) : Prop :=
  ∃ A c, v = .slice A cs.length c ∧ cs.length ≤ c ∧ (cs ≠ [] → ∃ b o, A = some ⟨b, o, none⟩ ∧ b < w.heap.size ∧ ∀ (j : Nat) u, cs[j]? = some u → w.cell? ⟨b, o + j, none⟩ = some u)
theorem Row.below {w w' : World} {v : Value} {cs : List Value} (h : Row w v cs) (hb : Below w.heap.size w w') : Row w' v cs := by
  obtain ⟨A, c, rfl, hc, hr⟩ := h
  refine ⟨A, c, rfl, hc, fun hne => ?_⟩
  obtain ⟨b, o, rfl, hlt, hcell⟩ := hr hne
  exact ⟨b, o, rfl, Nat.lt_of_lt_of_le hlt hb.size, fun j u hu => (hb.cell (p := ⟨b, o + j, none⟩) hlt).trans (hcell j u hu)⟩
/-- the cells behind an address -/
def RowAt (w : World) (A : Option Addr) (cs : List Value) : Prop :=
  cs ≠ [] → ∃ b o, A = some ⟨b, o, none⟩ ∧ b < w.heap.size ∧ ∀ (j : Nat) u, cs[j]? = some u → w.cell? ⟨b, o + j, none⟩ = some u
theorem RowAt.below {w w' : World} {A : Option Addr} {cs : List Value} (h : RowAt w A cs) (hb : Below w.heap.size w w') : RowAt w' A cs := fun hne => by
  obtain ⟨b, o, rfl, hlt, hcell⟩ := h hne
  exact ⟨b, o, rfl, Nat.lt_of_lt_of_le hlt hb.size, fun j u hu => (hb.cell (p := ⟨b, o + j, none⟩) hlt).trans (hcell j u hu)⟩
theorem RowAt.nil (w : World) (A : Option Addr) : RowAt w A [] := fun h => absurd rfl h
theorem Row.to {w : World} {v : Value} {cs : List Value} {n : Nat} (h : Row w v cs) (hn : cs.length = n) : ∃ A c, v = .slice A n c ∧ n ≤ c ∧ RowAt w A cs := by
  obtain ⟨A, c, rfl, hc, hr⟩ := h
  subst hn
  exact ⟨A, c, rfl, hc, hr⟩
theorem Row.nil (w : World) : Row w (.slice none 0 0) [] := ⟨none, 0, rfl, Nat.le_refl _, fun h => absurd rfl h⟩
theorem grown_of_below {w w' : World} (h : Below w.heap.size w w') (row : Option Nat) : w.grownBy w' row := ⟨h.os, h.tape, h.output, h.size, fun k hk _ => h.block k hk⟩
/-- a strings.Builder of the call's own in block b that holds these bytes -/
def Bld (B b : Nat) (l : Bs) (w : World) : Prop := Lib.IsBuilderF 80 5 B b (Lib.byteCells l) w
theorem Bld.lt {B b : Nat} {l : Bs} {w : World} (h : Bld B b l w) : B ≤ b ∧ b < w.heap.size := by
  rcases h with h | h
  · exact ⟨h.1, h.lt⟩
  · exact ⟨h.1, h.lt⟩
theorem BuilderAtF_grown {T e B b : Nat} {p : Value} {bs : List Value} {w w' : World} (h : Lib.BuilderAtF T e B b p bs w) (hg : w.grownBy w' none) : Lib.BuilderAtF T e B b p bs w' := by
  have hlt := h.lt
  obtain ⟨hB, v, hb, hown, hne⟩ := h
  exact ⟨hB, v, (hg.block b hlt (by simp)).trans hb, hown.kept hg (by cases hv : v.ownBlock <;> simp), hne⟩
theorem Bld.below {B b : Nat} {l : Bs} {w w' : World} (h : Bld B b l w) (hb : Below w.heap.size w w') : Bld B b l w' := by
  rcases h with h | h
  · exact Or.inl (BuilderAtF_grown h (grown_of_below hb none))
  · exact Or.inr (BuilderAtF_grown h (grown_of_below hb none))
/-- one call more, behind calls that only made memory -/
theorem bstep {w w1 w2 : World} (h : Below w.heap.size w w1) (hb : Below w1.heap.size w1 w2) : Below w.heap.size w w2 := h.trans (hb.mono h.size)
theorem size_cat (a b : ByteArray) : (a ++ b).size = a.size + b.size := by
  rw [Lib.size_eq, Joins.data_append, List.length_append, ← Lib.size_eq, ← Lib.size_eq]
theorem ext_data (s : ByteArray) (a b : Nat) : (s.extract a b).data.toList = (s.data.toList.drop a).take (b - a) := Lib.extract_data s a b
/-- a string's size, of a slot -/
def strLen : Value → Nat | .string s => s.size | _ => 0
theorem data_nil {s : ByteArray} (h : s.size = 0) : s.data.toList = [] := List.eq_nil_of_length_eq_zero (by rw [← Lib.size_eq]; exact h)
theorem data_ne {s : ByteArray} (h : ¬ s.size = 0) : ¬ s.data.toList = [] := fun e => h (by rw [Lib.size_eq, e]; rfl)
theorem isEmpty_of {s : ByteArray} (h : s.size = 0) : s.toList.isEmpty = true := by rw [Lib.toList_data, data_nil h]; rfl
theorem not_isEmpty_of {s : ByteArray} (h : ¬ s.size = 0) : s.toList.isEmpty = false := by
  rw [Lib.toList_data]
  cases hl : s.data.toList with
  | nil => exact absurd hl (data_ne h)
  | cons _ _ => rfl
theorem Bld.new (w : World) : Bld w.heap.size w.heap.size [] (w.alloc (.cells #[.pointer none, .slice none 0 0] 80)) :=
  Or.inl ⟨Nat.le_refl _, .slice none 0 0, Go.heap_alloc_new w _, World.ownsRowF_nil _ _ _ _, by simp [Value.ownBlock]⟩
theorem byte0 (t : ByteArray) (ht : 0 < t.size) : t[0] = t.data.toList.headD 0 := by
  cases t with
  | mk d =>
    cases d with
    | mk l =>
      cases l with
      | nil => exact absurd ht (by decide)
      | cons x r => rfl
/-- slice value v owns the one-cell elements cs, in blocks from B on -/
def Own (B : Nat) (e : TypeId) (v : Value) (cs : List Value) (w : World) : Prop := w.ownsRow B e 1 v cs.length cs
theorem Own.nil (B : Nat) (e : TypeId) (w : World) : Own B e (.slice none 0 0) [] w := World.ownsRow_nil w B e 1
theorem Own.grown {B : Nat} {e : TypeId} {v : Value} {cs : List Value} {w w' : World} (h : Own B e v cs w) {row : Option Nat} (hg : w.grownBy w' row) (hne : v.ownBlock = none ∨ v.ownBlock ≠ row) : Own B e v cs w' := World.ownsRow.kept h hg hne
theorem Own.below {B : Nat} {e : TypeId} {v : Value} {cs : List Value} {w w' : World} (h : Own B e v cs w) (hb : Below w.heap.size w w') : Own B e v cs w' :=
  World.ownsRow.kept h (grown_of_below hb none) (by cases v.ownBlock <;> simp)
theorem Own.alloc {B : Nat} {e : TypeId} {v : Value} {cs : List Value} {w : World} (h : Own B e v cs w) (o : Obj) : Own B e v cs (w.alloc o) := World.ownsRow.alloc h o
theorem Own.lt {B : Nat} {e : TypeId} {v : Value} {cs : List Value} {w : World} (h : Own B e v cs w) : ∀ k, v.ownBlock = some k → B ≤ k ∧ k < w.heap.size := World.ownsRow.lt h
theorem Own.iter {B : Nat} {e : TypeId} {v : Value} {cs : List Value} {w : World} (h : Own B e v cs w) {k : Nat} {s : ByteArray} {p : Nat} (hk : w.heap[k]? = some (.stringIter s p)) : some k ≠ v.ownBlock := by
  rcases h.2 with ⟨rfl, _⟩ | ⟨g, cap, cur, rfl, _, hg, _⟩
  · simp [Value.ownBlock]
  · intro e
    simp only [Value.ownBlock, Option.some.injEq] at e
    subst e
    rw [hg] at hk; cases hk
theorem Own.iterAt {B : Nat} {e : TypeId} {v : Value} {cs : List Value} {w : World} (h : Own B e v cs w) {k : Nat} {s : ByteArray} {p : Nat} (hk : w.heap[k]? = some (.stringIter s p)) (p' : Nat) : Own B e v cs (w.iterAt k s p') := by
  refine World.ownsRow.kept h (row := some k) ⟨rfl, rfl, rfl, by rw [Lib.iterAt_size]; exact Nat.le_refl _, fun j _ hj => Lib.iterAt_other w k j s p' (fun e => hj (by rw [e]))⟩ ?_
  exact Or.inr (fun e => h.iter hk e.symm)
theorem Own.iterGrown {B : Nat} {e : TypeId} {v : Value} {cs : List Value} {w w' : World} (h : Own B e v cs w) {k : Nat} {s : ByteArray} {p : Nat} (hk : w.heap[k]? = some (.stringIter s p)) (hg : w.grownBy w' v.ownBlock) : w'.heap[k]? = some (.stringIter s p) :=
  (hg.block _ (Array.getElem?_eq_some_iff.1 hk).1 (h.iter hk)).trans hk
theorem Own.row {B : Nat} {e : TypeId} {v : Value} {cs : List Value} {w : World} (h : Own B e v cs w) : Row w v cs := by
  rcases h.2 with ⟨rfl, h0⟩ | ⟨g, cap, cur, rfl, hB, hg, hn, hm, hc, ht⟩
  · obtain rfl : cs = [] := List.eq_nil_of_length_eq_zero h0
    exact Row.nil w
  · refine ⟨_, _, rfl, hn, fun _ => ⟨g, 0, rfl, ?_, fun j u hu => ?_⟩⟩
    · exact (Array.getElem?_eq_some_iff.1 hg).1
    · have := World.ownsRow.cells h (g := g) rfl j u hu
      rw [Nat.zero_add]
      have e : (⟨g, 0, none⟩ : Addr).add j = ⟨g, j, none⟩ := by unfold Addr.add; split <;> simp_all
      rwa [e] at this

section
variable {P : Program}
/-- append of one element that has just been laid in a block of its own -/
theorem wpList_app1 {ops : Array Oper} {rest : List Oper} {o : Oper} {a : Act} {Q : Exit → Act → World → Prop} {w : World} {e : TypeId} {u : Value} (hgd : o.guard = none) (s x : Operand) (t : TypeId)
    (ho : o.op = .call { callee := .builtin .append, args := #[s, x], argTypes := #[t, t] })
    (B : Nat) (i : TypeInfo) (z : Value) (bytes : Nat) (ht : P.underlying t = some (.slice e)) (hi : P.info? e = some i) (hz : i.zero = some z)
    (hsize : i.size = 1) (hby : i.bytes = bytes) (hzs : z.cells.size = 1)
    (v : Value) (cs : List Value) (hs : a.eval s = v) (hown : Own B e v cs w) (c : Nat) (hx : a.eval x = .slice (some ⟨w.heap.size, 0, none⟩) 1 c) (h1 : u.oneCell' = true)
    (hb1 : cs.length + 1 ≤ maxLen) (hbytes : (cs.length + 1) * bytes ≤ 140737488355328) (hB : B ≤ w.heap.size)
    (h : ∀ v' w', Own B e v' (cs ++ [u]) w' → w.grownBy w' v.ownBlock → Below B w w' → wpList P ops Q rest (a.put o.dst v') w') : wpList P ops Q (o :: rest) a (w.alloc (.cells #[u] e)) := by
  refine wpList_append_own _ hgd s x t ho B e i z 1 bytes ht hi hz hsize hby hzs (by decide) v cs.length cs hs (hown.alloc _) ⟨w.heap.size, 0, none⟩ 1 c [u] hx rfl ?_ ?_ hb1 hbytes (by simp; omega) ?_
  · intro j y hy
    match j, hy with
    | 0, hy => simp at hy; subst hy; simp [Addr.add]
  · intro y hy; simp at hy; subst hy; exact h1
  · intro v' w' h2 h3 h4
    have hg : w.grownBy w' v.ownBlock := ⟨h3.os, h3.tape, h3.output, Nat.le_trans (by simp) h3.size, fun k hk hne => (h3.block k (by simp; omega) hne).trans (Below.heap_alloc w _ k hk)⟩
    refine h v' w' (by unfold Own; rw [List.length_append]; exact h2) hg ?_
    exact (Below.refl B w).grown hg hB (fun k hk => (hown.lt k hk).1)
/-- append(bytes, string...) -/
theorem wpList_appS {ops : Array Oper} {rest : List Oper} {o : Oper} {a : Act} {Q : Exit → Act → World → Prop} {w : World} {s : ByteArray} (hgd : o.guard = none) (sl x : Operand) (t u : TypeId)
    (ho : o.op = .call { callee := .builtin .append, args := #[sl, x], argTypes := #[t, u] })
    (B : Nat) (e : TypeId) (i : TypeInfo) (ht : P.underlying t = some (.slice e)) (hu : P.underlying u = some .string) (hi : P.info? e = some i) (hz : i.zero = some (.int .u8 0))
    (hsize : i.size = 1) (hby : i.bytes = 1)
    (v : Value) (l : Bs) (hs : a.eval sl = v) (hown : Own B e v (Lib.byteCells l) w) (hx : a.eval x = .string s)
    (hlen : l.length + s.size ≤ 140737488355328) (hB : B ≤ w.heap.size)
    (h : ∀ v' w', Own B e v' (Lib.byteCells (l ++ s.data.toList)) w' → Below B w w' → wpList P ops Q rest (a.put o.dst v') w') : wpList P ops Q (o :: rest) a w := by
  have hown' : w.ownsRow B e 1 v l.length (Lib.byteCells l) := by have := hown; unfold Own at this; rwa [Lib.byteCells_length] at this
  refine Lib.wpList_append_own_string _ hgd sl x t u ho B e i ht hu hi hz hsize hby v l.length _ hs hown' s hx (by unfold maxLen; omega) hlen hB ?_
  intro v' w' h2 h3 h4
  refine h v' w' ?_ ((Below.refl B w).grown h3 hB (fun k hk => (hown'.lt k hk).1))
  unfold Own
  rw [Lib.byteCells_length, List.length_append, Lib.byteCells_append, ← Lib.strCells_eq, ← Lib.size_eq]
  exact h2
/-- string(bytes) -/
theorem own_string {src dst e : TypeId} {B : Nat} {v : Value} {l : Bs} {w : World} (hs : P.underlying src = some (.slice e)) (he : P.underlying e = some (.int .u8)) (hd : P.underlying dst = some .string) (h : Own B e v (Lib.byteCells l) w) :
    (convert src dst v).run P w = .ok (.string ⟨l.toArray⟩) w := by
  have h' : w.ownsRow B e 1 v l.length (Lib.byteCells l) := by have := h; unfold Own at this; rwa [Lib.byteCells_length] at this
  rcases h'.2 with ⟨rfl, h0⟩ | ⟨g, cap, cur, rfl, _, hg, _, _, _, ht⟩
  · obtain rfl : l = [] := List.eq_nil_of_length_eq_zero h0
    exact Lib.run_convert_nil_bytes w src dst e 0 hs he hd
  · exact run_convert_bytes_back w src dst e ⟨g, 0, none⟩ cap l hs he hd (Lib.bytes_of_row hg (by rw [← ht, Nat.mul_one]))
theorem byteCells_snoc1 (l : Bs) (c : UInt8) : Lib.byteCells l ++ [.int .u8 c.toNat] = Lib.byteCells (l ++ [c]) := by rw [Lib.byteCells_append]; rfl
end
section
variable {P : Program}
/-- append of one element that has just been laid in a block of its own, at a step of a region that draws -/
theorem step_app1 {ops : Array Oper} {o : Oper} {a : Act} {K : Act → World → Prop} {Q : Exit → Act → World → Prop} {E : Prop} {w : World} {e : TypeId} {u : Value} (hgd : o.guard = none) (s x : Operand) (t : TypeId)
    (ho : o.op = .call { callee := .builtin .append, args := #[s, x], argTypes := #[t, t] })
    (B : Nat) (i : TypeInfo) (z : Value) (bytes : Nat) (ht : P.underlying t = some (.slice e)) (hi : P.info? e = some i) (hz : i.zero = some z)
    (hsize : i.size = 1) (hby : i.bytes = bytes) (hzs : z.cells.size = 1)
    (v : Value) (cs : List Value) (hs : a.eval s = v) (hown : Own B e v cs w) (c : Nat) (hx : a.eval x = .slice (some ⟨w.heap.size, 0, none⟩) 1 c) (h1 : u.oneCell' = true)
    (hb1 : cs.length + 1 ≤ maxLen) (hbytes : (cs.length + 1) * bytes ≤ 140737488355328) (hB : B ≤ w.heap.size)
    (h : ∀ v' w', Own B e v' (cs ++ [u]) w' → Below B w w' → K (a.put o.dst v') w') :
    if Region.wanted o (yielded ops a.tmps) = true then Oper.wp P o a (w.alloc (.cells #[u] e)) K Q else E := by
  have hw : Region.wanted o (yielded ops a.tmps) = true := by simp [Region.wanted, hgd]
  rw [if_pos hw]
  refine wp_append_own _ s x t ho B e i z 1 bytes ht hi hz hsize hby hzs (by decide) v cs.length cs hs (hown.alloc _) ⟨w.heap.size, 0, none⟩ 1 c [u] hx rfl ?_ ?_ hb1 hbytes (by simp; omega) ?_
  · intro j y hy
    match j, hy with
    | 0, hy => simp at hy; subst hy; simp [Addr.add]
  · intro y hy; simp at hy; subst hy; exact h1
  · intro v' w' h2 h3 h4
    have hg : w.grownBy w' v.ownBlock := ⟨h3.os, h3.tape, h3.output, Nat.le_trans (by simp) h3.size, fun k hk hne => (h3.block k (by simp; omega) hne).trans (Below.heap_alloc w _ k hk)⟩
    refine h v' w' (by unfold Own; rw [List.length_append]; exact h2) ?_
    exact (Below.refl B w).grown hg hB (fun k hk => (hown.lt k hk).1)
/-- the same behind a draw -/
theorem step_app1D {ops : Array Oper} {o : Oper} {a : Act} {K : Act → World → Prop} {Q : Exit → Act → World → Prop} {E : Prop} {w : World} {e : TypeId} {u : Value} (hgd : o.guard = none) (s x : Operand) (t : TypeId)
    (ho : o.op = .call { callee := .builtin .append, args := #[s, x], argTypes := #[t, t] })
    (B : Nat) (i : TypeInfo) (z : Value) (bytes : Nat) (ht : P.underlying t = some (.slice e)) (hi : P.info? e = some i) (hz : i.zero = some z)
    (hsize : i.size = 1) (hby : i.bytes = bytes) (hzs : z.cells.size = 1)
    (v : Value) (cs : List Value) (hs : a.eval s = v) (hown : Own B e v cs w) (c : Nat) (hx : a.eval x = .slice (some ⟨w.heap.size, 0, none⟩) 1 c) (h1 : u.oneCell' = true)
    (hb1 : cs.length + 1 ≤ maxLen) (hbytes : (cs.length + 1) * bytes ≤ 140737488355328) (hB : B ≤ w.heap.size)
    (h : ∀ v' w', Own B e v' (cs ++ [u]) w' → Below B w w' → K (a.put o.dst v') w') :
    if Region.wanted o (yielded ops a.tmps) = true then Oper.wp P o a (w.alloc (.cells #[u] e)).drew K Q else E :=
  step_app1 (w := w.drew) hgd s x t ho B i z bytes ht hi hz hsize hby hzs v cs hs hown c hx h1 hb1 hbytes hB (fun v' w' h2 h3 => h v' w' h2 ((Below.refl B w).drew.trans h3))
end


theorem drop_byte (a : ByteArray) (k : Nat) (h : k < a.size) : a.data.toList.drop k = a[k] :: a.data.toList.drop (k + 1) := by
  rw [List.drop_eq_getElem_cons (by rw [← Lib.size_eq]; exact h)]; rfl
/-- a string value -/
def S (l : Bs) : Value := .string ⟨l.toArray⟩
theorem S_data (s : ByteArray) : S s.data.toList = .string s := rfl
theorem getS {l : List Bs} {k : Nat} (h : k < l.length) : (l.map S)[k]? = some (S l[k]) := by simp [h]
theorem strInfo : (Tryz.prog.info? 9).map (fun i => (i.zero, i.size, i.bytes)) = some (some (.string ⟨#[]⟩), 1, 16) := by kernel_rfl
theorem byteInfo : (Tryz.prog.info? 5).map (fun i => (i.zero, i.size, i.bytes)) = some (some (.int .u8 0), 1, 1) := by kernel_rfl
theorem wrapE (x : Int) : IntKind.i64.wrap x = wrap64 x := by rw [IntKind.wrap_i64]; unfold wrap64; rfl
theorem keepB {w0 w1 wr : World} (hb : Below w0.heap.size w0 w1) (h : Below wr.heap.size wr w0) : Below wr.heap.size wr w1 := bstep h hb
theorem headD_drop (s : ByteArray) (k : Nat) (h : k < s.size) : (s.data.toList.drop k).headD 0 = s[k] := by rw [drop_byte s k h]; rfl
end Go.Proofs.YtfgmjdhoeilhcaaGreatDoor
