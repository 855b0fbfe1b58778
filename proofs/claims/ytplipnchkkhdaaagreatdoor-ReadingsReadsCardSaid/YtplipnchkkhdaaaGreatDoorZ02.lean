/- Small laws on endings. -/
import Derived.Test.YtplipnchkkhdaaaGreatDoorChecked
import Derived.Handy
import Derived.IntWalk
import Derived.Lib.Hide
import Derived.Lib.Strings
import Derived.Test.YtplipnchkkhdaaaGreatDoorShelf
import Derived.Test.YtplipnchkkhdaaaGreatDoorZ01
import Derived.Laws.Rows
import Derived.WalkSmall
import Derived.Lib.SmallJoins
import Derived.Lib.FrozenHead2
import Derived.Lib.OthersKept
import Derived.Lib.UnsafeStr
import Derived.WalkSpells
import Derived.WalkLawsBesides
import Derived.Deep.Light
import Derived.BigQuiet
import Derived.Deep.QuietTactic
import Derived.Maps.AppendAt
import Derived.Lib.AppendStr
import Derived.Lib.BufferRead
import Derived.Laws.IdiomStrings
import Derived.SliceStrings
import Derived.OpenShut
import Derived.Carry
namespace Go.Proofs.YtplipnchkkhdaaaGreatDoor
open Go.RowKit
theorem ret_int {k : IntKind} {a b : Int} (h : a = b) : Ending.returned (.int k a) = .returned (.int k b) := by rw [h]
theorem ret_bool {a b : Bool} (h : a = b) : Ending.returned (.bool a) = .returned (.bool b) := by rw [h]
theorem ret_int2 {k k' : IntKind} {a b c d : Int} (h : a = b) (h' : c = d) : Ending.returned (.tuple #[.int k a, .int k' c]) = .returned (.tuple #[.int k b, .int k' d]) := by rw [h, h']
theorem ret_str {a b : ByteArray} (h : a.data.toList = b.data.toList) : Ending.returned (.string a) = .returned (.string b) := by
  have : a = b := by
    cases a; cases b; simp at h; rw [h]
  rw [this]


/- Words for memory: what the package-level variables hold; a slice that reads as a list of cells; values of strings. -/
open Go.RowKit

/-- the cells of letters.classes -/
def spanCells : Array Value := #[.int .i32 97, .int .i32 122, .int .i64 1, .int .i32 181, .int .i32 181, .int .i64 1, .int .i32 223, .int .i32 246, .int .i64 1, .int .i32 248, .int .i32 255, .int .i64 1, .int .i32 65, .int .i32 90, .int .i64 2, .int .i32 192, .int .i32 214, .int .i64 2, .int .i32 216, .int .i32 222, .int .i64 2, .int .i32 48, .int .i32 57, .int .i64 3, .int .i32 9, .int .i32 13, .int .i64 4, .int .i32 32, .int .i32 32, .int .i64 4, .int .i32 160, .int .i32 160, .int .i64 4, .int .i32 33, .int .i32 126, .int .i64 5]

/-- What the listed variables hold. -/
structure Tabs (w : World) : Prop where
  u8 : Lib.Utf8Tabs 4 5 w
  cls : ∃ t fr, w.heap[0]? = some (.cells spanCells t fr)
  syn : ∃ te pe, w.cell? ⟨1, 0, none⟩ = some (.iface te pe)
  lt : 9 ≤ w.heap.size

theorem cell_lt {w : World} {a : Addr} {v : Value} (h : w.cell? a = some v) : a.block < w.heap.size := by
  rcases Nat.lt_or_ge a.block w.heap.size with hh | hh
  · exact hh
  · unfold World.cell? at h; rw [Array.getElem?_eq_none hh] at h; cases h
theorem Tabs.below {w w' : World} (h : Tabs w) (hb : Below w.heap.size w w') : Tabs w' := by
  obtain ⟨⟨h1, h2⟩, ⟨t, fr, h3⟩, ⟨te, pe, h4⟩, h5⟩ := h
  have key : ∀ {a : Addr} {v : Value}, w.cell? a = some v → w'.cell? a = some v := fun {a v} hc => (hb.cell (cell_lt hc)).trans hc
  refine ⟨⟨fun c hc => key (h1 c hc), fun i hi => ⟨key (h2 i hi).1, key (h2 i hi).2⟩⟩, ⟨t, fr, ?_⟩, ⟨te, pe, key h4⟩, Nat.le_trans h5 hb.size⟩
  rw [hb.block _ (by omega)]; exact h3

/-- A slice value that reads as these cells. -/
def Row (w : World) (v : Value) (cs : List Value) : Prop :=
  ∃ A c, v = .slice A cs.length c ∧ cs.length ≤ c ∧ (cs ≠ [] → ∃ b o, A = some ⟨b, o, none⟩ ∧ b < w.heap.size ∧ ∀ (j : Nat) u, cs[j]? = some u → w.cell? ⟨b, o + j, none⟩ = some u)
theorem Row.below {w w' : World} {v : Value} {cs : List Value} (h : Row w v cs) (hb : Below w.heap.size w w') : Row w' v cs := by
  obtain ⟨A, c, rfl, hc, hr⟩ := h
  refine ⟨A, c, rfl, hc, fun hne => ?_⟩
  obtain ⟨b, o, rfl, hlt, hcell⟩ := hr hne
  exact ⟨b, o, rfl, Nat.lt_of_lt_of_le hlt hb.size, fun j u hu => (hb.cell (p := ⟨b, o + j, none⟩) hlt).trans (hcell j u hu)⟩
/-- the cells behind an address -/
def RowAt (w : World) (A : Option Addr) (cs : List Value) : Prop :=
  cs ≠ [] → ∃ b o, A = some ⟨b, o, none⟩ ∧ b < w.heap.size ∧ ∀ (j : Nat) u, cs[j]? = some u → w.cell? ⟨b, o + j, none⟩ = some u
theorem RowAt.below {w w' : World} {A : Option Addr} {cs : List Value} (h : RowAt w A cs) (hb : Below w.heap.size w w') : RowAt w' A cs := fun hne => by
  obtain ⟨b, o, rfl, hlt, hcell⟩ := h hne
  exact ⟨b, o, rfl, Nat.lt_of_lt_of_le hlt hb.size, fun j u hu => (hb.cell (p := ⟨b, o + j, none⟩) hlt).trans (hcell j u hu)⟩
theorem RowAt.nil (w : World) (A : Option Addr) : RowAt w A [] := fun h => absurd rfl h
theorem Row.to {w : World} {v : Value} {cs : List Value} {n : Nat} (h : Row w v cs) (hn : cs.length = n) : ∃ A c, v = .slice A n c ∧ n ≤ c ∧ RowAt w A cs := by
  obtain ⟨A, c, rfl, hc, hr⟩ := h
  subst hn
  exact ⟨A, c, rfl, hc, hr⟩
theorem Row.nil (w : World) : Row w (.slice none 0 0) [] := ⟨none, 0, rfl, Nat.le_refl _, fun h => absurd rfl h⟩
theorem Tabs.belowB {w w' : World} {B : Nat} (h : Tabs w) (hB : 9 ≤ B) (hb : Below B w w') : Tabs w' := by
  obtain ⟨⟨h1, h2⟩, ⟨t, fr, h3⟩, ⟨te, pe, h4⟩, h5⟩ := h
  have key : ∀ {a : Addr} {v : Value}, a.block < 9 → w.cell? a = some v → w'.cell? a = some v := fun {a v} ha hc => (hb.cell (by omega)).trans hc
  refine ⟨⟨fun c hc => key (by simp) (h1 c hc), fun i hi => ⟨key (by simp) (h2 i hi).1, key (by simp) (h2 i hi).2⟩⟩, ⟨t, fr, ?_⟩, ⟨te, pe, key (by simp) h4⟩, Nat.le_trans h5 hb.size⟩
  rw [hb.block _ (by omega)]; exact h3
theorem grown_of_below {w w' : World} (h : Below w.heap.size w w') (row : Option Nat) : w.grownBy w' row := ⟨h.os, h.tape, h.output, h.size, fun k hk _ => h.block k hk⟩
/-- a strings.Builder of the call's own in block b that holds these bytes -/
def Bld (B b : Nat) (l : Bs) (w : World) : Prop := Lib.IsBuilderF 69 5 B b (Lib.byteCells l) w
theorem Bld.lt {B b : Nat} {l : Bs} {w : World} (h : Bld B b l w) : B ≤ b ∧ b < w.heap.size := by
  rcases h with h | h
  · exact ⟨h.1, h.lt⟩
  · exact ⟨h.1, h.lt⟩
theorem BuilderAtF_grown {T e B b : Nat} {p : Value} {bs : List Value} {w w' : World} (h : Lib.BuilderAtF T e B b p bs w) (hg : w.grownBy w' none) : Lib.BuilderAtF T e B b p bs w' := by
  have hlt := h.lt
  obtain ⟨hB, v, hb, hown, hne⟩ := h
  exact ⟨hB, v, (hg.block b hlt (by simp)).trans hb, hown.kept hg (by cases hv : v.ownBlock <;> simp), hne⟩
theorem Bld.below {B b : Nat} {l : Bs} {w w' : World} (h : Bld B b l w) (hb : Below w.heap.size w w') : Bld B b l w' := by
  rcases h with h | h
  · exact Or.inl (BuilderAtF_grown h (grown_of_below hb none))
  · exact Or.inr (BuilderAtF_grown h (grown_of_below hb none))
/-- one call more, behind calls that only made memory -/
theorem bstep {w w1 w2 : World} (h : Below w.heap.size w w1) (hb : Below w1.heap.size w1 w2) : Below w.heap.size w w2 := h.trans (hb.mono h.size)
theorem size_cat (a b : ByteArray) : (a ++ b).size = a.size + b.size := by
  rw [Lib.size_eq, Joins.data_append, List.length_append, ← Lib.size_eq, ← Lib.size_eq]
theorem ext_data (s : ByteArray) (a b : Nat) : (s.extract a b).data.toList = (s.data.toList.drop a).take (b - a) := Lib.extract_data s a b
/-- a string's size, of a slot -/
def strLen : Value → Nat | .string s => s.size | _ => 0
theorem data_nil {s : ByteArray} (h : s.size = 0) : s.data.toList = [] := List.eq_nil_of_length_eq_zero (by rw [← Lib.size_eq]; exact h)
theorem data_ne {s : ByteArray} (h : ¬ s.size = 0) : ¬ s.data.toList = [] := fun e => h (by rw [Lib.size_eq, e]; rfl)
theorem isEmpty_of {s : ByteArray} (h : s.size = 0) : s.toList.isEmpty = true := by rw [Lib.toList_data, data_nil h]; rfl
theorem not_isEmpty_of {s : ByteArray} (h : ¬ s.size = 0) : s.toList.isEmpty = false := by
  rw [Lib.toList_data]
  cases hl : s.data.toList with
  | nil => exact absurd hl (data_ne h)
  | cons _ _ => rfl
theorem Bld.new (w : World) : Bld w.heap.size w.heap.size [] (w.alloc (.cells #[.pointer none, .slice none 0 0] 69)) :=
  Or.inl ⟨Nat.le_refl _, .slice none 0 0, Go.heap_alloc_new w _, World.ownsRowF_nil _ _ _ _, by simp [Value.ownBlock]⟩
theorem byte0 (t : ByteArray) (ht : 0 < t.size) : t[0] = t.data.toList.headD 0 := by
  cases t with
  | mk d =>
    cases d with
    | mk l =>
      cases l with
      | nil => exact absurd ht (by decide)
      | cons x r => rfl

/- Walks of layer 1: the functions of one string or one code point. -/
open Go.RowKit

set_option maxHeartbeats 400000 in
theorem piece_any (s : ByteArray) (w : World) (hT : Tabs w) :
    Calls Tryz.prog 104 #[.string s] w fun e w' => e = .returned (.tuple #[.int .i32 (Lib.decodeGo s).1, .int .i64 (Lib.decodeGo s).2, .bool (okL s.data.toList)]) ∧ Below w.heap.size w w' := by
  have h1 := decodeGo_eq s
  obtain ⟨r, hr⟩ : ∃ r, (Lib.decodeGo s).1 = r := ⟨_, rfl⟩
  obtain ⟨n, hn⟩ : ∃ n, (Lib.decodeGo s).2 = n := ⟨_, rfl⟩
  have hd := Tryz.utf8_DecodeRuneInString s w hT.u8
  have hok : okL s.data.toList = (decide (r ≠ 65533) || decide (1 < n)) := by rw [← hr, ← hn]; exact okL_eq s
  rw [hr, hn] at hd ⊢
  have HK := Lib.hid hok
  clear h1 hr hn hok
  go_enter Tryz.func104, Tryz.ntmps104
  go_wp2_with (go_at_call 120; refine hd.mono ?_; rintro e w1 ⟨rfl, hb⟩)
  all_goals go_returns
  all_goals refine ⟨?_, hb⟩
  all_goals rw [HK.out]
  all_goals go_light
  · have hr : r = 65533 := by omega
    simp [hr]; omega
  · have hr : r ≠ 65533 := by omega
    simp [hr]

theorem index_span (k : Nat) (hk : k < 12) (w : World) : (Instr.index 132 (.agg spanCells) (.int .i64 k)).run Tryz.prog w = .ok (.agg #[.int .i32 (spA k), .int .i32 (spB k), .int .i64 (spC k)]) w := by
  have i0 : (Instr.index 132 (.agg spanCells) (.int .i64 ((0 : Nat) : Int))).run Tryz.prog w = .ok (.agg #[.int .i32 (spA 0), .int .i32 (spB 0), .int .i64 (spC 0)]) w := by kernel_rfl
  have i1 : (Instr.index 132 (.agg spanCells) (.int .i64 ((1 : Nat) : Int))).run Tryz.prog w = .ok (.agg #[.int .i32 (spA 1), .int .i32 (spB 1), .int .i64 (spC 1)]) w := by kernel_rfl
  have i2 : (Instr.index 132 (.agg spanCells) (.int .i64 ((2 : Nat) : Int))).run Tryz.prog w = .ok (.agg #[.int .i32 (spA 2), .int .i32 (spB 2), .int .i64 (spC 2)]) w := by kernel_rfl
  have i3 : (Instr.index 132 (.agg spanCells) (.int .i64 ((3 : Nat) : Int))).run Tryz.prog w = .ok (.agg #[.int .i32 (spA 3), .int .i32 (spB 3), .int .i64 (spC 3)]) w := by kernel_rfl
  have i4 : (Instr.index 132 (.agg spanCells) (.int .i64 ((4 : Nat) : Int))).run Tryz.prog w = .ok (.agg #[.int .i32 (spA 4), .int .i32 (spB 4), .int .i64 (spC 4)]) w := by kernel_rfl
  have i5 : (Instr.index 132 (.agg spanCells) (.int .i64 ((5 : Nat) : Int))).run Tryz.prog w = .ok (.agg #[.int .i32 (spA 5), .int .i32 (spB 5), .int .i64 (spC 5)]) w := by kernel_rfl
  have i6 : (Instr.index 132 (.agg spanCells) (.int .i64 ((6 : Nat) : Int))).run Tryz.prog w = .ok (.agg #[.int .i32 (spA 6), .int .i32 (spB 6), .int .i64 (spC 6)]) w := by kernel_rfl
  have i7 : (Instr.index 132 (.agg spanCells) (.int .i64 ((7 : Nat) : Int))).run Tryz.prog w = .ok (.agg #[.int .i32 (spA 7), .int .i32 (spB 7), .int .i64 (spC 7)]) w := by kernel_rfl
  have i8 : (Instr.index 132 (.agg spanCells) (.int .i64 ((8 : Nat) : Int))).run Tryz.prog w = .ok (.agg #[.int .i32 (spA 8), .int .i32 (spB 8), .int .i64 (spC 8)]) w := by kernel_rfl
  have i9 : (Instr.index 132 (.agg spanCells) (.int .i64 ((9 : Nat) : Int))).run Tryz.prog w = .ok (.agg #[.int .i32 (spA 9), .int .i32 (spB 9), .int .i64 (spC 9)]) w := by kernel_rfl
  have i10 : (Instr.index 132 (.agg spanCells) (.int .i64 ((10 : Nat) : Int))).run Tryz.prog w = .ok (.agg #[.int .i32 (spA 10), .int .i32 (spB 10), .int .i64 (spC 10)]) w := by kernel_rfl
  have i11 : (Instr.index 132 (.agg spanCells) (.int .i64 ((11 : Nat) : Int))).run Tryz.prog w = .ok (.agg #[.int .i32 (spA 11), .int .i32 (spB 11), .int .i64 (spC 11)]) w := by kernel_rfl
  have h : k = 0 ∨ k = 1 ∨ k = 2 ∨ k = 3 ∨ k = 4 ∨ k = 5 ∨ k = 6 ∨ k = 7 ∨ k = 8 ∨ k = 9 ∨ k = 10 ∨ k = 11 := by omega
  rcases h with rfl | rfl | rfl | rfl | rfl | rfl | rfl | rfl | rfl | rfl | rfl | rfl
  · exact i0
  · exact i1
  · exact i2
  · exact i3
  · exact i4
  · exact i5
  · exact i6
  · exact i7
  · exact i8
  · exact i9
  · exact i10
  · exact i11

set_option maxHeartbeats 1000000 in
theorem of_any (r : Int) (w : World) (hT : Tabs w) :
    Calls Tryz.prog 83 #[.int .i32 r] w fun e w' => e = .returned (.int .i64 (clsOf r)) ∧ Below w.heap.size w w' := by
  obtain ⟨t, fr, hg⟩ := hT.cls
  go_enter Tryz.func83, Tryz.ntmps83
  go_wp2_with (refine wpList_load_row rfl 132 _ rfl 0 rfl t spanCells fr _ hg Tryz.underlying132 rfl (by kernel_rfl) ?_)
  go_loopw [6] (fun i wr => ∃ k : Nat, k ≤ 12 ∧ i = .int .i64 k ∧ Below w.heap.size w wr ∧ Hid (clsOf r = scan (spans.drop k) r)) (fun i _ => 12 - (intOf i).toNat)
  case atStart => exact ⟨0, by omega, rfl, Below.refl _ _, rfl⟩
  case round =>
    obtain ⟨k, hk, rfl, hb, H⟩ := hrel
    have hsz := hb.size
    by_cases hlt : k < 12
    · have hix := index_span k hlt
      have hsp := sp_bd k
      have H1 := scan_drop k hlt r
      have H2 : Hid (clsOf r = if spA k ≤ r ∧ r ≤ spB k then spC k else scan (spans.drop (k + 1)) r) := by rw [← H1]; exact H.out
      clear H1
      go_wp2
      · go_returns
        exact ⟨ret_int (by rw [H2.out, if_pos (by omega)]), by go_grown⟩
      all_goals
        go_roundw
        case rel => exact ⟨k + 1, by omega, by go_num, by go_grown, by rw [H2.out, if_neg (by omega)]; rfl⟩
        case measure => simp [intOf]; omega
    · obtain rfl : k = 12 := by omega
      go_wp2
      go_returns
      exact ⟨ret_int (by rw [H.out]; rfl), hb⟩

theorem control_any (r : Int) (w : World) :
    Calls Tryz.prog 81 #[.int .i32 r] w fun e w' => e = .returned (.bool (ctlB r)) ∧ w = w' := by
  go_enter Tryz.func81, Tryz.ntmps81
  go_wp2
  all_goals go_returns
  all_goals refine ⟨ret_bool ?_, rfl⟩
  all_goals go_light
  all_goals unfold ctlB
  all_goals rw [Bool.eq_iff_iff]
  all_goals simp
  all_goals omega

theorem hexd_eq (k : Nat) (hk : k < 16) : ((⟨#[48, 49, 50, 51, 52, 53, 54, 55, 56, 57, 97, 98, 99, 100, 101, 102]⟩ : ByteArray).extract k (k + 1)).data.toList = [hexd k] := by
  have h : k = 0 ∨ k = 1 ∨ k = 2 ∨ k = 3 ∨ k = 4 ∨ k = 5 ∨ k = 6 ∨ k = 7 ∨ k = 8 ∨ k = 9 ∨ k = 10 ∨ k = 11 ∨ k = 12 ∨ k = 13 ∨ k = 14 ∨ k = 15 := by omega
  rcases h with rfl | rfl | rfl | rfl | rfl | rfl | rfl | rfl | rfl | rfl | rfl | rfl | rfl | rfl | rfl | rfl <;> rfl
theorem hexadecimal_any (c : UInt8) (w : World) :
    Calls Tryz.prog 82 #[.int .u8 c.toNat] w fun e w' => e = .returned (.string ⟨(hexL c).toArray⟩) ∧ Below w.heap.size w w' := by
  have hc := c.toNat_lt
  go_enter Tryz.func82, Tryz.ntmps82
  go_wp2
  go_quiet (fail)
  go_wp2
  go_returns
  refine ⟨ret_str ?_, by exact below_drewN (Below.refl _ _) _⟩
  go_light
  rw [Joins.data_append, Joins.data_append, hexd_eq _ (by omega), hexd_eq _ (by omega)]
  rfl

/- Words for slices that the call itself makes: what they hold, how an append of one element leaves them. -/
open Go.RowKit

/-- slice value v owns the one-cell elements cs, in blocks from B on -/
def Own (B : Nat) (e : TypeId) (v : Value) (cs : List Value) (w : World) : Prop := w.ownsRow B e 1 v cs.length cs
theorem Own.nil (B : Nat) (e : TypeId) (w : World) : Own B e (.slice none 0 0) [] w := World.ownsRow_nil w B e 1
theorem Own.grown {B : Nat} {e : TypeId} {v : Value} {cs : List Value} {w w' : World} (h : Own B e v cs w) {row : Option Nat} (hg : w.grownBy w' row) (hne : v.ownBlock = none ∨ v.ownBlock ≠ row) : Own B e v cs w' := World.ownsRow.kept h hg hne
theorem Own.below {B : Nat} {e : TypeId} {v : Value} {cs : List Value} {w w' : World} (h : Own B e v cs w) (hb : Below w.heap.size w w') : Own B e v cs w' :=
  World.ownsRow.kept h (grown_of_below hb none) (by cases v.ownBlock <;> simp)
theorem Own.alloc {B : Nat} {e : TypeId} {v : Value} {cs : List Value} {w : World} (h : Own B e v cs w) (o : Obj) : Own B e v cs (w.alloc o) := World.ownsRow.alloc h o
theorem Own.lt {B : Nat} {e : TypeId} {v : Value} {cs : List Value} {w : World} (h : Own B e v cs w) : ∀ k, v.ownBlock = some k → B ≤ k ∧ k < w.heap.size := World.ownsRow.lt h
theorem Own.iter {B : Nat} {e : TypeId} {v : Value} {cs : List Value} {w : World} (h : Own B e v cs w) {k : Nat} {s : ByteArray} {p : Nat} (hk : w.heap[k]? = some (.stringIter s p)) : some k ≠ v.ownBlock := by
  rcases h.2 with ⟨rfl, _⟩ | ⟨g, cap, cur, rfl, _, hg, _⟩
  · simp [Value.ownBlock]
  · intro e
    simp only [Value.ownBlock, Option.some.injEq] at e
    subst e
    rw [hg] at hk; cases hk
theorem Own.iterAt {B : Nat} {e : TypeId} {v : Value} {cs : List Value} {w : World} (h : Own B e v cs w) {k : Nat} {s : ByteArray} {p : Nat} (hk : w.heap[k]? = some (.stringIter s p)) (p' : Nat) : Own B e v cs (w.iterAt k s p') := by
  refine World.ownsRow.kept h (row := some k) ⟨rfl, rfl, rfl, by rw [Lib.iterAt_size]; exact Nat.le_refl _, fun j _ hj => Lib.iterAt_other w k j s p' (fun e => hj (by rw [e]))⟩ ?_
  exact Or.inr (fun e => h.iter hk e.symm)
theorem Own.iterGrown {B : Nat} {e : TypeId} {v : Value} {cs : List Value} {w w' : World} (h : Own B e v cs w) {k : Nat} {s : ByteArray} {p : Nat} (hk : w.heap[k]? = some (.stringIter s p)) (hg : w.grownBy w' v.ownBlock) : w'.heap[k]? = some (.stringIter s p) :=
  (hg.block _ (Array.getElem?_eq_some_iff.1 hk).1 (h.iter hk)).trans hk
theorem Own.row {B : Nat} {e : TypeId} {v : Value} {cs : List Value} {w : World} (h : Own B e v cs w) : Row w v cs := by
  rcases h.2 with ⟨rfl, h0⟩ | ⟨g, cap, cur, rfl, hB, hg, hn, hm, hc, ht⟩
  · obtain rfl : cs = [] := List.eq_nil_of_length_eq_zero h0
    exact Row.nil w
  · refine ⟨_, _, rfl, hn, fun _ => ⟨g, 0, rfl, ?_, fun j u hu => ?_⟩⟩
    · exact (Array.getElem?_eq_some_iff.1 hg).1
    · have := World.ownsRow.cells h (g := g) rfl j u hu
      rw [Nat.zero_add]
      have e : (⟨g, 0, none⟩ : Addr).add j = ⟨g, j, none⟩ := by unfold Addr.add; split <;> simp_all
      rwa [e] at this

section
variable {P : Program}
/-- append of one element that has just been laid in a block of its own -/
theorem wpList_app1 {ops : Array Oper} {rest : List Oper} {o : Oper} {a : Act} {Q : Exit → Act → World → Prop} {w : World} {e : TypeId} {u : Value} (hgd : o.guard = none) (s x : Operand) (t : TypeId)
    (ho : o.op = .call { callee := .builtin .append, args := #[s, x], argTypes := #[t, t] })
    (B : Nat) (i : TypeInfo) (z : Value) (bytes : Nat) (ht : P.underlying t = some (.slice e)) (hi : P.info? e = some i) (hz : i.zero = some z)
    (hsize : i.size = 1) (hby : i.bytes = bytes) (hzs : z.cells.size = 1)
    (v : Value) (cs : List Value) (hs : a.eval s = v) (hown : Own B e v cs w) (c : Nat) (hx : a.eval x = .slice (some ⟨w.heap.size, 0, none⟩) 1 c) (h1 : u.oneCell' = true)
    (hb1 : cs.length + 1 ≤ maxLen) (hbytes : (cs.length + 1) * bytes ≤ 140737488355328) (hB : B ≤ w.heap.size)
    (h : ∀ v' w', Own B e v' (cs ++ [u]) w' → w.grownBy w' v.ownBlock → Below B w w' → wpList P ops Q rest (a.put o.dst v') w') : wpList P ops Q (o :: rest) a (w.alloc (.cells #[u] e)) := by
  refine wpList_append_own _ hgd s x t ho B e i z 1 bytes ht hi hz hsize hby hzs (by decide) v cs.length cs hs (hown.alloc _) ⟨w.heap.size, 0, none⟩ 1 c [u] hx rfl ?_ ?_ hb1 hbytes (by simp; omega) ?_
  · intro j y hy
    match j, hy with
    | 0, hy => simp at hy; subst hy; simp [Addr.add]
  · intro y hy; simp at hy; subst hy; exact h1
  · intro v' w' h2 h3 h4
    have hg : w.grownBy w' v.ownBlock := ⟨h3.os, h3.tape, h3.output, Nat.le_trans (by simp) h3.size, fun k hk hne => (h3.block k (by simp; omega) hne).trans (Below.heap_alloc w _ k hk)⟩
    refine h v' w' (by unfold Own; rw [List.length_append]; exact h2) hg ?_
    exact (Below.refl B w).grown hg hB (fun k hk => (hown.lt k hk).1)
/-- append(bytes, string...) -/
theorem wpList_appS {ops : Array Oper} {rest : List Oper} {o : Oper} {a : Act} {Q : Exit → Act → World → Prop} {w : World} {s : ByteArray} (hgd : o.guard = none) (sl x : Operand) (t u : TypeId)
    (ho : o.op = .call { callee := .builtin .append, args := #[sl, x], argTypes := #[t, u] })
    (B : Nat) (e : TypeId) (i : TypeInfo) (ht : P.underlying t = some (.slice e)) (hu : P.underlying u = some .string) (hi : P.info? e = some i) (hz : i.zero = some (.int .u8 0))
    (hsize : i.size = 1) (hby : i.bytes = 1)
    (v : Value) (l : Bs) (hs : a.eval sl = v) (hown : Own B e v (Lib.byteCells l) w) (hx : a.eval x = .string s)
    (hlen : l.length + s.size ≤ 140737488355328) (hB : B ≤ w.heap.size)
    (h : ∀ v' w', Own B e v' (Lib.byteCells (l ++ s.data.toList)) w' → Below B w w' → wpList P ops Q rest (a.put o.dst v') w') : wpList P ops Q (o :: rest) a w := by
  have hown' : w.ownsRow B e 1 v l.length (Lib.byteCells l) := by have := hown; unfold Own at this; rwa [Lib.byteCells_length] at this
  refine Lib.wpList_append_own_string _ hgd sl x t u ho B e i ht hu hi hz hsize hby v l.length _ hs hown' s hx (by unfold maxLen; omega) hlen hB ?_
  intro v' w' h2 h3 h4
  refine h v' w' ?_ ((Below.refl B w).grown h3 hB (fun k hk => (hown'.lt k hk).1))
  unfold Own
  rw [Lib.byteCells_length, List.length_append, Lib.byteCells_append, ← Lib.strCells_eq, ← Lib.size_eq]
  exact h2
/-- string(bytes) -/
theorem own_string {src dst e : TypeId} {B : Nat} {v : Value} {l : Bs} {w : World} (hs : P.underlying src = some (.slice e)) (he : P.underlying e = some (.int .u8)) (hd : P.underlying dst = some .string) (h : Own B e v (Lib.byteCells l) w) :
    (convert src dst v).run P w = .ok (.string ⟨l.toArray⟩) w := by
  have h' : w.ownsRow B e 1 v l.length (Lib.byteCells l) := by have := h; unfold Own at this; rwa [Lib.byteCells_length] at this
  rcases h'.2 with ⟨rfl, h0⟩ | ⟨g, cap, cur, rfl, _, hg, _, _, _, ht⟩
  · obtain rfl : l = [] := List.eq_nil_of_length_eq_zero h0
    exact Lib.run_convert_nil_bytes w src dst e 0 hs he hd
  · exact run_convert_bytes_back w src dst e ⟨g, 0, none⟩ cap l hs he hd (Lib.bytes_of_row hg (by rw [← ht, Nat.mul_one]))
theorem byteCells_snoc1 (l : Bs) (c : UInt8) : Lib.byteCells l ++ [.int .u8 c.toNat] = Lib.byteCells (l ++ [c]) := by rw [Lib.byteCells_append]; rfl
end

/- Walks of layer 1: Split, and the pieces of the reference. -/
open Go.RowKit
set_option linter.unusedVariables false

/-- a string value -/
def S (l : Bs) : Value := .string ⟨l.toArray⟩
theorem S_data (s : ByteArray) : S s.data.toList = .string s := rfl
theorem strInfo : (Tryz.prog.info? 9).map (fun i => (i.zero, i.size, i.bytes)) = some (some (.string ⟨#[]⟩), 1, 16) := by kernel_rfl

def SplitPost (w : World) (l : List Bs) (at' e' : Nat) (e : Ending) (w' : World) : Prop :=
  ∃ A c, e = .returned (.tuple #[.slice A l.length c, .int .i64 at', .int .i64 e']) ∧ l.length ≤ c ∧ RowAt w' A (l.map S) ∧ Below w.heap.size w w'

set_option maxHeartbeats 1000000 in
set_option maxRecDepth 100000 in
theorem split_any (s : ByteArray) (w : World) (hT : Tabs w) (hs : s.size ≤ 16384) :
    Calls Tryz.prog 76 #[.string s] w (SplitPost w (splitL s.data.toList) (splitAt s.data.toList) (splitE s.data.toList)) := by
  obtain ⟨i0, hi, hz0, hz1, hz2⟩ := info_parts strInfo
  have hs' : s.data.toList.length ≤ 16384 := by rw [← Lib.size_eq]; exact hs
  go_enter Tryz.func76, Tryz.ntmps76
  go_wp2_with fail
  go_loopw [2] (fun v wr => ∃ (pos : Nat) (done : List Bs), Own w.heap.size 9 v (done.map S) wr ∧ wr.heap[w.heap.size]? = some (.stringIter s pos) ∧ Below w.heap.size w wr ∧ pos ≤ s.size ∧ done.length ≤ pos ∧ Hid (pieces s.data.toList = done ++ pieces (s.data.toList.drop pos) ∧ (∀ p ∈ done, validL p = true) ∧ done.flatten.length = pos)) (fun _ wr => s.size - wr.iterPos w.heap.size)
  case atStart =>
    exact ⟨0, [], Own.nil _ _ _, by simpa using World.iter_heap w s 0, (Below.refl _ w).alloc (Nat.le_refl _) _, by omega, by simp, by simp [Hid]⟩
  case round =>
    obtain ⟨pos, done, hown, hit, hb, hp, hd, H⟩ := hrel
    have hsz : w.heap.size < wr.heap.size := (Array.getElem?_eq_some_iff.1 hit).1
    by_cases hlt : pos < s.size
    · have hnx : ∀ ty, (Instr.next (.pointer (some ⟨w.heap.size, 0, none⟩)) true ty).run Tryz.prog wr = _ := fun ty => Lib.run_next_any_at wr w.heap.size s pos ty hit hlt
      rw [dec_at s pos hlt] at hnx
      have hre : ¬ (s.extract pos s.size).size = 0 := by rw [Lib.size_eq, ext_data]; simp; omega
      have hpc := fun W h => piece_any (s.extract pos s.size) W h
      have hn1 := dec_bd (s.extract pos s.size) hre
      have hsE : (s.extract pos s.size).size = s.size - pos := by rw [Lib.size_eq, ext_data]; simp
      have hps := psz_dec (s.extract pos s.size) hre
      have hrf := dec_ff (s.extract pos s.size)
      rw [ext_data] at hpc hps hrf
      have hdt : (s.data.toList.drop pos).take (s.size - pos) = s.data.toList.drop pos := List.take_of_length_le (by simp)
      rw [hdt] at hpc hps hrf
      obtain ⟨r, hr⟩ : ∃ r, (Lib.decodeGo (s.extract pos s.size)).1 = r := ⟨_, rfl⟩
      obtain ⟨n, hn⟩ : ∃ n, (Lib.decodeGo (s.extract pos s.size)).2 = n := ⟨_, rfl⟩
      obtain ⟨k, hk⟩ : ∃ k, okL (s.data.toList.drop pos) = k := ⟨_, rfl⟩
      rw [hr, hn, hk] at hpc
      rw [hr, hn] at hnx
      rw [hn] at hn1 hps
      rw [hr, hk] at hrf
      have hbI := Lib.below_iterAt hb (k := w.heap.size) (Nat.le_refl _) s (pos + n)
      have hit2 := Lib.iterAt_heap wr w.heap.size s pos (pos + n) hit
      have hown2 := hown.iterAt hit (pos + n)
      have HK := Lib.hid hk
      have HP := Lib.hid hps
      clear hr hn hk hps hdt hre
      have hn2 : 1 ≤ n ∧ pos + n ≤ s.size := by omega
      clear hn1 hsE
      obtain ⟨hn2, hn3⟩ := hn2
      cases k
      · obtain rfl := hrf rfl
        go_wp2_with (first | (go_at_call 104; refine (hpc _ (hT.below hbI)).mono ?_; rintro e w1 ⟨rfl, hb1⟩))
        go_returns
        obtain ⟨e1, e2, e3⟩ := split_stray hs' HK.out H.out hlt
        exact ⟨none, 0, by rw [e1, e2, e3]; rfl, by rw [e1]; exact Nat.le_refl _, by rw [e1]; exact RowAt.nil _ _, bstep hbI hb1⟩
      · have hlen : (done.map S).length = done.length := by simp
        clear hrf
        have ml : (done.map S).length + 1 ≤ maxLen := by rw [hlen]; unfold maxLen; omega
        have mb : ((done.map S).length + 1) * 16 ≤ 140737488355328 := by rw [hlen]; omega
        clear hlen
        have HS : Hid (Value.string (s.extract pos (pos + n)) = S ((s.data.toList.drop pos).take n)) := by unfold Hid; rw [← S_data, ext_data, Nat.add_sub_cancel_left]
        have hzz : w.heap.size ≤ (wr.iterAt w.heap.size s (pos + n)).heap.size := hbI.size
        rcases (show r = 65533 ∨ ¬ r = 65533 from by omega) with rfl | hr3
        all_goals
          go_wp2_with (first | (go_at_call 104; refine (hpc _ (hT.below hbI)).mono ?_; rintro e w1 ⟨rfl, hb1⟩; have hit3 := (hb1.block _ (by rw [Lib.iterAt_size]; exact hsz)).trans hit2; have hbA := bstep hbI hb1; have hown3 := hown2.below hb1) | (at_builtin; refine wpList_app1 rfl (.tmp 34) (.tmp 41) 31 rfl w.heap.size i0 _ 16 Tryz.underlying31 hi hz0 hz1 hz2 rfl _ (done.map S) rfl hown3 1 rfl rfl ml mb hbA.size ?_; intro v' w2 hown4 hg hb2; have hit4 := hown3.iterGrown hit3 hg))
          go_roundw
          case rel => exact ⟨pos + n, done ++ [(s.data.toList.drop pos).take n], by rw [List.map_append]; rw [HS.out] at hown4; exact hown4, hit4, hbA.trans hb2, by omega, by simp; omega, split_more HP.out HK.out hlt hn3 H.out⟩
          case measure => simp only [World.iterPos, hit4, hit]; omega
    · have hnx : ∀ ty, (Instr.next (.pointer (some ⟨w.heap.size, 0, none⟩)) true ty).run Tryz.prog wr = _ := fun ty => Lib.run_next_end_at wr w.heap.size s pos ty hit hlt
      go_wp2_with fail
      go_returns
      obtain ⟨e1, e2, e3⟩ := split_all hs' H.out (by rw [← Lib.size_eq]; omega)
      obtain ⟨A, c, hv, hc, hr⟩ := hown.row.to (n := done.length) (by simp)
      exact ⟨A, c, by rw [e1, e2, e3, ← hv]; rfl, by rw [e1]; exact hc, by rw [e1]; exact hr, hb⟩

set_option maxHeartbeats 1000000 in
set_option maxRecDepth 100000 in
theorem split_long (s : ByteArray) (w : World) (hs : 16384 < s.size) :
    Calls Tryz.prog 76 #[.string s] w (SplitPost w (splitL s.data.toList) (splitAt s.data.toList) (splitE s.data.toList)) := by
  have hl : 16384 < s.data.toList.length := by rw [← Lib.size_eq]; exact hs
  have e : splitR s.data.toList = ([], 0, 2) := by unfold splitR; rw [if_pos hl]
  have HE := Lib.hid e
  clear e hl
  go_enter Tryz.func76, Tryz.ntmps76
  go_wp2_with fail
  go_returns
  exact ⟨none, 0, by rw [splitAt, splitE, splitL, HE.out]; rfl, by rw [splitL, HE.out]; exact Nat.le_refl _, by rw [splitL, HE.out]; exact RowAt.nil _ _, Below.refl _ _⟩
theorem split_every (s : ByteArray) (w : World) (hT : Tabs w) :
    Calls Tryz.prog 76 #[.string s] w (SplitPost w (splitL s.data.toList) (splitAt s.data.toList) (splitE s.data.toList)) := by
  rcases Nat.lt_or_ge 16384 s.size with h | h
  · exact split_long s w h
  · exact split_any s w hT h

/- Memory with depth: slices whose elements are slices; what stays as it is while a few blocks change. -/
open Go.RowKit
set_option linter.unusedVariables false

/-- only blocks of X change, and new ones come -/
structure Chg (X : Nat → Prop) (w w' : World) : Prop where
  os : w'.os = w.os
  tape : w'.tape = w.tape
  output : w'.output = w.output
  size : w.heap.size ≤ w'.heap.size
  block : ∀ b, b < w.heap.size → ¬ X b → w'.heap[b]? = w.heap[b]?
theorem Chg.refl (X : Nat → Prop) (w : World) : Chg X w w := ⟨rfl, rfl, rfl, Nat.le_refl _, fun _ _ _ => rfl⟩
theorem Chg.trans {X Y : Nat → Prop} {w w1 w2 : World} (h : Chg X w w1) (k : Chg Y w1 w2) (hY : ∀ b, b < w.heap.size → Y b → X b) : Chg X w w2 :=
  ⟨k.os.trans h.os, k.tape.trans h.tape, k.output.trans h.output, Nat.le_trans h.size k.size, fun b hb hx => (k.block b (Nat.lt_of_lt_of_le hb h.size) (fun e => hx (hY b hb e))).trans (h.block b hb hx)⟩
theorem Chg.mono {X Y : Nat → Prop} {w w' : World} (h : Chg X w w') (hY : ∀ b, b < w.heap.size → X b → Y b) : Chg Y w w' :=
  ⟨h.os, h.tape, h.output, h.size, fun b hb hy => h.block b hb (fun e => hy (hY b hb e))⟩
theorem Chg.of_below {B : Nat} {w w' : World} (h : Below B w w') : Chg (fun b => B ≤ b) w w' :=
  ⟨h.os, h.tape, h.output, h.size, fun b _ hx => h.block b (Nat.lt_of_not_le hx)⟩
theorem Chg.below {B : Nat} {w w' : World} (h : Chg (fun b => B ≤ b) w w') (hB : B ≤ w.heap.size) : Below B w w' :=
  ⟨h.os, h.tape, h.output, h.size, fun b hb => h.block b (Nat.lt_of_lt_of_le hb hB) (Nat.not_le_of_lt hb)⟩
theorem Chg.of_new {X : Nat → Prop} {w w' : World} (h : Below w.heap.size w w') : Chg X w w' :=
  ⟨h.os, h.tape, h.output, h.size, fun b hb _ => h.block b hb⟩
theorem Chg.of_grown {w w' : World} {row : Option Nat} (h : w.grownBy w' row) : Chg (fun b => row = some b) w w' :=
  ⟨h.os, h.tape, h.output, h.size, fun b hb hx => h.block b hb (fun e => hx e.symm)⟩
theorem Chg.grown {w w' : World} {row : Option Nat} (h : Chg (fun b => row = some b) w w') : w.grownBy w' row :=
  ⟨h.os, h.tape, h.output, h.size, fun b hb hx => h.block b hb (fun e => hx e.symm)⟩
/-- R holds and will hold while only blocks of X change -/
def Firm (X : Nat → Prop) (w : World) (R : World → Prop) : Prop := ∀ w', w.heap.size ≤ w'.heap.size → (∀ b, b < w.heap.size → ¬ X b → w'.heap[b]? = w.heap[b]?) → R w'
theorem Firm.now {X : Nat → Prop} {w : World} {R : World → Prop} (h : Firm X w R) : R w := h w (Nat.le_refl _) (fun _ _ _ => rfl)
theorem Firm.step {X X' Y : Nat → Prop} {w w' : World} {R : World → Prop} (h : Firm X w R) (hc : Chg Y w w') (hY : ∀ b, b < w.heap.size → Y b → X b) (hX : ∀ b, b < w.heap.size → X' b → X b) : Firm X' w' R :=
  fun w2 hs hb => h w2 (Nat.le_trans hc.size hs) fun b hlt hx => (hb b (Nat.lt_of_lt_of_le hlt hc.size) (fun e => hx (hX b hlt e))).trans (hc.block b hlt (fun e => hx (hY b hlt e)))
theorem Firm.and {X : Nat → Prop} {w : World} {R S : World → Prop} (h : Firm X w R) (k : Firm X w S) : Firm X w (fun w => R w ∧ S w) := fun w' hs hb => ⟨h w' hs hb, k w' hs hb⟩
theorem Firm.mono {X : Nat → Prop} {w : World} {R S : World → Prop} (h : Firm X w R) (k : ∀ w, R w → S w) : Firm X w S := fun w' hs hb => k _ (h w' hs hb)
theorem Firm.sub {X X' : Nat → Prop} {w : World} {R : World → Prop} (h : Firm X w R) (hX : ∀ b, b < w.heap.size → X' b → X b) : Firm X' w R := h.step (Chg.refl (fun _ => False) w) (fun _ _ e => e.elim) hX
theorem Firm.pure {X : Nat → Prop} {w : World} {p : Prop} (h : p) : Firm X w (fun _ => p) := fun _ _ _ => h
theorem cell_same {w w' : World} {b o : Nat} {s : Option Nat} (h : w'.heap[b]? = w.heap[b]?) : w'.cell? ⟨b, o, s⟩ = w.cell? ⟨b, o, s⟩ := by unfold World.cell?; simp only [h]
/-- cells in a block that does not change -/
theorem Firm.cells {X : Nat → Prop} {w : World} {A : Option Addr} {cs : List Value} (h : RowAt w A cs) (hX : ∀ b o s, A = some ⟨b, o, s⟩ → cs ≠ [] → ¬ X b) : Firm X w (fun w => RowAt w A cs) := by
  intro w' hs hb hne
  obtain ⟨b, o, rfl, hlt, hc⟩ := h hne
  exact ⟨b, o, rfl, Nat.lt_of_lt_of_le hlt hs, fun j u hu => (cell_same (hb b hlt (hX b o none rfl hne))).trans (hc j u hu)⟩
/-- the value x is a slice of n elements with these cells -/
def Sl (w : World) (x : Value) (n : Nat) (cs : List Value) : Prop := ∃ A c, x = .slice A n c ∧ n ≤ c ∧ RowAt w A cs
theorem Sl.below {w w' : World} {x : Value} {n : Nat} {cs : List Value} (h : Sl w x n cs) (hb : Below w.heap.size w w') : Sl w' x n cs := by
  obtain ⟨A, c, e, hc, hr⟩ := h
  exact ⟨A, c, e, hc, hr.below hb⟩
theorem Sl.nil (w : World) : Sl w (.slice none 0 0) 0 [] := ⟨none, 0, rfl, Nat.le_refl _, RowAt.nil _ _⟩
/-- values and data one by one -/
def AllV {α : Type} (R : Value → α → Prop) : List Value → List α → Prop
  | [], [] => True
  | x :: xs, a :: l => R x a ∧ AllV R xs l
  | _, _ => False
theorem AllV.length {α : Type} {R : Value → α → Prop} : ∀ {xs : List Value} {l : List α}, AllV R xs l → xs.length = l.length
  | [], [], _ => rfl
  | x :: xs, a :: l, h => by rw [List.length_cons, List.length_cons, AllV.length h.2]
  | [], a :: l, h => h.elim
  | x :: xs, [], h => h.elim
theorem AllV.mono {α : Type} {R R' : Value → α → Prop} (hR : ∀ x a, R x a → R' x a) : ∀ {xs : List Value} {l : List α}, AllV R xs l → AllV R' xs l
  | [], [], _ => trivial
  | x :: xs, a :: l, h => ⟨hR _ _ h.1, AllV.mono hR h.2⟩
  | [], a :: l, h => h.elim
  | x :: xs, [], h => h.elim
theorem AllV.get {α : Type} {R : Value → α → Prop} : ∀ {xs : List Value} {l : List α} (i : Nat) (h : AllV R xs l) (h1 : i < xs.length) (h2 : i < l.length), R xs[i] l[i]
  | x :: xs, a :: l, 0, h, _, _ => h.1
  | x :: xs, a :: l, i + 1, h, h1, h2 => AllV.get (xs := xs) (l := l) i h.2 (by simpa using h1) (by simpa using h2)
  | [], _, _, _, h1, _ => absurd h1 (by simp)
  | x :: xs, [], _, h, _, _ => h.elim
theorem AllV.snoc {α : Type} {R : Value → α → Prop} : ∀ {xs : List Value} {l : List α} {x : Value} {a : α}, AllV R xs l → R x a → AllV R (xs ++ [x]) (l ++ [a])
  | [], [], x, a, _, h => ⟨h, trivial⟩
  | y :: xs, b :: l, x, a, h, k => ⟨h.1, AllV.snoc h.2 k⟩
  | [], b :: l, x, a, h, _ => h.elim
  | y :: xs, [], x, a, h, _ => h.elim
theorem AllV.snoc_inv {α : Type} {R : Value → α → Prop} : ∀ {xs : List Value} {l : List α} {a : α}, AllV R xs (l ++ [a]) → ∃ ys x, xs = ys ++ [x] ∧ AllV R ys l ∧ R x a
  | [], [], a, h => h.elim
  | [], b :: l, a, h => h.elim
  | x :: xs, [], a, h => by
    cases xs with
    | nil => exact ⟨[], x, rfl, trivial, h.1⟩
    | cons y ys => exact h.2.elim
  | x :: xs, b :: l, a, h => by
    obtain ⟨ys, z, e, h1, h2⟩ := AllV.snoc_inv (xs := xs) (l := l) (a := a) h.2
    exact ⟨x :: ys, z, by rw [e]; rfl, ⟨h.1, h1⟩, h2⟩
/-- a slice of strings -/
def StrsV (w : World) (x : Value) (l : List Bs) : Prop := Sl w x l.length (l.map S)
theorem StrsV.below {w w' : World} {x : Value} {l : List Bs} (h : StrsV w x l) (hb : Below w.heap.size w w') : StrsV w' x l := Sl.below h hb
/-- readings -/
def ReadsV (w : World) (x : Value) (rs : List (List Bs)) : Prop := ∃ vs, Sl w x rs.length vs ∧ AllV (StrsV w) vs rs
theorem ReadsV.below {w w' : World} {x : Value} {rs : List (List Bs)} (h : ReadsV w x rs) (hb : Below w.heap.size w w') : ReadsV w' x rs := by
  obtain ⟨vs, h1, h2⟩ := h
  exact ⟨vs, h1.below hb, h2.mono fun _ _ h => h.below hb⟩
/-- the cells of cohorts -/
def cohCells : List Coh → List Value → List Value
  | c :: l, x :: xs => S c.form :: x :: cohCells l xs
  | _, _ => []
def CohsV (w : World) (x : Value) (l : List Coh) : Prop := ∃ xs, Sl w x l.length (cohCells l xs) ∧ AllV (fun x (c : Coh) => ReadsV w x c.reads) xs l
theorem CohsV.below {w w' : World} {x : Value} {l : List Coh} (h : CohsV w x l) (hb : Below w.heap.size w w') : CohsV w' x l := by
  obtain ⟨xs, h1, h2⟩ := h
  exact ⟨xs, h1.below hb, h2.mono fun _ _ h => h.below hb⟩
theorem cohCells_get : ∀ (l : List Coh) (xs : List Value) (i : Nat) (h1 : i < l.length) (h2 : i < xs.length), (cohCells l xs)[2 * i]? = some (S l[i].form) ∧ (cohCells l xs)[2 * i + 1]? = some xs[i]
  | c :: l, x :: xs, 0, _, _ => ⟨rfl, rfl⟩
  | c :: l, x :: xs, i + 1, h1, h2 => by
    have := cohCells_get l xs i (by simpa using h1) (by simpa using h2)
    rw [show 2 * (i + 1) = 2 * i + 2 by omega, show 2 * i + 2 + 1 = (2 * i + 1) + 2 by omega]
    exact this
  | [], _, _, h1, _ => absurd h1 (by simp)
  | c :: l, [], _, _, h2 => absurd h2 (by simp)
theorem cohCells_len : ∀ (l : List Coh) (xs : List Value), xs.length = l.length → (cohCells l xs).length = 2 * l.length
  | [], [], _ => rfl
  | c :: l, x :: xs, h => by
    have := cohCells_len l xs (by simpa using h)
    show (cohCells l xs).length + 1 + 1 = _
    rw [this, List.length_cons]; omega
  | [], x :: xs, h => by simp at h
  | c :: l, [], h => by simp at h
theorem cohCells_snoc : ∀ (l : List Coh) (xs : List Value) (c : Coh) (x : Value), xs.length = l.length → cohCells (l ++ [c]) (xs ++ [x]) = cohCells l xs ++ [S c.form, x]
  | [], [], c, x, _ => rfl
  | d :: l, y :: xs, c, x, h => by
    have := cohCells_snoc l xs c x (by simpa using h)
    show S d.form :: y :: cohCells (l ++ [c]) (xs ++ [x]) = _
    rw [this]; rfl
  | [], x :: xs, _, _, h => by simp at h
  | c :: l, [], _, _, h => by simp at h
/-- tests and rules -/
def tstCells : List Tst → List (Value × Value) → List Value
  | t :: l, x :: xs => .int .i64 t.at_ :: .bool t.scan :: .bool t.not_ :: .bool t.careful :: x.1 :: x.2 :: tstCells l xs
  | _, _ => []
def AllP {α β : Type} (R : β → α → Prop) : List β → List α → Prop
  | [], [] => True
  | x :: xs, a :: l => R x a ∧ AllP R xs l
  | _, _ => False
theorem AllP.length {α β : Type} {R : β → α → Prop} : ∀ {xs : List β} {l : List α}, AllP R xs l → xs.length = l.length
  | [], [], _ => rfl
  | x :: xs, a :: l, h => by rw [List.length_cons, List.length_cons, AllP.length h.2]
  | [], a :: l, h => h.elim
  | x :: xs, [], h => h.elim
theorem AllP.mono {α β : Type} {R R' : β → α → Prop} (hR : ∀ x a, R x a → R' x a) : ∀ {xs : List β} {l : List α}, AllP R xs l → AllP R' xs l
  | [], [], _ => trivial
  | x :: xs, a :: l, h => ⟨hR _ _ h.1, AllP.mono hR h.2⟩
  | [], a :: l, h => h.elim
  | x :: xs, [], h => h.elim
theorem AllP.get {α β : Type} {R : β → α → Prop} : ∀ {xs : List β} {l : List α} (i : Nat) (h : AllP R xs l) (h1 : i < xs.length) (h2 : i < l.length), R xs[i] l[i]
  | x :: xs, a :: l, 0, h, _, _ => h.1
  | x :: xs, a :: l, i + 1, h, h1, h2 => AllP.get (xs := xs) (l := l) i h.2 (by simpa using h1) (by simpa using h2)
  | [], _, _, _, h1, _ => absurd h1 (by simp)
  | x :: xs, [], _, h, _, _ => h.elim
theorem AllP.snoc {α β : Type} {R : β → α → Prop} : ∀ {xs : List β} {l : List α} {x : β} {a : α}, AllP R xs l → R x a → AllP R (xs ++ [x]) (l ++ [a])
  | [], [], x, a, _, h => ⟨h, trivial⟩
  | y :: xs, b :: l, x, a, h, k => ⟨h.1, AllP.snoc h.2 k⟩
  | [], b :: l, x, a, h, _ => h.elim
  | y :: xs, [], x, a, h, _ => h.elim
def TstsV (w : World) (x : Value) (l : List Tst) : Prop := ∃ xs, Sl w x l.length (tstCells l xs) ∧ AllP (fun (x : Value × Value) (t : Tst) => StrsV w x.1 t.tags ∧ StrsV w x.2 t.barrier) xs l
theorem TstsV.below {w w' : World} {x : Value} {l : List Tst} (h : TstsV w x l) (hb : Below w.heap.size w w') : TstsV w' x l := by
  obtain ⟨xs, h1, h2⟩ := h
  exact ⟨xs, h1.below hb, h2.mono fun _ _ h => ⟨h.1.below hb, h.2.below hb⟩⟩
theorem tstCells_get : ∀ (l : List Tst) (xs : List (Value × Value)) (i : Nat) (h1 : i < l.length) (h2 : i < xs.length),
    (tstCells l xs)[6 * i]? = some (.int .i64 l[i].at_) ∧ (tstCells l xs)[6 * i + 1]? = some (.bool l[i].scan) ∧ (tstCells l xs)[6 * i + 2]? = some (.bool l[i].not_) ∧ (tstCells l xs)[6 * i + 3]? = some (.bool l[i].careful) ∧ (tstCells l xs)[6 * i + 4]? = some xs[i].1 ∧ (tstCells l xs)[6 * i + 5]? = some xs[i].2
  | c :: l, x :: xs, 0, _, _ => ⟨rfl, rfl, rfl, rfl, rfl, rfl⟩
  | c :: l, x :: xs, i + 1, h1, h2 => by
    have := tstCells_get l xs i (by simpa using h1) (by simpa using h2)
    rw [show 6 * (i + 1) = 6 * i + 6 by omega, show 6 * i + 6 + 1 = (6 * i + 1) + 6 by omega, show 6 * i + 6 + 2 = (6 * i + 2) + 6 by omega, show 6 * i + 6 + 3 = (6 * i + 3) + 6 by omega, show 6 * i + 6 + 4 = (6 * i + 4) + 6 by omega, show 6 * i + 6 + 5 = (6 * i + 5) + 6 by omega]
    exact this
  | [], _, _, h1, _ => absurd h1 (by simp)
  | c :: l, [], _, _, h2 => absurd h2 (by simp)
theorem tstCells_snoc : ∀ (l : List Tst) (xs : List (Value × Value)) (t : Tst) (x : Value × Value), xs.length = l.length → tstCells (l ++ [t]) (xs ++ [x]) = tstCells l xs ++ [.int .i64 t.at_, .bool t.scan, .bool t.not_, .bool t.careful, x.1, x.2]
  | [], [], c, x, _ => rfl
  | d :: l, y :: xs, c, x, h => by
    have := tstCells_snoc l xs c x (by simpa using h)
    show Value.int .i64 d.at_ :: .bool d.scan :: .bool d.not_ :: .bool d.careful :: y.1 :: y.2 :: tstCells (l ++ [c]) (xs ++ [x]) = _
    rw [this]; rfl
  | [], x :: xs, _, _, h => by simp at h
  | c :: l, [], _, _, h => by simp at h
theorem tstCells_len : ∀ (l : List Tst) (xs : List (Value × Value)), xs.length = l.length → (tstCells l xs).length = 6 * l.length
  | [], [], _ => rfl
  | c :: l, x :: xs, h => by
    have := tstCells_len l xs (by simpa using h)
    show (tstCells l xs).length + 1 + 1 + 1 + 1 + 1 + 1 = _
    rw [this, List.length_cons]; omega
  | [], x :: xs, h => by simp at h
  | c :: l, [], h => by simp at h
def rulCells : List Rul → List (Value × Value) → List Value
  | r :: l, x :: xs => .int .i64 r.op :: x.1 :: x.2 :: .bool r.uns :: rulCells l xs
  | _, _ => []
def RulV (w : World) (x : Value × Value) (r : Rul) : Prop := StrsV w x.1 r.target ∧ TstsV w x.2 r.tests
theorem RulV.below {w w' : World} {x : Value × Value} {r : Rul} (h : RulV w x r) (hb : Below w.heap.size w w') : RulV w' x r := ⟨h.1.below hb, h.2.below hb⟩
def RulsV (w : World) (x : Value) (l : List Rul) : Prop := ∃ xs, Sl w x l.length (rulCells l xs) ∧ AllP (RulV w) xs l
theorem RulsV.below {w w' : World} {x : Value} {l : List Rul} (h : RulsV w x l) (hb : Below w.heap.size w w') : RulsV w' x l := by
  obtain ⟨xs, h1, h2⟩ := h
  exact ⟨xs, h1.below hb, h2.mono fun _ _ h => h.below hb⟩
theorem rulCells_get : ∀ (l : List Rul) (xs : List (Value × Value)) (i : Nat) (h1 : i < l.length) (h2 : i < xs.length),
    (rulCells l xs)[4 * i]? = some (.int .i64 l[i].op) ∧ (rulCells l xs)[4 * i + 1]? = some xs[i].1 ∧ (rulCells l xs)[4 * i + 2]? = some xs[i].2 ∧ (rulCells l xs)[4 * i + 3]? = some (.bool l[i].uns)
  | c :: l, x :: xs, 0, _, _ => ⟨rfl, rfl, rfl, rfl⟩
  | c :: l, x :: xs, i + 1, h1, h2 => by
    have := rulCells_get l xs i (by simpa using h1) (by simpa using h2)
    rw [show 4 * (i + 1) = 4 * i + 4 by omega, show 4 * i + 4 + 1 = (4 * i + 1) + 4 by omega, show 4 * i + 4 + 2 = (4 * i + 2) + 4 by omega, show 4 * i + 4 + 3 = (4 * i + 3) + 4 by omega]
    exact this
  | [], _, _, h1, _ => absurd h1 (by simp)
  | c :: l, [], _, _, h2 => absurd h2 (by simp)
theorem rulCells_snoc : ∀ (l : List Rul) (xs : List (Value × Value)) (r : Rul) (x : Value × Value), xs.length = l.length → rulCells (l ++ [r]) (xs ++ [x]) = rulCells l xs ++ [.int .i64 r.op, x.1, x.2, .bool r.uns]
  | [], [], c, x, _ => rfl
  | d :: l, y :: xs, c, x, h => by
    have := rulCells_snoc l xs c x (by simpa using h)
    show Value.int .i64 d.op :: y.1 :: y.2 :: .bool d.uns :: rulCells (l ++ [c]) (xs ++ [x]) = _
    rw [this]; rfl
  | [], x :: xs, _, _, h => by simp at h
  | c :: l, [], _, _, h => by simp at h
theorem rulCells_len : ∀ (l : List Rul) (xs : List (Value × Value)), xs.length = l.length → (rulCells l xs).length = 4 * l.length
  | [], [], _ => rfl
  | c :: l, x :: xs, h => by
    have := rulCells_len l xs (by simpa using h)
    show (rulCells l xs).length + 1 + 1 + 1 + 1 = _
    rw [this, List.length_cons]; omega
  | [], x :: xs, h => by simp at h
  | c :: l, [], h => by simp at h

/- Walks of layer 1: a byte written with two hexadecimal digits. -/
open Go.RowKit
set_option linter.unusedVariables false

def ParsePost (w : World) (r : Option Nat) (e : Ending) (w' : World) : Prop :=
  (e = match r with | some n => .returned (.tuple #[.int .u64 n, .nilIface]) | none => .returned (.tuple #[.int .u64 0, .iface 145 (.int .i64 2)])) ∧ Below w.heap.size w w'

theorem ret_u64 {a : Int} {b : Nat} (h : a = (b : Int)) : Ending.returned (.tuple #[.int .u64 a, .nilIface]) = .returned (.tuple #[.int .u64 (b : Int), .nilIface]) := by rw [h]
theorem low_95 (c : UInt8) (h : lowB c ≤ 122) : ((c.toNat : Int) == 95) = false := by
  have : c.toNat ≠ 95 := by
    intro e
    have : c = 95 := UInt8.toNat_inj.1 e
    subst this
    exact absurd h (by decide)
  simp; omega
theorem low_bits (c : UInt8) : bits .or .u8 (c.toNat : Int) 32 = (lowB c : Int) := by
  have h : ∀ n : Fin 256, bits .or .u8 (n.val : Int) 32 = ((n.val ||| 32 : Nat) : Int) := by decide +kernel
  have h1 := h ⟨c.toNat, c.toNat_lt⟩
  simp only at h1
  rw [h1]; unfold lowB; rw [UInt8.toNat_or]; rfl

set_option maxHeartbeats 4000000 in
set_option maxRecDepth 100000 in
theorem iparse_any (x y : UInt8) (w : World) :
    Calls Tryz.prog 133 #[.string ⟨#[x, y]⟩, .int .i64 16, .int .i64 8] w (ParsePost w (hex2 x y)) := by
  obtain ⟨cap, C, m, hcv, hC0, hC1⟩ : ∃ (cap : Nat) (C : Array Value) (m : Nat × Nat), (convert 9 67 (.string ⟨#[x, y]⟩)).run Tryz.prog w = .ok (.slice (some ⟨w.heap.size, 0, none⟩) 2 cap) (w.alloc (.cells C 5 m)).drew ∧ C[0]? = some (.int .u8 x.toNat) ∧ C[1]? = some (.int .u8 y.toNat) :=
    ⟨_, _, _, run_bytes_of_string w 9 67 5 ⟨#[x, y]⟩ Tryz.underlying9 Tryz.underlying67 Tryz.underlying5, bytesRow_at ⟨#[x, y]⟩ _ 0 (Nat.lt_of_lt_of_eq (by decide : 0 < 2) rfl), bytesRow_at ⟨#[x, y]⟩ _ 1 (Nat.lt_of_lt_of_eq (by decide : 1 < 2) rfl)⟩
  have hc0 : (w.alloc (.cells C 5 m)).cell? ⟨w.heap.size, 0, none⟩ = some (.int .u8 x.toNat) := by rw [World.cell?_alloc_mark]; exact hC0
  have hc1 : (w.alloc (.cells C 5 m)).cell? ⟨w.heap.size, 1, none⟩ = some (.int .u8 y.toNat) := by rw [World.cell?_alloc_mark]; exact hC1
  clear hC0 hC1
  go_enter Tryz.func133, Tryz.ntmps133
  go_wp2_with fail
  go_loopw [12, 13, 101] (fun u v i wr => ∃ (k : Nat) (r : Int), u = .bool false ∧ i = .int .i64 k ∧ k ≤ 2 ∧ v = .int .u64 r ∧ Below w.heap.size w wr ∧ wr.cell? ⟨w.heap.size, 0, none⟩ = some (.int .u8 x.toNat) ∧ wr.cell? ⟨w.heap.size, 1, none⟩ = some (.int .u8 y.toNat) ∧ (k = 0 → r = 0) ∧ 0 ≤ r ∧ (k = 1 → r ≤ 15) ∧ Hid ((k = 1 → hexv x = some r.toNat) ∧ (k = 2 → ∃ a b, hexv x = some a ∧ hexv y = some b ∧ r = 16 * a + b))) (fun _ _ i _ => 2 - (intOf i).toNat)
  case atStart => exact ⟨0, 0, rfl, rfl, by omega, rfl, by go_grown, hc0, hc1, by simp, by omega, by simp, by simp [Hid]⟩
  case round =>
    obtain ⟨k, r, rfl, rfl, hk, rfl, hb, hx, hy, hk0, hr0, hk1, H⟩ := hrel
    by_cases hlt : k < 2
    · obtain ⟨c, hcc, hck⟩ : ∃ c : UInt8, wr.cell? ⟨w.heap.size, k, none⟩ = some (.int .u8 c.toNat) ∧ Hid ((k = 0 → c = x) ∧ (k = 1 → c = y)) := by
        rcases (show k = 0 ∨ k = 1 by omega) with rfl | rfl
        · exact ⟨x, hx, by simp [Hid]⟩
        · exact ⟨y, hy, by simp [Hid]⟩
      have hlc : ∀ (n : Int) W, n = c.toNat → Calls Tryz.prog 146 #[.int .u8 n] W fun e w' => e = .returned (.int .u8 (lowB c)) ∧ W = w' := fun n W hn => by
        rw [hn, ← low_bits]; exact (Tryz.internal_strconv_lower _ W).mono fun _ _ h => ⟨h.1, h.2.symm⟩
      have hcl := lowB_lt c
      have hcb := c.toNat_lt
      have hr15 : r ≤ 15 := by omega
      have HK0 := Lib.hid hk0
      have HK1 := Lib.hid hk1
      clear hk0 hk1 hc0 hc1
      rcases hexv_cases c with ⟨a1, a2, a3⟩ | ⟨a0, a1, a2, a3⟩ | ⟨a0, a1, a2, a3⟩ | ⟨a0, a1, a3⟩
      · have A3 := Lib.hid a3
        clear a3
        go_wp2_with (first | (go_at_call 146; refine (hlc _ _ (by omega)).mono ?_; rintro e w2 ⟨rfl, rfl⟩))
        all_goals
          go_roundw
          case rel =>
            go_light
            have hv : hexv c = some (c.toNat - 48) := A3.out
            rcases (show k = 0 ∨ k = 1 by omega) with rfl | rfl
            · have e0 := HK0.out rfl
              have ec := hck.out.1 rfl
              clear hck
              subst ec
              exact ⟨1, _, rfl, by go_num, by omega, rfl, hb, hx, hy, by omega, by omega, by omega, ⟨fun _ => by rw [hv]; congr 1; omega, by omega⟩⟩
            · have e1 := HK1.out rfl
              have hcy := hck.out.2 rfl
              clear hck
              subst hcy
              exact ⟨2, _, rfl, by go_num, by omega, rfl, hb, hx, hy, by omega, by omega, by omega, ⟨by omega, fun _ => ⟨_, _, H.out.1 rfl, hv, by omega⟩⟩⟩
          case measure => simp [intOf]; omega
      · have A3 := Lib.hid a3
        clear a3
        have n95 : ((c.toNat : Int) == 95) = false := low_95 c (by omega)
        go_wp2_with (first | (go_at_call 146; refine (hlc _ _ (by omega)).mono ?_; rintro e w2 ⟨rfl, rfl⟩))
        all_goals
          go_roundw
          case rel =>
            go_light
            have hv : hexv c = some (lowB c - 87) := A3.out
            rcases (show k = 0 ∨ k = 1 by omega) with rfl | rfl
            · have e0 := HK0.out rfl
              have ec := hck.out.1 rfl
              clear hck
              subst ec
              exact ⟨1, _, rfl, by go_num, by omega, rfl, hb, hx, hy, by omega, by omega, by omega, ⟨fun _ => by rw [hv]; congr 1; omega, by omega⟩⟩
            · have e1 := HK1.out rfl
              have hcy := hck.out.2 rfl
              clear hck
              subst hcy
              exact ⟨2, _, rfl, by go_num, by omega, rfl, hb, hx, hy, by omega, by omega, by omega, ⟨by omega, fun _ => ⟨_, _, H.out.1 rfl, hv, by omega⟩⟩⟩
          case measure => simp [intOf]; omega
      · have A3 := Lib.hid a3
        clear a3
        go_wp2_with (first | (go_at_call 146; refine (hlc _ _ (by omega)).mono ?_; rintro e w2 ⟨rfl, rfl⟩))
        all_goals
          go_returns
          refine ⟨?_, by go_grown⟩
          have hn : hex2 x y = none := by
            unfold hex2
            rcases (show k = 0 ∨ k = 1 by omega) with rfl | rfl
            · rw [← hck.out.1 rfl, A3.out]
            · rw [← hck.out.2 rfl, A3.out]; cases hexv x <;> rfl
          rw [hn]; rfl
      · have A3 := Lib.hid a3
        clear a3
        go_wp2_with (first | (go_at_call 146; refine (hlc _ _ (by omega)).mono ?_; rintro e w2 ⟨rfl, rfl⟩))
        all_goals
          go_returns
          refine ⟨?_, by go_grown⟩
          have hn : hex2 x y = none := by
            unfold hex2
            rcases (show k = 0 ∨ k = 1 by omega) with rfl | rfl
            · rw [← hck.out.1 rfl, A3.out]
            · rw [← hck.out.2 rfl, A3.out]; cases hexv x <;> rfl
          rw [hn]; rfl
    · obtain rfl : k = 2 := by omega
      go_wp2_with fail
      go_returns
      refine ⟨?_, hb⟩
      obtain ⟨a, b, h1, h2, h3⟩ := H.out.2 (by first | rfl | trivial)
      have hn : hex2 x y = some (16 * a + b) := by unfold hex2; rw [h1, h2]
      rw [hn]
      exact ret_u64 (by omega)

set_option maxHeartbeats 1000000 in
set_option maxRecDepth 100000 in
theorem parse_ok (x y : UInt8) (n : Nat) (w : World) (h : hex2 x y = some n) :
    Calls Tryz.prog 119 #[.string ⟨#[x, y]⟩, .int .i64 16, .int .i64 8] w fun e w' => e = .returned (.tuple #[.int .u64 n, .nilIface]) ∧ Below w.heap.size w w' := by
  have hi := iparse_any x y w
  rw [h] at hi
  clear h
  go_enter Tryz.func119, Tryz.ntmps119
  go_wp2_with (go_at_call 133; refine hi.mono ?_; rintro e w1 ⟨rfl, hb⟩)
  go_returns
  exact ⟨rfl, hb⟩
def BadPost (w : World) (e : Ending) (w' : World) : Prop := ∃ N, e = .returned (.tuple #[.int .u64 0, .iface 148 (.pointer (some ⟨N, 0, none⟩))]) ∧ Below w.heap.size w w'
set_option maxHeartbeats 1000000 in
set_option maxRecDepth 100000 in
theorem parse_bad (x y : UInt8) (w : World) (hT : Tabs w) (h : hex2 x y = none) :
    Calls Tryz.prog 119 #[.string ⟨#[x, y]⟩, .int .i64 16, .int .i64 8] w (BadPost w) := by
  have hi := iparse_any x y w
  rw [h] at hi
  clear h
  have hsyn : ∀ w', Below w.heap.size w w' → ∃ te pe, w'.cell? ⟨1, 0, none⟩ = some (.iface te pe) := fun w' hb => (hT.below hb).syn
  have HS := Lib.hid hsyn
  clear hsyn
  go_enter Tryz.func119, Tryz.ntmps119
  go_wp2_with (go_at_call 133; refine hi.mono ?_; rintro e w1 ⟨rfl, hb⟩)
  obtain ⟨te, pe, hv⟩ := HS.out _ hb
  refine (Tryz.strconv_toError_syntax _ ⟨#[x, y]⟩ _ _ _ _ (show (2 : Nat) ≤ 281474976710656 by decide) hv (Or.inr ⟨te, pe, rfl⟩)).mono ?_
  rintro e w2 ⟨N, rfl, _, _, hb2⟩
  go_wp2_with fail
  go_returns
  exact ⟨N, rfl, bstep hb hb2⟩

/- Walks of the reference of layer 1: at, more, Point. -/
open Go.RowKit
set_option linter.unusedVariables false

set_option maxHeartbeats 400000 in
theorem at_any (s : ByteArray) (i : Nat) (w : World) :
    Calls Tryz.prog 122 #[.string s, .int .i64 i] w fun e w' => e = .returned (.int .i64 (atB s.data.toList i)) ∧ w = w' := by
  by_cases h : i < s.size
  · have hb := s[i].toNat_lt
    go_enter Tryz.func122, Tryz.ntmps122
    go_wp2
    go_ret
    exact ⟨ret_int (by simp [atB, h]; rfl), rfl⟩
  · go_enter Tryz.func122, Tryz.ntmps122
    go_wp2
    go_ret
    exact ⟨ret_int (by simp [atB, h]), rfl⟩

set_option maxHeartbeats 400000 in
theorem more_any (s : ByteArray) (i : Nat) (w : World) :
    Calls Tryz.prog 123 #[.string s, .int .i64 i] w fun e w' => e = .returned (.bool (cont s.data.toList i)) ∧ w = w' := by
  have hb := atB_lt s.data.toList i
  go_enter Tryz.func123, Tryz.ntmps123
  go_wp2_with (go_at_call 122; refine (at_any _ _ _).mono ?_; rintro e w' ⟨rfl, rfl⟩)
  all_goals go_ret
  all_goals exact ⟨ret_bool (by rw [Bool.eq_iff_iff]; simp [cont]; omega), rfl⟩

set_option maxHeartbeats 4000000 in
set_option maxRecDepth 100000 in
theorem point_any (s : ByteArray) (i : Nat) (w : World) (hs : s.size ≤ 9223372036854775807) (hi : i ≤ 9223372036854775800) :
    Calls Tryz.prog 107 #[.string s, .int .i64 i] w fun e w' => e = .returned (.tuple #[.int .i64 (point s.data.toList i).1, .int .i64 (point s.data.toList i).2]) ∧ w = w' := by
  have hb := atB_lt s.data.toList i
  have hb1 := atB_lt s.data.toList (i+1)
  have hb2 := atB_lt s.data.toList (i+2)
  have hb3 := atB_lt s.data.toList (i+3)
  go_enter Tryz.func107, Tryz.ntmps107
  go_wp2_with (first | (go_at_call 122; refine (at_any _ _ _).mono ?_; rintro e w' ⟨rfl, rfl⟩) | (go_at_call 123; refine (more_any _ _ _).mono ?_; rintro e w' ⟨rfl, rfl⟩))
  all_goals go_ret2
  all_goals refine ⟨ret_int2 ?_ ?_, rfl⟩
  all_goals go_light
  all_goals have hl := Lib.size_eq s
  all_goals try simp only [cont_iff, cont_false] at *
  all_goals unfold point val2 val3 val4
  all_goals try simp only [cont_iff]
  all_goals (repeat' split) <;> omega


/- Walks of the reference of layer 1: Pieces, Valid, Split, Class. -/
open Go.RowKit
set_option linter.unusedVariables false

/-- The slice that Pieces returns. -/
def RowPost (w : World) (l : List Bs) (e : Ending) (w' : World) : Prop := ∃ A c, e = .returned (.slice A l.length c) ∧ l.length ≤ c ∧ RowAt w' A (l.map S) ∧ Below w.heap.size w w'

set_option maxHeartbeats 1000000 in
set_option maxRecDepth 100000 in
theorem pieces_any (s : ByteArray) (w : World) (hs : s.size ≤ 1000000000) :
    Calls Tryz.prog 85 #[.string s] w (RowPost w (pieces s.data.toList)) := by
  obtain ⟨i0, hi, hz0, hz1, hz2⟩ := info_parts strInfo
  go_enter Tryz.func85, Tryz.ntmps85
  go_wp2_with fail
  go_loopw [3, 4] (fun v i wr => ∃ (pos : Nat) (done : List Bs), i = .int .i64 pos ∧ Own w.heap.size 9 v (done.map S) wr ∧ Below w.heap.size w wr ∧ pos ≤ s.size ∧ done.length ≤ pos ∧ Hid (pieces s.data.toList = done ++ pieces (s.data.toList.drop pos))) (fun _ i _ => s.size - (intOf i).toNat)
  case atStart =>
    exact ⟨0, [], rfl, Own.nil _ _ _, Below.refl _ _, by omega, by simp, by simp [Hid]⟩
  case round =>
    obtain ⟨pos, done, rfl, hown, hb, hp, hd, H⟩ := hrel
    by_cases hlt : pos < s.size
    · have hpt := point_drop s.data.toList pos
      have hpn := psz_bd (s.data.toList.drop pos) (by simp; omega)
      have hst := pieces_step (s.data.toList.drop pos) (by simp; omega)
      have hc := fun W => point_any s pos W (by omega) (by omega)
      rw [hpt] at hc
      have hmx : psz (s.data.toList.drop pos) = max (point (s.data.toList.drop pos) 0).2 1 := rfl
      simp only [List.length_drop, ← Lib.size_eq] at hpn
      obtain ⟨n, hn⟩ : ∃ n, psz (s.data.toList.drop pos) = n := ⟨_, rfl⟩
      rw [hn] at hmx hpn hst
      obtain ⟨c, hcc⟩ : ∃ c, (point (s.data.toList.drop pos) 0).1 = c := ⟨_, rfl⟩
      obtain ⟨m, hm⟩ : ∃ m, (point (s.data.toList.drop pos) 0).2 = m := ⟨_, rfl⟩
      rw [hcc, hm] at hc
      rw [hm] at hmx
      have hlen : (done.map S).length = done.length := by simp
      have ml : (done.map S).length + 1 ≤ maxLen := by rw [hlen]; unfold maxLen; omega
      have mb : ((done.map S).length + 1) * 16 ≤ 140737488355328 := by rw [hlen]; omega
      have HS : Hid (Value.string (s.extract pos (pos + n)) = S ((s.data.toList.drop pos).take n)) := by unfold Hid; rw [← S_data, ext_data, Nat.add_sub_cancel_left]
      have HST := Lib.hid hst
      have hmax : max (m : Int) 1 = (n : Int) := by omega
      clear hlen hn hpt hcc hm hst hmx
      go_wp2_with (first | (go_at_call 107; refine (hc _).mono ?_; rintro e w1 ⟨rfl, rfl⟩) | (at_builtin; refine wpList_app1 rfl (.tmp 19) (.tmp 26) 31 rfl w.heap.size i0 _ 16 Tryz.underlying31 hi hz0 hz1 hz2 rfl _ (done.map S) rfl hown 1 rfl rfl ml mb hb.size ?_; intro v' w2 hown4 hg hb2))
      clear hmax
      go_roundw
      case rel => exact ⟨pos + n, done ++ [(s.data.toList.drop pos).take n], by go_num, by rw [List.map_append]; rw [HS.out] at hown4; exact hown4, hb.trans hb2, by omega, by simp; omega, by unfold Hid; rw [H.out, HST.out]; simp⟩
      case measure => simp [intOf]; omega
    · go_wp2_with fail
      go_returns
      have hz : s.data.toList.drop pos = [] := List.drop_of_length_le (by rw [← Lib.size_eq]; omega)
      have hpz : pieces s.data.toList = done := by rw [H.out, hz]; simp [pieces, pcs]
      obtain ⟨A, c, hv, hc, hr⟩ := hown.row.to (n := done.length) (by simp)
      exact ⟨A, c, by rw [hpz, ← hv]; rfl, by rw [hpz]; exact hc, by rw [hpz]; exact hr, hb⟩

set_option maxHeartbeats 400000 in
theorem rvalid_any (s : ByteArray) (w : World) (hs : s.size ≤ 1000000000000) :
    Calls Tryz.prog 124 #[.string s] w fun e w' => e = .returned (.bool (validL s.data.toList)) ∧ w = w' := by
  have hc := point_any s 0 w (by omega) (by omega)
  have HV : Hid (validL s.data.toList = (decide (0 < (point s.data.toList 0).2) && decide ((point s.data.toList 0).2 = s.size))) := by unfold Hid validL okL; rw [← Lib.size_eq]
  obtain ⟨c, hcc⟩ : ∃ c, (point s.data.toList 0).1 = c := ⟨_, rfl⟩
  obtain ⟨m, hm⟩ : ∃ m, (point s.data.toList 0).2 = m := ⟨_, rfl⟩
  rw [hcc, hm] at hc
  rw [hm] at HV
  clear hcc hm
  go_enter Tryz.func124, Tryz.ntmps124
  go_wp2_with (first | (go_at_call 107; refine hc.mono ?_; rintro e w1 ⟨rfl, rfl⟩))
  all_goals go_returns
  all_goals refine ⟨ret_bool ?_, rfl⟩
  all_goals rw [HV.out]
  all_goals go_light
  all_goals rw [Bool.eq_iff_iff]
  all_goals simp [*]
  all_goals omega

set_option maxHeartbeats 400000 in
theorem within_any (n a b : Int) (w : World) :
    Calls Tryz.prog 125 #[.int .i64 n, .int .i64 a, .int .i64 b] w fun e w' => e = .returned (.bool (decide (a ≤ n ∧ n ≤ b))) ∧ w = w' := by
  go_enter Tryz.func125, Tryz.ntmps125
  go_wp2
  all_goals go_returns
  all_goals refine ⟨ret_bool ?_, rfl⟩
  all_goals go_light
  all_goals rw [Bool.eq_iff_iff]
  all_goals simp
  all_goals omega

def withinB (n a b : Int) : Bool := decide (a ≤ n ∧ n ≤ b)
theorem withinB_iff (n a b : Int) : withinB n a b = true ↔ a ≤ n ∧ n ≤ b := by simp [withinB]
theorem withinB_false (n a b : Int) : withinB n a b = false ↔ ¬ (a ≤ n ∧ n ≤ b) := by simp [withinB]

set_option maxHeartbeats 4000000 in
set_option maxRecDepth 100000 in
theorem rclass_any (s : ByteArray) (w : World) (hs : s.size ≤ 1000000000000) :
    Calls Tryz.prog 108 #[.string s] w fun e w' => e = .returned (.int .i64 (classL s.data.toList)) ∧ w = w' := by
  have hc := point_any s 0 w (by omega) (by omega)
  have hv := rvalid_any s w (by omega)
  have hwi : ∀ a b n w, Calls Tryz.prog 125 #[.int .i64 n, .int .i64 a, .int .i64 b] w fun e w' => e = .returned (.bool (withinB n a b)) ∧ w = w' := fun a b n w => within_any n a b w
  have HC : Hid (classL s.data.toList = if validL s.data.toList = true then clsOf (point s.data.toList 0).1 else 0) := rfl
  obtain ⟨c, hcc⟩ : ∃ c, (point s.data.toList 0).1 = c := ⟨_, rfl⟩
  obtain ⟨m, hm⟩ : ∃ m, (point s.data.toList 0).2 = m := ⟨_, rfl⟩
  obtain ⟨k, hk⟩ : ∃ k, validL s.data.toList = k := ⟨_, rfl⟩
  rw [hcc, hm] at hc
  rw [hk] at hv
  rw [hcc, hk] at HC
  clear hcc hm hk
  cases k
  · go_enter Tryz.func108, Tryz.ntmps108
    go_wp2_with (first | (go_at_call 107; refine hc.mono ?_; rintro e w1 ⟨rfl, rfl⟩) | (go_at_call 124; refine hv.mono ?_; rintro e w1 ⟨rfl, rfl⟩))
    go_returns
    exact ⟨ret_int (by rw [HC.out]; rfl), rfl⟩
  · have HC2 : Hid (classL s.data.toList = clsOf c) := by rw [Hid, HC.out]; rfl
    clear HC
    go_enter Tryz.func108, Tryz.ntmps108
    go_wp2_with (first | (go_at_call 107; refine hc.mono ?_; rintro e w1 ⟨rfl, rfl⟩) | (go_at_call 124; refine hv.mono ?_; rintro e w1 ⟨rfl, rfl⟩) | (go_at_call 125; refine (hwi _ _ _ _).mono ?_; rintro e w1 ⟨rfl, rfl⟩))
    all_goals go_returns
    all_goals refine ⟨ret_int ?_, rfl⟩
    all_goals rw [HC2.out]
    all_goals go_light
    all_goals try simp only [withinB_iff, withinB_false, beq_iff_eq, beq_eq_false_iff_ne, ne_eq] at *
    all_goals unfold clsOf
    all_goals simp only [spans, scan]
    all_goals repeat (first | rw [if_pos (by omega)] | rw [if_neg (by omega)])

/- Walks of the reference of layer 1: Split, SameList. -/
open Go.RowKit
set_option linter.unusedVariables false

theorem getS {l : List Bs} {k : Nat} (h : k < l.length) : (l.map S)[k]? = some (S l[k]) := by simp [h]

set_option maxHeartbeats 1000000 in
set_option maxRecDepth 100000 in
theorem rsplit_any (s : ByteArray) (w : World) (hs : s.size ≤ 16384) :
    Calls Tryz.prog 110 #[.string s] w (SplitPost w (splitL s.data.toList) (splitAt s.data.toList) (splitE s.data.toList)) := by
  have hs' : s.data.toList.length ≤ 16384 := by rw [← Lib.size_eq]; exact hs
  have hpc := pieces_any s w (by omega)
  have hfl := Lib.hid (pieces_flat s.data.toList)
  have hpl := pieces_len s.data.toList
  have HS : Hid (splitR s.data.toList = match strayAt (pieces s.data.toList) 0 with | some i => ([], i, 3) | none => (pieces s.data.toList, 0, 0)) := by unfold Hid splitR; rw [if_neg (by omega)]; rfl
  have HD : Hid (splitL s.data.toList = (splitR s.data.toList).1 ∧ splitAt s.data.toList = (splitR s.data.toList).2.1 ∧ splitE s.data.toList = (splitR s.data.toList).2.2) := ⟨rfl, rfl, rfl⟩
  generalize hgl : pieces s.data.toList = l at hpc hfl HS hpl
  have hfl2 : l.flatten.length ≤ 16384 := by rw [hfl.out]; exact hs'
  have HG := Lib.hid hgl
  clear hgl
  go_enter Tryz.func110, Tryz.ntmps110
  go_wp2_with (first | (go_at_call 85; refine hpc.mono ?_; rintro e w1 ⟨A, cap, rfl, hcap, hrow, hb1⟩))
  go_loopw [6, 7] (fun f i wr => ∃ (k : Nat), i = .int .i64 k ∧ k ≤ l.length ∧ w1 = wr ∧ Hid ((∀ p ∈ l.take k, validL p = true)) ∧ f = .int .i64 (offK l k)) (fun _ i _ => l.length - (intOf i).toNat)
  case atStart => exact ⟨0, rfl, by omega, rfl, by simp [Hid], rfl⟩
  case round =>
    obtain ⟨k, rfl, hk, rfl, H, rfl⟩ := hrel
    by_cases hlt : k < l.length
    · obtain ⟨b, o, rfl, hbl, hcell⟩ := hrow (by intro e; rw [List.map_eq_nil_iff] at e; rw [e] at hlt; simp at hlt)
      have hc : w1.cell? ⟨b, o + k, none⟩ = some (.string ⟨l[k].toArray⟩) := hcell k _ (getS hlt)
      have Hcell := Lib.hid hcell
      clear hcell
      have hfk := offK_le l (k + 1)
      have hfk1 := offK_succ l k hlt
      have hlk : (⟨l[k].toArray⟩ : ByteArray).size = l[k].length := by rw [Lib.size_eq]
      have hv := rvalid_any ⟨l[k].toArray⟩ w1 (by rw [hlk]; omega)
      have hlk2 : l[k].length ≤ 16384 := by omega
      have hfk2 : offK l k + l[k].length ≤ 16384 := by omega
      have HF := Lib.hid hfk1
      have HK := Lib.hid hlk
      clear hfk1 hfk hlk
      have hnew : validL l[k] = true → Hid (∀ p ∈ l.take (k + 1), validL p = true) := fun hh p hp => by
        rw [List.take_succ_eq_append_getElem hlt] at hp
        rcases List.mem_append.1 hp with hp | hp
        · exact H.out p hp
        · rw [List.mem_singleton.1 hp]; exact hh
      have hstr : validL l[k] = false → strayAt l 0 = some (offK l k) := fun hh => stray_some l k hlt H.out hh
      obtain ⟨vv, hvv⟩ : ∃ vv, validL l[k] = vv := ⟨_, rfl⟩
      have hv' : Calls Tryz.prog 124 #[.string ⟨l[k].toArray⟩] w1 fun e w' => e = .returned (.bool vv) ∧ w1 = w' := by rw [← hvv]; exact hv
      cases vv
      · have HX := Lib.hid (hstr hvv)
        clear hv hnew hstr hvv
        go_wp2_with (first | (go_at_call 124; refine hv'.mono ?_; rintro e w2 ⟨rfl, rfl⟩))
        go_returns
        have e := HS.out
        rw [HX.out] at e
        obtain ⟨d1, d2, d3⟩ := HD.out
        exact ⟨none, 0, by rw [d1, d2, d3, e]; rfl, by rw [d1, e]; exact Nat.le_refl _, by rw [d1, e]; exact RowAt.nil _ _, hb1⟩
      · have HX := Lib.hid (hnew hvv)
        clear hv hnew hstr hvv
        go_wp2_with (first | (go_at_call 124; refine hv'.mono ?_; rintro e w2 ⟨rfl, rfl⟩))
        go_round
        case rel => exact ⟨k + 1, by go_num, by omega, trivial, HX.out, by rw [HF.out]; go_num⟩
        case measure => simp [intOf]; omega
    · obtain rfl : k = l.length := by omega
      go_wp2_with fail
      go_returns
      have e := HS.out
      have hal : ∀ p ∈ l, validL p = true := by simpa using H.out
      rw [stray_none l 0 hal] at e
      obtain ⟨d1, d2, d3⟩ := HD.out
      exact ⟨A, cap, by rw [d1, d2, d3, e]; rfl, by rw [d1, e]; exact hcap, by rw [d1, e]; exact hrow, hb1⟩

set_option maxHeartbeats 1000000 in
set_option maxRecDepth 100000 in
theorem same_any (A B : Option Addr) (c d : Nat) (l m : List Bs) (w : World) (hA : RowAt w A (l.map S)) (hB : RowAt w B (m.map S)) (hl : l.length ≤ 1000000000) (hm : m.length ≤ 1000000000) :
    Calls Tryz.prog 96 #[.slice A l.length c, .slice B m.length d] w fun e w' => e = .returned (.bool (decide (l = m))) ∧ Below w.heap.size w w' := by
  by_cases hne : l.length = m.length
  · have hd : (((l.length : Nat) : Int) != ((m.length : Nat) : Int)) = false := by simp; omega
    have hm' : m.length ≤ l.length := by omega
    have hm2 : l.length ≤ m.length := by omega
    have Hne := Lib.hid hne
    clear hne
    go_enter Tryz.func96, Tryz.ntmps96
    go_wp2_with fail
    go_loopw [5] (fun i wr => ∃ (k : Nat), i = .int .i64 k ∧ k ≤ l.length ∧ Below w.heap.size w wr ∧ Hid (l.take k = m.take k)) (fun i _ => l.length - (intOf i).toNat)
    case atStart => exact ⟨0, rfl, by omega, Below.refl _ _, by simp [Hid]⟩
    case round =>
      obtain ⟨k, rfl, hk, hb, H⟩ := hrel
      by_cases hlt : k < l.length
      · have hA' := hA.below hb
        have hB' := hB.below hb
        obtain ⟨b, o, rfl, hbl, hcell⟩ := hA' (by intro e; rw [List.map_eq_nil_iff] at e; rw [e] at hlt; simp at hlt)
        have hltm : k < m.length := by omega
        obtain ⟨b', o', rfl, hbl', hcell'⟩ := hB' (by intro e; rw [List.map_eq_nil_iff] at e; rw [e] at hltm; simp at hltm)
        have hc : wr.cell? ⟨b, o + k, none⟩ = some (.string ⟨l[k].toArray⟩) := hcell k _ (getS hlt)
        have hc' : wr.cell? ⟨b', o' + k, none⟩ = some (.string ⟨m[k].toArray⟩) := hcell' k _ (getS hltm)
        clear hcell hcell' hA' hB' hA hB
        have H1 : Hid (l.take (k + 1) = l.take k ++ [l[k]]) := List.take_succ_eq_append_getElem hlt
        have H2 : Hid (m.take (k + 1) = m.take k ++ [m[k]]) := List.take_succ_eq_append_getElem hltm
        go_wp2_with fail
        go_quiet (fail)
        go_wp2_with fail
        · go_returns
          have hx : ¬ l[k] = m[k] := by simpa using ‹(!l[k] == m[k]) = true›
          have e : decide (l = m) = false := by
            rw [decide_eq_false_iff_not]; intro e
            apply hx
            have : l[k]? = m[k]? := by rw [e]
            simpa [hlt, hltm] using this
          exact ⟨by rw [e]; rfl, below_drewN hb _⟩
        · have hx : l[k] = m[k] := by simpa using ‹(!l[k] == m[k]) = false›
          go_roundw
          case rel => exact ⟨k + 1, by go_num, by omega, below_drewN hb _, by unfold Hid; rw [H1.out, H2.out, H.out, hx]⟩
          case measure => simp [intOf]; omega
      · obtain rfl : k = l.length := by omega
        have e : decide (l = m) = true := by
          have h1 := H.out
          rw [List.take_length, Hne.out, List.take_length] at h1
          simp [h1]
        have HE := Lib.hid e
        clear e
        go_wp2_with fail
        go_returns
        exact ⟨by rw [HE.out]; rfl, hb⟩
  · have hd : (((l.length : Nat) : Int) != ((m.length : Nat) : Int)) = true := by simp; omega
    have HF : Hid (decide (l = m) = false) := by
      unfold Hid; rw [decide_eq_false_iff_not]; intro e; exact hne (by rw [e])
    go_enter Tryz.func96, Tryz.ntmps96
    go_wp2_with fail
    go_returns
    exact ⟨ret_bool (by rw [HF.out]), Below.refl _ _⟩

/- Walks of the reference of layer 1: latin, Control, Unit, Lower, Upper, Quote. -/
open Go.RowKit
set_option linter.unusedVariables false

theorem byteInfo : (Tryz.prog.info? 5).map (fun i => (i.zero, i.size, i.bytes)) = some (some (.int .u8 0), 1, 1) := by kernel_rfl

/-- string([]byte{..}) of bytes that have just been laid -/
theorem conv_lit (l : Bs) (w : World) : (convert 67 9 (.slice (some ⟨w.heap.size, 0, none⟩) l.length l.length)).run Tryz.prog (w.alloc (.cells (Lib.byteCells l).toArray 5)) = .ok (.string ⟨l.toArray⟩) (w.alloc (.cells (Lib.byteCells l).toArray 5)) :=
  run_convert_bytes_back _ 67 9 5 ⟨w.heap.size, 0, none⟩ l.length l Tryz.underlying67 Tryz.underlying5 Tryz.underlying9 (Lib.bytes_of_row (heap_alloc_new w _) (List.take_of_length_le (by simp [Lib.byteCells])))

set_option maxHeartbeats 400000 in
theorem rcontrol_any (s : ByteArray) (w : World) (hs : s.size ≤ 1000000000000) :
    Calls Tryz.prog 109 #[.string s] w fun e w' => e = .returned (.bool (okL s.data.toList && ctlB (point s.data.toList 0).1)) ∧ w = w' := by
  have hc := point_any s 0 w (by omega) (by omega)
  have HV : Hid (okL s.data.toList = decide (0 < (point s.data.toList 0).2)) := rfl
  obtain ⟨c, hcc⟩ : ∃ c, (point s.data.toList 0).1 = c := ⟨_, rfl⟩
  obtain ⟨m, hm⟩ : ∃ m, (point s.data.toList 0).2 = m := ⟨_, rfl⟩
  rw [hcc, hm] at hc
  rw [hm] at HV
  rw [hcc]
  clear hcc hm
  go_enter Tryz.func109, Tryz.ntmps109
  go_wp2_with (first | (go_at_call 107; refine hc.mono ?_; rintro e w1 ⟨rfl, rfl⟩))
  all_goals go_returns
  all_goals refine ⟨ret_bool ?_, rfl⟩
  all_goals rw [HV.out]
  all_goals go_light
  all_goals unfold ctlB
  all_goals rw [Bool.eq_iff_iff]
  all_goals simp [*]
  all_goals omega

set_option maxHeartbeats 1000000 in
set_option maxRecDepth 100000 in
theorem runit_any (s : ByteArray) (w : World) (hs : s.size ≤ 1000000000000) (h0 : 0 < s.size) :
    Calls Tryz.prog 86 #[.string s] w fun e w' => e = .returned (.string ⟨(unitP s.data.toList).toArray⟩) ∧ Below w.heap.size w w' := by
  have hcl := rclass_any s w (by omega)
  have hct := rcontrol_any s w (by omega)
  have hd := byte0 s h0
  have hu := unitP_eq s.data.toList
  rw [← hd] at hu
  obtain ⟨v, hv⟩ : ∃ v, classL s.data.toList = v := ⟨_, rfl⟩
  obtain ⟨k, hk⟩ : ∃ k, (okL s.data.toList && ctlB (point s.data.toList 0).1) = k := ⟨_, rfl⟩
  rw [hv] at hcl
  rw [hk] at hct
  rw [hv, hk] at hu
  have HU := Lib.hid hu
  clear hv hk hu hd
  by_cases h1 : v = 0 ∨ k = true
  · have HU2 : Hid (unitP s.data.toList = hexL s[0]) := by rw [Hid, HU.out, if_pos h1]
    have hx0 := s[0].toNat_lt
    have hxe : hexL s[0] = ([37, 120] : Bs) ++ [hexd (s[0].toNat / 16)] ++ [hexd (s[0].toNat % 16)] := rfl
    have hx1 := hexd_eq (s[0].toNat / 16) (by omega)
    have hx2 := hexd_eq (s[0].toNat % 16) (by omega)
    rw [← hx1, ← hx2] at hxe
    have HX := Lib.hid hxe
    clear hxe hx1 hx2 HU
    rcases h1 with rfl | rfl
    all_goals
      go_enter Tryz.func86, Tryz.ntmps86
      go_wp2_with (first | (go_at_call 108; refine hcl.mono ?_; rintro e w1 ⟨rfl, rfl⟩) | (go_at_call 109; refine hct.mono ?_; rintro e w1 ⟨rfl, rfl⟩))
      all_goals
        go_quiet (fail)
        go_wp2
        go_returns
        refine ⟨?_, by exact below_drewN (Below.refl _ _) _⟩
        rw [HU2.out, HX.out]
        exact ret_str (by rw [Joins.data_append, Joins.data_append])
  · obtain ⟨hv0, rfl⟩ : v ≠ 0 ∧ k = false := by simpa using h1
    have e0 : (v == 0) = false := by simp [hv0]
    by_cases h4 : v = 4 ∨ v = 5
    · have HU2 : Hid (unitP s.data.toList = 37 :: s.data.toList) := by rw [Hid, HU.out, if_neg h1, if_pos h4]
      clear HU h1
      rcases h4 with rfl | rfl
      all_goals
        go_enter Tryz.func86, Tryz.ntmps86
        go_wp2_with (first | (go_at_call 108; refine hcl.mono ?_; rintro e w1 ⟨rfl, rfl⟩) | (go_at_call 109; refine hct.mono ?_; rintro e w1 ⟨rfl, rfl⟩))
        go_returns
        exact ⟨by rw [HU2.out]; exact ret_str (by rw [Joins.data_append]; rfl), Below.refl _ _⟩
    · have HU2 : Hid (unitP s.data.toList = s.data.toList) := by rw [Hid, HU.out, if_neg h1, if_neg h4]
      have n4 : (v == 4) = false := by simp; omega
      have n5 : (v == 5) = false := by simp; omega
      clear HU h1 h4 hv0
      go_enter Tryz.func86, Tryz.ntmps86
      go_wp2_with (first | (go_at_call 108; refine hcl.mono ?_; rintro e w1 ⟨rfl, rfl⟩) | (go_at_call 109; refine hct.mono ?_; rintro e w1 ⟨rfl, rfl⟩))
      go_returns
      exact ⟨by rw [HU2.out]; rfl, Below.refl _ _⟩

/- Walks of layer 1: unit, Unquote. -/
open Go.RowKit
set_option linter.unusedVariables false

set_option maxHeartbeats 2000000 in
set_option maxRecDepth 100000 in
theorem unit_any (s : ByteArray) (w : World) (hT : Tabs w) (h0 : 0 < s.size) (hs : s.size ≤ 1000000000000) :
    Calls Tryz.prog 103 #[.string s] w fun e w' => e = .returned (.tuple #[.string ⟨(unitT s.data.toList).1.toArray⟩, .int .i64 (unitT s.data.toList).2]) ∧ Below w.heap.size w w' := by
  have hA : Below w.heap.size w w := Below.refl _ _
  have hd := byte0 s h0
  by_cases h37 : s[0] = 37
  · have e37 : (((s[0].toNat : Nat) : Int) != 37) = false := by rw [h37]; rfl
    have h37l : s.data.toList.headD 0 = 37 := by rw [← hd]; exact h37
    clear hd h37
    by_cases hsz : s.size < 2
    · have HU := Lib.hid (unitT_short s hsz h37l)
      have hz : s.size = 1 := by omega
      have hz1 : (s.size : Int) < 4 := by omega
      have hz2 : (s.size : Int) < 2 := by omega
      clear hz hsz
      go_enter Tryz.func103, Tryz.ntmps103
      go_wp2_with fail
      go_returns
      exact ⟨by rw [HU.out]; rfl, hA⟩
    · have hs1 : 1 < s.size := by omega
      have hre : ¬ (s.extract 1 s.size).size = 0 := by rw [Lib.size_eq, ext_data]; simp; omega
      have hpc := fun W h => piece_any (s.extract 1 s.size) W h
      have hn1 := dec_bd (s.extract 1 s.size) hre
      have hsE : (s.extract 1 s.size).size = s.size - 1 := by rw [Lib.size_eq, ext_data]; simp
      have hut := unitT_tail s hs1 h37l
      have hux := unitT_hex s h37l
      obtain ⟨r, hr⟩ : ∃ r, (Lib.decodeGo (s.extract 1 s.size)).1 = r := ⟨_, rfl⟩
      obtain ⟨n, hn⟩ : ∃ n, (Lib.decodeGo (s.extract 1 s.size)).2 = n := ⟨_, rfl⟩
      rw [hr, hn] at hpc
      rw [hn] at hn1 hut
      clear hr hn
      have hn2 : 1 ≤ n ∧ 1 + n ≤ s.size := by omega
      clear hn1 hsE hre hsz
      obtain ⟨hn2, hn3⟩ := hn2
      by_cases h4 : 4 ≤ s.size
      · have hx0 : ∃ x y, s.extract 2 4 = ⟨#[x, y]⟩ ∧ s.data.toList.getD 2 0 = x ∧ s.data.toList.getD 3 0 = y := ext_two s h4
        obtain ⟨x, y, hxy, hgx, hgy⟩ := hx0
        rw [hgx, hgy] at hut hux
        by_cases h120 : s[1] = 120
        · have e120 : (((s[1].toNat : Nat) : Int) == 120) = true := by rw [h120]; rfl
          have h120l : s.data.toList.getD 1 0 = 120 := by rw [← byte1 s hs1]; exact h120
          clear h120 hgx hgy
          obtain ⟨o, ho⟩ : ∃ o, hex2 x y = o := ⟨_, rfl⟩
          cases o with
          | none =>
            have HU := Lib.hid (hut (fun hh => by rw [ho] at hh; simp at hh))
            have hpb := fun W h => parse_bad x y W h ho
            clear hut hux ho h120l
            go_enter Tryz.func103, Tryz.ntmps103
            go_wp2_with (first | (go_at_call 119; refine (hpb _ hT).mono ?_; rintro e w1 ⟨N, rfl, hb1⟩; have hB1 := bstep hA hb1) | (go_at_call 104; refine (hpc _ (hT.below hB1)).mono ?_; rintro e w2 ⟨rfl, hb2⟩; have HB := bstep hB1 hb2))
            go_returns
            exact ⟨by rw [HU.out.1, HU.out.2]; rfl, HB⟩
          | some m =>
            have HU := Lib.hid (hux m h4 h120l ho)
            have hm := hex2_lt ho
            have hpo := fun W => parse_ok x y m W ho
            have hcv := fun W => conv_lit [UInt8.ofNat m] W
            have e1 : Lib.byteCells [UInt8.ofNat m] = [.int .u8 m] := by simp [Lib.byteCells]; omega
            simp only [e1] at hcv
            have hcv' : ∀ W : World, (convert 67 9 (.slice (some ⟨W.heap.size, 0, none⟩) 1 1)).run Tryz.prog (W.alloc (.cells #[.int .u8 m] 5)) = .ok (.string ⟨[UInt8.ofNat m].toArray⟩) (W.alloc (.cells #[.int .u8 m] 5)) := hcv
            have hmi : (m : Int) ≤ 255 := by omega
            have hmi0 : (0 : Int) ≤ (m : Int) := by omega
            generalize UInt8.ofNat m = mb at HU hcv'
            clear hut hux ho h120l hcv e1 hm hpc
            obtain ⟨M, hM⟩ : ∃ M : Int, (m : Int) = M := ⟨_, rfl⟩
            rw [hM] at hmi hmi0
            simp only [hM] at hpo hcv'
            clear hM
            go_enter Tryz.func103, Tryz.ntmps103
            go_wp2_with (first | (go_at_call 119; refine (hpo _).mono ?_; rintro e w1 ⟨rfl, hb1⟩; have hB1 := bstep hA hb1))
            go_returns
            exact ⟨by rw [HU.out]; rfl, by have := hB1.size; go_grown⟩
        · skip
          have HU := Lib.hid (hut (fun hh => h120 (by rw [byte1 s hs1]; exact hh.2.1)))
          have e120 : (((s[1].toNat : Nat) : Int) == 120) = false := eq120 _ h120
          clear hut hux
          go_enter Tryz.func103, Tryz.ntmps103
          go_wp2_with (first | (go_at_call 104; refine (hpc _ hT).mono ?_; rintro e w2 ⟨rfl, hb2⟩))
          go_returns
          exact ⟨by rw [HU.out.1, HU.out.2]; rfl, hb2⟩
      · skip
        have HU := Lib.hid (hut (fun hh => h4 (by rw [Lib.size_eq]; exact hh.1)))
        have h4' : (s.size : Int) < 4 := by omega
        clear hut hux
        go_enter Tryz.func103, Tryz.ntmps103
        go_wp2_with (first | (go_at_call 104; refine (hpc _ hT).mono ?_; rintro e w2 ⟨rfl, hb2⟩))
        go_returns
        exact ⟨by rw [HU.out.1, HU.out.2]; rfl, hb2⟩
  · have hpc := piece_any s w hT
    have hz := dec_bd s (by omega)
    have HU : Hid ((unitT s.data.toList).1 = (s.extract 0 (Lib.decodeGo s).2).data.toList ∧ (unitT s.data.toList).2 = (Lib.decodeGo s).2) := unitT_plain s h0 (by rw [← hd]; exact h37)
    obtain ⟨r, hr⟩ : ∃ r, (Lib.decodeGo s).1 = r := ⟨_, rfl⟩
    obtain ⟨n, hn⟩ : ∃ n, (Lib.decodeGo s).2 = n := ⟨_, rfl⟩
    rw [hr, hn] at hpc
    rw [hn] at HU hz
    obtain ⟨hz1, hz2⟩ := hz
    have e37 : (((s[0].toNat : Nat) : Int) != 37) = true := ne37 _ h37
    clear hr hn h37 hd
    go_enter Tryz.func103, Tryz.ntmps103
    go_wp2_with (go_at_call 104; refine hpc.mono ?_; rintro e w1 ⟨rfl, hb⟩)
    go_returns
    exact ⟨by rw [HU.out.1, HU.out.2]; rfl, hb⟩

/- Walks of layer 1: what is written into a strings.Builder, piece by piece. -/
open Go.RowKit

/-- (*Builder).WriteString out of the laying of strings.Join (whose closure bears it) -/
theorem WriteString_any (B b : Nat) (l : Bs) (s : ByteArray) (w : World) (h : Bld B b l w) (hlen : l.length + s.size ≤ 140737488355328) (hBw : B ≤ w.heap.size) :
    Calls Tryz.prog 42 #[.pointer (some ⟨b, 0, none⟩), .string s] w fun e w' => e = .returned (.tuple #[.int .i64 s.size, .nilIface]) ∧ Bld B b (l ++ s.data.toList) w' ∧ Below B w w' := by
  refine (Any.Builder_WriteString_k { Tryz.lays156 with } Tryz.Builder_Extra_156 B b (Lib.byteCells l) s w h (by rw [Lib.byteCells_length]; exact hlen) hBw).mono ?_
  rintro e w' ⟨rfl, h1, h2, _⟩
  exact ⟨rfl, by unfold Bld; rw [Lib.byteCells_append, ← Lib.strCells_eq]; exact Or.inr h1, h2⟩
theorem String_any (B b : Nat) (l : Bs) (w : World) (h : Bld B b l w) (hBw : B ≤ w.heap.size) :
    Calls Tryz.prog 46 #[.pointer (some ⟨b, 0, none⟩)] w fun e w' => e = .returned (.string ⟨l.toArray⟩) ∧ Below B w w' :=
  (Tryz.Builder_String_any_f B b l w h hBw).mono fun _ _ h => ⟨h.1, h.2.2⟩

set_option maxHeartbeats 1000000 in
theorem quote1_any (t : ByteArray) (r : Int) (ok : Bool) (B b : Nat) (l : Bs) (w : World) (ht : 0 < t.size) (hT : Tabs w) (_hB : 9 ≤ B) (hBw : B ≤ w.heap.size)
    (h : Bld B b l w) (hlen : l.length + t.size + 4 ≤ 140737488355328) :
    Calls Tryz.prog 80 #[.string t, .int .i32 r, .bool ok, .pointer (some ⟨b, 0, none⟩)] w fun e w' => e = .returned (.tuple #[]) ∧ Bld B b (l ++ unitQ t.data.toList r ok) w' ∧ Below B w w' := by
  obtain ⟨c, hc⟩ : ∃ c, ctlB r = c := ⟨_, rfl⟩
  obtain ⟨v, hv⟩ : ∃ v, clsOf r = v := ⟨_, rfl⟩
  have hctl := fun w => control_any r w
  have hof := fun w h => of_any r w h
  rw [hc] at hctl
  rw [hv] at hof
  have hd := byte0 t ht
  by_cases h1 : ok = false ∨ c = true
  · have HQ : Hid (unitQ t.data.toList r ok = hexL t[0]) := by unfold Hid unitQ; rw [hc, if_pos h1, hd]
    clear hd hc hv hof
    have hx := hexadecimal_any t[0]
    have hl4 : (hexL t[0]).length = 4 := rfl
    generalize hexL t[0] = X at HQ hx hl4
    rcases h1 with rfl | rfl
    all_goals
      go_enter Tryz.func80, Tryz.ntmps80
      go_wp2_with (first | (go_at_call 81; refine (hctl _).mono ?_; rintro e w1 ⟨rfl, rfl⟩) | (go_at_call 82; refine (hx _).mono ?_; rintro e w1 ⟨rfl, hb1⟩) | (go_at_call 42; refine (WriteString_any B b l _ _ (h.below hb1) (by show l.length + X.length ≤ _; omega) (Nat.le_trans hBw hb1.size)).mono ?_; rintro e w2 ⟨rfl, h2, hb2⟩) | fail)
      all_goals go_returns
      all_goals exact ⟨rfl, by rw [HQ.out]; exact h2, (hb1.mono hBw).trans hb2⟩
  · obtain ⟨rfl, rfl⟩ : ok = true ∧ c = false := by simpa using h1
    have HQ : Hid (unitQ t.data.toList r true = if v = 4 ∨ v = 5 then 37 :: t.data.toList else t.data.toList) := by unfold Hid unitQ; rw [hc, hv]; simp
    clear hd hc hv h1
    have hA : Below w.heap.size w w := Below.refl _ _
    by_cases h4 : v = 4 ∨ v = 5
    · have HQ2 : Hid (unitQ t.data.toList r true = 37 :: t.data.toList) := by rw [Hid, HQ.out, if_pos h4]
      clear HQ
      rcases h4 with rfl | rfl
      all_goals
        go_enter Tryz.func80, Tryz.ntmps80
        go_wp2_with (first | (go_at_call 81; refine (hctl _).mono ?_; rintro e w1 ⟨rfl, rfl⟩) | (go_at_call 83; refine (hof _ (hT.below hA)).mono ?_; rintro e w1 ⟨rfl, hb⟩; replace hA := bstep hA hb; clear hb) | (go_at_call 42; refine (WriteString_any B b l _ _ (h.below hA) (by rw [size_cat]; show l.length + (1 + t.size) ≤ _; omega) (Nat.le_trans hBw hA.size)).mono ?_; rintro e w2 ⟨rfl, h2, hb2⟩))
        go_returns
        exact ⟨rfl, by rw [HQ2.out]; rw [Joins.data_append] at h2; exact h2, (hA.mono hBw).trans hb2⟩
    · have HQ2 : Hid (unitQ t.data.toList r true = t.data.toList) := by rw [Hid, HQ.out, if_neg h4]
      clear HQ
      have n4 : (v == 4) = false := by simp; omega
      have n5 : (v == 5) = false := by simp; omega
      clear h4
      go_enter Tryz.func80, Tryz.ntmps80
      go_wp2_with (first | (go_at_call 81; refine (hctl _).mono ?_; rintro e w1 ⟨rfl, rfl⟩) | (go_at_call 83; refine (hof _ (hT.below hA)).mono ?_; rintro e w1 ⟨rfl, hb⟩; replace hA := bstep hA hb; clear hb) | (go_at_call 42; refine (WriteString_any B b l _ _ (h.below hA) (by omega) (Nat.le_trans hBw hA.size)).mono ?_; rintro e w2 ⟨rfl, h2, hb2⟩))
      go_returns
      exact ⟨rfl, by rw [HQ2.out]; exact h2, (hA.mono hBw).trans hb2⟩

set_option maxHeartbeats 1000000 in
theorem each_quote (s : ByteArray) (B b : Nat) (l : Bs) (w : World) (hT : Tabs w) (hB : 9 ≤ B) (hBw : B ≤ w.heap.size) (h : Bld B b l w) (hlen : l.length + 5 * s.size ≤ 140737488355320) :
    Calls Tryz.prog 79 #[.string s, .func (.func 80) #[] #[.pointer (some ⟨b, 0, none⟩)]] w fun e w' => e = .returned (.tuple #[]) ∧ Bld B b (l ++ quoteP s.data.toList) w' ∧ Below B w w' := by
  go_enter Tryz.func79, Tryz.ntmps79
  go_wp2_with fail
  go_loopw [0] (fun v wr => ∃ (s' : ByteArray) (done : Bs), v = .string s' ∧ Bld B b (l ++ done) wr ∧ Below B w wr ∧ done.length + 5 * s'.size ≤ 5 * s.size ∧ Hid (quoteP s.data.toList = done ++ quoteP s'.data.toList)) (fun v _ => strLen v)
  case atStart => exact ⟨s, [], rfl, by simpa using h, Below.refl _ _, by simp, rfl⟩
  case round =>
    obtain ⟨s', done, rfl, hbl, hb, hl, H⟩ := hrel
    by_cases he : s'.size = 0
    · have hemp := isEmpty_of he
      have h0 : Hid (quoteP s'.data.toList = []) := by unfold Hid quoteP; rw [data_nil he]; rfl
      go_wp2
      go_returns
      exact ⟨rfl, by rw [H.out, h0.out, List.append_nil]; exact hbl, hb⟩
    · have hemp := not_isEmpty_of he
      have hpc := piece_any s' wr (hT.belowB hB hb)
      have hst := Lib.hid (quote_step s' he)
      have hn1 := dec_bd s' he
      have hul := fun t r k => unitQ_len t r k
      obtain ⟨r, hr⟩ : ∃ r, (Lib.decodeGo s').1 = r := ⟨_, rfl⟩
      obtain ⟨n, hn⟩ : ∃ n, (Lib.decodeGo s').2 = n := ⟨_, rfl⟩
      obtain ⟨k, hk⟩ : ∃ k, okL s'.data.toList = k := ⟨_, rfl⟩
      rw [hr, hn, hk] at hpc hst
      rw [hn] at hn1
      clear hr hn hk
      obtain ⟨hna, hnb⟩ := hn1
      have hts : 0 < (s'.extract 0 n).size := by rw [Lib.size_eq, ext_data]; simp; omega
      have hts2 : (s'.extract 0 n).size ≤ n := by rw [Lib.size_eq, ext_data]; simp; omega
      have hrs : (s'.extract n s'.size).size = s'.size - n := by rw [Lib.size_eq, ext_data]; simp
      have hu1 := hul (s'.extract 0 n).data.toList r k
      rw [← Lib.size_eq] at hu1
      clear hul
      have Hrs := Lib.hid hrs
      clear hrs
      go_wp2_with (first | (go_at_call 104; refine hpc.mono ?_; rintro e w1 ⟨rfl, hb1⟩; have hA := hb.trans (hb1.mono (Nat.le_trans hBw hb.size))) | (go_at_call 80; refine (quote1_any (s'.extract 0 n) r k B b (l ++ done) _ hts (hT.belowB hB hA) hB (Nat.le_trans hBw hA.size) (hbl.below hb1) (by rw [List.length_append]; omega)).mono ?_; rintro e w2 ⟨rfl, hbl2, hb2⟩))
      go_roundw
      case rel => exact ⟨s'.extract n s'.size, done ++ unitQ (s'.extract 0 n).data.toList r k, rfl, by rw [← List.append_assoc]; exact hbl2, hA.trans hb2, by rw [List.length_append, Hrs.out]; omega, by unfold Hid; rw [H.out, hst.out, List.append_assoc]⟩
      case measure => simp only [strLen]; rw [Hrs.out]; omega
set_option maxHeartbeats 1000000 in
theorem quote_any (s : ByteArray) (w : World) (hT : Tabs w) (hlen : 5 * s.size ≤ 140737488355320) :
    Calls Tryz.prog 43 #[.string s] w fun e w' => e = .returned (.string ⟨(quoteL s.data.toList).toArray⟩) ∧ Below w.heap.size w w' := by
  by_cases he : s.size = 0
  · have hemp := isEmpty_of he
    have h0 : Hid (quoteL s.data.toList = [37, 48]) := by unfold Hid quoteL; rw [data_nil he]; rfl
    go_enter Tryz.func43, Tryz.ntmps43
    go_wp2
    go_returns
    exact ⟨by rw [h0.out]; rfl, Below.refl _ _⟩
  · have hemp := not_isEmpty_of he
    have h0 : Hid (quoteL s.data.toList = quoteP s.data.toList) := by unfold Hid quoteL; rw [if_neg (data_ne he)]
    have hX := hT.lt
    have h1 : Bld w.heap.size w.heap.size [] (w.alloc (.cells #[.pointer none, .slice none 0 0] 69)) := Bld.new w
    have h2 : Tabs (w.alloc (.cells #[.pointer none, .slice none 0 0] 69)) := hT.below ((Below.refl _ _).alloc (Nat.le_refl _) _)
    go_enter Tryz.func43, Tryz.ntmps43
    go_wp2_with (first | (go_at_call 79; refine (each_quote s w.heap.size w.heap.size [] _ h2 hX (by simp) h1 (by simpa using hlen)).mono ?_; rintro e w1 ⟨rfl, h3, hb1⟩) | (go_at_call 46; refine (String_any _ _ _ _ h3 (Nat.le_trans (by simp) hb1.size)).mono ?_; rintro e w2 ⟨rfl, hb2⟩))
    go_returns
    exact ⟨by rw [h0.out]; rfl, (((Below.refl _ _).alloc (Nat.le_refl _) _).trans hb1).trans hb2⟩

/- Walks of layer 1: Unquote. -/
open Go.RowKit
set_option linter.unusedVariables false

set_option maxHeartbeats 2000000 in
set_option maxRecDepth 100000 in
theorem unquote_any (s : ByteArray) (w : World) (hT : Tabs w) (hs : s.size ≤ 1000000000) :
    Calls Tryz.prog 73 #[.string s] w fun e w' => e = .returned (.tuple #[.string ⟨(unqS (unquoteL s.data.toList)).toArray⟩, .int .i64 (unqE (unquoteL s.data.toList))]) ∧ Below w.heap.size w w' := by
  by_cases h0 : s.data.toList = [37, 48]
  · have HU : Hid (unqS (unquoteL s.data.toList) = [] ∧ unqE (unquoteL s.data.toList) = 0) := by unfold Hid unquoteL; rw [if_pos h0]; exact ⟨rfl, rfl⟩
    have hq : (s.toList == [37, 48]) = true := by rw [Lib.toList_data, h0]; rfl
    clear h0
    go_enter Tryz.func73, Tryz.ntmps73
    go_wp2_with fail
    go_returns
    exact ⟨by rw [HU.out.1, HU.out.2]; rfl, Below.refl _ _⟩
  · have HU : Hid (unquoteL s.data.toList = match readF s.data.toList with | some n => if quoteL n = s.data.toList then some n else none | none => none) := by unfold Hid unquoteL; rw [if_neg h0]; rfl
    have hq : (s.toList == [37, 48]) = false := by rw [Lib.toList_data]; simpa using h0
    clear h0
    go_enter Tryz.func73, Tryz.ntmps73
    go_wp2_with fail
    go_loopw [2, 4] (fun v u wr => ∃ (nm s' : ByteArray), v = .string nm ∧ u = .string s' ∧ Below w.heap.size w wr ∧ nm.size + s'.size ≤ s.size ∧ Hid (readF s.data.toList = (readF s'.data.toList).map (nm.data.toList ++ ·))) (fun _ u _ => strLen u)
    case atStart =>
      exact ⟨⟨#[]⟩, s, rfl, rfl, Below.refl _ _, by show 0 + s.size ≤ s.size; omega, by unfold Hid; cases readF s.data.toList <;> simp⟩
    case round =>
      obtain ⟨nm, s', rfl, rfl, hb, hl, H⟩ := hrel
      by_cases he : s'.size = 0
      · have hemp := isEmpty_of he
        have hz : readF s'.data.toList = some [] := by rw [data_nil he]; rfl
        have HR : Hid (readF s.data.toList = some nm.data.toList) := by unfold Hid; rw [H.out, hz]; simp
        have hqt := quote_any nm wr (hT.below hb) (by omega)
        obtain ⟨Q, hQ⟩ : ∃ Q, quoteL nm.data.toList = Q := ⟨_, rfl⟩
        rw [hQ] at hqt
        have HQ := Lib.hid hQ
        clear hQ hz H
        go_wp2_with (go_at_call 43; refine hqt.mono ?_; rintro e w1 ⟨rfl, hb1⟩; have hbA := bstep hb hb1)
        · go_returns
          have hx : ¬ Q = s.data.toList := by simpa [Lib.toList_data] using ‹(!Q == s.toList) = true›
          have HN : unquoteL s.data.toList = none := by rw [HU.out, HR.out]; simp only []; rw [HQ.out, if_neg hx]
          exact ⟨by rw [HN]; rfl, hbA⟩
        · go_returns
          have hx : Q = s.data.toList := by simpa [Lib.toList_data] using ‹(!Q == s.toList) = false›
          have HN : unquoteL s.data.toList = some nm.data.toList := by rw [HU.out, HR.out]; simp only []; rw [HQ.out, if_pos hx]
          exact ⟨by rw [HN]; rfl, hbA⟩
      · have hemp := not_isEmpty_of he
        have hun := unit_any s' wr (hT.below hb) (by omega) (by omega)
        have hne := data_ne he
        have hst := readF_step s'.data.toList hne
        obtain ⟨hub, huc⟩ := unitT_bd s'.data.toList hne
        rw [← Lib.size_eq] at hub
        obtain ⟨u1, hu1⟩ : ∃ u1, (unitT s'.data.toList).1 = u1 := ⟨_, rfl⟩
        obtain ⟨u2, hu2⟩ : ∃ u2, (unitT s'.data.toList).2 = u2 := ⟨_, rfl⟩
        rw [hu1, hu2] at hun hst huc
        rw [hu2] at hub
        clear hu1 hu2
        have husz : (⟨u1.toArray⟩ : ByteArray).size = u1.length := by rw [Lib.size_eq]
        have husz2 : (⟨u1.toArray⟩ : ByteArray).size ≤ u2 := by omega
        clear husz huc
        have Hst := Lib.hid hst
        clear hst
        by_cases hu0 : u2 = 0
        · subst hu0
          have HN : Hid (unquoteL s.data.toList = none) := by
            have h1 := Hst.out
            rw [if_pos rfl] at h1
            have h2 := H.out
            rw [h1] at h2
            rw [Hid, HU.out, h2]; rfl
          go_wp2_with (go_at_call 103; refine hun.mono ?_; rintro e w1 ⟨rfl, hb1⟩; have hbA := bstep hb hb1)
          go_returns
          exact ⟨by rw [HN.out]; rfl, hbA⟩
        · have hup : 1 ≤ u2 := by omega
          have hrs : (s'.extract u2 s'.size).size = s'.size - u2 := by rw [Lib.size_eq, ext_data]; simp
          have hrd : (s'.extract u2 s'.size).data.toList = s'.data.toList.drop u2 := by
            rw [ext_data, List.take_of_length_le]
            rw [List.length_drop, ← Lib.size_eq]; exact Nat.le_refl _
          have Hrs := Lib.hid hrs
          have Hrd := Lib.hid hrd
          have hcat := size_cat nm ⟨u1.toArray⟩
          have hcat2 : (nm ++ ⟨u1.toArray⟩).size + (s'.extract u2 s'.size).size ≤ s.size := by omega
          have Hcat := Lib.hid hcat2
          have Hu0 := Lib.hid hu0
          clear hrs hrd hcat hcat2 hu0
          go_wp2_with (go_at_call 103; refine hun.mono ?_; rintro e w1 ⟨rfl, hb1⟩; have hbA := bstep hb hb1)
          go_roundw
          case rel => exact ⟨nm ++ ⟨u1.toArray⟩, s'.extract u2 s'.size, rfl, rfl, hbA, Hcat.out, by unfold Hid; rw [H.out, Hst.out, if_neg Hu0.out, Hrd.out, Joins.data_append]; cases readF (s'.data.toList.drop u2) <;> simp⟩
          case measure => simp only [strLen]; rw [Hrs.out]; omega

/- A slice of strings that came in, as a list of lists of bytes. -/
open Go.RowKit Go.ChangeShapes Go.WideShapes
set_option linter.unusedVariables false

/-- what a law is told of a slice of strings -/
def RowIn (w : World) (A : Option Addr) (c : Nat) (l : List Bs) : Prop :=
  l.length ≤ c ∧ c ≤ maxLen ∧ RowAt w A (l.map S) ∧ ∀ p ∈ l, p.length ≤ maxLen

theorem open_row {H : Type} {enc : TypeId × Value → H} {P : Program} {w : World} {base : Nat} {spare : Nat → Bool} {held : Bool} {t e : TypeId} {fuel : Nat} {a : Option Addr} {len cap : Nat} {x : DataW H × List MemPlace}
    (ht : P.underlying t = some (.slice e)) (he : P.underlying e = some .string) (hc : P.cellsOf e = 1)
    (h : DataW.trod enc P w base spare held fuel t (Value.slice a len cap).cells.toList = some x) : ∃ l : List Bs, len = l.length ∧ RowIn w a cap l := by
  rcases open_strings ht he hc h with ⟨hcs, _⟩ | ⟨b, len', cap', ss, hcs, _, hl, hm, hz, _, hcell, hsz⟩
  · simp [Value.cells] at hcs
    obtain ⟨rfl, rfl, rfl⟩ := hcs
    exact ⟨[], rfl, Nat.le_refl _, by unfold maxLen; omega, RowAt.nil _ _, fun p hp => by cases hp⟩
  · simp [Value.cells] at hcs
    obtain ⟨rfl, rfl, rfl⟩ := hcs
    have hle : len ≤ ss.length := by rw [hz]; split <;> omega
    have hll : ((ss.take len).map (·.data.toList)).length = len := by rw [List.length_map, List.length_take]; omega
    refine ⟨(ss.take len).map (·.data.toList), hll.symm, by rw [hll]; exact hl, hm, ?_, ?_⟩
    · intro hne
      have hpos : 0 < len := by
        rcases Nat.eq_zero_or_pos len with h0 | h0
        · subst h0; simp at hne
        · exact h0
      obtain ⟨bk, off, spot⟩ := b
      have hc0 := hcell 0 (by omega)
      have hspot : spot = none := by simpa [Addr.add] using World.cell?_spot hc0
      subst hspot
      have hcell' : ∀ i, i < ss.length → w.cell? ⟨bk, off + i, none⟩ = some (.string (ss.getD i ByteArray.empty)) := fun i hi => by
        have := hcell i hi
        have e : (⟨bk, off, none⟩ : Addr).add i = ⟨bk, off + i, none⟩ := by
          unfold Addr.add
          split <;> simp_all
        rwa [e] at this
      refine ⟨bk, off, rfl, cell_lt (hcell' 0 (by omega)), fun j u hu => ?_⟩
      rw [List.getElem?_map, List.getElem?_map] at hu
      have hj : j < len := by
        rcases Nat.lt_or_ge j len with hh | hh
        · exact hh
        · rw [List.getElem?_eq_none (by rw [List.length_take]; omega)] at hu; cases hu
      have e1 : (ss.take len)[j]? = some (ss.getD j ByteArray.empty) := by
        rw [List.getElem?_take_of_lt hj, List.getD_eq_getElem?_getD, List.getElem?_eq_getElem (show j < ss.length by omega)]; rfl
      rw [e1] at hu
      simp only [Option.map_some, Option.some.injEq] at hu
      rw [hcell' j (by omega), ← hu]; rfl
    · intro p hp
      obtain ⟨s, hs, rfl⟩ := List.mem_map.1 hp
      have := hsz s (List.mem_of_mem_take hs)
      rwa [Lib.size_eq] at this
end Go.Proofs.YtplipnchkkhdaaaGreatDoor
