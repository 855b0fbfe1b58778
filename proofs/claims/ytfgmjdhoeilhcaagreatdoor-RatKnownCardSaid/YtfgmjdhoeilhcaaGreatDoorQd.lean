/- What stands in memory while rat computes with two numbers. -/
import Derived.Test.YtfgmjdhoeilhcaaGreatDoorQc
namespace Go.Proofs.YtfgmjdhoeilhcaaGreatDoor
open Go.RowKit
set_option linter.unusedVariables false

/-- what a cell holds -/
def peek (w : World) (a : Addr) : Value := (w.cell? a).getD undef
/-- two numbers in blocks g, g + 1, a third that may be written in block g + 2 -/
def SX (W : World) (g : Nat) (p q : Bool) (A D B E : ByteArray) (w' : World) : Prop :=
  w'.cell? ⟨g, 0, none⟩ = some (.bool p) ∧ w'.cell? ⟨g, 1, none⟩ = some (.string A) ∧ w'.cell? ⟨g, 2, none⟩ = some (.string D) ∧
  w'.cell? ⟨g + 1, 0, none⟩ = some (.bool q) ∧ w'.cell? ⟨g + 1, 1, none⟩ = some (.string B) ∧ w'.cell? ⟨g + 1, 2, none⟩ = some (.string E) ∧
  w'.cell? ⟨g + 1 + 1, 0, none⟩ = some (peek w' ⟨g + 1 + 1, 0, none⟩) ∧ w'.cell? ⟨g + 1 + 1, 1, none⟩ = some (peek w' ⟨g + 1 + 1, 1, none⟩) ∧ w'.cell? ⟨g + 1 + 1, 2, none⟩ = some (peek w' ⟨g + 1 + 1, 2, none⟩) ∧
  w'.frozen? ⟨g + 1 + 1, 0, none⟩ = false ∧ w'.frozen? ⟨g + 1 + 1, 1, none⟩ = false ∧ w'.frozen? ⟨g + 1 + 1, 2, none⟩ = false ∧ Tabs w' ∧ Below W.heap.size W w'
theorem peek_some {w : World} {a : Addr} {v : Value} (h : w.cell? a = some v) : w.cell? a = some (peek w a) := by unfold peek; rw [h]; rfl
theorem peek_below {w w' : World} {a : Addr} (hb : Below w.heap.size w w') (h : w.cell? a = some (peek w a)) : w'.cell? a = some (peek w' a) := peek_some ((hb.cell (cell_lt h)).trans h)
theorem keepC {W : World} {g : Nat} {p q : Bool} {A D B E : ByteArray} {w0 w1 : World} (hb : Below w0.heap.size w0 w1) (h : SX W g p q A D B E w0) : SX W g p q A D B E w1 := by
  obtain ⟨h1, h2, h3, h4, h5, h6, h7, h8, h9, f0, f1, f2, hT, hB⟩ := h
  have hlt := cell_lt h7
  exact ⟨(hb.cell (cell_lt h1)).trans h1, (hb.cell (cell_lt h2)).trans h2, (hb.cell (cell_lt h3)).trans h3, (hb.cell (cell_lt h4)).trans h4, (hb.cell (cell_lt h5)).trans h5, (hb.cell (cell_lt h6)).trans h6,
    peek_below hb h7, peek_below hb h8, peek_below hb h9, frz (hb.block _ hlt) 0 f0, frz (hb.block _ hlt) 1 f1, frz (hb.block _ hlt) 2 f2, hT.below hb, bstep hB hb⟩
theorem SX.T {W : World} {g : Nat} {p q : Bool} {A D B E : ByteArray} {w0 : World} (h : SX W g p q A D B E w0) : Tabs w0 := h.2.2.2.2.2.2.2.2.2.2.2.2.1
theorem SX.B {W : World} {g : Nat} {p q : Bool} {A D B E : ByteArray} {w0 : World} (h : SX W g p q A D B E w0) : Below W.heap.size W w0 := h.2.2.2.2.2.2.2.2.2.2.2.2.2
theorem SX.cel {W : World} {g : Nat} {p q : Bool} {A D B E : ByteArray} {w0 : World} (h : SX W g p q A D B E w0) : Cel3 w0 (g + 1 + 1) (peek w0 ⟨g + 1 + 1, 0, none⟩) (peek w0 ⟨g + 1 + 1, 1, none⟩) (peek w0 ⟨g + 1 + 1, 2, none⟩) := by
  obtain ⟨h1, h2, h3, h4, h5, h6, h7, h8, h9, f0, f1, f2, hT, hB⟩ := h
  exact ⟨cell_lt h7, h7, h8, h9, f0, f1, f2⟩
theorem keepS {W : World} {p q : Bool} {A D B E : ByteArray} {w0 : World} (hTW : Tabs W) (h : SX W W.heap.size p q A D B E w0) (v0 v1 v2 : Value) :
    SX W W.heap.size p q A D B E (((w0.setCell ⟨W.heap.size + 1 + 1, 0, none⟩ v0).setCell ⟨W.heap.size + 1 + 1, 1, none⟩ v1).setCell ⟨W.heap.size + 1 + 1, 2, none⟩ v2) := by
  have hc := h.cel.set (y' := v1) v0 v2
  have hB : Below W.heap.size W (((w0.setCell ⟨W.heap.size + 1 + 1, 0, none⟩ v0).setCell ⟨W.heap.size + 1 + 1, 1, none⟩ v1).setCell ⟨W.heap.size + 1 + 1, 2, none⟩ v2) :=
    ((h.B.setCell (p := ⟨W.heap.size + 1 + 1, 0, none⟩) (by show _ ≤ W.heap.size + 1 + 1; omega) _).setCell (p := ⟨W.heap.size + 1 + 1, 1, none⟩) (by show _ ≤ W.heap.size + 1 + 1; omega) _).setCell (p := ⟨W.heap.size + 1 + 1, 2, none⟩) (by show _ ≤ W.heap.size + 1 + 1; omega) _
  have hb2 : Below (W.heap.size + 1 + 1) w0 (((w0.setCell ⟨W.heap.size + 1 + 1, 0, none⟩ v0).setCell ⟨W.heap.size + 1 + 1, 1, none⟩ v1).setCell ⟨W.heap.size + 1 + 1, 2, none⟩ v2) :=
    (((Below.refl _ w0).setCell (p := ⟨W.heap.size + 1 + 1, 0, none⟩) (Nat.le_refl _) _).setCell (p := ⟨W.heap.size + 1 + 1, 1, none⟩) (Nat.le_refl _) _).setCell (p := ⟨W.heap.size + 1 + 1, 2, none⟩) (Nat.le_refl _) _
  have hl0 := hc.lt
  obtain ⟨h1, h2, h3, h4, h5, h6, h7, h8, h9, f0, f1, f2, hT, hB0⟩ := h
  have k : ∀ {a : Addr} {v : Value}, w0.cell? a = some v → a.block < W.heap.size + 1 + 1 → (((w0.setCell ⟨W.heap.size + 1 + 1, 0, none⟩ v0).setCell ⟨W.heap.size + 1 + 1, 1, none⟩ v1).setCell ⟨W.heap.size + 1 + 1, 2, none⟩ v2).cell? a = some v := fun {a v} ha hlt => (hb2.cell (p := a) hlt).trans ha
  exact ⟨k h1 (by show W.heap.size < _; omega), k h2 (by show W.heap.size < _; omega), k h3 (by show W.heap.size < _; omega), k h4 (by show W.heap.size + 1 < _; omega), k h5 (by show W.heap.size + 1 < _; omega), k h6 (by show W.heap.size + 1 < _; omega),
    peek_some hc.c0, peek_some hc.c1, peek_some hc.c2, hc.f0, hc.f1, hc.f2, hTW.below hB, hB⟩
theorem SX.start (w : World) (hT : Tabs w) (p q : Bool) (A D B E : ByteArray) :
    SX w w.heap.size p q A D B E (((w.alloc (.cells #[.bool p, .string A, .string D] 43)).alloc (.cells #[.bool q, .string B, .string E] 43)).alloc (.cells #[.bool false, .string ⟨#[]⟩, .string ⟨#[]⟩] 43)) := by
  have c1 := Cel3.new w (.bool p) (.string A) (.string D) 43
  have c2 := Cel3.new (w.alloc (.cells #[.bool p, .string A, .string D] 43)) (.bool q) (.string B) (.string E) 43
  have c3 := Cel3.new ((w.alloc (.cells #[.bool p, .string A, .string D] 43)).alloc (.cells #[.bool q, .string B, .string E] 43)) (.bool false) (.string ⟨#[]⟩) (.string ⟨#[]⟩) 43
  have d1 := (c1.below ((Below.refl _ _).alloc (Nat.le_refl _) (.cells #[.bool q, .string B, .string E] 43))).below ((Below.refl _ _).alloc (Nat.le_refl _) (.cells #[.bool false, .string ⟨#[]⟩, .string ⟨#[]⟩] 43))
  have d2 := c2.below ((Below.refl _ _).alloc (Nat.le_refl _) (.cells #[.bool false, .string ⟨#[]⟩, .string ⟨#[]⟩] 43))
  have hB : Below w.heap.size w (((w.alloc (.cells #[.bool p, .string A, .string D] 43)).alloc (.cells #[.bool q, .string B, .string E] 43)).alloc (.cells #[.bool false, .string ⟨#[]⟩, .string ⟨#[]⟩] 43)) :=
    (((Below.refl _ w).alloc (Nat.le_refl _) _).alloc (by simp) _).alloc (by simp; omega) _
  have e1 : (w.alloc (.cells #[.bool p, .string A, .string D] 43)).heap.size = w.heap.size + 1 := by simp
  have e2 : ((w.alloc (.cells #[.bool p, .string A, .string D] 43)).alloc (.cells #[.bool q, .string B, .string E] 43)).heap.size = w.heap.size + 1 + 1 := by simp
  rw [e1] at d2
  rw [e2] at c3
  exact ⟨d1.c0, d1.c1, d1.c2, d2.c0, d2.c1, d2.c2, peek_some c3.c0, peek_some c3.c1, peek_some c3.c2, c3.f0, c3.f1, c3.f2, hT.below hB, hB⟩
end Go.Proofs.YtfgmjdhoeilhcaaGreatDoor
