/- A slice of strings that came in, as a list of lists of bytes. -/
import Derived.Test.YtbpfbceagdikoaaDoorW4
import Derived.SliceStrings
import Derived.OpenShut
import Derived.Carry
namespace Go.Proofs.YtbpfbceagdikoaaDoor
open Go.RowKit Go.ChangeShapes Go.WideShapes
set_option linter.unusedVariables false

/-- what a law is told of a slice of strings -/
def RowIn (w : World) (A : Option Addr) (c : Nat) (l : List Bs) : Prop :=
  l.length ≤ c ∧ c ≤ maxLen ∧ RowAt w A (l.map S) ∧ ∀ p ∈ l, p.length ≤ maxLen

theorem open_row {H : Type} {enc : TypeId × Value → H} {P : Program} {w : World} {base : Nat} {spare : Nat → Bool} {held : Bool} {t e : TypeId} {fuel : Nat} {a : Option Addr} {len cap : Nat} {x : DataW H × List MemPlace}
    (ht : P.underlying t = some (.slice e)) (he : P.underlying e = some .string) (hc : P.cellsOf e = 1)
    (h : DataW.trod enc P w base spare held fuel t (Value.slice a len cap).cells.toList = some x) : ∃ l : List Bs, len = l.length ∧ RowIn w a cap l := by
  rcases open_strings ht he hc h with ⟨hcs, _⟩ | ⟨b, len', cap', ss, hcs, _, hl, hm, hz, _, hcell, hsz⟩
  · simp [Value.cells] at hcs
    obtain ⟨rfl, rfl, rfl⟩ := hcs
    exact ⟨[], rfl, Nat.le_refl _, by unfold maxLen; omega, RowAt.nil _ _, fun p hp => by cases hp⟩
  · simp [Value.cells] at hcs
    obtain ⟨rfl, rfl, rfl⟩ := hcs
    have hle : len ≤ ss.length := by rw [hz]; split <;> omega
    have hll : ((ss.take len).map (·.data.toList)).length = len := by rw [List.length_map, List.length_take]; omega
    refine ⟨(ss.take len).map (·.data.toList), hll.symm, by rw [hll]; exact hl, hm, ?_, ?_⟩
    · intro hne
      have hpos : 0 < len := by
        rcases Nat.eq_zero_or_pos len with h0 | h0
        · subst h0; simp at hne
        · exact h0
      obtain ⟨bk, off, spot⟩ := b
      have hc0 := hcell 0 (by omega)
      have hspot : spot = none := by simpa [Addr.add] using World.cell?_spot hc0
      subst hspot
      have hcell' : ∀ i, i < ss.length → w.cell? ⟨bk, off + i, none⟩ = some (.string (ss.getD i ByteArray.empty)) := fun i hi => by
        have := hcell i hi
        have e : (⟨bk, off, none⟩ : Addr).add i = ⟨bk, off + i, none⟩ := by
          unfold Addr.add
          split <;> simp_all
        rwa [e] at this
      refine ⟨bk, off, rfl, cell_lt (hcell' 0 (by omega)), fun j u hu => ?_⟩
      rw [List.getElem?_map, List.getElem?_map] at hu
      have hj : j < len := by
        rcases Nat.lt_or_ge j len with hh | hh
        · exact hh
        · rw [List.getElem?_eq_none (by rw [List.length_take]; omega)] at hu; cases hu
      have e1 : (ss.take len)[j]? = some (ss.getD j ByteArray.empty) := by
        rw [List.getElem?_take_of_lt hj, List.getD_eq_getElem?_getD, List.getElem?_eq_getElem (show j < ss.length by omega)]; rfl
      rw [e1] at hu
      simp only [Option.map_some, Option.some.injEq] at hu
      rw [hcell' j (by omega), ← hu]; rfl
    · intro p hp
      obtain ⟨s, hs, rfl⟩ := List.mem_map.1 hp
      have := hsz s (List.mem_of_mem_take hs)
      rwa [Lib.size_eq] at this
end Go.Proofs.YtbpfbceagdikoaaDoor
