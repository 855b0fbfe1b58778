/- The plain words of layer 1 (letters): what the chapter's functions compute, on lists of bytes; no program in sight. -/
import Derived.Shelf.Unicode.DecodeAny
namespace Go.Proofs.YtbpfbceagdikoaaDoor

abbrev Bs := List UInt8

/-- byte i of a list, 0 beyond its end -/
def atB (l : Bs) (i : Nat) : Nat := (l[i]?.getD 0).toNat
theorem atB_lt (l : Bs) (i : Nat) : atB l i < 256 := by unfold atB; exact UInt8.toNat_lt _
/-- does byte i continue a letter? -/
def cont (l : Bs) (i : Nat) : Bool := decide (128 ≤ atB l i ∧ atB l i < 192)
theorem cont_iff (l : Bs) (i : Nat) : cont l i = true ↔ 128 ≤ atB l i ∧ atB l i < 192 := by simp [cont]
theorem cont_false (l : Bs) (i : Nat) : cont l i = false ↔ ¬ (128 ≤ atB l i ∧ atB l i < 192) := by simp [cont]
theorem cont_lt {l : Bs} {i : Nat} (h : cont l i = true) : i < l.length := by
  rw [cont_iff] at h
  rcases Nat.lt_or_ge i l.length with hh | hh
  · exact hh
  · unfold atB at h; rw [List.getElem?_eq_none hh] at h; simp at h

def val2 (l : Bs) (i : Nat) : Nat := (atB l i - 192) * 64 + (atB l (i + 1) - 128)
def val3 (l : Bs) (i : Nat) : Nat := (atB l i - 224) * 4096 + (atB l (i + 1) - 128) * 64 + (atB l (i + 2) - 128)
def val4 (l : Bs) (i : Nat) : Nat := (atB l i - 240) * 262144 + (atB l (i + 1) - 128) * 4096 + (atB l (i + 2) - 128) * 64 + (atB l (i + 3) - 128)

/-- the code point of the letter that begins at a place, and its length; the length 0: there is none -/
def point (l : Bs) (i : Nat) : Nat × Nat :=
  if l.length ≤ i then (0, 0)
  else if atB l i < 128 then (atB l i, 1)
  else if 192 ≤ atB l i ∧ atB l i < 224 ∧ cont l (i + 1) = true ∧ 128 ≤ val2 l i then (val2 l i, 2)
  else if 224 ≤ atB l i ∧ atB l i < 240 ∧ cont l (i + 1) = true ∧ cont l (i + 2) = true ∧ 2048 ≤ val3 l i ∧ (val3 l i < 55296 ∨ 57343 < val3 l i) then (val3 l i, 3)
  else if 240 ≤ atB l i ∧ atB l i < 248 ∧ cont l (i + 1) = true ∧ cont l (i + 2) = true ∧ cont l (i + 3) = true ∧ 65536 ≤ val4 l i ∧ val4 l i ≤ 1114111 then (val4 l i, 4)
  else (0, 0)

end Go.Proofs.YtbpfbceagdikoaaDoor
