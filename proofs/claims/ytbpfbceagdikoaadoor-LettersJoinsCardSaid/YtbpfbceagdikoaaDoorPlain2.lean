/- The plain words of layer 1 (letters), the third part: reading what Quote has written. -/
import Derived.Test.YtbpfbceagdikoaaDoorPlain
namespace Go.Proofs.YtbpfbceagdikoaaDoor

theorem unitT_bd (l : Bs) (h : l ≠ []) : (unitT l).2 ≤ l.length ∧ (unitT l).1.length ≤ (unitT l).2 := by
  have hb := psz_bd l h
  have hl := List.length_pos_iff.2 h
  unfold unitT
  split
  · simp; omega
  · split
    · rename_i h1; simp; exact h1.1
    · split
      · simp
      · have hb2 := psz_bd (l.drop 1) (by intro e; have := congrArg List.length e; simp at this; omega)
        simp at hb2 ⊢
        omega
/-- what the program's lenient reader reads -/
def readT : Nat → Bs → Option Bs
  | 0, l => if l = [] then some [] else none
  | k + 1, l => if l = [] then some [] else if (unitT l).2 = 0 then none else (readT k (l.drop (unitT l).2)).map ((unitT l).1 ++ ·)
theorem readT_enough : ∀ (k : Nat) (l : Bs), l.length ≤ k → readT k l = readT l.length l
  | 0, l, h => by have : l = [] := List.eq_nil_of_length_eq_zero (by omega); subst this; rfl
  | k + 1, [], h => rfl
  | k + 1, x :: r, h => by
    show (if x :: r = [] then some [] else if (unitT (x :: r)).2 = 0 then none else (readT k ((x :: r).drop (unitT (x :: r)).2)).map ((unitT (x :: r)).1 ++ ·)) =
      (if x :: r = [] then some [] else if (unitT (x :: r)).2 = 0 then none else (readT r.length ((x :: r).drop (unitT (x :: r)).2)).map ((unitT (x :: r)).1 ++ ·))
    simp only [List.length_cons] at h
    by_cases hz : (unitT (x :: r)).2 = 0
    · rw [if_pos hz, if_pos hz]
    · rw [if_neg hz, if_neg hz, readT_enough k _ (by simp; omega), readT_enough r.length _ (by simp; omega)]
def readF (l : Bs) : Option Bs := readT l.length l
theorem readF_nil : readF [] = some [] := rfl
theorem readF_step (l : Bs) (h : l ≠ []) : readF l = if (unitT l).2 = 0 then none else (readF (l.drop (unitT l).2)).map ((unitT l).1 ++ ·) := by
  have hl := List.length_pos_iff.2 h
  unfold readF
  obtain ⟨k, hk⟩ : ∃ k, l.length = k + 1 := ⟨l.length - 1, by omega⟩
  rw [hk]
  show (if l = [] then some [] else if (unitT l).2 = 0 then none else (readT k (l.drop (unitT l).2)).map ((unitT l).1 ++ ·)) = _
  rw [if_neg h]
  by_cases hz : (unitT l).2 = 0
  · rw [if_pos hz, if_pos hz]
  · rw [if_neg hz, if_neg hz, readT_enough k _ (by simp; omega)]
/-- what Unquote returns: the name, or none (ErrForm) -/
def unquoteL (l : Bs) : Option Bs :=
  if l = [37, 48] then some []
  else match readF l with
    | some n => if quoteL n = l then some n else none
    | none => none
def unqS (o : Option Bs) : Bs := o.getD []
def unqE (o : Option Bs) : Nat := if o.isSome = true then 0 else 3
/-- two texts compared byte by byte -/
def cmpL : Bs → Bs → Int
  | [], [] => 0
  | [], _ :: _ => -1
  | _ :: _, [] => 1
  | x :: r, y :: t => if x < y then -1 else if y < x then 1 else cmpL r t
theorem cmpL_eq : ∀ a b : Bs, Lib.compareBytes a b = cmpL a b
  | [], [] => rfl
  | [], _ :: _ => rfl
  | _ :: _, [] => rfl
  | x :: r, y :: t => by simp only [Lib.compareBytes, cmpL]; rw [cmpL_eq r t]
theorem drop_byte (a : ByteArray) (k : Nat) (h : k < a.size) : a.data.toList.drop k = a[k] :: a.data.toList.drop (k + 1) := by
  rw [List.drop_eq_getElem_cons (by rw [← Lib.size_eq]; exact h)]; rfl
theorem cmpL_step (a b : ByteArray) (k : Nat) (ha : k < a.size) (hb : k < b.size) :
    cmpL (a.data.toList.drop k) (b.data.toList.drop k) = if a[k].toNat < b[k].toNat then -1 else if b[k].toNat < a[k].toNat then 1 else cmpL (a.data.toList.drop (k + 1)) (b.data.toList.drop (k + 1)) := by
  rw [drop_byte a k ha, drop_byte b k hb]; rfl
end Go.Proofs.YtbpfbceagdikoaaDoor
