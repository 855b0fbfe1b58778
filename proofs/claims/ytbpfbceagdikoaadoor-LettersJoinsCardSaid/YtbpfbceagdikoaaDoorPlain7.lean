/- What Join returns. No program in sight. -/
import Derived.Test.YtbpfbceagdikoaaDoorPlain5
import Derived.Lib.Join
namespace Go.Proofs.YtbpfbceagdikoaaDoor
set_option linter.unusedVariables false

/-- what Join returns: text and error -/
def joinR (l : List Bs) : Bs × Nat :=
  if l.all validL = true then (if 16384 < l.flatten.length then ([], 2) else (l.flatten, 0)) else ([], 1)
theorem pieces_all : ∀ l : List Bs, (∀ p ∈ l, validL p = true) → pieces l.flatten = l
  | [], _ => rfl
  | t :: r, h => by
    rw [List.flatten_cons, pieces_app _ (h t List.mem_cons_self), pieces_all r (fun p hp => h p (List.mem_cons_of_mem _ hp))]
theorem valid_size {t : Bs} (h : validL t = true) : t.length ≤ 4 ∧ 1 ≤ t.length := by
  obtain ⟨h1, h2⟩ := valid_ok h
  have := (point_le t).2
  have := List.length_pos_iff.2 (valid_ne h)
  omega
theorem join_bad {l : List Bs} {k : Nat} (hk : k < l.length) (h : validL l[k] = false) : joinR l = ([], 1) := by
  unfold joinR
  rw [if_neg]
  intro hh
  have := List.all_eq_true.1 hh _ (List.getElem_mem hk)
  rw [h] at this; cases this
theorem join_good {l : List Bs} (h : ∀ p ∈ l, validL p = true) : joinR l = if 16384 < l.flatten.length then ([], 2) else (l.flatten, 0) := by
  unfold joinR
  rw [if_pos (List.all_eq_true.2 h)]
theorem join_split {l : List Bs} (h : (joinR l).2 = 0) : splitL (joinR l).1 = l ∧ splitAt (joinR l).1 = 0 ∧ splitE (joinR l).1 = 0 := by
  unfold joinR at h ⊢
  by_cases ha : l.all validL = true
  · rw [if_pos ha] at h ⊢
    have hv := List.all_eq_true.1 ha
    by_cases hl : 16384 < l.flatten.length
    · rw [if_pos hl] at h; cases h
    · rw [if_neg hl]
      have e : splitR l.flatten = (l, 0, 0) := by
        unfold splitR
        rw [if_neg hl, pieces_all l hv, stray_all hv]
      exact ⟨by unfold splitL; rw [e], by unfold splitAt; rw [e], by unfold splitE; rw [e]⟩
  · rw [if_neg ha] at h; cases h
theorem flat_take (l : List Bs) {k : Nat} (hk : k < l.length) : (l.take (k + 1)).flatten = (l.take k).flatten ++ l[k] := by
  rw [List.take_succ_eq_append_getElem hk, List.flatten_append]; simp
theorem flat_take_le (l : List Bs) (k : Nat) : (l.take k).flatten.length ≤ l.flatten.length := by
  conv => rhs; rw [← List.take_append_drop k l]
  rw [List.flatten_append, List.length_append]; omega
theorem join_nosep : ∀ l : List Bs, Lib.join l [] = l.flatten
  | [] => rfl
  | [a] => by simp [Lib.join]
  | a :: b :: r => by
    have := join_nosep (b :: r)
    simp [Lib.join] at this ⊢
    exact this
end Go.Proofs.YtbpfbceagdikoaaDoor
