/- The step of a range over a map keeps the tape. -/
import Derived.Test.YtfgmjdhoeilhcaaGreatDoorKm
namespace Go.Proofs.YtfgmjdhoeilhcaaGreatDoor
open Go.RowKit
set_option linter.unusedVariables false
theorem choose_tape {P : Program} (q : Question) (w : World) (j : Nat) (w1 : World) (h : (choose q).run P w = .ok j w1) : w1.tape = w.tape ∧ w1.heap = w.heap := by
  simp only [choose, Sem.run] at h
  split at h
  · injection h with _ h
    subst h
    exact ⟨rfl, rfl⟩
  · injection h with _ h
    subst h
    exact ⟨rfl, rfl⟩
theorem next_tape {P : Program} (w : World) (ty : TypeId) (r bm since c0 : Nat) (seen : Array Nat) (es : Array MapEntry) (clock : Nat) (hr : w.heap[r]? = some (.mapIter (some bm) since seen c0)) (hb : w.heap[bm]? = some (.map es clock))
    (hold : ∀ x ∈ es.toList, x.born < since) (hsc : since ≤ c0) (a : Value) (w' : World) (h : (Instr.next (.pointer (some ⟨r, 0, none⟩)) false ty).run P w = .ok a w') : w'.tape = w.tape := by
  simp only [Instr.next, getObj, Sem.run_bind, Sem.run, hr, hb, Result.andThen, next_test_false seen es since c0 hold hsc, Bool.false_eq_true, if_false] at h
  split at h
  · rename_i j w1 hch
    obtain ⟨h1, h2⟩ := choose_tape _ _ _ _ hch
    split at h
    · rw [Sem.run_bind, run_setObj_at (by rw [h2]; exact hr)] at h
      simp only [Result.andThen] at h
      injection h with _ h
      rw [← h]
      exact h1
    · injection h with _ h
      rw [← h]
      exact h1
    · cases h
  · cases h
end Go.Proofs.YtfgmjdhoeilhcaaGreatDoor
