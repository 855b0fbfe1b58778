/- Walks of the reference of layer 1: at, more, Point. -/
import Derived.Test.YtbpfbceagdikoaaDoorA
import Derived.Test.YtbpfbceagdikoaaDoorRet
import Derived.WalkSpells
import Derived.WalkLawsBesides
import Derived.Deep.Light
namespace Go.Proofs.YtbpfbceagdikoaaDoor
open Go.RowKit
set_option linter.unusedVariables false

set_option maxHeartbeats 400000 in
theorem at_any (s : ByteArray) (i : Nat) (w : World) :
    Calls Tryd.prog 57 #[.string s, .int .i64 i] w fun e w' => e = .returned (.int .i64 (atB s.data.toList i)) ∧ w = w' := by
  by_cases h : i < s.size
  · have hb := s[i].toNat_lt
    go_enter Tryd.func57, Tryd.ntmps57
    go_wp2
    go_ret
    exact ⟨ret_int (by simp [atB, h]; rfl), rfl⟩
  · go_enter Tryd.func57, Tryd.ntmps57
    go_wp2
    go_ret
    exact ⟨ret_int (by simp [atB, h]), rfl⟩

set_option maxHeartbeats 400000 in
theorem more_any (s : ByteArray) (i : Nat) (w : World) :
    Calls Tryd.prog 58 #[.string s, .int .i64 i] w fun e w' => e = .returned (.bool (cont s.data.toList i)) ∧ w = w' := by
  have hb := atB_lt s.data.toList i
  go_enter Tryd.func58, Tryd.ntmps58
  go_wp2_with (go_at_call 57; refine (at_any _ _ _).mono ?_; rintro e w' ⟨rfl, rfl⟩)
  all_goals go_ret
  all_goals exact ⟨ret_bool (by rw [Bool.eq_iff_iff]; simp [cont]; omega), rfl⟩

set_option maxHeartbeats 4000000 in
set_option maxRecDepth 100000 in
theorem point_any (s : ByteArray) (i : Nat) (w : World) (hs : s.size ≤ 9223372036854775807) (hi : i ≤ 9223372036854775800) :
    Calls Tryd.prog 44 #[.string s, .int .i64 i] w fun e w' => e = .returned (.tuple #[.int .i64 (point s.data.toList i).1, .int .i64 (point s.data.toList i).2]) ∧ w = w' := by
  have hb := atB_lt s.data.toList i
  have hb1 := atB_lt s.data.toList (i+1)
  have hb2 := atB_lt s.data.toList (i+2)
  have hb3 := atB_lt s.data.toList (i+3)
  go_enter Tryd.func44, Tryd.ntmps44
  go_wp2_with (first | (go_at_call 57; refine (at_any _ _ _).mono ?_; rintro e w' ⟨rfl, rfl⟩) | (go_at_call 58; refine (more_any _ _ _).mono ?_; rintro e w' ⟨rfl, rfl⟩))
  all_goals go_ret2
  all_goals refine ⟨ret_int2 ?_ ?_, rfl⟩
  all_goals go_light
  all_goals have hl := Lib.size_eq s
  all_goals try simp only [cont_iff, cont_false] at *
  all_goals unfold point val2 val3 val4
  all_goals try simp only [cont_iff]
  all_goals (repeat' split) <;> omega

end Go.Proofs.YtbpfbceagdikoaaDoor
