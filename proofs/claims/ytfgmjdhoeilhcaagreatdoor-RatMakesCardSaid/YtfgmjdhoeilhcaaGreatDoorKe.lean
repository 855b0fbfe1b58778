/- The law of rat against the reference: RatMakes. -/
import Derived.Test.YtfgmjdhoeilhcaaGreatDoorKc
import Derived.Test.YtfgmjdhoeilhcaaGreatDoorPh
import Derived.Test.YtfgmjdhoeilhcaaGreatDoorPi
namespace Go.Proofs.YtfgmjdhoeilhcaaGreatDoor
open Go.RowKit
set_option linter.unusedVariables false

theorem pparse_any (s : ByteArray) (w : World) (hs : s.size ≤ 100000) :
    Calls Tryz.prog 18 #[.string s] w (TxtPost w (parseR s.data.toList)) := by
  by_cases h : s.data.toList.head? = some 45
  · exact pparse_minus s w hs h
  · exact pparse_plus s w hs h
set_option maxHeartbeats 4000000 in
set_option maxRecDepth 100000 in
theorem ratMakes_law (neg : Bool) (a b c : ByteArray) (w : World) (hT : Tabs w) :
    Calls Tryz.prog 4 #[.bool neg, .string a, .string b, .string c] w fun e w' => e = .returned (.bool true) ∧ Below w.heap.size w w' := by
  have hb0 : Below w.heap.size w (w.alloc (.cells #[.string a, .string b, .string c] 9)) := (Below.refl _ w).alloc (Nat.le_refl _) _
  have hl := large_any w.heap.size 3 [a, b, c] _ (cells3 w a b c) (by simp)
  have hT0 := hT.below hb0
  by_cases h : 1200 < a.size ∨ 1200 < b.size ∨ 1200 < c.size
  · rw [show longB [a, b, c] = true from by simp [longB, h]] at hl
    clear h
    go_enter Tryz.func4, Tryz.ntmps4
    go_wp2_with fail
    refine hl.mono ?_
    rintro e w1 ⟨rfl, rfl⟩
    go_wp2_with fail
    refine (awake_any _ hT0).mono ?_
    rintro e w2 ⟨rfl, b2⟩
    have hA2 := bstep hb0 b2
    go_wp2_with fail
    go_returns
    exact ⟨rfl, hA2⟩
  · rw [show longB [a, b, c] = false from by simp [longB]; omega] at hl
    have p1 := fun W h => qmake_any neg a b W h (by omega) (by omega)
    have p2 := fun W => pmakeR_any neg a b W (by omega) (by omega)
    have p3 := fun W h => qparse_any c W h (by omega)
    have p4 := fun W => pparse_any c W (by omega)
    unfold TxtPost at p1 p2 p3 p4
    generalize ratMake neg a.data.toList b.data.toList = r at *
    generalize parseR c.data.toList = x at *
    generalize r.2 = r2 at *
    generalize x.2 = x2 at *
    obtain ⟨F, hF⟩ : ∃ F : ByteArray, (⟨r.1.toArray⟩ : ByteArray) = F := ⟨_, rfl⟩
    obtain ⟨G, hG⟩ : ∃ F : ByteArray, (⟨x.1.toArray⟩ : ByteArray) = F := ⟨_, rfl⟩
    rw [hF] at p1 p2
    rw [hG] at p3 p4
    have f1 : (F.toList == F.toList) = true := beq_self_eq_true _
    have f2 : (G.toList == G.toList) = true := beq_self_eq_true _
    have f3 : ((r2 : Int) == (r2 : Int)) = true := beq_self_eq_true _
    have f4 : ((x2 : Int) == (x2 : Int)) = true := beq_self_eq_true _
    clear h hF hG
    go_enter Tryz.func4, Tryz.ntmps4
    go_wp2_with fail
    refine hl.mono ?_
    rintro e w1 ⟨rfl, rfl⟩
    go_wp2_with fail
    refine (p1 _ hT0).mono ?_
    rintro e w2 ⟨rfl, b2⟩
    have hA2 := bstep hb0 b2
    go_wp2_with fail
    refine (p2 _).mono ?_
    rintro e w3 ⟨rfl, b3⟩
    have hA3 := bstep hA2 b3
    go_wp2_with fail
    refine (p3 _ (hT.below hA3)).mono ?_
    rintro e w4 ⟨rfl, b4⟩
    have hA4 := bstep hA3 b4
    go_wp2_with fail
    refine (p4 _).mono ?_
    rintro e w5 ⟨rfl, b5⟩
    have hA5 := bstep hA4 b5
    go_wp2_with fail
    refine (awake_any _ (hT.below hA5)).mono ?_
    rintro e w6 ⟨rfl, b6⟩
    have hA6 := bstep hA5 b6
    go_wp2_with fail
    go_returns
    exact ⟨rfl, hA6⟩
end Go.Proofs.YtfgmjdhoeilhcaaGreatDoor
