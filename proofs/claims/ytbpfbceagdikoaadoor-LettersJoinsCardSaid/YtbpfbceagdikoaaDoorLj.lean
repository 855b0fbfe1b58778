/- LettersJoins: the law's walk. -/
import Derived.Test.YtbpfbceagdikoaaDoorAw
import Derived.Test.YtbpfbceagdikoaaDoorLa
import Derived.Test.YtbpfbceagdikoaaDoorJo
import Derived.Test.YtbpfbceagdikoaaDoorOpen
namespace Go.Proofs.YtbpfbceagdikoaaDoor
open Go.RowKit
set_option linter.unusedVariables false

set_option maxHeartbeats 4000000 in
set_option maxRecDepth 100000 in
theorem joins_law (A : Option Addr) (c : Nat) (l : List Bs) (w : World) (hT : Tabs w) (hR : RowIn w A c l) :
    Calls Tryd.prog 11 #[.slice A l.length c] w fun e w' => e = .returned (.bool true) ∧ Below w.heap.size w w' := by
  have hA : Below w.heap.size w w := Below.refl _ _
  obtain ⟨hc, hcm, hrow, hp⟩ := hR
  unfold maxLen at hcm hp
  rcases Nat.lt_or_ge 300 l.length with hs | hs
  · clear hrow hp
    go_enter Tryd.func11, Tryd.ntmps11
    go_wp2_with fail
    all_goals first
      | (go_at_call 17; refine (awake_any _ hT).mono ?_; rintro e w1 ⟨rfl, hb1⟩; go_wp2_with fail; go_returns; exact ⟨rfl, hb1⟩)
      | (exfalso; go_light; omega)
  · have k1 := join_any A c l w hT hrow hs hc
    have k2 := fun W (hb : Below w.heap.size w W) => rjoin_any A c l W (hrow.below hb) hs hc hp
    obtain ⟨T, hT'⟩ : ∃ T : ByteArray, (⟨(joinR l).1.toArray⟩ : ByteArray) = T := ⟨_, rfl⟩
    have hTd : T.data.toList = (joinR l).1 := by rw [← hT']
    have htt : (T.toList == T.toList) = true := beq_self_eq_true _
    rw [hT'] at k1
    simp only [hT'] at k2
    by_cases h0 : (joinR l).2 = 0
    · obtain ⟨q1, q2, q3⟩ := join_split h0
      have k3 := fun W hW => split_every T W hW
      rw [hTd, q1, q2, q3] at k3
      rw [h0] at k1
      simp only [h0] at k2
      clear q1 q2 q3 h0 hTd hT'
      go_enter Tryd.func11, Tryd.ntmps11
      go_wp2_with fail
      refine k1.mono ?_
      rintro e w1 ⟨rfl, hb1⟩
      have hA1 := bstep hA hb1
      go_wp2_with fail
      refine (k2 _ hA1).mono ?_
      rintro e w2 ⟨rfl, hb2⟩
      have hA2 := bstep hA1 hb2
      go_wp2_with fail
      refine (k3 _ (hT.below hA2)).mono ?_
      rintro e w3 ⟨A2, c2, rfl, hcap2, hrow2, hb3⟩
      have hA3 := bstep hA2 hb3
      go_wp2_with fail
      refine (same_any A A2 c c2 l l _ (hrow.below hA3) hrow2 (by omega) (by omega)).mono ?_
      rintro e w4 ⟨rfl, hb4⟩
      have hA4 := bstep hA3 hb4
      rw [decide_eq_true (rfl : l = l)]
      clear hrow hrow2 hp
      go_wp2_with (go_at_call 17; refine (awake_any _ (hT.below hA4)).mono ?_; rintro e w6 ⟨rfl, hb6⟩; have hA5 := bstep hA4 hb6)
      go_returns
      exact ⟨rfl, hA5⟩
    · generalize (joinR l).2 = er at k1 k2 h0
      have h1 : (((er : Nat) : Int) == 0) = false := by simp; omega
      clear hTd hT'
      go_enter Tryd.func11, Tryd.ntmps11
      go_wp2_with fail
      refine k1.mono ?_
      rintro e w1 ⟨rfl, hb1⟩
      have hA1 := bstep hA hb1
      go_wp2_with fail
      refine (k2 _ hA1).mono ?_
      rintro e w2 ⟨rfl, hb2⟩
      have hA2 := bstep hA1 hb2
      clear hrow hp
      go_wp2_with (go_at_call 17; refine (awake_any _ (hT.below hA2)).mono ?_; rintro e w6 ⟨rfl, hb6⟩; have hA5 := bstep hA2 hb6)
      go_returns
      exact ⟨rfl, hA5⟩
end Go.Proofs.YtbpfbceagdikoaaDoor
