/- LettersSplits: the law's walk. -/
import Derived.Test.YtbpfbceagdikoaaDoorAw
namespace Go.Proofs.YtbpfbceagdikoaaDoor
open Go.RowKit
set_option linter.unusedVariables false

set_option maxHeartbeats 1000000 in
set_option maxRecDepth 100000 in
theorem rsplit_long (s : ByteArray) (w : World) (hs : 16384 < s.size) :
    Calls Tryd.prog 18 #[.string s] w (SplitPost w (splitL s.data.toList) (splitAt s.data.toList) (splitE s.data.toList)) := by
  have hl : 16384 < s.data.toList.length := by rw [← Lib.size_eq]; exact hs
  have e : splitR s.data.toList = ([], 0, 2) := by unfold splitR; rw [if_pos hl]
  have HE := Lib.hid e
  clear e hl
  go_enter Tryd.func18, Tryd.ntmps18
  go_wp2_with fail
  go_returns
  exact ⟨none, 0, by rw [splitAt, splitE, splitL, HE.out]; rfl, by rw [splitL, HE.out]; exact Nat.le_refl _, by rw [splitL, HE.out]; exact RowAt.nil _ _, Below.refl _ _⟩
theorem rsplit_every (s : ByteArray) (w : World) :
    Calls Tryd.prog 18 #[.string s] w (SplitPost w (splitL s.data.toList) (splitAt s.data.toList) (splitE s.data.toList)) := by
  rcases Nat.lt_or_ge 16384 s.size with h | h
  · exact rsplit_long s w h
  · exact rsplit_any s w h

theorem splitL_le (l : Bs) : (splitL l).length ≤ l.length := by
  show (splitR l).1.length ≤ _
  unfold splitR
  have := pieces_len l
  split
  · simp
  · cases strayAt (pieces l) 0 with
    | some i => simp
    | none => exact this

set_option maxHeartbeats 4000000 in
set_option maxRecDepth 100000 in
theorem splits_law (s : ByteArray) (w : World) (hT : Tabs w) :
    Calls Tryd.prog 4 #[.string s] w fun e w' => e = .returned (.bool true) ∧ Below w.heap.size w w' := by
  have hA : Below w.heap.size w w := Below.refl _ _
  rcases Nat.lt_or_ge 20000 s.size with hs | hs
  · go_enter Tryd.func4, Tryd.ntmps4
    go_wp2_with fail
    all_goals first
      | (go_at_call 17; refine (awake_any _ hT).mono ?_; rintro e w1 ⟨rfl, hb1⟩; go_wp2_with fail; go_returns; exact ⟨rfl, hb1⟩)
      | (exfalso; go_light; omega)
  · have hc1 := split_every s w hT
    have hlen := splitL_le s.data.toList
    rw [← Lib.size_eq] at hlen
    have hc2 : ∀ W, Calls Tryd.prog 18 #[.string s] W (SplitPost W (splitL s.data.toList) (splitAt s.data.toList) (splitE s.data.toList)) := fun W => rsplit_every s W
    have hv1 := fun W hW => valid_any s W hW
    have hv2 := fun W => rvalid_any s W (by omega)
    generalize splitL s.data.toList = L at hc1 hc2 hlen
    generalize splitAt s.data.toList = a at hc1 hc2
    generalize splitE s.data.toList = b at hc1 hc2
    generalize validL s.data.toList = v at hv1 hv2
    go_enter Tryd.func4, Tryd.ntmps4
    go_wp2_with fail
    all_goals first
      | (exfalso; go_light; omega)
      | skip
    refine hc1.mono ?_
    rintro e w1 ⟨A, c, rfl, hcap, hrow, hb1⟩
    have hA1 := bstep hA hb1
    go_wp2_with fail
    refine (hc2 _).mono ?_
    rintro e w2 ⟨A2, c2, rfl, hcap2, hrow2, hb2⟩
    have hA2 := bstep hA1 hb2
    go_wp2_with fail
    refine (same_any A A2 c c2 L L _ (hrow.below hb2) hrow2 (by omega) (by omega)).mono ?_
    rintro e w3 ⟨rfl, hb3⟩
    have hA3 := bstep hA2 hb3
    rw [decide_eq_true (rfl : L = L)]
    clear hrow hrow2
    go_wp2_with (first
      | (go_at_call 20; refine (hv1 _ (hT.below hA3)).mono ?_; rintro e w4 ⟨rfl, hb4⟩; have hA4 := bstep hA3 hb4)
      | (go_at_call 21; refine (hv2 _).mono ?_; rintro e w5 ⟨rfl, rfl⟩)
      | (go_at_call 17; refine (awake_any _ (hT.below hA4)).mono ?_; rintro e w6 ⟨rfl, hb6⟩; have hA5 := bstep hA4 hb6))
    go_returns
    exact ⟨rfl, hA5⟩
end Go.Proofs.YtbpfbceagdikoaaDoor
