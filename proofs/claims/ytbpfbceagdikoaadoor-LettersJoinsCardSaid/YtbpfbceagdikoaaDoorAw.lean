/- awake: the examples that every statement of layer 1 asks besides. -/
import Derived.Test.YtbpfbceagdikoaaDoorW11
import Derived.Test.YtbpfbceagdikoaaDoorW12
import Derived.Test.YtbpfbceagdikoaaDoorW3
namespace Go.Proofs.YtbpfbceagdikoaaDoor
open Go.RowKit
set_option linter.unusedVariables false

theorem aw1 : splitL [97, 195, 169, 226, 130, 172] = [[97], [195, 169], [226, 130, 172]] ∧ splitAt [97, 195, 169, 226, 130, 172] = 0 ∧ splitE [97, 195, 169, 226, 130, 172] = 0 := by decide +kernel
theorem aw2 : splitL [97, 195, 98] = [] ∧ splitAt [97, 195, 98] = 1 ∧ splitE [97, 195, 98] = 3 := by decide +kernel
theorem aw3 : unquoteL [37, 120, 48, 97, 37, 45] = some [10, 45] := by decide +kernel
theorem aw4 : classL [195, 137] = 2 := by decide +kernel
theorem aw5 : changeL lowR [195, 128, 66, 195, 151] = [195, 160, 98, 195, 151] := by decide +kernel
theorem aw6 : changeL upR [195, 159, 195, 191, 195, 169] = [195, 159, 195, 191, 195, 137] := by decide +kernel
theorem aw7 : quoteL [97, 45, 98, 10, 53, 37] = [97, 37, 45, 98, 37, 120, 48, 97, 53, 37, 37] := by decide +kernel
theorem aw8 : Lib.compareBytes [97] [97, 98] = -1 := by decide +kernel

theorem RowAt.lit (w : World) (cs : List Value) (e : TypeId) (fr : Nat × Nat) : RowAt (w.alloc (.cells cs.toArray e fr)) (some ⟨w.heap.size, 0, none⟩) cs := fun _ =>
  ⟨w.heap.size, 0, rfl, by simp, fun j u hu => by rw [Nat.zero_add, World.cell?_alloc_mark]; simpa using hu⟩
theorem RowAt.alloc {w : World} {A : Option Addr} {cs : List Value} (h : RowAt w A cs) (o : Obj) : RowAt (w.alloc o) A cs := h.below ((Below.refl _ _).alloc (Nat.le_refl _) o)

set_option maxHeartbeats 4000000 in
set_option maxRecDepth 100000 in
theorem awake_any (w : World) (hT : Tabs w) :
    Calls Tryd.prog 17 #[] w fun e w' => e = .returned (.bool true) ∧ Below w.heap.size w w' := by
  have c1 : Calls Tryd.prog 12 #[.string ⟨#[97, 195, 169, 226, 130, 172]⟩] w (SplitPost w [[97], [195, 169], [226, 130, 172]] 0 0) := by
    have h := split_every ⟨#[97, 195, 169, 226, 130, 172]⟩ w hT
    simp only [aw1.1, aw1.2.1, aw1.2.2] at h
    exact h
  have c2 : ∀ W, Tabs W → Calls Tryd.prog 12 #[.string ⟨#[97, 195, 98]⟩] W (SplitPost W [] 1 3) := fun W hW => by
    have h := split_every ⟨#[97, 195, 98]⟩ W hW
    simp only [aw2.1, aw2.2.1, aw2.2.2] at h
    exact h
  have c3 : ∀ W, Tabs W → Calls Tryd.prog 15 #[.string ⟨#[37, 120, 48, 97, 37, 45]⟩] W fun e w' => e = .returned (.tuple #[.string ⟨#[10, 45]⟩, .int .i64 0]) ∧ Below W.heap.size W w' := fun W hW => by
    have h := unquote_any ⟨#[37, 120, 48, 97, 37, 45]⟩ W hW (show (6 : Nat) ≤ 1000000000 by decide)
    simp only [aw3] at h
    exact h
  have c4 : ∀ W, Tabs W → Calls Tryd.prog 13 #[.string ⟨#[195, 137]⟩] W fun e w' => e = .returned (.int .i64 2) ∧ Below W.heap.size W w' := fun W hW => by
    have h := class_any ⟨#[195, 137]⟩ W hW
    simp only [aw4] at h
    exact h
  have c5 : ∀ W, Tabs W → Calls Tryd.prog 24 #[.string ⟨#[195, 128, 66, 195, 151]⟩] W fun e w' => e = .returned (.string ⟨#[195, 160, 98, 195, 151]⟩) ∧ Below W.heap.size W w' := fun W hW => by
    have h := change_Lower ⟨#[195, 128, 66, 195, 151]⟩ W hW (show 5 * (5 : Nat) ≤ 140737488355320 by decide)
    simp only [aw5] at h
    exact h
  have c6 : ∀ W, Tabs W → Calls Tryd.prog 26 #[.string ⟨#[195, 159, 195, 191, 195, 169]⟩] W fun e w' => e = .returned (.string ⟨#[195, 159, 195, 191, 195, 137]⟩) ∧ Below W.heap.size W w' := fun W hW => by
    have h := change_Upper ⟨#[195, 159, 195, 191, 195, 169]⟩ W hW (show 5 * (6 : Nat) ≤ 140737488355320 by decide)
    simp only [aw6] at h
    exact h
  have c7 : ∀ W, Tabs W → Calls Tryd.prog 14 #[.string ⟨#[97, 45, 98, 10, 53, 37]⟩] W fun e w' => e = .returned (.string ⟨#[97, 37, 45, 98, 37, 120, 48, 97, 53, 37, 37]⟩) ∧ Below W.heap.size W w' := fun W hW => by
    have h := quote_any ⟨#[97, 45, 98, 10, 53, 37]⟩ W hW (show 5 * (6 : Nat) ≤ 140737488355320 by decide)
    simp only [aw7] at h
    exact h
  have c8 : ∀ W, Calls Tryd.prog 16 #[.string ⟨#[97]⟩, .string ⟨#[97, 98]⟩] W fun e w' => e = .returned (.int .i64 (-1)) ∧ Below W.heap.size W w' := fun W => by
    have h := compare_any ⟨#[97]⟩ ⟨#[97, 98]⟩ W
    simp only [aw8] at h
    exact h
  have hA : Below w.heap.size w w := Below.refl _ _
  go_enter Tryd.func17, Tryd.ntmps17
  go_wp2_with fail
  refine c1.mono ?_
  rintro e w1 ⟨A, cap, rfl, hcap, hrow, hb1⟩
  have hA1 := bstep hA hb1
  go_wp2_with fail
  refine (c2 _ (hT.below hA1)).mono ?_
  rintro e w2 ⟨A2, cap2, rfl, _, _, hb2⟩
  have hA2 := bstep hA1 hb2
  have hrow2 := hrow.below hb2
  go_wp2_with fail
  refine (c3 _ (hT.below hA2)).mono ?_
  rintro e w3 ⟨rfl, hb3⟩
  have hA3 := bstep hA2 hb3
  have hrow3 := hrow2.below hb3
  go_wp2_with fail
  have hs := same_any A (some ⟨w3.heap.size, 0, none⟩) cap 3 [[97], [195, 169], [226, 130, 172]] [[97], [195, 169], [226, 130, 172]] (w3.alloc (.cells #[.string ⟨#[97]⟩, .string ⟨#[195, 169]⟩, .string ⟨#[226, 130, 172]⟩] 9)) (hrow3.alloc _) (RowAt.lit w3 [.string ⟨#[97]⟩, .string ⟨#[195, 169]⟩, .string ⟨#[226, 130, 172]⟩] 9 (0, 0)) (by decide) (by decide)
  refine Calls.mono hs ?_
  rintro e w4 ⟨rfl, hb4⟩
  have hA4 : Below w.heap.size w w4 := bstep ((hA3.alloc hA3.size _)) hb4
  clear hs hrow hrow2 hrow3 c1 c2 c3 hA hA1 hA2 hA3
  go_wp2_with (first | (go_at_call 13; refine (c4 _ (hT.below hA4)).mono ?_; rintro e w5 ⟨rfl, hb5⟩; have hA5 := bstep hA4 hb5) | (go_at_call 24; refine (c5 _ (hT.below hA5)).mono ?_; rintro e w6 ⟨rfl, hb6⟩; have hA6 := bstep hA5 hb6) | (go_at_call 26; refine (c6 _ (hT.below hA6)).mono ?_; rintro e w7 ⟨rfl, hb7⟩; have hA7 := bstep hA6 hb7) | (go_at_call 14; refine (c7 _ (hT.below hA7)).mono ?_; rintro e w8 ⟨rfl, hb8⟩; have hA8 := bstep hA7 hb8) | (go_at_call 16; refine (c8 _).mono ?_; rintro e w9 ⟨rfl, hb9⟩; have hA9 := bstep hA8 hb9))
  go_goals
  go_returns
  exact ⟨rfl, hA9⟩
end Go.Proofs.YtbpfbceagdikoaaDoor
