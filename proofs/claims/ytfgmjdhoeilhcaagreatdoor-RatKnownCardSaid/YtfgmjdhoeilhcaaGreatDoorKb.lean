/- Walks of the laws of rat: awake. -/
import Derived.Test.YtfgmjdhoeilhcaaGreatDoorKa
namespace Go.Proofs.YtfgmjdhoeilhcaaGreatDoor
open Go.RowKit
set_option linter.unusedVariables false

set_option maxHeartbeats 2000000 in
set_option maxRecDepth 100000 in
theorem awake_any (w : World) (hT : Tabs w) : Calls Tryz.prog 11 #[] w fun e w' => e = .returned (.bool true) ∧ Below w.heap.size w w' := by
  have c1 := fun W h => qadd_any ⟨#[49, 47, 50]⟩ ⟨#[49, 47, 51]⟩ W h (by decide) (by decide)
  have c2 := fun W h => qdiv_any ⟨#[49, 47, 50]⟩ ⟨#[45, 49, 47, 52]⟩ W h (by decide) (by decide)
  have c3 := fun W h => qparse_any ⟨#[45, 49, 46, 53, 48]⟩ W h (by decide)
  have c4 := fun W h => qmake_any true ⟨#[54]⟩ ⟨#[52]⟩ W h (by decide) (by decide)
  have c5 := fun W h => qparts_any ⟨#[45, 51, 47, 52]⟩ W h (by decide)
  have c6 := fun W h => qvalid_any ⟨#[45, 51, 47, 52]⟩ W h (by decide)
  have c7 := fun W h => qvalid_any ⟨#[54, 47, 50]⟩ W h (by decide)
  have c8 := fun W h => qcmp_any ⟨#[49, 47, 51]⟩ ⟨#[49, 47, 50]⟩ W h (by decide) (by decide)
  rw [show ratAdd (⟨#[49, 47, 50]⟩ : ByteArray).data.toList (⟨#[49, 47, 51]⟩ : ByteArray).data.toList = ([53, 47, 54], 0) from ex1] at c1
  rw [show ratDiv (⟨#[49, 47, 50]⟩ : ByteArray).data.toList (⟨#[45, 49, 47, 52]⟩ : ByteArray).data.toList = ([45, 50], 0) from ex2] at c2
  rw [show parseR (⟨#[45, 49, 46, 53, 48]⟩ : ByteArray).data.toList = ([45, 51, 47, 50], 0) from ex3] at c3
  rw [show ratMake true (⟨#[54]⟩ : ByteArray).data.toList (⟨#[52]⟩ : ByteArray).data.toList = ([45, 51, 47, 50], 0) from ex4] at c4
  rw [show partV (⟨#[45, 51, 47, 52]⟩ : ByteArray).data.toList = .tuple #[.bool true, .string ⟨#[51]⟩, .string ⟨#[52]⟩, .bool true] from by unfold partV; rw [show ratP (⟨#[45, 51, 47, 52]⟩ : ByteArray).data.toList = _ from ex5]; rfl] at c5
  rw [show (ratV (⟨#[45, 51, 47, 52]⟩ : ByteArray).data.toList).isSome = true from ex6] at c6
  rw [show (ratV (⟨#[54, 47, 50]⟩ : ByteArray).data.toList).isSome = false from ex7] at c7
  rw [show ratCmp (⟨#[49, 47, 51]⟩ : ByteArray).data.toList (⟨#[49, 47, 50]⟩ : ByteArray).data.toList = -1 from ex8] at c8
  unfold TxtPost at c1 c2 c3 c4
  have i1 := fun W => is_any ⟨#[53, 47, 54]⟩ ⟨#[53, 47, 54]⟩ 0 W
  have i2 := fun W => is_any ⟨#[45, 50]⟩ ⟨#[45, 50]⟩ 0 W
  have i3 := fun W => is_any ⟨#[45, 51, 47, 50]⟩ ⟨#[45, 51, 47, 50]⟩ 0 W
  simp only [decide_true, Bool.and_self] at i1 i2 i3
  go_enter Tryz.func11, Tryz.ntmps11
  go_wp2_with fail
  refine (c1 _ hT).mono ?_
  rintro e w1 ⟨rfl, b1⟩
  go_wp2_with fail
  refine (c2 _ (hT.below b1)).mono ?_
  rintro e w2 ⟨rfl, b2⟩
  have hA2 := bstep b1 b2
  go_wp2_with fail
  refine (c3 _ (hT.below hA2)).mono ?_
  rintro e w3 ⟨rfl, b3⟩
  have hA3 := bstep hA2 b3
  go_wp2_with fail
  refine (c4 _ (hT.below hA3)).mono ?_
  rintro e w4 ⟨rfl, b4⟩
  have hA4 := bstep hA3 b4
  go_wp2_with fail
  refine (c5 _ (hT.below hA4)).mono ?_
  rintro e w5 ⟨rfl, b5⟩
  have hA5 := bstep hA4 b5
  go_wp2_with fail
  refine (i1 _).mono ?_
  rintro e w6 ⟨rfl, rfl⟩
  go_wp2_with fail
  refine (i2 _).mono ?_
  rintro e w6 ⟨rfl, rfl⟩
  go_wp2_with fail
  refine (i3 _).mono ?_
  rintro e w6 ⟨rfl, rfl⟩
  go_wp2_with fail
  refine (i3 _).mono ?_
  rintro e w6 ⟨rfl, rfl⟩
  go_wp2_with fail
  refine (c6 _ (hT.below hA5)).mono ?_
  rintro e w6 ⟨rfl, b6⟩
  have hA6 := bstep hA5 b6
  go_wp2_with fail
  refine (c7 _ (hT.below hA6)).mono ?_
  rintro e w7 ⟨rfl, b7⟩
  have hA7 := bstep hA6 b7
  go_wp2_with fail
  refine (c8 _ (hT.below hA7)).mono ?_
  rintro e w8 ⟨rfl, b8⟩
  have hA8 := bstep hA7 b8
  go_wp2_with fail
  go_returns
  exact ⟨rfl, hA8⟩
end Go.Proofs.YtfgmjdhoeilhcaaGreatDoor
