/- The statement ReadingsExamples: its walk. -/
import Derived.Test.YtplipnchkkhdaaaGreatDoorZ13
namespace Go.Proofs.YtplipnchkkhdaaaGreatDoor
open Go.RowKit
set_option linter.unusedVariables false

set_option maxHeartbeats 2000000 in
set_option maxRecDepth 100000 in
theorem wrong_true (s : ByteArray) (p : Nat) (w : World) (hT : TabH w) (h : parseL s.data.toList = ([], p, 3)) :
    Calls Tryz.prog 13 #[.string s, .int .i64 (p : Int)] w fun e w' => e = .returned (.bool true) ∧ Below w.heap.size w w' := by
  have p1 : Calls Tryz.prog 10 #[.string s] w fun e w' => ∃ A c, e = .returned (.tuple #[.slice A 0 c, .int .i64 (p : Int), .int .i64 3]) ∧ Below w.heap.size w w' := by
    refine (parse_any s w hT).mono ?_
    rintro e w' ⟨v, rfl, hv, hb⟩
    rw [h] at hv ⊢
    obtain ⟨xs, ⟨A, c, rfl, h1, h2⟩, h3⟩ := hv
    exact ⟨A, c, rfl, hb⟩
  clear h
  go_enter Tryz.func13, Tryz.ntmps13
  go_wp2_with fail
  refine p1.mono ?_
  rintro e w1 ⟨A, c, rfl, b1⟩
  go_wp2_with fail
  go_returns
  exact ⟨rfl, b1⟩
set_option maxHeartbeats 2000000 in
set_option maxRecDepth 100000 in
theorem refused_true (s : ByteArray) (p : Nat) (w : World) (hT : TabH w) (h : rulesRead atoiA s.data.toList = ([], p, 3)) :
    Calls Tryz.prog 14 #[.string s, .int .i64 (p : Int)] w fun e w' => e = .returned (.bool true) ∧ Below w.heap.size w w' := by
  have p1 : Calls Tryz.prog 26 #[.string s] w fun e w' => ∃ A c, e = .returned (.tuple #[.slice A 0 c, .int .i64 (p : Int), .int .i64 3]) ∧ Below w.heap.size w w' := by
    refine (rules_any s w hT).mono ?_
    rintro e w' ⟨v, rfl, hv, hb⟩
    rw [h] at hv ⊢
    obtain ⟨xs, ⟨A, c, rfl, h1, h2⟩, h3⟩ := hv
    exact ⟨A, c, rfl, hb⟩
  clear h
  go_enter Tryz.func14, Tryz.ntmps14
  go_wp2_with fail
  refine p1.mono ?_
  rintro e w1 ⟨A, c, rfl, b1⟩
  go_wp2_with fail
  go_returns
  exact ⟨rfl, b1⟩
theorem sizedY : Sized cohsY := by unfold Sized; decide
set_option maxHeartbeats 8000000 in
set_option maxRecDepth 100000 in
theorem examples_any (w : World) (hT : TabH w) :
    Calls Tryz.prog 3 #[] w fun e w' => e = .returned (.bool true) ∧ Below w.heap.size w w' := by
  have c1 : ∀ W, TabH W → Calls Tryz.prog 10 #[.string ⟨#[35, 32, 99, 10, 97, 10, 9, 78, 10, 10, 98]⟩] W fun e w' => ∃ A c, e = .returned (.tuple #[.slice A 2 c, .int .i64 0, .int .i64 0]) ∧ CohsV w' (.slice A 2 c) cohsY ∧ Below W.heap.size W w' := fun W hW => by
    refine (parse_any ⟨#[35, 32, 99, 10, 97, 10, 9, 78, 10, 10, 98]⟩ W hW).mono ?_
    rintro e w' ⟨v, rfl, hv, hb⟩
    have e1 : parseL (⟨#[35, 32, 99, 10, 97, 10, 9, 78, 10, 10, 98]⟩ : ByteArray).data.toList = (cohsY, 0, 0) := ey_parse
    rw [e1] at hv ⊢
    obtain ⟨xs, ⟨A, c, rfl, h1, h2⟩, h3⟩ := hv
    exact ⟨A, c, rfl, ⟨xs, ⟨A, c, rfl, h1, h2⟩, h3⟩, hb⟩
  have c5 : ∀ W A B c, CohsV W (.slice A 2 c) cohsY → CohsV W (.slice B 2 2) cohsY → Calls Tryz.prog 11 #[.slice A 2 c, .slice B 2 2] W fun e w' => e = .returned (.bool true) ∧ Below W.heap.size W w' := fun W A B c h1 h2 => by
    have h := rsame_any A B c 2 cohsY cohsY W h1 h2 sizedY sizedY
    rw [decide_eq_true (rfl : cohsY = cohsY)] at h
    exact h
  have w1 : ∀ W, TabH W → Calls Tryz.prog 13 #[.string ⟨#[9, 78]⟩, .int .i64 0] W fun e w' => e = .returned (.bool true) ∧ Below W.heap.size W w' := fun W hW => wrong_true ⟨#[9, 78]⟩ 0 W hW ey_wrong1
  have w2 : ∀ W, TabH W → Calls Tryz.prog 13 #[.string ⟨#[97, 10, 9, 9, 78]⟩, .int .i64 2] W fun e w' => e = .returned (.bool true) ∧ Below W.heap.size W w' := fun W hW => wrong_true ⟨#[97, 10, 9, 9, 78]⟩ 2 W hW ey_wrong2
  have w3 : ∀ W, TabH W → Calls Tryz.prog 13 #[.string ⟨#[97, 45, 98]⟩, .int .i64 0] W fun e w' => e = .returned (.bool true) ∧ Below W.heap.size W w' := fun W hW => wrong_true ⟨#[97, 45, 98]⟩ 0 W hW ey_wrong3
  have r1 : ∀ W, TabH W → Calls Tryz.prog 14 #[.string ⟨#[83, 69, 76, 69, 67, 84]⟩, .int .i64 0] W fun e w' => e = .returned (.bool true) ∧ Below W.heap.size W w' := fun W hW => refused_true ⟨#[83, 69, 76, 69, 67, 84]⟩ 0 W hW ey_ref1
  have r2 : ∀ W, TabH W → Calls Tryz.prog 14 #[.string ⟨#[83, 69, 76, 69, 67, 84, 32, 78, 32, 40, 48, 42, 32, 86, 41]⟩, .int .i64 0] W fun e w' => e = .returned (.bool true) ∧ Below W.heap.size W w' := fun W hW => refused_true ⟨#[83, 69, 76, 69, 67, 84, 32, 78, 32, 40, 48, 42, 32, 86, 41]⟩ 0 W hW ey_ref2
  have r3 : ∀ W, TabH W → Calls Tryz.prog 14 #[.string ⟨#[83, 69, 76, 69, 67, 84, 32, 78, 32, 40, 43, 49, 32, 86, 41]⟩, .int .i64 0] W fun e w' => e = .returned (.bool true) ∧ Below W.heap.size W w' := fun W hW => refused_true ⟨#[83, 69, 76, 69, 67, 84, 32, 78, 32, 40, 43, 49, 32, 86, 41]⟩ 0 W hW ey_ref3
  have r4 : ∀ W, TabH W → Calls Tryz.prog 14 #[.string ⟨#[83, 69, 76, 69, 67, 84, 32, 78, 32, 40, 49, 32, 86, 32, 124, 32, 78, 41]⟩, .int .i64 0] W fun e w' => e = .returned (.bool true) ∧ Below W.heap.size W w' := fun W hW => refused_true ⟨#[83, 69, 76, 69, 67, 84, 32, 78, 32, 40, 49, 32, 86, 32, 124, 32, 78, 41]⟩ 0 W hW ey_ref4
  have r5 : ∀ W, TabH W → Calls Tryz.prog 14 #[.string ⟨#[10, 83, 69, 76, 69, 67, 84, 32, 78, 10, 83, 69, 76, 69, 67, 84, 32, 32, 78]⟩, .int .i64 10] W fun e w' => e = .returned (.bool true) ∧ Below W.heap.size W w' := fun W hW => refused_true ⟨#[10, 83, 69, 76, 69, 67, 84, 32, 78, 10, 83, 69, 76, 69, 67, 84, 32, 32, 78]⟩ 10 W hW ey_ref5
  have C1h := Lib.hid c1
  have C5h := Lib.hid c5
  have W1h := Lib.hid w1
  have W2h := Lib.hid w2
  have W3h := Lib.hid w3
  have R1h := Lib.hid r1
  have R2h := Lib.hid r2
  have R3h := Lib.hid r3
  have R4h := Lib.hid r4
  have R5h := Lib.hid r5
  clear c1 c5 w1 w2 w3 r1 r2 r3 r4 r5
  go_enter Tryz.func3, Tryz.ntmps3
  go_wp2_with fail
  refine (C1h.out w hT).mono ?_
  rintro e w1 ⟨A1, c1, rfl, V1, b1⟩
  have s0 := (row_lit w1 [.string ⟨#[78]⟩] 9).alloc (.cells #[.slice (some ⟨w1.heap.size, 0, none⟩) 1 1] 31)
  have s1 := row_lit (w1.alloc (.cells #[.string ⟨#[78]⟩] 9)) [.slice (some ⟨w1.heap.size, 0, none⟩) 1 1] 31
  simp only [World.size_alloc] at s1
  have v2 : ReadsV ((w1.alloc (.cells #[.string ⟨#[78]⟩] 9)).alloc (.cells #[.slice (some ⟨w1.heap.size, 0, none⟩) 1 1] 31)) (.slice (some ⟨w1.heap.size + 1, 0, none⟩) 1 1) [[[78]]] := ⟨[.slice (some ⟨w1.heap.size, 0, none⟩) 1 1], ⟨_, 1, rfl, Nat.le_refl _, s1⟩, ⟨_, 1, rfl, Nat.le_refl _, s0⟩, trivial⟩
  have b2 : Below w1.heap.size w1 ((w1.alloc (.cells #[.string ⟨#[78]⟩] 9)).alloc (.cells #[.slice (some ⟨w1.heap.size, 0, none⟩) 1 1] 31)) := ((Below.refl _ _).alloc (by simp) _).alloc (by simp) _
  have p2 := cohort_any ⟨#[97]⟩ [[[78]]] (some ⟨w1.heap.size + 1, 0, none⟩) 1 _ v2 (by decide) (by decide)
  have HV1 := Lib.hid V1
  clear V1 v2 s0 s1
  go_wp2_with fail
  refine p2.mono ?_
  rintro e w3 ⟨x, rfl, hx, b3⟩
  obtain ⟨Ax, cx, rfl⟩ := hx.form
  have HX := Lib.hid hx
  have p3 := cohort_any ⟨#[98]⟩ [] none 0 w3 ⟨[], Sl.nil _, trivial⟩ (by decide) (by decide)
  have k3 := bstep b2 b3
  clear p2 hx
  go_wp2_with fail
  refine p3.mono ?_
  rintro e w4 ⟨y, rfl, hy, b4⟩
  obtain ⟨Ay, cy, rfl⟩ := hy.form
  have HY := Lib.hid hy
  have k4 := bstep k3 b4
  clear p3 hy
  have HC : CohsV (w4.alloc (.cells #[.string ⟨#[97]⟩, .slice Ax 1 cx, .string ⟨#[98]⟩, .slice Ay 0 cy] 29)) (.slice (some ⟨w4.heap.size, 0, none⟩) 2 2) cohsY := ⟨[.slice Ax 1 cx, .slice Ay 0 cy], ⟨_, 2, rfl, Nat.le_refl _, row_lit w4 _ _⟩, ReadsV.below HX.out (bstep b4 ((Below.refl _ _).alloc (Nat.le_refl _) _)), ReadsV.below HY.out ((Below.refl _ _).alloc (Nat.le_refl _) _), trivial⟩
  have k5 : Below w1.heap.size w1 (w4.alloc (.cells #[.string ⟨#[97]⟩, .slice Ax 1 cx, .string ⟨#[98]⟩, .slice Ay 0 cy] 29)) := bstep k4 ((Below.refl _ _).alloc (Nat.le_refl _) _)
  have p5 := C5h.out _ A1 _ c1 (HV1.out.below k5) HC
  clear HC
  go_wp2_with fail
  refine p5.mono ?_
  rintro e w6 ⟨rfl, b6⟩
  have k6 := bstep (bstep b1 k5) b6
  clear p5
  go_wp2_with fail
  refine (W1h.out _ (hT.below k6)).mono ?_
  rintro e w7 ⟨rfl, b7⟩
  have k7 := bstep k6 b7
  go_wp2_with fail
  refine (W2h.out _ (hT.below k7)).mono ?_
  rintro e w8 ⟨rfl, b8⟩
  have k8 := bstep k7 b8
  go_wp2_with fail
  refine (W3h.out _ (hT.below k8)).mono ?_
  rintro e w9 ⟨rfl, b9⟩
  have k9 := bstep k8 b9
  go_wp2_with fail
  refine (R1h.out _ (hT.below k9)).mono ?_
  rintro e w10 ⟨rfl, b10⟩
  have k10 := bstep k9 b10
  go_wp2_with fail
  refine (R2h.out _ (hT.below k10)).mono ?_
  rintro e w11 ⟨rfl, b11⟩
  have k11 := bstep k10 b11
  go_wp2_with fail
  refine (R3h.out _ (hT.below k11)).mono ?_
  rintro e w12 ⟨rfl, b12⟩
  have k12 := bstep k11 b12
  go_wp2_with fail
  refine (R4h.out _ (hT.below k12)).mono ?_
  rintro e w13 ⟨rfl, b13⟩
  have k13 := bstep k12 b13
  go_wp2_with fail
  refine (R5h.out _ (hT.below k13)).mono ?_
  rintro e w14 ⟨rfl, b14⟩
  have k14 := bstep k13 b14
  go_wp2_with fail
  refine (awake_any _ (hT.below k14)).mono ?_
  rintro e w15 ⟨rfl, b15⟩
  go_wp2_with fail
  go_returns
  exact ⟨rfl, bstep k14 b15⟩
end Go.Proofs.YtplipnchkkhdaaaGreatDoor
