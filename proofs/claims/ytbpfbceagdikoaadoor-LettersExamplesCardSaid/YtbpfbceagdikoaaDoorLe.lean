/- LettersExamples: the law's walk. -/
import Derived.Test.YtbpfbceagdikoaaDoorAw
import Derived.Deep.RegionWith
namespace Go.Proofs.YtbpfbceagdikoaaDoor
open Go.RowKit
set_option linter.unusedVariables false

theorem ls0 : splitL [] = [] ∧ splitAt [] = 0 ∧ splitE [] = 0 := by decide +kernel
theorem ls1 : splitL [237, 160, 128] = [] ∧ splitAt [237, 160, 128] = 0 ∧ splitE [237, 160, 128] = 3 := by decide +kernel
theorem ls2 : splitL [192, 128] = [] ∧ splitAt [192, 128] = 0 ∧ splitE [192, 128] = 3 := by decide +kernel
theorem ls3 : splitL [97, 226, 130] = [] ∧ splitAt [97, 226, 130] = 1 ∧ splitE [97, 226, 130] = 3 := by decide +kernel
theorem lc0 : classL [195, 169] = 1 := by decide +kernel
theorem lc1 : classL [195, 183] = 6 := by decide +kernel
theorem lc2 : classL [53] = 3 := by decide +kernel
theorem lc3 : classL [32] = 4 := by decide +kernel
theorem lc4 : classL [37] = 5 := by decide +kernel
theorem lc5 : classL [226, 130, 172] = 6 := by decide +kernel
theorem lc6 : classL [97, 98] = 0 := by decide +kernel
theorem lq0 : quoteL [] = [37, 48] := by decide +kernel
theorem lq1 : quoteL [97, 32, 98] = [97, 37, 32, 98] := by decide +kernel
theorem lq2 : quoteL [200] = [37, 120, 99, 56] := by decide +kernel
theorem lu0 : unquoteL [37, 37] = some [37] := by decide +kernel
theorem lu1 : unquoteL [37, 48] = some [] := by decide +kernel
theorem cm0 : Lib.compareBytes [195, 169] [122] = 1 := by decide +kernel
theorem cm1 : Lib.compareBytes [] [] = 0 := by decide +kernel
/-- the texts that Unquote refuses -/
def badT : List Bs := [[37, 120, 52, 49], [97, 37], [120, 37, 48], [], [37, 97], [97, 45], [37, 120, 48, 65], [37, 120, 99, 51, 37, 120, 97, 57]]
theorem badT_none : ∀ t ∈ badT, unquoteL t = none := by decide +kernel
theorem badT_len : ∀ t ∈ badT, t.length ≤ 8 := by decide +kernel

set_option maxHeartbeats 8000000 in
set_option maxRecDepth 100000 in
theorem examples_law (w : World) (hT : Tabs w) :
    Calls Tryd.prog 3 #[] w fun e w' => e = .returned (.bool true) ∧ Below w.heap.size w w' := by
  have hA : Below w.heap.size w w := Below.refl _ _
  have s0 : ∀ W, Tabs W → Calls Tryd.prog 12 #[.string ⟨#[]⟩] W (SplitPost W [] 0 0) := fun W hW => by
    have h := split_every ⟨#[]⟩ W hW
    simp only [ls0.1, ls0.2.1, ls0.2.2] at h
    exact h
  have s1 : ∀ W, Tabs W → Calls Tryd.prog 12 #[.string ⟨#[237, 160, 128]⟩] W (SplitPost W [] 0 3) := fun W hW => by
    have h := split_every ⟨#[237, 160, 128]⟩ W hW
    simp only [ls1.1, ls1.2.1, ls1.2.2] at h
    exact h
  have s2 : ∀ W, Tabs W → Calls Tryd.prog 12 #[.string ⟨#[192, 128]⟩] W (SplitPost W [] 0 3) := fun W hW => by
    have h := split_every ⟨#[192, 128]⟩ W hW
    simp only [ls2.1, ls2.2.1, ls2.2.2] at h
    exact h
  have s3 : ∀ W, Tabs W → Calls Tryd.prog 12 #[.string ⟨#[97, 226, 130]⟩] W (SplitPost W [] 1 3) := fun W hW => by
    have h := split_every ⟨#[97, 226, 130]⟩ W hW
    simp only [ls3.1, ls3.2.1, ls3.2.2] at h
    exact h
  have k0 : ∀ W, Tabs W → Calls Tryd.prog 13 #[.string ⟨#[195, 169]⟩] W fun e w' => e = .returned (.int .i64 1) ∧ Below W.heap.size W w' := fun W hW => by
    have h := class_any ⟨#[195, 169]⟩ W hW
    simp only [lc0] at h
    exact h
  have k1 : ∀ W, Tabs W → Calls Tryd.prog 13 #[.string ⟨#[195, 183]⟩] W fun e w' => e = .returned (.int .i64 6) ∧ Below W.heap.size W w' := fun W hW => by
    have h := class_any ⟨#[195, 183]⟩ W hW
    simp only [lc1] at h
    exact h
  have k2 : ∀ W, Tabs W → Calls Tryd.prog 13 #[.string ⟨#[53]⟩] W fun e w' => e = .returned (.int .i64 3) ∧ Below W.heap.size W w' := fun W hW => by
    have h := class_any ⟨#[53]⟩ W hW
    simp only [lc2] at h
    exact h
  have k3 : ∀ W, Tabs W → Calls Tryd.prog 13 #[.string ⟨#[32]⟩] W fun e w' => e = .returned (.int .i64 4) ∧ Below W.heap.size W w' := fun W hW => by
    have h := class_any ⟨#[32]⟩ W hW
    simp only [lc3] at h
    exact h
  have k4 : ∀ W, Tabs W → Calls Tryd.prog 13 #[.string ⟨#[37]⟩] W fun e w' => e = .returned (.int .i64 5) ∧ Below W.heap.size W w' := fun W hW => by
    have h := class_any ⟨#[37]⟩ W hW
    simp only [lc4] at h
    exact h
  have k5 : ∀ W, Tabs W → Calls Tryd.prog 13 #[.string ⟨#[226, 130, 172]⟩] W fun e w' => e = .returned (.int .i64 6) ∧ Below W.heap.size W w' := fun W hW => by
    have h := class_any ⟨#[226, 130, 172]⟩ W hW
    simp only [lc5] at h
    exact h
  have k6 : ∀ W, Tabs W → Calls Tryd.prog 13 #[.string ⟨#[97, 98]⟩] W fun e w' => e = .returned (.int .i64 0) ∧ Below W.heap.size W w' := fun W hW => by
    have h := class_any ⟨#[97, 98]⟩ W hW
    simp only [lc6] at h
    exact h
  have q0 : ∀ W, Tabs W → Calls Tryd.prog 14 #[.string ⟨#[]⟩] W fun e w' => e = .returned (.string ⟨#[37, 48]⟩) ∧ Below W.heap.size W w' := fun W hW => by
    have h := quote_any ⟨#[]⟩ W hW (show 5 * (0 : Nat) ≤ 140737488355320 by decide)
    simp only [lq0] at h
    exact h
  have q1 : ∀ W, Tabs W → Calls Tryd.prog 14 #[.string ⟨#[97, 32, 98]⟩] W fun e w' => e = .returned (.string ⟨#[97, 37, 32, 98]⟩) ∧ Below W.heap.size W w' := fun W hW => by
    have h := quote_any ⟨#[97, 32, 98]⟩ W hW (show 5 * (3 : Nat) ≤ 140737488355320 by decide)
    simp only [lq1] at h
    exact h
  have q2 : ∀ W, Tabs W → Calls Tryd.prog 14 #[.string ⟨#[200]⟩] W fun e w' => e = .returned (.string ⟨#[37, 120, 99, 56]⟩) ∧ Below W.heap.size W w' := fun W hW => by
    have h := quote_any ⟨#[200]⟩ W hW (show 5 * (1 : Nat) ≤ 140737488355320 by decide)
    simp only [lq2] at h
    exact h
  have u0 : ∀ W, Tabs W → Calls Tryd.prog 15 #[.string ⟨#[37, 37]⟩] W fun e w' => e = .returned (.tuple #[.string ⟨#[37]⟩, .int .i64 0]) ∧ Below W.heap.size W w' := fun W hW => by
    have h := unquote_any ⟨#[37, 37]⟩ W hW (show (2 : Nat) ≤ 1000000000 by decide)
    simp only [lu0] at h
    exact h
  have u1 : ∀ W, Tabs W → Calls Tryd.prog 15 #[.string ⟨#[37, 48]⟩] W fun e w' => e = .returned (.tuple #[.string ⟨#[]⟩, .int .i64 0]) ∧ Below W.heap.size W w' := fun W hW => by
    have h := unquote_any ⟨#[37, 48]⟩ W hW (show (2 : Nat) ≤ 1000000000 by decide)
    simp only [lu1] at h
    exact h
  have m0 : ∀ W, Calls Tryd.prog 16 #[.string ⟨#[195, 169]⟩, .string ⟨#[122]⟩] W fun e w' => e = .returned (.int .i64 1) ∧ Below W.heap.size W w' := fun W => by
    have h := compare_any ⟨#[195, 169]⟩ ⟨#[122]⟩ W
    simp only [cm0] at h
    exact h
  have m1 : ∀ W, Calls Tryd.prog 16 #[.string ⟨#[]⟩, .string ⟨#[]⟩] W fun e w' => e = .returned (.int .i64 0) ∧ Below W.heap.size W w' := fun W => by
    have h := compare_any ⟨#[]⟩ ⟨#[]⟩ W
    simp only [cm1] at h
    exact h
  go_enter Tryd.func3, Tryd.ntmps3
  go_wp2_with (first
    | (go_at_call_of 12 (Value.string ⟨#[]⟩); refine (s0 _ (hT.below hA)).mono ?_; rintro e wx ⟨A0, c0, rfl, _, _, hbx⟩; replace hA := bstep hA hbx)
    | (go_at_call_of 12 (Value.string ⟨#[237, 160, 128]⟩); refine (s1 _ (hT.below hA)).mono ?_; rintro e wx ⟨A1, c1, rfl, _, _, hbx⟩; replace hA := bstep hA hbx)
    | (go_at_call_of 12 (Value.string ⟨#[192, 128]⟩); refine (s2 _ (hT.below hA)).mono ?_; rintro e wx ⟨A2, c2, rfl, _, _, hbx⟩; replace hA := bstep hA hbx)
    | (go_at_call_of 12 (Value.string ⟨#[97, 226, 130]⟩); refine (s3 _ (hT.below hA)).mono ?_; rintro e wx ⟨A3, c3, rfl, _, _, hbx⟩; replace hA := bstep hA hbx)
    | (go_at_call_of 13 (Value.string ⟨#[195, 169]⟩); refine (k0 _ (hT.below hA)).mono ?_; rintro e wx ⟨rfl, hbx⟩; replace hA := bstep hA hbx)
    | (go_at_call_of 13 (Value.string ⟨#[195, 183]⟩); refine (k1 _ (hT.below hA)).mono ?_; rintro e wx ⟨rfl, hbx⟩; replace hA := bstep hA hbx)
    | (go_at_call_of 13 (Value.string ⟨#[53]⟩); refine (k2 _ (hT.below hA)).mono ?_; rintro e wx ⟨rfl, hbx⟩; replace hA := bstep hA hbx)
    | (go_at_call_of 13 (Value.string ⟨#[32]⟩); refine (k3 _ (hT.below hA)).mono ?_; rintro e wx ⟨rfl, hbx⟩; replace hA := bstep hA hbx)
    | (go_at_call_of 13 (Value.string ⟨#[37]⟩); refine (k4 _ (hT.below hA)).mono ?_; rintro e wx ⟨rfl, hbx⟩; replace hA := bstep hA hbx)
    | (go_at_call_of 13 (Value.string ⟨#[226, 130, 172]⟩); refine (k5 _ (hT.below hA)).mono ?_; rintro e wx ⟨rfl, hbx⟩; replace hA := bstep hA hbx)
    | (go_at_call_of 13 (Value.string ⟨#[97, 98]⟩); refine (k6 _ (hT.below hA)).mono ?_; rintro e wx ⟨rfl, hbx⟩; replace hA := bstep hA hbx)
    | (go_at_call_of 14 (Value.string ⟨#[]⟩); refine (q0 _ (hT.below hA)).mono ?_; rintro e wx ⟨rfl, hbx⟩; replace hA := bstep hA hbx)
    | (go_at_call_of 14 (Value.string ⟨#[97, 32, 98]⟩); refine (q1 _ (hT.below hA)).mono ?_; rintro e wx ⟨rfl, hbx⟩; replace hA := bstep hA hbx)
    | (go_at_call_of 14 (Value.string ⟨#[200]⟩); refine (q2 _ (hT.below hA)).mono ?_; rintro e wx ⟨rfl, hbx⟩; replace hA := bstep hA hbx)
    | (go_at_call_of 15 (Value.string ⟨#[37, 37]⟩); refine (u0 _ (hT.below hA)).mono ?_; rintro e wx ⟨rfl, hbx⟩; replace hA := bstep hA hbx)
    | (go_at_call_of 15 (Value.string ⟨#[37, 48]⟩); refine (u1 _ (hT.below hA)).mono ?_; rintro e wx ⟨rfl, hbx⟩; replace hA := bstep hA hbx)
    | (go_at_call_of 16 (Value.string ⟨#[195, 169]⟩); refine (m0 _).mono ?_; rintro e wx ⟨rfl, hbx⟩; replace hA := bstep hA hbx)
    | (go_at_call_of 16 (Value.string ⟨#[]⟩); refine (m1 _).mono ?_; rintro e wx ⟨rfl, hbx⟩; replace hA := bstep hA hbx)
    | (go_at_call 17; refine (awake_any _ (hT.below hA)).mono ?_; rintro e wx ⟨rfl, hbx⟩; replace hA := bstep hA hbx))
  have hrow : RowAt (wx.alloc (.cells #[.string ⟨#[37, 120, 52, 49]⟩, .string ⟨#[97, 37]⟩, .string ⟨#[120, 37, 48]⟩, .string ⟨#[]⟩, .string ⟨#[37, 97]⟩, .string ⟨#[97, 45]⟩, .string ⟨#[37, 120, 48, 65]⟩, .string ⟨#[37, 120, 99, 51, 37, 120, 97, 57]⟩] 9)) (some ⟨wx.heap.size, 0, none⟩) (badT.map S) := RowAt.lit wx (badT.map S) _ _
  have hA0 : Below w.heap.size w (wx.alloc (.cells #[.string ⟨#[37, 120, 52, 49]⟩, .string ⟨#[97, 37]⟩, .string ⟨#[120, 37, 48]⟩, .string ⟨#[]⟩, .string ⟨#[37, 97]⟩, .string ⟨#[97, 45]⟩, .string ⟨#[37, 120, 48, 65]⟩, .string ⟨#[37, 120, 99, 51, 37, 120, 97, 57]⟩] 9)) := hA.alloc hA.size _
  go_loopw [16, 118] (fun f i wr => ∃ (k : Nat), i = .int .i64 k ∧ f = .bool true ∧ k ≤ 8 ∧ Below w.heap.size w wr ∧ RowAt wr (some ⟨wx.heap.size, 0, none⟩) (badT.map S)) (fun _ i _ => 8 - (intOf i).toNat)
  case atStart => exact ⟨0, rfl, rfl, by omega, hA0, hrow⟩
  case round =>
    obtain ⟨k, rfl, rfl, hk, hbr, hrr⟩ := hrel
    by_cases hlt : k < 8
    · obtain ⟨b, o, hbo, hbl, hcell⟩ := hrr (by simp [badT])
      cases hbo
      obtain ⟨t, ht⟩ : ∃ t, badT[k]? = some t := by
        rw [List.getElem?_eq_getElem (show k < badT.length from hlt)]; exact ⟨_, rfl⟩
      have hc := hcell k (S t) (by rw [List.getElem?_map, ht]; rfl)
      rw [Nat.zero_add] at hc
      have hm := List.mem_of_getElem? ht
      have hq := unquote_any ⟨t.toArray⟩ wr (hT.below hbr) (by rw [Lib.size_eq]; have := badT_len t hm; simp; omega)
      have hn : unquoteL (⟨t.toArray⟩ : ByteArray).data.toList = none := badT_none t hm
      rw [hn] at hq
      have e1 : unqS none = [] := rfl
      have e2 : unqE none = 3 := rfl
      rw [e1, e2] at hq
      clear hcell hrow hA0 ht hm hn e1 e2
      have hk0 : (0 : Int) ≤ (k : Int) := by omega
      have hk1 : (k : Int) < 8 := by omega
      go_wp2_with (first
        | (go_at_call 15; refine hq.mono ?_; rintro e wq ⟨rfl, hbq⟩))
      go_round
      case rel => exact ⟨k + 1, by go_num, rfl, by omega, bstep hbr hbq, hrr.below hbq⟩
      case measure => simp [intOf]; omega
    · obtain rfl : k = 8 := by omega
      replace hA := hbr
      go_wp2_with (first
    | (go_at_call_of 12 (Value.string ⟨#[]⟩); refine (s0 _ (hT.below hA)).mono ?_; rintro e wx ⟨A0, c0, rfl, _, _, hbx⟩; replace hA := bstep hA hbx)
    | (go_at_call_of 12 (Value.string ⟨#[237, 160, 128]⟩); refine (s1 _ (hT.below hA)).mono ?_; rintro e wx ⟨A1, c1, rfl, _, _, hbx⟩; replace hA := bstep hA hbx)
    | (go_at_call_of 12 (Value.string ⟨#[192, 128]⟩); refine (s2 _ (hT.below hA)).mono ?_; rintro e wx ⟨A2, c2, rfl, _, _, hbx⟩; replace hA := bstep hA hbx)
    | (go_at_call_of 12 (Value.string ⟨#[97, 226, 130]⟩); refine (s3 _ (hT.below hA)).mono ?_; rintro e wx ⟨A3, c3, rfl, _, _, hbx⟩; replace hA := bstep hA hbx)
    | (go_at_call_of 13 (Value.string ⟨#[195, 169]⟩); refine (k0 _ (hT.below hA)).mono ?_; rintro e wx ⟨rfl, hbx⟩; replace hA := bstep hA hbx)
    | (go_at_call_of 13 (Value.string ⟨#[195, 183]⟩); refine (k1 _ (hT.below hA)).mono ?_; rintro e wx ⟨rfl, hbx⟩; replace hA := bstep hA hbx)
    | (go_at_call_of 13 (Value.string ⟨#[53]⟩); refine (k2 _ (hT.below hA)).mono ?_; rintro e wx ⟨rfl, hbx⟩; replace hA := bstep hA hbx)
    | (go_at_call_of 13 (Value.string ⟨#[32]⟩); refine (k3 _ (hT.below hA)).mono ?_; rintro e wx ⟨rfl, hbx⟩; replace hA := bstep hA hbx)
    | (go_at_call_of 13 (Value.string ⟨#[37]⟩); refine (k4 _ (hT.below hA)).mono ?_; rintro e wx ⟨rfl, hbx⟩; replace hA := bstep hA hbx)
    | (go_at_call_of 13 (Value.string ⟨#[226, 130, 172]⟩); refine (k5 _ (hT.below hA)).mono ?_; rintro e wx ⟨rfl, hbx⟩; replace hA := bstep hA hbx)
    | (go_at_call_of 13 (Value.string ⟨#[97, 98]⟩); refine (k6 _ (hT.below hA)).mono ?_; rintro e wx ⟨rfl, hbx⟩; replace hA := bstep hA hbx)
    | (go_at_call_of 14 (Value.string ⟨#[]⟩); refine (q0 _ (hT.below hA)).mono ?_; rintro e wx ⟨rfl, hbx⟩; replace hA := bstep hA hbx)
    | (go_at_call_of 14 (Value.string ⟨#[97, 32, 98]⟩); refine (q1 _ (hT.below hA)).mono ?_; rintro e wx ⟨rfl, hbx⟩; replace hA := bstep hA hbx)
    | (go_at_call_of 14 (Value.string ⟨#[200]⟩); refine (q2 _ (hT.below hA)).mono ?_; rintro e wx ⟨rfl, hbx⟩; replace hA := bstep hA hbx)
    | (go_at_call_of 15 (Value.string ⟨#[37, 37]⟩); refine (u0 _ (hT.below hA)).mono ?_; rintro e wx ⟨rfl, hbx⟩; replace hA := bstep hA hbx)
    | (go_at_call_of 15 (Value.string ⟨#[37, 48]⟩); refine (u1 _ (hT.below hA)).mono ?_; rintro e wx ⟨rfl, hbx⟩; replace hA := bstep hA hbx)
    | (go_at_call_of 16 (Value.string ⟨#[195, 169]⟩); refine (m0 _).mono ?_; rintro e wx ⟨rfl, hbx⟩; replace hA := bstep hA hbx)
    | (go_at_call_of 16 (Value.string ⟨#[]⟩); refine (m1 _).mono ?_; rintro e wx ⟨rfl, hbx⟩; replace hA := bstep hA hbx)
    | (go_at_call 17; refine (awake_any _ (hT.below hA)).mono ?_; rintro e wx ⟨rfl, hbx⟩; replace hA := bstep hA hbx))
      all_goals go_returns
      all_goals exact ⟨rfl, hA⟩
end Go.Proofs.YtbpfbceagdikoaaDoor
