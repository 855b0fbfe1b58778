/- Walks: plus, minus, scaled. -/
import Derived.Test.YtfgmjdhoeilhcaaGreatDoorRy
namespace Go.Proofs.YtfgmjdhoeilhcaaGreatDoor
open Go.RowKit
set_option linter.unusedVariables false

theorem plus_blk (m n : Nat) : trimL (eachS plusF (blk m) (blk n) (max (blk m).length (blk n).length + 1)).1 = blk (m + n) := by
  obtain ⟨h1, h2⟩ := plus_val (blk_lt m) (blk_lt n) (n := max (blk m).length (blk n).length) (Nat.le_max_left _ _) (Nat.le_max_right _ _)
  rw [trimL_eq BB_two h2, h1, blk_val, blk_val]; rfl
theorem minus_blk {m n : Nat} (h : n ≤ m) : trimL (eachS minusF (blk m) (blk n) (max (blk m).length (blk n).length + 1)).1 = blk (m - n) := by
  obtain ⟨h1, _, h2⟩ := minus_val (blk_lt m) (blk_lt n) (n := max (blk m).length (blk n).length + 1) (by omega) (by omega) (by rw [blk_val, blk_val]; exact h)
  rw [trimL_eq BB_two h2, h1, blk_val, blk_val]; rfl
theorem scale_blk {k : Nat} (hk : k ≤ BB) (m : Nat) : trimL (eachS (scaleF k) (blk m) [] (max (blk m).length ([] : List Nat).length + 1)).1 = blk (k * m) := by
  obtain ⟨h1, h2⟩ := scale_val (k := k) (blk_lt m) hk (n := max (blk m).length ([] : List Nat).length) (Nat.le_max_left _ _)
  rw [trimL_eq BB_two h2, h1, blk_val]; rfl

set_option maxHeartbeats 1000000 in
set_option maxRecDepth 100000 in
theorem plusB_any (A B : Option Addr) (c d m n : Nat) (w : World)  (hA : RowAt w A ((blk m).map U)) (hB : RowAt w B ((blk n).map U)) (hm : (blk m).length ≤ 10000) (hn : (blk n).length ≤ 10000) :
    Calls Tryz.prog 108 #[.slice A (blk m).length c, .slice B (blk n).length d] w (BlkPost w (blk (m + n))) := by
  have he := each_plus A B c d w (blk m) (blk_lt m) (blk n) (blk_lt n) hA hB hm hn
  rw [plus_blk m n] at he
  generalize (blk m).length = M at *
  generalize (blk n).length = N at *
  go_enter Tryz.func108, Tryz.ntmps108
  go_wp2_with fail
  refine he.mono ?_
  rintro e w' ho
  obtain ⟨A', c', rfl, h1, h2, h3⟩ := ho.blk
  go_wp2_with fail
  go_returns
  exact ⟨A', c', rfl, h1, h2, h3⟩
set_option maxHeartbeats 1000000 in
set_option maxRecDepth 100000 in
theorem minusB_any (A B : Option Addr) (c d m n : Nat) (w : World) (hle : n ≤ m) (hA : RowAt w A ((blk m).map U)) (hB : RowAt w B ((blk n).map U)) (hm : (blk m).length ≤ 10000) (hn : (blk n).length ≤ 10000) :
    Calls Tryz.prog 110 #[.slice A (blk m).length c, .slice B (blk n).length d] w (BlkPost w (blk (m - n))) := by
  have he := each_minus A B c d w (blk m) (blk_lt m) (blk n) (blk_lt n) hA hB hm hn
  rw [minus_blk hle] at he
  generalize (blk m).length = M at *
  generalize (blk n).length = N at *
  go_enter Tryz.func110, Tryz.ntmps110
  go_wp2_with fail
  refine he.mono ?_
  rintro e w' ho
  obtain ⟨A', c', rfl, h1, h2, h3⟩ := ho.blk
  go_wp2_with fail
  go_returns
  exact ⟨A', c', rfl, h1, h2, h3⟩
set_option maxHeartbeats 1000000 in
set_option maxRecDepth 100000 in
theorem scaledB_any (A : Option Addr) (c m k : Nat) (w : World) (hk : k ≤ BB) (hA : RowAt w A ((blk m).map U)) (hm : (blk m).length ≤ 10000) :
    Calls Tryz.prog 112 #[.slice A (blk m).length c, .int .u64 k] w (OwnPost w (blk (k * m))) := by
  have hb0 : Below w.heap.size w (w.alloc (.cells #[.int .u64 k] 89)) := (Below.refl _ w).alloc (Nat.le_refl _) _
  have he := each_scale A none c 0 (w.alloc (.cells #[.int .u64 k] 89)) (blk m) (blk_lt m) k w.heap.size hk (by simp) (hA.below hb0) (RowAt.nil _ _) hm (by simp)
  rw [scale_blk hk] at he
  generalize (blk m).length = M at *
  go_enter Tryz.func112, Tryz.ntmps112
  go_wp2_with fail
  refine he.mono ?_
  rintro e w' ⟨v, rfl, ho, h3⟩
  go_wp2_with fail
  go_returns
  exact ⟨v, rfl, ho.lower (by simp), bstep hb0 h3⟩
end Go.Proofs.YtfgmjdhoeilhcaaGreatDoor
