/- The laws of rat against the reference: RatValid, RatOrders, RatComputes. -/
import Derived.Test.YtfgmjdhoeilhcaaGreatDoorKb
namespace Go.Proofs.YtfgmjdhoeilhcaaGreatDoor
open Go.RowKit
set_option linter.unusedVariables false

theorem cells1 (w : World) (a : ByteArray) : ∀ j (h : j < [a].length), (w.alloc (.cells #[.string a] 9)).cell? ⟨w.heap.size, j, none⟩ = some (.string [a][j]) := fun j h => by
  rw [cell_of_row (w.alloc _) w.heap.size j _ _ (0, 0) (heap_alloc_new w _)]
  match j, h with
  | 0, _ => rfl
theorem cells2 (w : World) (a b : ByteArray) : ∀ j (h : j < [a, b].length), (w.alloc (.cells #[.string a, .string b] 9)).cell? ⟨w.heap.size, j, none⟩ = some (.string [a, b][j]) := fun j h => by
  rw [cell_of_row (w.alloc _) w.heap.size j _ _ (0, 0) (heap_alloc_new w _)]
  match j, h with
  | 0, _ => rfl
  | 1, _ => rfl
theorem cells3 (w : World) (a b c : ByteArray) : ∀ j (h : j < [a, b, c].length), (w.alloc (.cells #[.string a, .string b, .string c] 9)).cell? ⟨w.heap.size, j, none⟩ = some (.string [a, b, c][j]) := fun j h => by
  rw [cell_of_row (w.alloc _) w.heap.size j _ _ (0, 0) (heap_alloc_new w _)]
  match j, h with
  | 0, _ => rfl
  | 1, _ => rfl
  | 2, _ => rfl
set_option maxHeartbeats 2000000 in
set_option maxRecDepth 100000 in
theorem ratValid_law (a : ByteArray) (w : World) (hT : Tabs w) :
    Calls Tryz.prog 3 #[.string a] w fun e w' => e = .returned (.bool true) ∧ Below w.heap.size w w' := by
  have hb0 : Below w.heap.size w (w.alloc (.cells #[.string a] 9)) := (Below.refl _ w).alloc (Nat.le_refl _) _
  have hl := large_any w.heap.size 1 [a] _ (cells1 w a) (by simp)
  have hT0 := hT.below hb0
  by_cases h : 1200 < a.size
  · rw [show longB [a] = true from by simp [longB, h]] at hl
    clear h
    go_enter Tryz.func3, Tryz.ntmps3
    go_wp2_with fail
    refine hl.mono ?_
    rintro e w1 ⟨rfl, rfl⟩
    go_wp2_with fail
    refine (awake_any _ hT0).mono ?_
    rintro e w2 ⟨rfl, b2⟩
    have hA2 := bstep hb0 b2
    go_wp2_with fail
    go_returns
    exact ⟨rfl, hA2⟩
  · rw [show longB [a] = false from by simp [longB]; omega] at hl
    have p1 := fun W h => qparts_any a W h (by omega)
    have p2 := fun W => pparts_any a W (by omega)
    have p3 := fun W h => qvalid_any a W h (by omega)
    unfold partV at p1 p2
    rw [ratV_isSome] at p1 p2
    generalize (ratV a.data.toList).isSome = ok at *
    generalize (ratP a.data.toList).getD (false, [], []) = x at *
    generalize x.1 = s at *
    obtain ⟨F, hF⟩ : ∃ F : ByteArray, (⟨x.2.1.toArray⟩ : ByteArray) = F := ⟨_, rfl⟩
    obtain ⟨G, hG⟩ : ∃ F : ByteArray, (⟨x.2.2.toArray⟩ : ByteArray) = F := ⟨_, rfl⟩
    rw [hF, hG] at p1 p2
    have f1 : (F.toList == F.toList) = true := beq_self_eq_true _
    have f2 : (G.toList == G.toList) = true := beq_self_eq_true _
    have f3 : (ok == ok) = true := beq_self_eq_true _
    have f4 : (s == s) = true := beq_self_eq_true _
    clear h hF hG
    go_enter Tryz.func3, Tryz.ntmps3
    go_wp2_with fail
    refine hl.mono ?_
    rintro e w1 ⟨rfl, rfl⟩
    go_wp2_with fail
    refine (p1 _ hT0).mono ?_
    rintro e w2 ⟨rfl, b2⟩
    have hA2 := bstep hb0 b2
    go_wp2_with fail
    refine (p2 _).mono ?_
    rintro e w3 ⟨rfl, b3⟩
    have hA3 := bstep hA2 b3
    go_wp2_with fail
    refine (p3 _ (hT.below hA3)).mono ?_
    rintro e w4 ⟨rfl, b4⟩
    have hA4 := bstep hA3 b4
    go_wp2_with fail
    refine (awake_any _ (hT.below hA4)).mono ?_
    rintro e w5 ⟨rfl, b5⟩
    have hA5 := bstep hA4 b5
    go_wp2_with fail
    go_returns
    exact ⟨rfl, hA5⟩
set_option maxHeartbeats 2000000 in
set_option maxRecDepth 100000 in
theorem ratOrders_law (a b : ByteArray) (w : World) (hT : Tabs w) :
    Calls Tryz.prog 5 #[.string a, .string b] w fun e w' => e = .returned (.bool true) ∧ Below w.heap.size w w' := by
  have hb0 : Below w.heap.size w (w.alloc (.cells #[.string a, .string b] 9)) := (Below.refl _ w).alloc (Nat.le_refl _) _
  have hl := large_any w.heap.size 2 [a, b] _ (cells2 w a b) (by simp)
  have hT0 := hT.below hb0
  by_cases h : 1200 < a.size ∨ 1200 < b.size
  · rw [show longB [a, b] = true from by simp [longB, h]] at hl
    clear h
    go_enter Tryz.func5, Tryz.ntmps5
    go_wp2_with fail
    refine hl.mono ?_
    rintro e w1 ⟨rfl, rfl⟩
    go_wp2_with fail
    refine (awake_any _ hT0).mono ?_
    rintro e w2 ⟨rfl, b2⟩
    have hA2 := bstep hb0 b2
    go_wp2_with fail
    go_returns
    exact ⟨rfl, hA2⟩
  · rw [show longB [a, b] = false from by simp [longB]; omega] at hl
    have p1 := fun W h => qneg_any a W h (by omega)
    have p2 := fun W => pneg_any a W (by omega)
    have p3 := fun W h => qcmp_any a b W h (by omega) (by omega)
    have p4 := fun W => pcmp_any a b W (by omega) (by omega)
    unfold TxtPost at p1 p2
    generalize ratNeg a.data.toList = r at *
    generalize ratCmp a.data.toList b.data.toList = cc at *
    generalize r.2 = c at *
    obtain ⟨F, hF⟩ : ∃ F : ByteArray, (⟨r.1.toArray⟩ : ByteArray) = F := ⟨_, rfl⟩
    rw [hF] at p1 p2
    have f1 : (F.toList == F.toList) = true := beq_self_eq_true _
    have f3 : (cc == cc) = true := beq_self_eq_true _
    have f4 : ((c : Int) == (c : Int)) = true := beq_self_eq_true _
    clear h hF
    go_enter Tryz.func5, Tryz.ntmps5
    go_wp2_with fail
    refine hl.mono ?_
    rintro e w1 ⟨rfl, rfl⟩
    go_wp2_with fail
    refine (p1 _ hT0).mono ?_
    rintro e w2 ⟨rfl, b2⟩
    have hA2 := bstep hb0 b2
    go_wp2_with fail
    refine (p2 _).mono ?_
    rintro e w3 ⟨rfl, b3⟩
    have hA3 := bstep hA2 b3
    go_wp2_with fail
    refine (p3 _ (hT.below hA3)).mono ?_
    rintro e w4 ⟨rfl, b4⟩
    have hA4 := bstep hA3 b4
    go_wp2_with fail
    refine (p4 _).mono ?_
    rintro e w5 ⟨rfl, b5⟩
    have hA5 := bstep hA4 b5
    go_wp2_with fail
    refine (awake_any _ (hT.below hA5)).mono ?_
    rintro e w6 ⟨rfl, b6⟩
    have hA6 := bstep hA5 b6
    go_wp2_with fail
    go_returns
    exact ⟨rfl, hA6⟩
set_option maxHeartbeats 4000000 in
set_option maxRecDepth 100000 in
theorem ratComputes_law (a b : ByteArray) (w : World) (hT : Tabs w) :
    Calls Tryz.prog 6 #[.string a, .string b] w fun e w' => e = .returned (.bool true) ∧ Below w.heap.size w w' := by
  have hb0 : Below w.heap.size w (w.alloc (.cells #[.string a, .string b] 9)) := (Below.refl _ w).alloc (Nat.le_refl _) _
  have hl := large_any w.heap.size 2 [a, b] _ (cells2 w a b) (by simp)
  have hT0 := hT.below hb0
  by_cases h : 1200 < a.size ∨ 1200 < b.size
  · rw [show longB [a, b] = true from by simp [longB, h]] at hl
    clear h
    go_enter Tryz.func6, Tryz.ntmps6
    go_wp2_with fail
    refine hl.mono ?_
    rintro e w1 ⟨rfl, rfl⟩
    go_wp2_with fail
    refine (awake_any _ hT0).mono ?_
    rintro e w2 ⟨rfl, b2⟩
    have hA2 := bstep hb0 b2
    go_wp2_with fail
    go_returns
    exact ⟨rfl, hA2⟩
  · rw [show longB [a, b] = false from by simp [longB]; omega] at hl
    have p1 := fun W h => qadd_any a b W h (by omega) (by omega)
    have p2 := fun W h => qsub_any a b W h (by omega) (by omega)
    have p3 := fun W h => qmul_any a b W h (by omega) (by omega)
    have p4 := fun W h => qdiv_any a b W h (by omega) (by omega)
    have p5 := fun W => padd_any a b W (by omega) (by omega)
    have p6 := fun W => psub_any a b W (by omega) (by omega)
    have p7 := fun W => pmul_any a b W (by omega) (by omega)
    have p8 := fun W => pdiv_any a b W (by omega) (by omega)
    unfold TxtPost at p1 p2 p3 p4 p5 p6 p7 p8
    generalize ratAdd a.data.toList b.data.toList = r1 at *
    generalize ratSub a.data.toList b.data.toList = r2 at *
    generalize ratMul a.data.toList b.data.toList = r3 at *
    generalize ratDiv a.data.toList b.data.toList = r4 at *
    generalize r1.2 = c1 at *
    generalize r2.2 = c2 at *
    generalize r3.2 = c3 at *
    generalize r4.2 = c4 at *
    obtain ⟨F1, hF1⟩ : ∃ F : ByteArray, (⟨r1.1.toArray⟩ : ByteArray) = F := ⟨_, rfl⟩
    obtain ⟨F2, hF2⟩ : ∃ F : ByteArray, (⟨r2.1.toArray⟩ : ByteArray) = F := ⟨_, rfl⟩
    obtain ⟨F3, hF3⟩ : ∃ F : ByteArray, (⟨r3.1.toArray⟩ : ByteArray) = F := ⟨_, rfl⟩
    obtain ⟨F4, hF4⟩ : ∃ F : ByteArray, (⟨r4.1.toArray⟩ : ByteArray) = F := ⟨_, rfl⟩
    rw [hF1] at p1 p5
    rw [hF2] at p2 p6
    rw [hF3] at p3 p7
    rw [hF4] at p4 p8
    have f1 : (F1.toList == F1.toList) = true := beq_self_eq_true _
    have f2 : (F2.toList == F2.toList) = true := beq_self_eq_true _
    have f3 : (F3.toList == F3.toList) = true := beq_self_eq_true _
    have f4 : (F4.toList == F4.toList) = true := beq_self_eq_true _
    have g1 : ((c1 : Int) == (c1 : Int)) = true := beq_self_eq_true _
    have g2 : ((c2 : Int) == (c2 : Int)) = true := beq_self_eq_true _
    have g3 : ((c3 : Int) == (c3 : Int)) = true := beq_self_eq_true _
    have g4 : ((c4 : Int) == (c4 : Int)) = true := beq_self_eq_true _
    clear h hF1 hF2 hF3 hF4
    go_enter Tryz.func6, Tryz.ntmps6
    go_wp2_with fail
    refine hl.mono ?_
    rintro e w1 ⟨rfl, rfl⟩
    go_wp2_with fail
    refine (p1 _ hT0).mono ?_
    rintro e w2 ⟨rfl, b2⟩
    have hA2 := bstep hb0 b2
    go_wp2_with fail
    refine (p2 _ (hT.below hA2)).mono ?_
    rintro e w3 ⟨rfl, b3⟩
    have hA3 := bstep hA2 b3
    go_wp2_with fail
    refine (p3 _ (hT.below hA3)).mono ?_
    rintro e w4 ⟨rfl, b4⟩
    have hA4 := bstep hA3 b4
    go_wp2_with fail
    refine (p4 _ (hT.below hA4)).mono ?_
    rintro e w5 ⟨rfl, b5⟩
    have hA5 := bstep hA4 b5
    go_wp2_with fail
    refine (p5 _).mono ?_
    rintro e w6 ⟨rfl, b6⟩
    have hA6 := bstep hA5 b6
    go_wp2_with fail
    refine (p6 _).mono ?_
    rintro e w7 ⟨rfl, b7⟩
    have hA7 := bstep hA6 b7
    go_wp2_with fail
    refine (p7 _).mono ?_
    rintro e w8 ⟨rfl, b8⟩
    have hA8 := bstep hA7 b8
    go_wp2_with fail
    refine (p8 _).mono ?_
    rintro e w9 ⟨rfl, b9⟩
    have hA9 := bstep hA8 b9
    go_wp2_with fail
    refine (awake_any _ (hT.below hA9)).mono ?_
    rintro e wa ⟨rfl, ba⟩
    have hAa := bstep hA9 ba
    go_wp2_with fail
    go_returns
    exact ⟨rfl, hAa⟩
end Go.Proofs.YtfgmjdhoeilhcaaGreatDoor
