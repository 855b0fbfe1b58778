/- Walks: compute and its closure; Add, Sub, Mul of rat. -/
import Derived.Test.YtfgmjdhoeilhcaaGreatDoorQh
namespace Go.Proofs.YtfgmjdhoeilhcaaGreatDoor
open Go.RowKit
set_option linter.unusedVariables false

theorem RedPost.of_eq {neg neg' : Bool} {m m' n n' : Nat} {w : World} {e : Ending} {w' : World} (h : RedPost neg m n w e w') (h1 : neg = neg') (h2 : m = m') (h3 : n = n') : RedPost neg' m' n' w e w' := by
  subst h1 h2 h3; exact h

set_option maxHeartbeats 2000000 in
set_option maxRecDepth 100000 in
theorem comp1_add (b1 b2 b3 : Nat) (X0 X1 X2 Y0 Y1 Y2 : Value) (neg : Bool) (m n : Nat) (w : World) (h1 : w.cell? ⟨b1, 0, none⟩ = some (.func (.func 56) #[] #[]))
    (hx : w.cell? ⟨b2, 0, none⟩ = some X0 ∧ w.cell? ⟨b2, 1, none⟩ = some X1 ∧ w.cell? ⟨b2, 2, none⟩ = some X2) (hy : w.cell? ⟨b3, 0, none⟩ = some Y0 ∧ w.cell? ⟨b3, 1, none⟩ = some Y1 ∧ w.cell? ⟨b3, 2, none⟩ = some Y2)
    (hc : ∀ W, Below w.heap.size w W → Calls Tryz.prog 56 #[.agg #[X0, X1, X2], .agg #[Y0, Y1, Y2]] W (RedPost neg m n W)) :
    Calls Tryz.prog 90 #[.pointer (some ⟨b1, 0, none⟩), .pointer (some ⟨b2, 0, none⟩), .pointer (some ⟨b3, 0, none⟩)] w (RedPost neg m n w) := by
  obtain ⟨x0, x1, x2⟩ := hx
  obtain ⟨y0, y1, y2⟩ := hy
  have hb0 : Below w.heap.size w (w.alloc (.cells #[.bool false, .string ⟨#[]⟩, .string ⟨#[]⟩] 43)) := (Below.refl _ w).alloc (Nat.le_refl _) _
  have hC := Cel3.new w (.bool false) (.string ⟨#[]⟩) (.string ⟨#[]⟩) 43
  have k1 := (hb0.cell (cell_lt h1)).trans h1
  have kx0 := (hb0.cell (cell_lt x0)).trans x0
  have kx1 := (hb0.cell (cell_lt x1)).trans x1
  have kx2 := (hb0.cell (cell_lt x2)).trans x2
  have ky0 := (hb0.cell (cell_lt y0)).trans y0
  have ky1 := (hb0.cell (cell_lt y1)).trans y1
  have ky2 := (hb0.cell (cell_lt y2)).trans y2
  have hcall := hc _ hb0
  obtain ⟨F1, hF1⟩ : ∃ F : ByteArray, (⟨(decT (m / Nat.gcd m n)).toArray⟩ : ByteArray) = F := ⟨_, rfl⟩
  obtain ⟨F2, hF2⟩ : ∃ F : ByteArray, (⟨(decT (n / Nat.gcd m n)).toArray⟩ : ByteArray) = F := ⟨_, rfl⟩
  obtain ⟨nb, hnb⟩ : ∃ b, (neg && decide (m ≠ 0)) = b := ⟨_, rfl⟩
  have hRV : redV neg m n = .agg #[.bool nb, .string F1, .string F2] := by unfold redV; rw [hnb, hF1, hF2]
  have HP : Hid (RedPost neg m n w = fun e w' => e = (if redLong m n = true then longP else .returned (.agg #[.bool nb, .string F1, .string F2])) ∧ Below w.heap.size w w') := by rw [Hid, ← hRV]; rfl
  unfold RedPost at hcall
  rw [hRV] at hcall
  clear hRV hF1 hF2 hnb hc h1 x0 x1 x2 y0 y1 y2
  go_enter Tryz.func90, Tryz.ntmps90
  go_wp2_with fail
  refine hcall.mono ?_
  rintro e wz ⟨he, hbz⟩
  have hCz := hC.below hbz
  have hBF := bstep hb0 hbz
  by_cases hl : redLong m n = true
  · rw [if_pos hl] at he
    subst he
    unfold longP
    go_wp2_with fail
    refine ⟨rfl, ?_⟩
    rw [HP.out, if_pos hl]
    exact ⟨rfl, hBF⟩
  · rw [if_neg hl] at he
    subst he
    obtain ⟨hlz, c0, c1, c2, f0, f1, f2⟩ := id hCz
    go_wp2_with fail
    have hCf := hCz.set (y' := .string F1) (.bool nb) (.string F2)
    refine bodyPost_ret (by simp [results, Tryz.results90, hCf.c0, hCf.c1, hCf.c2, go_sem]; try rfl) rfl ?_
    rw [HP.out, if_neg hl]
    exact ⟨rfl, (((hBF.setCell (p := ⟨w.heap.size, 0, none⟩) (Nat.le_refl _) _).setCell (p := ⟨w.heap.size, 1, none⟩) (Nat.le_refl _) _).setCell (p := ⟨w.heap.size, 2, none⟩) (Nat.le_refl _) _)⟩
set_option maxHeartbeats 2000000 in
set_option maxRecDepth 100000 in
theorem comp1_sub (b1 b2 b3 : Nat) (X0 X1 X2 Y0 Y1 Y2 : Value) (neg : Bool) (m n : Nat) (w : World) (h1 : w.cell? ⟨b1, 0, none⟩ = some (.func (.func 57) #[] #[]))
    (hx : w.cell? ⟨b2, 0, none⟩ = some X0 ∧ w.cell? ⟨b2, 1, none⟩ = some X1 ∧ w.cell? ⟨b2, 2, none⟩ = some X2) (hy : w.cell? ⟨b3, 0, none⟩ = some Y0 ∧ w.cell? ⟨b3, 1, none⟩ = some Y1 ∧ w.cell? ⟨b3, 2, none⟩ = some Y2)
    (hc : ∀ W, Below w.heap.size w W → Calls Tryz.prog 57 #[.agg #[X0, X1, X2], .agg #[Y0, Y1, Y2]] W (RedPost neg m n W)) :
    Calls Tryz.prog 90 #[.pointer (some ⟨b1, 0, none⟩), .pointer (some ⟨b2, 0, none⟩), .pointer (some ⟨b3, 0, none⟩)] w (RedPost neg m n w) := by
  obtain ⟨x0, x1, x2⟩ := hx
  obtain ⟨y0, y1, y2⟩ := hy
  have hb0 : Below w.heap.size w (w.alloc (.cells #[.bool false, .string ⟨#[]⟩, .string ⟨#[]⟩] 43)) := (Below.refl _ w).alloc (Nat.le_refl _) _
  have hC := Cel3.new w (.bool false) (.string ⟨#[]⟩) (.string ⟨#[]⟩) 43
  have k1 := (hb0.cell (cell_lt h1)).trans h1
  have kx0 := (hb0.cell (cell_lt x0)).trans x0
  have kx1 := (hb0.cell (cell_lt x1)).trans x1
  have kx2 := (hb0.cell (cell_lt x2)).trans x2
  have ky0 := (hb0.cell (cell_lt y0)).trans y0
  have ky1 := (hb0.cell (cell_lt y1)).trans y1
  have ky2 := (hb0.cell (cell_lt y2)).trans y2
  have hcall := hc _ hb0
  obtain ⟨F1, hF1⟩ : ∃ F : ByteArray, (⟨(decT (m / Nat.gcd m n)).toArray⟩ : ByteArray) = F := ⟨_, rfl⟩
  obtain ⟨F2, hF2⟩ : ∃ F : ByteArray, (⟨(decT (n / Nat.gcd m n)).toArray⟩ : ByteArray) = F := ⟨_, rfl⟩
  obtain ⟨nb, hnb⟩ : ∃ b, (neg && decide (m ≠ 0)) = b := ⟨_, rfl⟩
  have hRV : redV neg m n = .agg #[.bool nb, .string F1, .string F2] := by unfold redV; rw [hnb, hF1, hF2]
  have HP : Hid (RedPost neg m n w = fun e w' => e = (if redLong m n = true then longP else .returned (.agg #[.bool nb, .string F1, .string F2])) ∧ Below w.heap.size w w') := by rw [Hid, ← hRV]; rfl
  unfold RedPost at hcall
  rw [hRV] at hcall
  clear hRV hF1 hF2 hnb hc h1 x0 x1 x2 y0 y1 y2
  go_enter Tryz.func90, Tryz.ntmps90
  go_wp2_with fail
  refine hcall.mono ?_
  rintro e wz ⟨he, hbz⟩
  have hCz := hC.below hbz
  have hBF := bstep hb0 hbz
  by_cases hl : redLong m n = true
  · rw [if_pos hl] at he
    subst he
    unfold longP
    go_wp2_with fail
    refine ⟨rfl, ?_⟩
    rw [HP.out, if_pos hl]
    exact ⟨rfl, hBF⟩
  · rw [if_neg hl] at he
    subst he
    obtain ⟨hlz, c0, c1, c2, f0, f1, f2⟩ := id hCz
    go_wp2_with fail
    have hCf := hCz.set (y' := .string F1) (.bool nb) (.string F2)
    refine bodyPost_ret (by simp [results, Tryz.results90, hCf.c0, hCf.c1, hCf.c2, go_sem]; try rfl) rfl ?_
    rw [HP.out, if_neg hl]
    exact ⟨rfl, (((hBF.setCell (p := ⟨w.heap.size, 0, none⟩) (Nat.le_refl _) _).setCell (p := ⟨w.heap.size, 1, none⟩) (Nat.le_refl _) _).setCell (p := ⟨w.heap.size, 2, none⟩) (Nat.le_refl _) _)⟩
set_option maxHeartbeats 2000000 in
set_option maxRecDepth 100000 in
theorem comp1_mul (b1 b2 b3 : Nat) (X0 X1 X2 Y0 Y1 Y2 : Value) (neg : Bool) (m n : Nat) (w : World) (h1 : w.cell? ⟨b1, 0, none⟩ = some (.func (.func 58) #[] #[]))
    (hx : w.cell? ⟨b2, 0, none⟩ = some X0 ∧ w.cell? ⟨b2, 1, none⟩ = some X1 ∧ w.cell? ⟨b2, 2, none⟩ = some X2) (hy : w.cell? ⟨b3, 0, none⟩ = some Y0 ∧ w.cell? ⟨b3, 1, none⟩ = some Y1 ∧ w.cell? ⟨b3, 2, none⟩ = some Y2)
    (hc : ∀ W, Below w.heap.size w W → Calls Tryz.prog 58 #[.agg #[X0, X1, X2], .agg #[Y0, Y1, Y2]] W (RedPost neg m n W)) :
    Calls Tryz.prog 90 #[.pointer (some ⟨b1, 0, none⟩), .pointer (some ⟨b2, 0, none⟩), .pointer (some ⟨b3, 0, none⟩)] w (RedPost neg m n w) := by
  obtain ⟨x0, x1, x2⟩ := hx
  obtain ⟨y0, y1, y2⟩ := hy
  have hb0 : Below w.heap.size w (w.alloc (.cells #[.bool false, .string ⟨#[]⟩, .string ⟨#[]⟩] 43)) := (Below.refl _ w).alloc (Nat.le_refl _) _
  have hC := Cel3.new w (.bool false) (.string ⟨#[]⟩) (.string ⟨#[]⟩) 43
  have k1 := (hb0.cell (cell_lt h1)).trans h1
  have kx0 := (hb0.cell (cell_lt x0)).trans x0
  have kx1 := (hb0.cell (cell_lt x1)).trans x1
  have kx2 := (hb0.cell (cell_lt x2)).trans x2
  have ky0 := (hb0.cell (cell_lt y0)).trans y0
  have ky1 := (hb0.cell (cell_lt y1)).trans y1
  have ky2 := (hb0.cell (cell_lt y2)).trans y2
  have hcall := hc _ hb0
  obtain ⟨F1, hF1⟩ : ∃ F : ByteArray, (⟨(decT (m / Nat.gcd m n)).toArray⟩ : ByteArray) = F := ⟨_, rfl⟩
  obtain ⟨F2, hF2⟩ : ∃ F : ByteArray, (⟨(decT (n / Nat.gcd m n)).toArray⟩ : ByteArray) = F := ⟨_, rfl⟩
  obtain ⟨nb, hnb⟩ : ∃ b, (neg && decide (m ≠ 0)) = b := ⟨_, rfl⟩
  have hRV : redV neg m n = .agg #[.bool nb, .string F1, .string F2] := by unfold redV; rw [hnb, hF1, hF2]
  have HP : Hid (RedPost neg m n w = fun e w' => e = (if redLong m n = true then longP else .returned (.agg #[.bool nb, .string F1, .string F2])) ∧ Below w.heap.size w w') := by rw [Hid, ← hRV]; rfl
  unfold RedPost at hcall
  rw [hRV] at hcall
  clear hRV hF1 hF2 hnb hc h1 x0 x1 x2 y0 y1 y2
  go_enter Tryz.func90, Tryz.ntmps90
  go_wp2_with fail
  refine hcall.mono ?_
  rintro e wz ⟨he, hbz⟩
  have hCz := hC.below hbz
  have hBF := bstep hb0 hbz
  by_cases hl : redLong m n = true
  · rw [if_pos hl] at he
    subst he
    unfold longP
    go_wp2_with fail
    refine ⟨rfl, ?_⟩
    rw [HP.out, if_pos hl]
    exact ⟨rfl, hBF⟩
  · rw [if_neg hl] at he
    subst he
    obtain ⟨hlz, c0, c1, c2, f0, f1, f2⟩ := id hCz
    go_wp2_with fail
    have hCf := hCz.set (y' := .string F1) (.bool nb) (.string F2)
    refine bodyPost_ret (by simp [results, Tryz.results90, hCf.c0, hCf.c1, hCf.c2, go_sem]; try rfl) rfl ?_
    rw [HP.out, if_neg hl]
    exact ⟨rfl, (((hBF.setCell (p := ⟨w.heap.size, 0, none⟩) (Nat.le_refl _) _).setCell (p := ⟨w.heap.size, 1, none⟩) (Nat.le_refl _) _).setCell (p := ⟨w.heap.size, 2, none⟩) (Nat.le_refl _) _)⟩
set_option maxHeartbeats 2000000 in
set_option maxRecDepth 100000 in
theorem comp1_div (b1 b2 b3 : Nat) (X0 X1 X2 Y0 Y1 Y2 : Value) (neg : Bool) (m n : Nat) (w : World) (h1 : w.cell? ⟨b1, 0, none⟩ = some (.func (.func 59) #[] #[]))
    (hx : w.cell? ⟨b2, 0, none⟩ = some X0 ∧ w.cell? ⟨b2, 1, none⟩ = some X1 ∧ w.cell? ⟨b2, 2, none⟩ = some X2) (hy : w.cell? ⟨b3, 0, none⟩ = some Y0 ∧ w.cell? ⟨b3, 1, none⟩ = some Y1 ∧ w.cell? ⟨b3, 2, none⟩ = some Y2)
    (hc : ∀ W, Below w.heap.size w W → Calls Tryz.prog 59 #[.agg #[X0, X1, X2], .agg #[Y0, Y1, Y2]] W (RedPost neg m n W)) :
    Calls Tryz.prog 90 #[.pointer (some ⟨b1, 0, none⟩), .pointer (some ⟨b2, 0, none⟩), .pointer (some ⟨b3, 0, none⟩)] w (RedPost neg m n w) := by
  obtain ⟨x0, x1, x2⟩ := hx
  obtain ⟨y0, y1, y2⟩ := hy
  have hb0 : Below w.heap.size w (w.alloc (.cells #[.bool false, .string ⟨#[]⟩, .string ⟨#[]⟩] 43)) := (Below.refl _ w).alloc (Nat.le_refl _) _
  have hC := Cel3.new w (.bool false) (.string ⟨#[]⟩) (.string ⟨#[]⟩) 43
  have k1 := (hb0.cell (cell_lt h1)).trans h1
  have kx0 := (hb0.cell (cell_lt x0)).trans x0
  have kx1 := (hb0.cell (cell_lt x1)).trans x1
  have kx2 := (hb0.cell (cell_lt x2)).trans x2
  have ky0 := (hb0.cell (cell_lt y0)).trans y0
  have ky1 := (hb0.cell (cell_lt y1)).trans y1
  have ky2 := (hb0.cell (cell_lt y2)).trans y2
  have hcall := hc _ hb0
  obtain ⟨F1, hF1⟩ : ∃ F : ByteArray, (⟨(decT (m / Nat.gcd m n)).toArray⟩ : ByteArray) = F := ⟨_, rfl⟩
  obtain ⟨F2, hF2⟩ : ∃ F : ByteArray, (⟨(decT (n / Nat.gcd m n)).toArray⟩ : ByteArray) = F := ⟨_, rfl⟩
  obtain ⟨nb, hnb⟩ : ∃ b, (neg && decide (m ≠ 0)) = b := ⟨_, rfl⟩
  have hRV : redV neg m n = .agg #[.bool nb, .string F1, .string F2] := by unfold redV; rw [hnb, hF1, hF2]
  have HP : Hid (RedPost neg m n w = fun e w' => e = (if redLong m n = true then longP else .returned (.agg #[.bool nb, .string F1, .string F2])) ∧ Below w.heap.size w w') := by rw [Hid, ← hRV]; rfl
  unfold RedPost at hcall
  rw [hRV] at hcall
  clear hRV hF1 hF2 hnb hc h1 x0 x1 x2 y0 y1 y2
  go_enter Tryz.func90, Tryz.ntmps90
  go_wp2_with fail
  refine hcall.mono ?_
  rintro e wz ⟨he, hbz⟩
  have hCz := hC.below hbz
  have hBF := bstep hb0 hbz
  by_cases hl : redLong m n = true
  · rw [if_pos hl] at he
    subst he
    unfold longP
    go_wp2_with fail
    refine ⟨rfl, ?_⟩
    rw [HP.out, if_pos hl]
    exact ⟨rfl, hBF⟩
  · rw [if_neg hl] at he
    subst he
    obtain ⟨hlz, c0, c1, c2, f0, f1, f2⟩ := id hCz
    go_wp2_with fail
    have hCf := hCz.set (y' := .string F1) (.bool nb) (.string F2)
    refine bodyPost_ret (by simp [results, Tryz.results90, hCf.c0, hCf.c1, hCf.c2, go_sem]; try rfl) rfl ?_
    rw [HP.out, if_neg hl]
    exact ⟨rfl, (((hBF.setCell (p := ⟨w.heap.size, 0, none⟩) (Nat.le_refl _) _).setCell (p := ⟨w.heap.size, 1, none⟩) (Nat.le_refl _) _).setCell (p := ⟨w.heap.size, 2, none⟩) (Nat.le_refl _) _)⟩
/-- what parse hands on of a text that is a number -/
theorem num_of {a : ByteArray} {x : Rat} (h : ratV a.data.toList = some x) : ∃ A D : ByteArray, ratP a.data.toList = some (decide (x.num < 0), A.data.toList, D.data.toList) ∧ Num A D x.num.natAbs x.den := by
  obtain ⟨h1, h2, h3, h4⟩ := ratV_some h
  refine ⟨⟨(decT x.num.natAbs).toArray⟩, ⟨(decT x.den).toArray⟩, h4, ⟨rfl, rfl, ?_, ?_, x.den_nz⟩⟩
  · rw [Lib.size_eq]; exact h2
  · rw [Lib.size_eq]; exact h3
theorem rat_self (x : Rat) : mkRat (sgn (decide (x.num < 0)) x.num.natAbs) x.den = x := by rw [sgn_of, Rat.mkRat_self]
theorem mkT_add (x y : Rat) : mkT (addS (decide (x.num < 0)) (x.num.natAbs * y.den) (decide (y.num < 0)) (y.num.natAbs * x.den)).1 (addS (decide (x.num < 0)) (x.num.natAbs * y.den) (decide (y.num < 0)) (y.num.natAbs * x.den)).2 (x.den * y.den) = limR (x + y) := by
  unfold mkT
  rw [← rat_add _ _ _ _ _ _ x.den_nz y.den_nz, rat_self, rat_self]
theorem sgn_not (q : Bool) (n : Nat) : sgn (!q) n = -sgn q n := by unfold sgn; cases q <;> simp
theorem mkT_sub (x y : Rat) : mkT (addS (decide (x.num < 0)) (x.num.natAbs * y.den) (!decide (y.num < 0)) (y.num.natAbs * x.den)).1 (addS (decide (x.num < 0)) (x.num.natAbs * y.den) (!decide (y.num < 0)) (y.num.natAbs * x.den)).2 (x.den * y.den) = limR (x - y) := by
  unfold mkT
  rw [← rat_add _ _ _ _ _ _ x.den_nz y.den_nz, rat_self, sgn_not, ← Rat.neg_mkRat, rat_self, Rat.sub_eq_add_neg]
theorem mkT_mul (x y : Rat) : mkT (decide (x.num < 0) != decide (y.num < 0)) (x.num.natAbs * y.num.natAbs) (x.den * y.den) = limR (x * y) := by
  unfold mkT
  rw [← rat_mul, rat_self, rat_self]
theorem num_ne {y : Rat} (h : y ≠ 0) : y.num.natAbs ≠ 0 := by
  intro e
  apply h
  have : y.num = 0 := by omega
  rw [← Rat.mkRat_self y, this, Rat.zero_mkRat]
theorem mkT_div (x y : Rat) (h : y ≠ 0) : mkT (decide (x.num < 0) != decide (y.num < 0)) (x.num.natAbs * y.den) (x.den * y.num.natAbs) = limR (x / y) := by
  unfold mkT
  rw [← rat_mul, rat_self, ← rat_inv _ _ _ y.den_nz (num_ne h), rat_self, Rat.div_def]
end Go.Proofs.YtfgmjdhoeilhcaaGreatDoor
