/- Walks: Add, Sub, Mul, Div, Neg, Valid, Parts, Make of rat. -/
import Derived.Test.YtfgmjdhoeilhcaaGreatDoorQj
namespace Go.Proofs.YtfgmjdhoeilhcaaGreatDoor
open Go.RowKit
set_option linter.unusedVariables false

set_option maxHeartbeats 1000000 in
set_option maxRecDepth 100000 in
theorem qadd_any (a b : ByteArray) (w : World) (hT : Tabs w) (ha : a.size ≤ 1000000) (hb : b.size ≤ 1000000) :
    Calls Tryz.prog 23 #[.string a, .string b] w (TxtPost w (ratAdd a.data.toList b.data.toList)) := by
  have hc := compute_add a b w hT ha hb
  unfold TxtPost at hc ⊢
  go_enter Tryz.func23, Tryz.ntmps23
  go_wp2_with (go_at_call 55; refine hc.mono ?_; rintro e w1 ⟨rfl, b1⟩)
  go_returns
  exact ⟨rfl, b1⟩
set_option maxHeartbeats 1000000 in
set_option maxRecDepth 100000 in
theorem qsub_any (a b : ByteArray) (w : World) (hT : Tabs w) (ha : a.size ≤ 1000000) (hb : b.size ≤ 1000000) :
    Calls Tryz.prog 24 #[.string a, .string b] w (TxtPost w (ratSub a.data.toList b.data.toList)) := by
  have hc := compute_sub a b w hT ha hb
  unfold TxtPost at hc ⊢
  go_enter Tryz.func24, Tryz.ntmps24
  go_wp2_with (go_at_call 55; refine hc.mono ?_; rintro e w1 ⟨rfl, b1⟩)
  go_returns
  exact ⟨rfl, b1⟩
set_option maxHeartbeats 1000000 in
set_option maxRecDepth 100000 in
theorem qmul_any (a b : ByteArray) (w : World) (hT : Tabs w) (ha : a.size ≤ 1000000) (hb : b.size ≤ 1000000) :
    Calls Tryz.prog 25 #[.string a, .string b] w (TxtPost w (ratMul a.data.toList b.data.toList)) := by
  have hc := compute_mul a b w hT ha hb
  unfold TxtPost at hc ⊢
  go_enter Tryz.func25, Tryz.ntmps25
  go_wp2_with (go_at_call 55; refine hc.mono ?_; rintro e w1 ⟨rfl, b1⟩)
  go_returns
  exact ⟨rfl, b1⟩
set_option maxHeartbeats 1000000 in
set_option maxRecDepth 100000 in
theorem qneg_any (a : ByteArray) (w : World) (hT : Tabs w) (ha : a.size ≤ 1000000) :
    Calls Tryz.prog 19 #[.string a] w (TxtPost w (ratNeg a.data.toList)) := by
  have hc := qsub_any ⟨#[48]⟩ a w hT (by show 1 ≤ _; omega) ha
  have e : ratNeg a.data.toList = ratSub (⟨#[48]⟩ : ByteArray).data.toList a.data.toList := rfl
  rw [e]
  unfold TxtPost at hc ⊢
  clear e
  go_enter Tryz.func19, Tryz.ntmps19
  go_wp2_with (go_at_call 24; refine hc.mono ?_; rintro e w1 ⟨rfl, b1⟩)
  go_returns
  exact ⟨rfl, b1⟩
theorem ratV_isSome (l : Bs) : (ratP l).isSome = (ratV l).isSome := by unfold ratV; rw [Option.isSome_map]
set_option maxHeartbeats 1000000 in
set_option maxRecDepth 100000 in
theorem qvalid_any (a : ByteArray) (w : World) (hT : Tabs w) (ha : a.size ≤ 1000000) :
    Calls Tryz.prog 14 #[.string a] w fun e w' => e = .returned (.bool (ratV a.data.toList).isSome) ∧ Below w.heap.size w w' := by
  have hc := parse_any a w hT ha
  rw [ratV_isSome] at hc
  generalize numV ((ratP a.data.toList).getD (false, [], [])) = nv at *
  generalize (ratV a.data.toList).isSome = ok at *
  go_enter Tryz.func14, Tryz.ntmps14
  go_wp2_with (go_at_call 33; refine hc.mono ?_; rintro e w1 ⟨rfl, b1⟩)
  go_returns
  exact ⟨rfl, b1⟩
theorem ratT_zero : ratT 0 = [48] := rfl
theorem ratV_zero : ratV [48] = some 0 := ratV_T (q := 0) (by decide) (by decide)
set_option maxHeartbeats 1000000 in
set_option maxRecDepth 100000 in
theorem qdiv_any (a b : ByteArray) (w : World) (hT : Tabs w) (ha : a.size ≤ 1000000) (hb : b.size ≤ 1000000) :
    Calls Tryz.prog 26 #[.string a, .string b] w (TxtPost w (ratDiv a.data.toList b.data.toList)) := by
  have hv := qvalid_any a w hT ha
  by_cases hz : (ratV a.data.toList).isSome = true ∧ b = ⟨#[48]⟩
  · obtain ⟨h1, rfl⟩ := hz
    have HK : Hid (ratDiv a.data.toList (⟨#[48]⟩ : ByteArray).data.toList = ([], 4)) := by
      obtain ⟨x, hx⟩ := Option.isSome_iff_exists.1 h1
      have hy : ratV (⟨#[48]⟩ : ByteArray).data.toList = some 0 := ratV_zero
      unfold Hid ratDiv ratOp
      rw [hx, hy]
      rfl
    rw [h1] at hv
    clear h1
    go_enter Tryz.func26, Tryz.ntmps26
    go_wp2_with (go_at_call 14; refine hv.mono ?_; rintro e w1 ⟨rfl, b1⟩)
    go_returns
    unfold TxtPost
    rw [HK.out]
    exact ⟨rfl, b1⟩
  · have hc := fun W h => compute_div a b W h ha hb (fun x y hx hy => by
      rintro rfl
      obtain ⟨e1, _⟩ := ratV_some hy
      exact hz ⟨by rw [hx]; rfl, str48 (by rw [e1, ratT_zero])⟩)
    unfold TxtPost at hc ⊢
    cases hs : (ratV a.data.toList).isSome with
    | false =>
      rw [hs] at hv
      clear hz hs
      go_enter Tryz.func26, Tryz.ntmps26
      go_wp2_with (first | (go_at_call 14; refine hv.mono ?_; rintro e w1 ⟨rfl, b1⟩; have hc1 := hc _ (hT.below b1)) | (go_at_call 55; refine hc1.mono ?_; rintro e w2 ⟨rfl, b2⟩; have hA2 := bstep b1 b2))
      go_returns
      exact ⟨rfl, hA2⟩
    | true =>
      rw [hs] at hv
      have hbne : ¬ b = ⟨#[48]⟩ := fun e => hz ⟨hs, e⟩
      have hbeq : (b.toList == [48]) = false := beq_eq_false_iff_ne.2 (fun e => hbne (str48 (by rw [← Lib.toList_data]; exact e)))
      clear hz hs hbne
      go_enter Tryz.func26, Tryz.ntmps26
      go_wp2_with (first | (go_at_call 14; refine hv.mono ?_; rintro e w1 ⟨rfl, b1⟩; have hc1 := hc _ (hT.below b1)) | (go_at_call 55; refine hc1.mono ?_; rintro e w2 ⟨rfl, b2⟩; have hA2 := bstep b1 b2))
      go_returns
      exact ⟨rfl, hA2⟩
/-- what Parts answers -/
def partV (l : Bs) : Value := .tuple #[.bool ((ratP l).getD (false, [], [])).1, .string ⟨((ratP l).getD (false, [], [])).2.1.toArray⟩, .string ⟨((ratP l).getD (false, [], [])).2.2.toArray⟩, .bool (ratP l).isSome]
set_option maxHeartbeats 1000000 in
set_option maxRecDepth 100000 in
theorem qparts_any (a : ByteArray) (w : World) (hT : Tabs w) (ha : a.size ≤ 1000000) :
    Calls Tryz.prog 12 #[.string a] w fun e w' => e = .returned (partV a.data.toList) ∧ Below w.heap.size w w' := by
  have hc := parse_any a w hT ha
  unfold partV
  unfold numV at hc
  generalize (ratP a.data.toList).isSome = ok at *
  generalize (ratP a.data.toList).getD (false, [], []) = nv at *
  generalize nv.1 = x0 at *
  obtain ⟨A, hA⟩ : ∃ F : ByteArray, (⟨nv.2.1.toArray⟩ : ByteArray) = F := ⟨_, rfl⟩
  obtain ⟨D, hD⟩ : ∃ F : ByteArray, (⟨nv.2.2.toArray⟩ : ByteArray) = F := ⟨_, rfl⟩
  rw [hA, hD] at hc ⊢
  clear hA hD
  go_enter Tryz.func12, Tryz.ntmps12
  go_wp2_with (go_at_call 33; refine hc.mono ?_; rintro e w1 ⟨rfl, b1⟩)
  have hB := b1.alloc b1.size (.cells #[.bool x0, .string A, .string D] 43)
  go_quiet (fail)
  go_wp2_with fail
  go_returns
  exact ⟨rfl, ⟨hB.os, hB.tape, hB.output, hB.size, hB.block⟩⟩
set_option maxHeartbeats 2000000 in
set_option maxRecDepth 100000 in
theorem make1_any (b1 b2 b3 : Nat) (neg : Bool) (A D : ByteArray) (m n : Nat) (w : World) (hT : Tabs w) (h1 : w.cell? ⟨b1, 0, none⟩ = some (.bool neg)) (h2 : w.cell? ⟨b2, 0, none⟩ = some (.string A)) (h3 : w.cell? ⟨b3, 0, none⟩ = some (.string D))
    (hA : A.data.toList = decT m) (hD : D.data.toList = decT n) (sA : A.size ≤ 1000) (sD : D.size ≤ 1000) (hn : n ≠ 0) :
    Calls Tryz.prog 39 #[.pointer (some ⟨b1, 0, none⟩), .pointer (some ⟨b2, 0, none⟩), .pointer (some ⟨b3, 0, none⟩)] w (RedPost neg m n w) := by
  have hb0 : Below w.heap.size w (w.alloc (.cells #[.bool false, .string ⟨#[]⟩, .string ⟨#[]⟩] 43)) := (Below.refl _ w).alloc (Nat.le_refl _) _
  have hC := Cel3.new w (.bool false) (.string ⟨#[]⟩) (.string ⟨#[]⟩) 43
  have k1 := (hb0.cell (cell_lt h1)).trans h1
  have k2 := (hb0.cell (cell_lt h2)).trans h2
  have k3 := (hb0.cell (cell_lt h3)).trans h3
  have hcall := reduce_any neg A D m n _ (hT.below hb0) hA hD sA sD hn
  obtain ⟨F1, hF1⟩ : ∃ F : ByteArray, (⟨(decT (m / Nat.gcd m n)).toArray⟩ : ByteArray) = F := ⟨_, rfl⟩
  obtain ⟨F2, hF2⟩ : ∃ F : ByteArray, (⟨(decT (n / Nat.gcd m n)).toArray⟩ : ByteArray) = F := ⟨_, rfl⟩
  obtain ⟨nb, hnb⟩ : ∃ b, (neg && decide (m ≠ 0)) = b := ⟨_, rfl⟩
  have hRV : redV neg m n = .agg #[.bool nb, .string F1, .string F2] := by unfold redV; rw [hnb, hF1, hF2]
  have HP : Hid (RedPost neg m n w = fun e w' => e = (if redLong m n = true then longP else .returned (.agg #[.bool nb, .string F1, .string F2])) ∧ Below w.heap.size w w') := by rw [Hid, ← hRV]; rfl
  unfold RedPost at hcall
  rw [hRV] at hcall
  clear hRV hF1 hF2 hnb h1 h2 h3 hA hD sA sD hn
  go_enter Tryz.func39, Tryz.ntmps39
  go_wp2_with fail
  refine hcall.mono ?_
  rintro e wz ⟨he, hbz⟩
  have hCz := hC.below hbz
  have hBF := bstep hb0 hbz
  by_cases hl : redLong m n = true
  · rw [if_pos hl] at he
    subst he
    unfold longP
    go_wp2_with fail
    refine ⟨rfl, ?_⟩
    rw [HP.out, if_pos hl]
    exact ⟨rfl, hBF⟩
  · rw [if_neg hl] at he
    subst he
    obtain ⟨hlz, c0, c1, c2, f0, f1, f2⟩ := id hCz
    go_wp2_with fail
    have hCf := hCz.set (y' := .string F1) (.bool nb) (.string F2)
    refine bodyPost_ret (by simp [results, Tryz.results39, hCf.c0, hCf.c1, hCf.c2, go_sem]; try rfl) rfl ?_
    rw [HP.out, if_neg hl]
    exact ⟨rfl, (((hBF.setCell (p := ⟨w.heap.size, 0, none⟩) (Nat.le_refl _) _).setCell (p := ⟨w.heap.size, 1, none⟩) (Nat.le_refl _) _).setCell (p := ⟨w.heap.size, 2, none⟩) (Nat.le_refl _) _)⟩
end Go.Proofs.YtfgmjdhoeilhcaaGreatDoor
