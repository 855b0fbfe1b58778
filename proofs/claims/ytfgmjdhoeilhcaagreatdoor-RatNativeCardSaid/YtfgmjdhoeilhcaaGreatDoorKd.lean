/- RatField: the laws of a field and of an order. -/
import Derived.Test.YtfgmjdhoeilhcaaGreatDoorKc
namespace Go.Proofs.YtfgmjdhoeilhcaaGreatDoor
open Go.RowKit
set_option linter.unusedVariables false

theorem lim_ok {q : Rat} (h : (limR q).2 = 0) : limR q = (ratT q, 0) ∧ ratV (ratT q) = some q := by
  unfold limR at h ⊢
  split at h
  · cases h
  · rename_i hl
    rw [if_neg hl]
    exact ⟨rfl, ratV_T (by omega) (by omega)⟩
theorem lim_some {l : Bs} {q : Rat} (h : ratV l = some q) : limR q = (l, 0) := by
  obtain ⟨e, h1, h2, _⟩ := ratV_some h
  unfold limR
  rw [if_neg (by omega), ← e]
theorem ratT_len {q : Rat} (h1 : (decT q.num.natAbs).length ≤ 400) (h2 : (decT q.den).length ≤ 400) : (ratT q).length ≤ 802 := by
  unfold ratT
  rw [List.length_append, List.length_append]
  have a1 : (if q.num < 0 then [45] else ([] : Bs)).length ≤ 1 := by split <;> simp
  have a2 : (if q.den = 1 then ([] : Bs) else 47 :: decT q.den).length ≤ 401 := by split <;> simp; omega
  omega
theorem lim_len (q : Rat) : (limR q).1.length ≤ 802 := by
  unfold limR
  split
  · simp
  · exact ratT_len (by omega) (by omega)
theorem fieldSub {a b : Bs} {x y : Rat} (ha : ratV a = some x) (hb : ratV b = some y) (h : (ratAdd a b).2 = 0) : ratSub (ratAdd a b).1 b = (a, 0) := by
  have e : ratAdd a b = limR (x + y) := by unfold ratAdd ratOp; rw [ha, hb]
  rw [e] at h ⊢
  obtain ⟨h1, h2⟩ := lim_ok h
  rw [h1]
  unfold ratSub ratOp
  simp only [h2, hb, Rat.add_sub_cancel]
  exact lim_some ha
theorem rat_mul_div {x y : Rat} (hy : y ≠ 0) : x * y / y = x := by rw [Rat.div_def, Rat.mul_assoc, Rat.mul_inv_cancel y hy, Rat.mul_one]
theorem zero_text {b : Bs} {y : Rat} (hb : ratV b = some y) (h : b ≠ [48]) : y ≠ 0 := by
  rintro rfl
  exact h ((ratV_some hb).1.trans ratT_zero)
theorem fieldDiv {a b : Bs} {x y : Rat} (ha : ratV a = some x) (hb : ratV b = some y) (hy : b ≠ [48]) (h : (ratMul a b).2 = 0) : ratDiv (ratMul a b).1 b = (a, 0) := by
  have e : ratMul a b = limR (x * y) := by unfold ratMul ratOp; rw [ha, hb]
  rw [e] at h ⊢
  obtain ⟨h1, h2⟩ := lim_ok h
  rw [h1]
  unfold ratDiv ratOp
  simp only [h2, hb, if_neg (zero_text hb hy), rat_mul_div (zero_text hb hy)]
  exact lim_some ha
theorem fieldCmp {a b : Bs} {x y : Rat} (ha : ratV a = some x) (hb : ratV b = some y) (h : (ratSub a b).2 = 0) : ratCmp (ratSub a b).1 [48] = ratCmp a b := by
  have e : ratSub a b = limR (x - y) := by unfold ratSub ratOp; rw [ha, hb]
  rw [e] at h ⊢
  obtain ⟨h1, h2⟩ := lim_ok h
  rw [h1]
  unfold ratCmp
  simp only [h2, ratV_zero, ha, hb]
  have k1 : x - y = 0 ↔ x = y := by
    constructor
    · intro h
      have := congrArg (fun t => t + y) h
      simpa only [Rat.sub_add_cancel, Rat.zero_add] using this
    · rintro rfl; rw [Rat.sub_eq_add_neg, Rat.add_neg_cancel]
  have k2 : x - y < 0 ↔ x < y := by
    have h3 := Rat.add_lt_add_right (a := x - y) (b := 0) (c := y)
    rw [Rat.sub_add_cancel, Rat.zero_add] at h3
    exact h3.symm
  simp only [k1, k2]
theorem fieldDist {a b c : Bs} {x y z : Rat} (ha : ratV a = some x) (hb : ratV b = some y) (hc : ratV c = some z) (h0 : (ratAdd a b).2 = 0) (h1 : (ratMul (ratAdd a b).1 c).2 = 0) (h2 : (ratMul a c).2 = 0) (h3 : (ratMul b c).2 = 0)
    (h4 : (ratAdd (ratMul a c).1 (ratMul b c).1).2 = 0) : (ratMul (ratAdd a b).1 c).1 = (ratAdd (ratMul a c).1 (ratMul b c).1).1 := by
  have e0 : ratAdd a b = limR (x + y) := by unfold ratAdd ratOp; rw [ha, hb]
  have e2 : ratMul a c = limR (x * z) := by unfold ratMul ratOp; rw [ha, hc]
  have e3 : ratMul b c = limR (y * z) := by unfold ratMul ratOp; rw [hb, hc]
  rw [e0] at h0 h1 ⊢
  rw [e2] at h2 h4 ⊢
  rw [e3] at h3 h4 ⊢
  obtain ⟨k0, v0⟩ := lim_ok h0
  obtain ⟨k2, v2⟩ := lim_ok h2
  obtain ⟨k3, v3⟩ := lim_ok h3
  rw [k0, k2, k3]
  unfold ratMul ratAdd ratOp
  simp only [v0, v2, v3, hc, Rat.add_mul]
theorem comAdd (a b : Bs) : ratAdd a b = ratAdd b a := by
  unfold ratAdd ratOp
  cases ratV a <;> cases ratV b <;> simp only []
  rw [Rat.add_comm]
theorem comMul (a b : Bs) : ratMul a b = ratMul b a := by
  unfold ratMul ratOp
  cases ratV a <;> cases ratV b <;> simp only []
  rw [Rat.mul_comm]
theorem op_len {f : Rat → Rat → Bs × Nat} (hf : ∀ p q, (f p q).1.length ≤ 802) (a b : Bs) : (ratOp f a b).1.length ≤ 802 := by
  unfold ratOp
  cases ratV a <;> cases ratV b <;> simp only [] <;> first | simp | exact hf _ _
theorem size_of {l : Bs} {F : ByteArray} (h : (⟨l.toArray⟩ : ByteArray) = F) (hl : l.length ≤ 802) : F.size ≤ 802 := by rw [← h, Lib.size_eq]; exact hl
theorem makeParts {a : Bs} {x : Rat} (h : ratV a = some x) : ratMake (decide (x.num < 0)) (decT x.num.natAbs) (decT x.den) = (a, 0) := by
  obtain ⟨_, h1, h2, _⟩ := ratV_some h
  rw [ratMake_dec (by omega) (by omega) x.den_nz]
  unfold mkT
  rw [rat_self]
  exact lim_some h
set_option maxHeartbeats 16000000 in
set_option maxRecDepth 100000 in
theorem ratField_law (a b c : ByteArray) (w : World) (hT : Tabs w) :
    Calls Tryz.prog 8 #[.string a, .string b, .string c] w fun e w' => e = .returned (.bool true) ∧ Below w.heap.size w w' := by
  have hb0 : Below w.heap.size w (w.alloc (.cells #[.string a, .string b, .string c] 9)) := (Below.refl _ w).alloc (Nat.le_refl _) _
  have hl := large_any w.heap.size 3 [a, b, c] _ (cells3 w a b c) (by simp)
  have hT0 := hT.below hb0
  by_cases h : 1200 < a.size ∨ 1200 < b.size ∨ 1200 < c.size
  · rw [show longB [a, b, c] = true from by simp [longB, h]] at hl
    clear h
    go_enter Tryz.func8, Tryz.ntmps8
    go_wp2_with fail
    refine hl.mono ?_
    rintro e w1 ⟨rfl, rfl⟩
    go_wp2_with fail
    refine (awake_any _ hT0).mono ?_
    rintro e w2 ⟨rfl, b2⟩
    have hA2 := bstep hb0 b2
    go_wp2_with fail
    go_returns
    exact ⟨rfl, hA2⟩
  · rw [show longB [a, b, c] = false from by simp [longB]; omega] at hl
    have va := fun W h => qvalid_any a W h (by omega)
    have vb := fun W h => qvalid_any b W h (by omega)
    have vc := fun W h => qvalid_any c W h (by omega)
    cases hx : ratV a.data.toList with
    | none =>
      rw [hx] at va
      clear h hx
      go_enter Tryz.func8, Tryz.ntmps8
      go_wp2_with fail
      refine hl.mono ?_
      rintro e w1 ⟨rfl, rfl⟩
      go_wp2_with fail
      refine (va _ hT0).mono ?_
      rintro e w1 ⟨rfl, b1⟩
      have hA1 := bstep hb0 b1
      go_wp2_with fail
      refine (awake_any _ (hT.below hA1)).mono ?_
      rintro e w2 ⟨rfl, b2⟩
      have hA2 := bstep hA1 b2
      go_wp2_with fail
      go_returns
      exact ⟨rfl, hA2⟩
    | some x =>
      rw [hx] at va
      cases hy : ratV b.data.toList with
      | none =>
        rw [hy] at vb
        clear h hx hy
        go_enter Tryz.func8, Tryz.ntmps8
        go_wp2_with fail
        refine hl.mono ?_
        rintro e w1 ⟨rfl, rfl⟩
        go_wp2_with fail
        refine (va _ hT0).mono ?_
        rintro e w1 ⟨rfl, b1⟩
        have hA1 := bstep hb0 b1
        go_wp2_with fail
        refine (vb _ (hT.below hA1)).mono ?_
        rintro e w2 ⟨rfl, b2⟩
        have hA2 := bstep hA1 b2
        go_wp2_with fail
        refine (awake_any _ (hT.below hA2)).mono ?_
        rintro e w3 ⟨rfl, b3⟩
        have hA3 := bstep hA2 b3
        go_wp2_with fail
        go_returns
        exact ⟨rfl, hA3⟩
      | some y =>
        rw [hy] at vb
        cases hz : ratV c.data.toList with
        | none =>
          rw [hz] at vc
          clear h hx hy hz
          go_enter Tryz.func8, Tryz.ntmps8
          go_wp2_with fail
          refine hl.mono ?_
          rintro e w1 ⟨rfl, rfl⟩
          go_wp2_with fail
          refine (va _ hT0).mono ?_
          rintro e w1 ⟨rfl, b1⟩
          have hA1 := bstep hb0 b1
          go_wp2_with fail
          refine (vb _ (hT.below hA1)).mono ?_
          rintro e w2 ⟨rfl, b2⟩
          have hA2 := bstep hA1 b2
          go_wp2_with fail
          refine (vc _ (hT.below hA2)).mono ?_
          rintro e w3 ⟨rfl, b3⟩
          have hA3 := bstep hA2 b3
          go_wp2_with fail
          refine (awake_any _ (hT.below hA3)).mono ?_
          rintro e w4 ⟨rfl, b4⟩
          have hA4 := bstep hA3 b4
          go_wp2_with fail
          go_returns
          exact ⟨rfl, hA4⟩
        | some z =>
          rw [hz] at vc
          have p1 := fun W h => qadd_any a b W h (by omega) (by omega)
          have p2 := fun W h => qadd_any b a W h (by omega) (by omega)
          have p3 := fun W h => qmul_any a b W h (by omega) (by omega)
          have p4 := fun W h => qmul_any b a W h (by omega) (by omega)
          have p7 := fun W h => qsub_any a b W h (by omega) (by omega)
          have p9 := fun W h => qcmp_any a b W h (by omega) (by omega)
          have pv := fun W h => qmul_any a c W h (by omega) (by omega)
          have pw := fun W h => qmul_any b c W h (by omega) (by omega)
          rw [comAdd b.data.toList] at p2
          rw [comMul b.data.toList] at p4
          have n1 := op_len (fun p q => lim_len (p + q)) a.data.toList b.data.toList
          have n2 := op_len (fun p q => lim_len (p * q)) a.data.toList b.data.toList
          have n3 := op_len (fun p q => lim_len (p - q)) a.data.toList b.data.toList
          have nv := op_len (fun p q => lim_len (p * q)) a.data.toList c.data.toList
          have nw := op_len (fun p q => lim_len (p * q)) b.data.toList c.data.toList
          obtain ⟨F1, hF1⟩ : ∃ F : ByteArray, (⟨(ratAdd a.data.toList b.data.toList).1.toArray⟩ : ByteArray) = F := ⟨_, rfl⟩
          obtain ⟨F2, hF2⟩ : ∃ F : ByteArray, (⟨(ratMul a.data.toList b.data.toList).1.toArray⟩ : ByteArray) = F := ⟨_, rfl⟩
          obtain ⟨G3, hG3⟩ : ∃ F : ByteArray, (⟨(ratSub a.data.toList b.data.toList).1.toArray⟩ : ByteArray) = F := ⟨_, rfl⟩
          obtain ⟨V1, hV1⟩ : ∃ F : ByteArray, (⟨(ratMul a.data.toList c.data.toList).1.toArray⟩ : ByteArray) = F := ⟨_, rfl⟩
          obtain ⟨W1, hW1⟩ : ∃ F : ByteArray, (⟨(ratMul b.data.toList c.data.toList).1.toArray⟩ : ByteArray) = F := ⟨_, rfl⟩
          have z1 := size_of hF1 n1
          have z2 := size_of hF2 n2
          have z3 := size_of hG3 n3
          have zv := size_of hV1 nv
          have zw := size_of hW1 nw
          have dF1 : F1.data.toList = (ratAdd a.data.toList b.data.toList).1 := by rw [← hF1]
          have dF2 : F2.data.toList = (ratMul a.data.toList b.data.toList).1 := by rw [← hF2]
          have dG3 : G3.data.toList = (ratSub a.data.toList b.data.toList).1 := by rw [← hG3]
          have dV1 : V1.data.toList = (ratMul a.data.toList c.data.toList).1 := by rw [← hV1]
          have dW1 : W1.data.toList = (ratMul b.data.toList c.data.toList).1 := by rw [← hW1]
          have p5 := fun W h => qsub_any F1 b W h (by omega) (by omega)
          have p6 := fun W h => qdiv_any F2 b W h (by omega) (by omega)
          have p8 := fun W h => qcmp_any G3 ⟨#[48]⟩ W h (by omega) (by decide)
          have pu := fun W h => qmul_any F1 c W h (by omega) (by omega)
          have px := fun W h => qadd_any V1 W1 W h (by omega) (by omega)
          have H1 : Hid ((ratAdd a.data.toList b.data.toList).2 = 0 → ratSub F1.data.toList b.data.toList = (a.data.toList, 0)) := fun h => by rw [dF1]; exact fieldSub hx hy h
          have H2 : Hid (b.data.toList ≠ [48] → (ratMul a.data.toList b.data.toList).2 = 0 → ratDiv F2.data.toList b.data.toList = (a.data.toList, 0)) := fun h1 h => by rw [dF2]; exact fieldDiv hx hy h1 h
          have H3 : Hid ((ratSub a.data.toList b.data.toList).2 = 0 → ratCmp G3.data.toList (⟨#[48]⟩ : ByteArray).data.toList = ratCmp a.data.toList b.data.toList) := fun h => by rw [dG3]; exact fieldCmp hx hy h
          have H4 : Hid ((ratAdd a.data.toList b.data.toList).2 = 0 → (ratMul F1.data.toList c.data.toList).2 = 0 → (ratMul a.data.toList c.data.toList).2 = 0 → (ratMul b.data.toList c.data.toList).2 = 0 → (ratAdd V1.data.toList W1.data.toList).2 = 0 →
              (ratMul F1.data.toList c.data.toList).1 = (ratAdd V1.data.toList W1.data.toList).1) := fun h0 h1 h2 h3 h4 => by
            rw [dF1] at h1 ⊢
            rw [dV1, dW1] at h4 ⊢
            exact fieldDist hx hy hz h0 h1 h2 h3 h4
          obtain ⟨A, D, hpA, hNA⟩ := num_of hx
          have pp := fun W h => (qparts_any a W h (by omega))
          rw [partV_yes hpA] at pp
          have pm := fun W h => qmake_any (decide (x.num < 0)) A D W h (by have := hNA.sa; omega) (by have := hNA.sd; omega)
          rw [hNA.a, hNA.d, makeParts hx] at pm
          unfold TxtPost at p1 p2 p3 p4 p5 p6 p7 pu pv pw px pm
          have haa : (⟨a.data.toList.toArray⟩ : ByteArray) = a := data_of rfl
          simp only [haa] at pm
          simp only [hF1] at p1 p2
          simp only [hF2] at p3 p4
          simp only [hG3] at p7
          simp only [hV1] at pv
          simp only [hW1] at pw
          have ff1 : (F1.toList == F1.toList) = true := beq_self_eq_true _
          have ff2 : (F2.toList == F2.toList) = true := beq_self_eq_true _
          generalize decide (x.num < 0) = sg at *
          obtain ⟨G1, hG1⟩ : ∃ F : ByteArray, (⟨(ratSub F1.data.toList b.data.toList).1.toArray⟩ : ByteArray) = F := ⟨_, rfl⟩
          obtain ⟨G2, hG2⟩ : ∃ F : ByteArray, (⟨(ratDiv F2.data.toList b.data.toList).1.toArray⟩ : ByteArray) = F := ⟨_, rfl⟩
          obtain ⟨U1, hU1⟩ : ∃ F : ByteArray, (⟨(ratMul F1.data.toList c.data.toList).1.toArray⟩ : ByteArray) = F := ⟨_, rfl⟩
          obtain ⟨X1, hX1⟩ : ∃ F : ByteArray, (⟨(ratAdd V1.data.toList W1.data.toList).1.toArray⟩ : ByteArray) = F := ⟨_, rfl⟩
          simp only [hG1] at p5
          simp only [hG2] at p6
          simp only [hU1] at pu
          simp only [hX1] at px
          have K1 : Hid ((ratAdd a.data.toList b.data.toList).2 = 0 → (ratSub F1.data.toList b.data.toList).2 = 0 ∧ G1 = a) := fun h => by have e := H1.out h; exact ⟨by rw [e], by rw [← hG1, e]⟩
          have K2 : Hid (b.data.toList ≠ [48] → (ratMul a.data.toList b.data.toList).2 = 0 → (ratDiv F2.data.toList b.data.toList).2 = 0 ∧ G2 = a) := fun h1 h => by have e := H2.out h1 h; exact ⟨by rw [e], by rw [← hG2, e]⟩
          have K4 : Hid ((ratAdd a.data.toList b.data.toList).2 = 0 → (ratMul F1.data.toList c.data.toList).2 = 0 → (ratMul a.data.toList c.data.toList).2 = 0 → (ratMul b.data.toList c.data.toList).2 = 0 → (ratAdd V1.data.toList W1.data.toList).2 = 0 → U1 = X1) := fun h0 h1 h2 h3 h4 => by
            rw [← hU1, ← hX1, H4.out h0 h1 h2 h3 h4]
          have K3 := Lib.hid H3.out
          have b48 := is48 b
          clear H1 H2 H3 H4 hF1 hF2 hG3 hV1 hW1 dF1 dF2 dG3 dV1 dW1 n1 n2 n3 nv nw hG1 hG2 hU1 hX1 hpA hNA hx hy hz haa h
          generalize (ratAdd a.data.toList b.data.toList).2 = c1 at *
          generalize (ratMul a.data.toList b.data.toList).2 = c2 at *
          generalize (ratSub a.data.toList b.data.toList).2 = k3 at *
          generalize (ratMul a.data.toList c.data.toList).2 = e2 at *
          generalize (ratMul b.data.toList c.data.toList).2 = e3 at *
          generalize (ratSub F1.data.toList b.data.toList).2 = k1 at *
          generalize (ratDiv F2.data.toList b.data.toList).2 = k2 at *
          generalize (ratMul F1.data.toList c.data.toList).2 = e1 at *
          generalize (ratAdd V1.data.toList W1.data.toList).2 = e4 at *
          generalize ratCmp G3.data.toList (⟨#[48]⟩ : ByteArray).data.toList = q1 at *
          generalize ratCmp a.data.toList b.data.toList = q2 at *
          have gg1 : ((c1 : Int) == (c1 : Int)) = true := beq_self_eq_true _
          have gg2 : ((c2 : Int) == (c2 : Int)) = true := beq_self_eq_true _
          have im := fun W => is_any a a 0 W
          rw [decide_eq_true rfl, decide_eq_true rfl] at im
          have i1 := fun W => is_any G1 a k1 W
          have i2 := fun W => is_any G2 a k2 W
          go_enter Tryz.func8, Tryz.ntmps8
          go_wp2_with fail
          refine hl.mono ?_
          rintro e w1 ⟨rfl, rfl⟩
          go_wp2_with fail
          refine (va _ hT0).mono ?_
          rintro e w1 ⟨rfl, b1⟩
          have hA1 := bstep hb0 b1
          go_wp2_with fail
          refine (vb _ (hT.below hA1)).mono ?_
          rintro e w2 ⟨rfl, b2⟩
          have hA2 := bstep hA1 b2
          go_wp2_with fail
          refine (vc _ (hT.below hA2)).mono ?_
          rintro e w3 ⟨rfl, b3⟩
          have hA3 := bstep hA2 b3
          go_wp2_with fail
          refine (p1 _ (hT.below hA3)).mono ?_
          rintro e w4 ⟨rfl, b4⟩
          have hA4 := bstep hA3 b4
          go_wp2_with fail
          refine (p2 _ (hT.below hA4)).mono ?_
          rintro e w5 ⟨rfl, b5⟩
          have hA5 := bstep hA4 b5
          go_wp2_with fail
          refine (p3 _ (hT.below hA5)).mono ?_
          rintro e w6 ⟨rfl, b6⟩
          have hA6 := bstep hA5 b6
          go_wp2_with fail
          refine (p4 _ (hT.below hA6)).mono ?_
          rintro e w7 ⟨rfl, b7⟩
          have hA7 := bstep hA6 b7
          go_wp2_with fail
          refine (p5 _ (hT.below hA7)).mono ?_
          rintro e w8 ⟨rfl, b8⟩
          have hA8 := bstep hA7 b8
          clear hA1 hA2 hA3 hA4 hA5 hA6 hA7 b1 b2 b3 b4 b5 b6 b7 b8 p1 p2 p3 p4 p5 va vb vc hb0 hT0 hl
          by_cases hc1 : c1 = 0
          · obtain ⟨u1, u2⟩ := K1.out hc1
            rw [decide_eq_true u1, decide_eq_true u2] at i1
            clear u1 u2
            have zz1 : ((c1 : Int) == 0) = true := by rw [hc1]; rfl
            have zz1' : (c1 : Int) = 0 := by rw [hc1]; rfl
            go_wp2_with (go_at_call 32; refine (i1 _).mono ?_; rintro e wi ⟨rfl, rfl⟩)
            refine (p6 _ (hT.below hA8)).mono ?_
            rintro e w9 ⟨rfl, b9⟩
            have hA9 := bstep hA8 b9
            by_cases hc2 : c2 = 0
            · by_cases hb48 : b.data.toList = [48]
              · rw [decide_eq_true hb48] at b48
                have zz2 : ((c2 : Int) == 0) = true := by rw [hc2]; rfl
                have zz2' : (c2 : Int) = 0 := by rw [hc2]; rfl
                go_wp2_with fail
                refine (p7 _ (hT.below hA9)).mono ?_
                rintro e wa ⟨rfl, ba⟩
                have hAa := bstep hA9 ba
                by_cases hk3 : k3 = 0
                · have u1 := K3.out hk3
                  have u2 : (q1 == q2) = true := by rw [u1]; exact beq_self_eq_true _
                  have zz3 : ((k3 : Int) == 0) = true := by rw [hk3]; rfl
                  have zz3' : (k3 : Int) = 0 := by rw [hk3]; rfl
                  subst u1
                  go_wp2_with fail
                  refine (p8 _ (hT.below hAa)).mono ?_
                  rintro e wb ⟨rfl, bb⟩
                  have hAb := bstep hAa bb
                  go_wp2_with fail
                  refine (p9 _ (hT.below hAb)).mono ?_
                  rintro e wc ⟨rfl, bc⟩
                  have hB := bstep hAb bc
                  go_wp2_with fail
                  refine (pu _ (hT.below hB)).mono ?_
                  rintro e wd ⟨rfl, bd⟩
                  have hC := bstep hB bd
                  go_wp2_with fail
                  refine (pv _ (hT.below hC)).mono ?_
                  rintro e we ⟨rfl, be⟩
                  have hD := bstep hC be
                  go_wp2_with fail
                  refine (pw _ (hT.below hD)).mono ?_
                  rintro e wf ⟨rfl, bf⟩
                  have hE := bstep hD bf
                  go_wp2_with fail
                  refine (px _ (hT.below hE)).mono ?_
                  rintro e wg ⟨rfl, bg⟩
                  have hF := bstep hE bg
                  by_cases he1 : e1 = 0
                  · have y1 : ((e1 : Int) == 0) = true := by rw [he1]; rfl
                    have y1' : (e1 : Int) = 0 := by rw [he1]; rfl
                    by_cases he2 : e2 = 0
                    · have y2 : ((e2 : Int) == 0) = true := by rw [he2]; rfl
                      have y2' : (e2 : Int) = 0 := by rw [he2]; rfl
                      by_cases he3 : e3 = 0
                      · have y3 : ((e3 : Int) == 0) = true := by rw [he3]; rfl
                        have y3' : (e3 : Int) = 0 := by rw [he3]; rfl
                        by_cases he4 : e4 = 0
                        · have y4 : ((e4 : Int) == 0) = true := by rw [he4]; rfl
                          have y4' : (e4 : Int) = 0 := by rw [he4]; rfl
                          have u1 : U1 = X1 := K4.out hc1 he1 he2 he3 he4
                          have u2 : (U1.toList == X1.toList) = true := by rw [u1]; exact beq_self_eq_true _
                          go_wp2_with fail
                          refine (pp _ (hT.below hF)).mono ?_
                          rintro e wh ⟨rfl, bh⟩
                          have hG := bstep hF bh
                          go_wp2_with fail
                          refine (pm _ (hT.below hG)).mono ?_
                          rintro e wi ⟨rfl, bi⟩
                          have hH := bstep hG bi
                          go_wp2_with (go_at_call 32; refine (im _).mono ?_; rintro e wj ⟨rfl, rfl⟩)
                          refine (awake_any _ (hT.below hH)).mono ?_
                          rintro e wk ⟨rfl, bk⟩
                          go_wp2_with fail
                          go_returns
                          exact ⟨rfl, bstep hH bk⟩
                        · have y4 : ((e4 : Int) == 0) = false := beq_eq_false_iff_ne.2 (by omega)
                          have y4' : ¬ (e4 : Int) = 0 := by omega
                          go_wp2_with fail
                          refine (pp _ (hT.below hF)).mono ?_
                          rintro e wh ⟨rfl, bh⟩
                          have hG := bstep hF bh
                          go_wp2_with fail
                          refine (pm _ (hT.below hG)).mono ?_
                          rintro e wi ⟨rfl, bi⟩
                          have hH := bstep hG bi
                          go_wp2_with (go_at_call 32; refine (im _).mono ?_; rintro e wj ⟨rfl, rfl⟩)
                          refine (awake_any _ (hT.below hH)).mono ?_
                          rintro e wk ⟨rfl, bk⟩
                          go_wp2_with fail
                          go_returns
                          exact ⟨rfl, bstep hH bk⟩
                      · have y3 : ((e3 : Int) == 0) = false := beq_eq_false_iff_ne.2 (by omega)
                        have y3' : ¬ (e3 : Int) = 0 := by omega
                        go_wp2_with fail
                        refine (pp _ (hT.below hF)).mono ?_
                        rintro e wh ⟨rfl, bh⟩
                        have hG := bstep hF bh
                        go_wp2_with fail
                        refine (pm _ (hT.below hG)).mono ?_
                        rintro e wi ⟨rfl, bi⟩
                        have hH := bstep hG bi
                        go_wp2_with (go_at_call 32; refine (im _).mono ?_; rintro e wj ⟨rfl, rfl⟩)
                        refine (awake_any _ (hT.below hH)).mono ?_
                        rintro e wk ⟨rfl, bk⟩
                        go_wp2_with fail
                        go_returns
                        exact ⟨rfl, bstep hH bk⟩
                    · have y2 : ((e2 : Int) == 0) = false := beq_eq_false_iff_ne.2 (by omega)
                      have y2' : ¬ (e2 : Int) = 0 := by omega
                      go_wp2_with fail
                      refine (pp _ (hT.below hF)).mono ?_
                      rintro e wh ⟨rfl, bh⟩
                      have hG := bstep hF bh
                      go_wp2_with fail
                      refine (pm _ (hT.below hG)).mono ?_
                      rintro e wi ⟨rfl, bi⟩
                      have hH := bstep hG bi
                      go_wp2_with (go_at_call 32; refine (im _).mono ?_; rintro e wj ⟨rfl, rfl⟩)
                      refine (awake_any _ (hT.below hH)).mono ?_
                      rintro e wk ⟨rfl, bk⟩
                      go_wp2_with fail
                      go_returns
                      exact ⟨rfl, bstep hH bk⟩
                  · have y1 : ((e1 : Int) == 0) = false := beq_eq_false_iff_ne.2 (by omega)
                    have y1' : ¬ (e1 : Int) = 0 := by omega
                    go_wp2_with fail
                    refine (pp _ (hT.below hF)).mono ?_
                    rintro e wh ⟨rfl, bh⟩
                    have hG := bstep hF bh
                    go_wp2_with fail
                    refine (pm _ (hT.below hG)).mono ?_
                    rintro e wi ⟨rfl, bi⟩
                    have hH := bstep hG bi
                    go_wp2_with (go_at_call 32; refine (im _).mono ?_; rintro e wj ⟨rfl, rfl⟩)
                    refine (awake_any _ (hT.below hH)).mono ?_
                    rintro e wk ⟨rfl, bk⟩
                    go_wp2_with fail
                    go_returns
                    exact ⟨rfl, bstep hH bk⟩
                · clear K3
                  have zz3 : ((k3 : Int) == 0) = false := beq_eq_false_iff_ne.2 (by omega)
                  have zz3' : ¬ (k3 : Int) = 0 := by omega
                  have hB := hAa
                  go_wp2_with fail
                  refine (pu _ (hT.below hB)).mono ?_
                  rintro e wd ⟨rfl, bd⟩
                  have hC := bstep hB bd
                  go_wp2_with fail
                  refine (pv _ (hT.below hC)).mono ?_
                  rintro e we ⟨rfl, be⟩
                  have hD := bstep hC be
                  go_wp2_with fail
                  refine (pw _ (hT.below hD)).mono ?_
                  rintro e wf ⟨rfl, bf⟩
                  have hE := bstep hD bf
                  go_wp2_with fail
                  refine (px _ (hT.below hE)).mono ?_
                  rintro e wg ⟨rfl, bg⟩
                  have hF := bstep hE bg
                  by_cases he1 : e1 = 0
                  · have y1 : ((e1 : Int) == 0) = true := by rw [he1]; rfl
                    have y1' : (e1 : Int) = 0 := by rw [he1]; rfl
                    by_cases he2 : e2 = 0
                    · have y2 : ((e2 : Int) == 0) = true := by rw [he2]; rfl
                      have y2' : (e2 : Int) = 0 := by rw [he2]; rfl
                      by_cases he3 : e3 = 0
                      · have y3 : ((e3 : Int) == 0) = true := by rw [he3]; rfl
                        have y3' : (e3 : Int) = 0 := by rw [he3]; rfl
                        by_cases he4 : e4 = 0
                        · have y4 : ((e4 : Int) == 0) = true := by rw [he4]; rfl
                          have y4' : (e4 : Int) = 0 := by rw [he4]; rfl
                          have u1 : U1 = X1 := K4.out hc1 he1 he2 he3 he4
                          have u2 : (U1.toList == X1.toList) = true := by rw [u1]; exact beq_self_eq_true _
                          go_wp2_with fail
                          refine (pp _ (hT.below hF)).mono ?_
                          rintro e wh ⟨rfl, bh⟩
                          have hG := bstep hF bh
                          go_wp2_with fail
                          refine (pm _ (hT.below hG)).mono ?_
                          rintro e wi ⟨rfl, bi⟩
                          have hH := bstep hG bi
                          go_wp2_with (go_at_call 32; refine (im _).mono ?_; rintro e wj ⟨rfl, rfl⟩)
                          refine (awake_any _ (hT.below hH)).mono ?_
                          rintro e wk ⟨rfl, bk⟩
                          go_wp2_with fail
                          go_returns
                          exact ⟨rfl, bstep hH bk⟩
                        · have y4 : ((e4 : Int) == 0) = false := beq_eq_false_iff_ne.2 (by omega)
                          have y4' : ¬ (e4 : Int) = 0 := by omega
                          go_wp2_with fail
                          refine (pp _ (hT.below hF)).mono ?_
                          rintro e wh ⟨rfl, bh⟩
                          have hG := bstep hF bh
                          go_wp2_with fail
                          refine (pm _ (hT.below hG)).mono ?_
                          rintro e wi ⟨rfl, bi⟩
                          have hH := bstep hG bi
                          go_wp2_with (go_at_call 32; refine (im _).mono ?_; rintro e wj ⟨rfl, rfl⟩)
                          refine (awake_any _ (hT.below hH)).mono ?_
                          rintro e wk ⟨rfl, bk⟩
                          go_wp2_with fail
                          go_returns
                          exact ⟨rfl, bstep hH bk⟩
                      · have y3 : ((e3 : Int) == 0) = false := beq_eq_false_iff_ne.2 (by omega)
                        have y3' : ¬ (e3 : Int) = 0 := by omega
                        go_wp2_with fail
                        refine (pp _ (hT.below hF)).mono ?_
                        rintro e wh ⟨rfl, bh⟩
                        have hG := bstep hF bh
                        go_wp2_with fail
                        refine (pm _ (hT.below hG)).mono ?_
                        rintro e wi ⟨rfl, bi⟩
                        have hH := bstep hG bi
                        go_wp2_with (go_at_call 32; refine (im _).mono ?_; rintro e wj ⟨rfl, rfl⟩)
                        refine (awake_any _ (hT.below hH)).mono ?_
                        rintro e wk ⟨rfl, bk⟩
                        go_wp2_with fail
                        go_returns
                        exact ⟨rfl, bstep hH bk⟩
                    · have y2 : ((e2 : Int) == 0) = false := beq_eq_false_iff_ne.2 (by omega)
                      have y2' : ¬ (e2 : Int) = 0 := by omega
                      go_wp2_with fail
                      refine (pp _ (hT.below hF)).mono ?_
                      rintro e wh ⟨rfl, bh⟩
                      have hG := bstep hF bh
                      go_wp2_with fail
                      refine (pm _ (hT.below hG)).mono ?_
                      rintro e wi ⟨rfl, bi⟩
                      have hH := bstep hG bi
                      go_wp2_with (go_at_call 32; refine (im _).mono ?_; rintro e wj ⟨rfl, rfl⟩)
                      refine (awake_any _ (hT.below hH)).mono ?_
                      rintro e wk ⟨rfl, bk⟩
                      go_wp2_with fail
                      go_returns
                      exact ⟨rfl, bstep hH bk⟩
                  · have y1 : ((e1 : Int) == 0) = false := beq_eq_false_iff_ne.2 (by omega)
                    have y1' : ¬ (e1 : Int) = 0 := by omega
                    go_wp2_with fail
                    refine (pp _ (hT.below hF)).mono ?_
                    rintro e wh ⟨rfl, bh⟩
                    have hG := bstep hF bh
                    go_wp2_with fail
                    refine (pm _ (hT.below hG)).mono ?_
                    rintro e wi ⟨rfl, bi⟩
                    have hH := bstep hG bi
                    go_wp2_with (go_at_call 32; refine (im _).mono ?_; rintro e wj ⟨rfl, rfl⟩)
                    refine (awake_any _ (hT.below hH)).mono ?_
                    rintro e wk ⟨rfl, bk⟩
                    go_wp2_with fail
                    go_returns
                    exact ⟨rfl, bstep hH bk⟩
              · obtain ⟨u1, u2⟩ := K2.out hb48 hc2
                rw [decide_eq_true u1, decide_eq_true u2] at i2
                rw [decide_eq_false hb48] at b48
                clear u1 u2
                have zz2 : ((c2 : Int) == 0) = true := by rw [hc2]; rfl
                have zz2' : (c2 : Int) = 0 := by rw [hc2]; rfl
                go_wp2_with (go_at_call 32; refine (i2 _).mono ?_; rintro e wi ⟨rfl, rfl⟩)
                refine (p7 _ (hT.below hA9)).mono ?_
                rintro e wa ⟨rfl, ba⟩
                have hAa := bstep hA9 ba
                by_cases hk3 : k3 = 0
                · have u1 := K3.out hk3
                  have u2 : (q1 == q2) = true := by rw [u1]; exact beq_self_eq_true _
                  have zz3 : ((k3 : Int) == 0) = true := by rw [hk3]; rfl
                  have zz3' : (k3 : Int) = 0 := by rw [hk3]; rfl
                  subst u1
                  go_wp2_with fail
                  refine (p8 _ (hT.below hAa)).mono ?_
                  rintro e wb ⟨rfl, bb⟩
                  have hAb := bstep hAa bb
                  go_wp2_with fail
                  refine (p9 _ (hT.below hAb)).mono ?_
                  rintro e wc ⟨rfl, bc⟩
                  have hB := bstep hAb bc
                  go_wp2_with fail
                  refine (pu _ (hT.below hB)).mono ?_
                  rintro e wd ⟨rfl, bd⟩
                  have hC := bstep hB bd
                  go_wp2_with fail
                  refine (pv _ (hT.below hC)).mono ?_
                  rintro e we ⟨rfl, be⟩
                  have hD := bstep hC be
                  go_wp2_with fail
                  refine (pw _ (hT.below hD)).mono ?_
                  rintro e wf ⟨rfl, bf⟩
                  have hE := bstep hD bf
                  go_wp2_with fail
                  refine (px _ (hT.below hE)).mono ?_
                  rintro e wg ⟨rfl, bg⟩
                  have hF := bstep hE bg
                  by_cases he1 : e1 = 0
                  · have y1 : ((e1 : Int) == 0) = true := by rw [he1]; rfl
                    have y1' : (e1 : Int) = 0 := by rw [he1]; rfl
                    by_cases he2 : e2 = 0
                    · have y2 : ((e2 : Int) == 0) = true := by rw [he2]; rfl
                      have y2' : (e2 : Int) = 0 := by rw [he2]; rfl
                      by_cases he3 : e3 = 0
                      · have y3 : ((e3 : Int) == 0) = true := by rw [he3]; rfl
                        have y3' : (e3 : Int) = 0 := by rw [he3]; rfl
                        by_cases he4 : e4 = 0
                        · have y4 : ((e4 : Int) == 0) = true := by rw [he4]; rfl
                          have y4' : (e4 : Int) = 0 := by rw [he4]; rfl
                          have u1 : U1 = X1 := K4.out hc1 he1 he2 he3 he4
                          have u2 : (U1.toList == X1.toList) = true := by rw [u1]; exact beq_self_eq_true _
                          go_wp2_with fail
                          refine (pp _ (hT.below hF)).mono ?_
                          rintro e wh ⟨rfl, bh⟩
                          have hG := bstep hF bh
                          go_wp2_with fail
                          refine (pm _ (hT.below hG)).mono ?_
                          rintro e wi ⟨rfl, bi⟩
                          have hH := bstep hG bi
                          go_wp2_with (go_at_call 32; refine (im _).mono ?_; rintro e wj ⟨rfl, rfl⟩)
                          refine (awake_any _ (hT.below hH)).mono ?_
                          rintro e wk ⟨rfl, bk⟩
                          go_wp2_with fail
                          go_returns
                          exact ⟨rfl, bstep hH bk⟩
                        · have y4 : ((e4 : Int) == 0) = false := beq_eq_false_iff_ne.2 (by omega)
                          have y4' : ¬ (e4 : Int) = 0 := by omega
                          go_wp2_with fail
                          refine (pp _ (hT.below hF)).mono ?_
                          rintro e wh ⟨rfl, bh⟩
                          have hG := bstep hF bh
                          go_wp2_with fail
                          refine (pm _ (hT.below hG)).mono ?_
                          rintro e wi ⟨rfl, bi⟩
                          have hH := bstep hG bi
                          go_wp2_with (go_at_call 32; refine (im _).mono ?_; rintro e wj ⟨rfl, rfl⟩)
                          refine (awake_any _ (hT.below hH)).mono ?_
                          rintro e wk ⟨rfl, bk⟩
                          go_wp2_with fail
                          go_returns
                          exact ⟨rfl, bstep hH bk⟩
                      · have y3 : ((e3 : Int) == 0) = false := beq_eq_false_iff_ne.2 (by omega)
                        have y3' : ¬ (e3 : Int) = 0 := by omega
                        go_wp2_with fail
                        refine (pp _ (hT.below hF)).mono ?_
                        rintro e wh ⟨rfl, bh⟩
                        have hG := bstep hF bh
                        go_wp2_with fail
                        refine (pm _ (hT.below hG)).mono ?_
                        rintro e wi ⟨rfl, bi⟩
                        have hH := bstep hG bi
                        go_wp2_with (go_at_call 32; refine (im _).mono ?_; rintro e wj ⟨rfl, rfl⟩)
                        refine (awake_any _ (hT.below hH)).mono ?_
                        rintro e wk ⟨rfl, bk⟩
                        go_wp2_with fail
                        go_returns
                        exact ⟨rfl, bstep hH bk⟩
                    · have y2 : ((e2 : Int) == 0) = false := beq_eq_false_iff_ne.2 (by omega)
                      have y2' : ¬ (e2 : Int) = 0 := by omega
                      go_wp2_with fail
                      refine (pp _ (hT.below hF)).mono ?_
                      rintro e wh ⟨rfl, bh⟩
                      have hG := bstep hF bh
                      go_wp2_with fail
                      refine (pm _ (hT.below hG)).mono ?_
                      rintro e wi ⟨rfl, bi⟩
                      have hH := bstep hG bi
                      go_wp2_with (go_at_call 32; refine (im _).mono ?_; rintro e wj ⟨rfl, rfl⟩)
                      refine (awake_any _ (hT.below hH)).mono ?_
                      rintro e wk ⟨rfl, bk⟩
                      go_wp2_with fail
                      go_returns
                      exact ⟨rfl, bstep hH bk⟩
                  · have y1 : ((e1 : Int) == 0) = false := beq_eq_false_iff_ne.2 (by omega)
                    have y1' : ¬ (e1 : Int) = 0 := by omega
                    go_wp2_with fail
                    refine (pp _ (hT.below hF)).mono ?_
                    rintro e wh ⟨rfl, bh⟩
                    have hG := bstep hF bh
                    go_wp2_with fail
                    refine (pm _ (hT.below hG)).mono ?_
                    rintro e wi ⟨rfl, bi⟩
                    have hH := bstep hG bi
                    go_wp2_with (go_at_call 32; refine (im _).mono ?_; rintro e wj ⟨rfl, rfl⟩)
                    refine (awake_any _ (hT.below hH)).mono ?_
                    rintro e wk ⟨rfl, bk⟩
                    go_wp2_with fail
                    go_returns
                    exact ⟨rfl, bstep hH bk⟩
                · clear K3
                  have zz3 : ((k3 : Int) == 0) = false := beq_eq_false_iff_ne.2 (by omega)
                  have zz3' : ¬ (k3 : Int) = 0 := by omega
                  have hB := hAa
                  go_wp2_with fail
                  refine (pu _ (hT.below hB)).mono ?_
                  rintro e wd ⟨rfl, bd⟩
                  have hC := bstep hB bd
                  go_wp2_with fail
                  refine (pv _ (hT.below hC)).mono ?_
                  rintro e we ⟨rfl, be⟩
                  have hD := bstep hC be
                  go_wp2_with fail
                  refine (pw _ (hT.below hD)).mono ?_
                  rintro e wf ⟨rfl, bf⟩
                  have hE := bstep hD bf
                  go_wp2_with fail
                  refine (px _ (hT.below hE)).mono ?_
                  rintro e wg ⟨rfl, bg⟩
                  have hF := bstep hE bg
                  by_cases he1 : e1 = 0
                  · have y1 : ((e1 : Int) == 0) = true := by rw [he1]; rfl
                    have y1' : (e1 : Int) = 0 := by rw [he1]; rfl
                    by_cases he2 : e2 = 0
                    · have y2 : ((e2 : Int) == 0) = true := by rw [he2]; rfl
                      have y2' : (e2 : Int) = 0 := by rw [he2]; rfl
                      by_cases he3 : e3 = 0
                      · have y3 : ((e3 : Int) == 0) = true := by rw [he3]; rfl
                        have y3' : (e3 : Int) = 0 := by rw [he3]; rfl
                        by_cases he4 : e4 = 0
                        · have y4 : ((e4 : Int) == 0) = true := by rw [he4]; rfl
                          have y4' : (e4 : Int) = 0 := by rw [he4]; rfl
                          have u1 : U1 = X1 := K4.out hc1 he1 he2 he3 he4
                          have u2 : (U1.toList == X1.toList) = true := by rw [u1]; exact beq_self_eq_true _
                          go_wp2_with fail
                          refine (pp _ (hT.below hF)).mono ?_
                          rintro e wh ⟨rfl, bh⟩
                          have hG := bstep hF bh
                          go_wp2_with fail
                          refine (pm _ (hT.below hG)).mono ?_
                          rintro e wi ⟨rfl, bi⟩
                          have hH := bstep hG bi
                          go_wp2_with (go_at_call 32; refine (im _).mono ?_; rintro e wj ⟨rfl, rfl⟩)
                          refine (awake_any _ (hT.below hH)).mono ?_
                          rintro e wk ⟨rfl, bk⟩
                          go_wp2_with fail
                          go_returns
                          exact ⟨rfl, bstep hH bk⟩
                        · have y4 : ((e4 : Int) == 0) = false := beq_eq_false_iff_ne.2 (by omega)
                          have y4' : ¬ (e4 : Int) = 0 := by omega
                          go_wp2_with fail
                          refine (pp _ (hT.below hF)).mono ?_
                          rintro e wh ⟨rfl, bh⟩
                          have hG := bstep hF bh
                          go_wp2_with fail
                          refine (pm _ (hT.below hG)).mono ?_
                          rintro e wi ⟨rfl, bi⟩
                          have hH := bstep hG bi
                          go_wp2_with (go_at_call 32; refine (im _).mono ?_; rintro e wj ⟨rfl, rfl⟩)
                          refine (awake_any _ (hT.below hH)).mono ?_
                          rintro e wk ⟨rfl, bk⟩
                          go_wp2_with fail
                          go_returns
                          exact ⟨rfl, bstep hH bk⟩
                      · have y3 : ((e3 : Int) == 0) = false := beq_eq_false_iff_ne.2 (by omega)
                        have y3' : ¬ (e3 : Int) = 0 := by omega
                        go_wp2_with fail
                        refine (pp _ (hT.below hF)).mono ?_
                        rintro e wh ⟨rfl, bh⟩
                        have hG := bstep hF bh
                        go_wp2_with fail
                        refine (pm _ (hT.below hG)).mono ?_
                        rintro e wi ⟨rfl, bi⟩
                        have hH := bstep hG bi
                        go_wp2_with (go_at_call 32; refine (im _).mono ?_; rintro e wj ⟨rfl, rfl⟩)
                        refine (awake_any _ (hT.below hH)).mono ?_
                        rintro e wk ⟨rfl, bk⟩
                        go_wp2_with fail
                        go_returns
                        exact ⟨rfl, bstep hH bk⟩
                    · have y2 : ((e2 : Int) == 0) = false := beq_eq_false_iff_ne.2 (by omega)
                      have y2' : ¬ (e2 : Int) = 0 := by omega
                      go_wp2_with fail
                      refine (pp _ (hT.below hF)).mono ?_
                      rintro e wh ⟨rfl, bh⟩
                      have hG := bstep hF bh
                      go_wp2_with fail
                      refine (pm _ (hT.below hG)).mono ?_
                      rintro e wi ⟨rfl, bi⟩
                      have hH := bstep hG bi
                      go_wp2_with (go_at_call 32; refine (im _).mono ?_; rintro e wj ⟨rfl, rfl⟩)
                      refine (awake_any _ (hT.below hH)).mono ?_
                      rintro e wk ⟨rfl, bk⟩
                      go_wp2_with fail
                      go_returns
                      exact ⟨rfl, bstep hH bk⟩
                  · have y1 : ((e1 : Int) == 0) = false := beq_eq_false_iff_ne.2 (by omega)
                    have y1' : ¬ (e1 : Int) = 0 := by omega
                    go_wp2_with fail
                    refine (pp _ (hT.below hF)).mono ?_
                    rintro e wh ⟨rfl, bh⟩
                    have hG := bstep hF bh
                    go_wp2_with fail
                    refine (pm _ (hT.below hG)).mono ?_
                    rintro e wi ⟨rfl, bi⟩
                    have hH := bstep hG bi
                    go_wp2_with (go_at_call 32; refine (im _).mono ?_; rintro e wj ⟨rfl, rfl⟩)
                    refine (awake_any _ (hT.below hH)).mono ?_
                    rintro e wk ⟨rfl, bk⟩
                    go_wp2_with fail
                    go_returns
                    exact ⟨rfl, bstep hH bk⟩
            · clear K2 i2
              have zz2 : ((c2 : Int) == 0) = false := beq_eq_false_iff_ne.2 (by omega)
              have zz2' : ¬ (c2 : Int) = 0 := by omega
              go_wp2_with fail
              refine (p7 _ (hT.below hA9)).mono ?_
              rintro e wa ⟨rfl, ba⟩
              have hAa := bstep hA9 ba
              by_cases hk3 : k3 = 0
              · have u1 := K3.out hk3
                have u2 : (q1 == q2) = true := by rw [u1]; exact beq_self_eq_true _
                have zz3 : ((k3 : Int) == 0) = true := by rw [hk3]; rfl
                have zz3' : (k3 : Int) = 0 := by rw [hk3]; rfl
                subst u1
                go_wp2_with fail
                refine (p8 _ (hT.below hAa)).mono ?_
                rintro e wb ⟨rfl, bb⟩
                have hAb := bstep hAa bb
                go_wp2_with fail
                refine (p9 _ (hT.below hAb)).mono ?_
                rintro e wc ⟨rfl, bc⟩
                have hB := bstep hAb bc
                go_wp2_with fail
                refine (pu _ (hT.below hB)).mono ?_
                rintro e wd ⟨rfl, bd⟩
                have hC := bstep hB bd
                go_wp2_with fail
                refine (pv _ (hT.below hC)).mono ?_
                rintro e we ⟨rfl, be⟩
                have hD := bstep hC be
                go_wp2_with fail
                refine (pw _ (hT.below hD)).mono ?_
                rintro e wf ⟨rfl, bf⟩
                have hE := bstep hD bf
                go_wp2_with fail
                refine (px _ (hT.below hE)).mono ?_
                rintro e wg ⟨rfl, bg⟩
                have hF := bstep hE bg
                by_cases he1 : e1 = 0
                · have y1 : ((e1 : Int) == 0) = true := by rw [he1]; rfl
                  have y1' : (e1 : Int) = 0 := by rw [he1]; rfl
                  by_cases he2 : e2 = 0
                  · have y2 : ((e2 : Int) == 0) = true := by rw [he2]; rfl
                    have y2' : (e2 : Int) = 0 := by rw [he2]; rfl
                    by_cases he3 : e3 = 0
                    · have y3 : ((e3 : Int) == 0) = true := by rw [he3]; rfl
                      have y3' : (e3 : Int) = 0 := by rw [he3]; rfl
                      by_cases he4 : e4 = 0
                      · have y4 : ((e4 : Int) == 0) = true := by rw [he4]; rfl
                        have y4' : (e4 : Int) = 0 := by rw [he4]; rfl
                        have u1 : U1 = X1 := K4.out hc1 he1 he2 he3 he4
                        have u2 : (U1.toList == X1.toList) = true := by rw [u1]; exact beq_self_eq_true _
                        go_wp2_with fail
                        refine (pp _ (hT.below hF)).mono ?_
                        rintro e wh ⟨rfl, bh⟩
                        have hG := bstep hF bh
                        go_wp2_with fail
                        refine (pm _ (hT.below hG)).mono ?_
                        rintro e wi ⟨rfl, bi⟩
                        have hH := bstep hG bi
                        go_wp2_with (go_at_call 32; refine (im _).mono ?_; rintro e wj ⟨rfl, rfl⟩)
                        refine (awake_any _ (hT.below hH)).mono ?_
                        rintro e wk ⟨rfl, bk⟩
                        go_wp2_with fail
                        go_returns
                        exact ⟨rfl, bstep hH bk⟩
                      · have y4 : ((e4 : Int) == 0) = false := beq_eq_false_iff_ne.2 (by omega)
                        have y4' : ¬ (e4 : Int) = 0 := by omega
                        go_wp2_with fail
                        refine (pp _ (hT.below hF)).mono ?_
                        rintro e wh ⟨rfl, bh⟩
                        have hG := bstep hF bh
                        go_wp2_with fail
                        refine (pm _ (hT.below hG)).mono ?_
                        rintro e wi ⟨rfl, bi⟩
                        have hH := bstep hG bi
                        go_wp2_with (go_at_call 32; refine (im _).mono ?_; rintro e wj ⟨rfl, rfl⟩)
                        refine (awake_any _ (hT.below hH)).mono ?_
                        rintro e wk ⟨rfl, bk⟩
                        go_wp2_with fail
                        go_returns
                        exact ⟨rfl, bstep hH bk⟩
                    · have y3 : ((e3 : Int) == 0) = false := beq_eq_false_iff_ne.2 (by omega)
                      have y3' : ¬ (e3 : Int) = 0 := by omega
                      go_wp2_with fail
                      refine (pp _ (hT.below hF)).mono ?_
                      rintro e wh ⟨rfl, bh⟩
                      have hG := bstep hF bh
                      go_wp2_with fail
                      refine (pm _ (hT.below hG)).mono ?_
                      rintro e wi ⟨rfl, bi⟩
                      have hH := bstep hG bi
                      go_wp2_with (go_at_call 32; refine (im _).mono ?_; rintro e wj ⟨rfl, rfl⟩)
                      refine (awake_any _ (hT.below hH)).mono ?_
                      rintro e wk ⟨rfl, bk⟩
                      go_wp2_with fail
                      go_returns
                      exact ⟨rfl, bstep hH bk⟩
                  · have y2 : ((e2 : Int) == 0) = false := beq_eq_false_iff_ne.2 (by omega)
                    have y2' : ¬ (e2 : Int) = 0 := by omega
                    go_wp2_with fail
                    refine (pp _ (hT.below hF)).mono ?_
                    rintro e wh ⟨rfl, bh⟩
                    have hG := bstep hF bh
                    go_wp2_with fail
                    refine (pm _ (hT.below hG)).mono ?_
                    rintro e wi ⟨rfl, bi⟩
                    have hH := bstep hG bi
                    go_wp2_with (go_at_call 32; refine (im _).mono ?_; rintro e wj ⟨rfl, rfl⟩)
                    refine (awake_any _ (hT.below hH)).mono ?_
                    rintro e wk ⟨rfl, bk⟩
                    go_wp2_with fail
                    go_returns
                    exact ⟨rfl, bstep hH bk⟩
                · have y1 : ((e1 : Int) == 0) = false := beq_eq_false_iff_ne.2 (by omega)
                  have y1' : ¬ (e1 : Int) = 0 := by omega
                  go_wp2_with fail
                  refine (pp _ (hT.below hF)).mono ?_
                  rintro e wh ⟨rfl, bh⟩
                  have hG := bstep hF bh
                  go_wp2_with fail
                  refine (pm _ (hT.below hG)).mono ?_
                  rintro e wi ⟨rfl, bi⟩
                  have hH := bstep hG bi
                  go_wp2_with (go_at_call 32; refine (im _).mono ?_; rintro e wj ⟨rfl, rfl⟩)
                  refine (awake_any _ (hT.below hH)).mono ?_
                  rintro e wk ⟨rfl, bk⟩
                  go_wp2_with fail
                  go_returns
                  exact ⟨rfl, bstep hH bk⟩
              · clear K3
                have zz3 : ((k3 : Int) == 0) = false := beq_eq_false_iff_ne.2 (by omega)
                have zz3' : ¬ (k3 : Int) = 0 := by omega
                have hB := hAa
                go_wp2_with fail
                refine (pu _ (hT.below hB)).mono ?_
                rintro e wd ⟨rfl, bd⟩
                have hC := bstep hB bd
                go_wp2_with fail
                refine (pv _ (hT.below hC)).mono ?_
                rintro e we ⟨rfl, be⟩
                have hD := bstep hC be
                go_wp2_with fail
                refine (pw _ (hT.below hD)).mono ?_
                rintro e wf ⟨rfl, bf⟩
                have hE := bstep hD bf
                go_wp2_with fail
                refine (px _ (hT.below hE)).mono ?_
                rintro e wg ⟨rfl, bg⟩
                have hF := bstep hE bg
                by_cases he1 : e1 = 0
                · have y1 : ((e1 : Int) == 0) = true := by rw [he1]; rfl
                  have y1' : (e1 : Int) = 0 := by rw [he1]; rfl
                  by_cases he2 : e2 = 0
                  · have y2 : ((e2 : Int) == 0) = true := by rw [he2]; rfl
                    have y2' : (e2 : Int) = 0 := by rw [he2]; rfl
                    by_cases he3 : e3 = 0
                    · have y3 : ((e3 : Int) == 0) = true := by rw [he3]; rfl
                      have y3' : (e3 : Int) = 0 := by rw [he3]; rfl
                      by_cases he4 : e4 = 0
                      · have y4 : ((e4 : Int) == 0) = true := by rw [he4]; rfl
                        have y4' : (e4 : Int) = 0 := by rw [he4]; rfl
                        have u1 : U1 = X1 := K4.out hc1 he1 he2 he3 he4
                        have u2 : (U1.toList == X1.toList) = true := by rw [u1]; exact beq_self_eq_true _
                        go_wp2_with fail
                        refine (pp _ (hT.below hF)).mono ?_
                        rintro e wh ⟨rfl, bh⟩
                        have hG := bstep hF bh
                        go_wp2_with fail
                        refine (pm _ (hT.below hG)).mono ?_
                        rintro e wi ⟨rfl, bi⟩
                        have hH := bstep hG bi
                        go_wp2_with (go_at_call 32; refine (im _).mono ?_; rintro e wj ⟨rfl, rfl⟩)
                        refine (awake_any _ (hT.below hH)).mono ?_
                        rintro e wk ⟨rfl, bk⟩
                        go_wp2_with fail
                        go_returns
                        exact ⟨rfl, bstep hH bk⟩
                      · have y4 : ((e4 : Int) == 0) = false := beq_eq_false_iff_ne.2 (by omega)
                        have y4' : ¬ (e4 : Int) = 0 := by omega
                        go_wp2_with fail
                        refine (pp _ (hT.below hF)).mono ?_
                        rintro e wh ⟨rfl, bh⟩
                        have hG := bstep hF bh
                        go_wp2_with fail
                        refine (pm _ (hT.below hG)).mono ?_
                        rintro e wi ⟨rfl, bi⟩
                        have hH := bstep hG bi
                        go_wp2_with (go_at_call 32; refine (im _).mono ?_; rintro e wj ⟨rfl, rfl⟩)
                        refine (awake_any _ (hT.below hH)).mono ?_
                        rintro e wk ⟨rfl, bk⟩
                        go_wp2_with fail
                        go_returns
                        exact ⟨rfl, bstep hH bk⟩
                    · have y3 : ((e3 : Int) == 0) = false := beq_eq_false_iff_ne.2 (by omega)
                      have y3' : ¬ (e3 : Int) = 0 := by omega
                      go_wp2_with fail
                      refine (pp _ (hT.below hF)).mono ?_
                      rintro e wh ⟨rfl, bh⟩
                      have hG := bstep hF bh
                      go_wp2_with fail
                      refine (pm _ (hT.below hG)).mono ?_
                      rintro e wi ⟨rfl, bi⟩
                      have hH := bstep hG bi
                      go_wp2_with (go_at_call 32; refine (im _).mono ?_; rintro e wj ⟨rfl, rfl⟩)
                      refine (awake_any _ (hT.below hH)).mono ?_
                      rintro e wk ⟨rfl, bk⟩
                      go_wp2_with fail
                      go_returns
                      exact ⟨rfl, bstep hH bk⟩
                  · have y2 : ((e2 : Int) == 0) = false := beq_eq_false_iff_ne.2 (by omega)
                    have y2' : ¬ (e2 : Int) = 0 := by omega
                    go_wp2_with fail
                    refine (pp _ (hT.below hF)).mono ?_
                    rintro e wh ⟨rfl, bh⟩
                    have hG := bstep hF bh
                    go_wp2_with fail
                    refine (pm _ (hT.below hG)).mono ?_
                    rintro e wi ⟨rfl, bi⟩
                    have hH := bstep hG bi
                    go_wp2_with (go_at_call 32; refine (im _).mono ?_; rintro e wj ⟨rfl, rfl⟩)
                    refine (awake_any _ (hT.below hH)).mono ?_
                    rintro e wk ⟨rfl, bk⟩
                    go_wp2_with fail
                    go_returns
                    exact ⟨rfl, bstep hH bk⟩
                · have y1 : ((e1 : Int) == 0) = false := beq_eq_false_iff_ne.2 (by omega)
                  have y1' : ¬ (e1 : Int) = 0 := by omega
                  go_wp2_with fail
                  refine (pp _ (hT.below hF)).mono ?_
                  rintro e wh ⟨rfl, bh⟩
                  have hG := bstep hF bh
                  go_wp2_with fail
                  refine (pm _ (hT.below hG)).mono ?_
                  rintro e wi ⟨rfl, bi⟩
                  have hH := bstep hG bi
                  go_wp2_with (go_at_call 32; refine (im _).mono ?_; rintro e wj ⟨rfl, rfl⟩)
                  refine (awake_any _ (hT.below hH)).mono ?_
                  rintro e wk ⟨rfl, bk⟩
                  go_wp2_with fail
                  go_returns
                  exact ⟨rfl, bstep hH bk⟩
          · clear K1 i1
            have zz1 : ((c1 : Int) == 0) = false := beq_eq_false_iff_ne.2 (by omega)
            have zz1' : ¬ (c1 : Int) = 0 := by omega
            go_wp2_with fail
            refine (p6 _ (hT.below hA8)).mono ?_
            rintro e w9 ⟨rfl, b9⟩
            have hA9 := bstep hA8 b9
            by_cases hc2 : c2 = 0
            · by_cases hb48 : b.data.toList = [48]
              · rw [decide_eq_true hb48] at b48
                have zz2 : ((c2 : Int) == 0) = true := by rw [hc2]; rfl
                have zz2' : (c2 : Int) = 0 := by rw [hc2]; rfl
                go_wp2_with fail
                refine (p7 _ (hT.below hA9)).mono ?_
                rintro e wa ⟨rfl, ba⟩
                have hAa := bstep hA9 ba
                by_cases hk3 : k3 = 0
                · have u1 := K3.out hk3
                  have u2 : (q1 == q2) = true := by rw [u1]; exact beq_self_eq_true _
                  have zz3 : ((k3 : Int) == 0) = true := by rw [hk3]; rfl
                  have zz3' : (k3 : Int) = 0 := by rw [hk3]; rfl
                  subst u1
                  go_wp2_with fail
                  refine (p8 _ (hT.below hAa)).mono ?_
                  rintro e wb ⟨rfl, bb⟩
                  have hAb := bstep hAa bb
                  go_wp2_with fail
                  refine (p9 _ (hT.below hAb)).mono ?_
                  rintro e wc ⟨rfl, bc⟩
                  have hB := bstep hAb bc
                  go_wp2_with fail
                  refine (pu _ (hT.below hB)).mono ?_
                  rintro e wd ⟨rfl, bd⟩
                  have hC := bstep hB bd
                  go_wp2_with fail
                  refine (pv _ (hT.below hC)).mono ?_
                  rintro e we ⟨rfl, be⟩
                  have hD := bstep hC be
                  go_wp2_with fail
                  refine (pw _ (hT.below hD)).mono ?_
                  rintro e wf ⟨rfl, bf⟩
                  have hE := bstep hD bf
                  go_wp2_with fail
                  refine (px _ (hT.below hE)).mono ?_
                  rintro e wg ⟨rfl, bg⟩
                  have hF := bstep hE bg
                  go_wp2_with fail
                  refine (pp _ (hT.below hF)).mono ?_
                  rintro e wh ⟨rfl, bh⟩
                  have hG := bstep hF bh
                  go_wp2_with fail
                  refine (pm _ (hT.below hG)).mono ?_
                  rintro e wi ⟨rfl, bi⟩
                  have hH := bstep hG bi
                  go_wp2_with (go_at_call 32; refine (im _).mono ?_; rintro e wj ⟨rfl, rfl⟩)
                  refine (awake_any _ (hT.below hH)).mono ?_
                  rintro e wk ⟨rfl, bk⟩
                  go_wp2_with fail
                  go_returns
                  exact ⟨rfl, bstep hH bk⟩
                · clear K3
                  have zz3 : ((k3 : Int) == 0) = false := beq_eq_false_iff_ne.2 (by omega)
                  have zz3' : ¬ (k3 : Int) = 0 := by omega
                  have hB := hAa
                  go_wp2_with fail
                  refine (pu _ (hT.below hB)).mono ?_
                  rintro e wd ⟨rfl, bd⟩
                  have hC := bstep hB bd
                  go_wp2_with fail
                  refine (pv _ (hT.below hC)).mono ?_
                  rintro e we ⟨rfl, be⟩
                  have hD := bstep hC be
                  go_wp2_with fail
                  refine (pw _ (hT.below hD)).mono ?_
                  rintro e wf ⟨rfl, bf⟩
                  have hE := bstep hD bf
                  go_wp2_with fail
                  refine (px _ (hT.below hE)).mono ?_
                  rintro e wg ⟨rfl, bg⟩
                  have hF := bstep hE bg
                  go_wp2_with fail
                  refine (pp _ (hT.below hF)).mono ?_
                  rintro e wh ⟨rfl, bh⟩
                  have hG := bstep hF bh
                  go_wp2_with fail
                  refine (pm _ (hT.below hG)).mono ?_
                  rintro e wi ⟨rfl, bi⟩
                  have hH := bstep hG bi
                  go_wp2_with (go_at_call 32; refine (im _).mono ?_; rintro e wj ⟨rfl, rfl⟩)
                  refine (awake_any _ (hT.below hH)).mono ?_
                  rintro e wk ⟨rfl, bk⟩
                  go_wp2_with fail
                  go_returns
                  exact ⟨rfl, bstep hH bk⟩
              · obtain ⟨u1, u2⟩ := K2.out hb48 hc2
                rw [decide_eq_true u1, decide_eq_true u2] at i2
                rw [decide_eq_false hb48] at b48
                clear u1 u2
                have zz2 : ((c2 : Int) == 0) = true := by rw [hc2]; rfl
                have zz2' : (c2 : Int) = 0 := by rw [hc2]; rfl
                go_wp2_with (go_at_call 32; refine (i2 _).mono ?_; rintro e wi ⟨rfl, rfl⟩)
                refine (p7 _ (hT.below hA9)).mono ?_
                rintro e wa ⟨rfl, ba⟩
                have hAa := bstep hA9 ba
                by_cases hk3 : k3 = 0
                · have u1 := K3.out hk3
                  have u2 : (q1 == q2) = true := by rw [u1]; exact beq_self_eq_true _
                  have zz3 : ((k3 : Int) == 0) = true := by rw [hk3]; rfl
                  have zz3' : (k3 : Int) = 0 := by rw [hk3]; rfl
                  subst u1
                  go_wp2_with fail
                  refine (p8 _ (hT.below hAa)).mono ?_
                  rintro e wb ⟨rfl, bb⟩
                  have hAb := bstep hAa bb
                  go_wp2_with fail
                  refine (p9 _ (hT.below hAb)).mono ?_
                  rintro e wc ⟨rfl, bc⟩
                  have hB := bstep hAb bc
                  go_wp2_with fail
                  refine (pu _ (hT.below hB)).mono ?_
                  rintro e wd ⟨rfl, bd⟩
                  have hC := bstep hB bd
                  go_wp2_with fail
                  refine (pv _ (hT.below hC)).mono ?_
                  rintro e we ⟨rfl, be⟩
                  have hD := bstep hC be
                  go_wp2_with fail
                  refine (pw _ (hT.below hD)).mono ?_
                  rintro e wf ⟨rfl, bf⟩
                  have hE := bstep hD bf
                  go_wp2_with fail
                  refine (px _ (hT.below hE)).mono ?_
                  rintro e wg ⟨rfl, bg⟩
                  have hF := bstep hE bg
                  go_wp2_with fail
                  refine (pp _ (hT.below hF)).mono ?_
                  rintro e wh ⟨rfl, bh⟩
                  have hG := bstep hF bh
                  go_wp2_with fail
                  refine (pm _ (hT.below hG)).mono ?_
                  rintro e wi ⟨rfl, bi⟩
                  have hH := bstep hG bi
                  go_wp2_with (go_at_call 32; refine (im _).mono ?_; rintro e wj ⟨rfl, rfl⟩)
                  refine (awake_any _ (hT.below hH)).mono ?_
                  rintro e wk ⟨rfl, bk⟩
                  go_wp2_with fail
                  go_returns
                  exact ⟨rfl, bstep hH bk⟩
                · clear K3
                  have zz3 : ((k3 : Int) == 0) = false := beq_eq_false_iff_ne.2 (by omega)
                  have zz3' : ¬ (k3 : Int) = 0 := by omega
                  have hB := hAa
                  go_wp2_with fail
                  refine (pu _ (hT.below hB)).mono ?_
                  rintro e wd ⟨rfl, bd⟩
                  have hC := bstep hB bd
                  go_wp2_with fail
                  refine (pv _ (hT.below hC)).mono ?_
                  rintro e we ⟨rfl, be⟩
                  have hD := bstep hC be
                  go_wp2_with fail
                  refine (pw _ (hT.below hD)).mono ?_
                  rintro e wf ⟨rfl, bf⟩
                  have hE := bstep hD bf
                  go_wp2_with fail
                  refine (px _ (hT.below hE)).mono ?_
                  rintro e wg ⟨rfl, bg⟩
                  have hF := bstep hE bg
                  go_wp2_with fail
                  refine (pp _ (hT.below hF)).mono ?_
                  rintro e wh ⟨rfl, bh⟩
                  have hG := bstep hF bh
                  go_wp2_with fail
                  refine (pm _ (hT.below hG)).mono ?_
                  rintro e wi ⟨rfl, bi⟩
                  have hH := bstep hG bi
                  go_wp2_with (go_at_call 32; refine (im _).mono ?_; rintro e wj ⟨rfl, rfl⟩)
                  refine (awake_any _ (hT.below hH)).mono ?_
                  rintro e wk ⟨rfl, bk⟩
                  go_wp2_with fail
                  go_returns
                  exact ⟨rfl, bstep hH bk⟩
            · clear K2 i2
              have zz2 : ((c2 : Int) == 0) = false := beq_eq_false_iff_ne.2 (by omega)
              have zz2' : ¬ (c2 : Int) = 0 := by omega
              go_wp2_with fail
              refine (p7 _ (hT.below hA9)).mono ?_
              rintro e wa ⟨rfl, ba⟩
              have hAa := bstep hA9 ba
              by_cases hk3 : k3 = 0
              · have u1 := K3.out hk3
                have u2 : (q1 == q2) = true := by rw [u1]; exact beq_self_eq_true _
                have zz3 : ((k3 : Int) == 0) = true := by rw [hk3]; rfl
                have zz3' : (k3 : Int) = 0 := by rw [hk3]; rfl
                subst u1
                go_wp2_with fail
                refine (p8 _ (hT.below hAa)).mono ?_
                rintro e wb ⟨rfl, bb⟩
                have hAb := bstep hAa bb
                go_wp2_with fail
                refine (p9 _ (hT.below hAb)).mono ?_
                rintro e wc ⟨rfl, bc⟩
                have hB := bstep hAb bc
                go_wp2_with fail
                refine (pu _ (hT.below hB)).mono ?_
                rintro e wd ⟨rfl, bd⟩
                have hC := bstep hB bd
                go_wp2_with fail
                refine (pv _ (hT.below hC)).mono ?_
                rintro e we ⟨rfl, be⟩
                have hD := bstep hC be
                go_wp2_with fail
                refine (pw _ (hT.below hD)).mono ?_
                rintro e wf ⟨rfl, bf⟩
                have hE := bstep hD bf
                go_wp2_with fail
                refine (px _ (hT.below hE)).mono ?_
                rintro e wg ⟨rfl, bg⟩
                have hF := bstep hE bg
                go_wp2_with fail
                refine (pp _ (hT.below hF)).mono ?_
                rintro e wh ⟨rfl, bh⟩
                have hG := bstep hF bh
                go_wp2_with fail
                refine (pm _ (hT.below hG)).mono ?_
                rintro e wi ⟨rfl, bi⟩
                have hH := bstep hG bi
                go_wp2_with (go_at_call 32; refine (im _).mono ?_; rintro e wj ⟨rfl, rfl⟩)
                refine (awake_any _ (hT.below hH)).mono ?_
                rintro e wk ⟨rfl, bk⟩
                go_wp2_with fail
                go_returns
                exact ⟨rfl, bstep hH bk⟩
              · clear K3
                have zz3 : ((k3 : Int) == 0) = false := beq_eq_false_iff_ne.2 (by omega)
                have zz3' : ¬ (k3 : Int) = 0 := by omega
                have hB := hAa
                go_wp2_with fail
                refine (pu _ (hT.below hB)).mono ?_
                rintro e wd ⟨rfl, bd⟩
                have hC := bstep hB bd
                go_wp2_with fail
                refine (pv _ (hT.below hC)).mono ?_
                rintro e we ⟨rfl, be⟩
                have hD := bstep hC be
                go_wp2_with fail
                refine (pw _ (hT.below hD)).mono ?_
                rintro e wf ⟨rfl, bf⟩
                have hE := bstep hD bf
                go_wp2_with fail
                refine (px _ (hT.below hE)).mono ?_
                rintro e wg ⟨rfl, bg⟩
                have hF := bstep hE bg
                go_wp2_with fail
                refine (pp _ (hT.below hF)).mono ?_
                rintro e wh ⟨rfl, bh⟩
                have hG := bstep hF bh
                go_wp2_with fail
                refine (pm _ (hT.below hG)).mono ?_
                rintro e wi ⟨rfl, bi⟩
                have hH := bstep hG bi
                go_wp2_with (go_at_call 32; refine (im _).mono ?_; rintro e wj ⟨rfl, rfl⟩)
                refine (awake_any _ (hT.below hH)).mono ?_
                rintro e wk ⟨rfl, bk⟩
                go_wp2_with fail
                go_returns
                exact ⟨rfl, bstep hH bk⟩
end Go.Proofs.YtfgmjdhoeilhcaaGreatDoor
