/- Walks of the reference of rat: Sub. -/
import Derived.Test.YtfgmjdhoeilhcaaGreatDoorPd
namespace Go.Proofs.YtfgmjdhoeilhcaaGreatDoor
open Go.RowKit
set_option linter.unusedVariables false

theorem neg_parts (y : Rat) : (-y).num.natAbs = y.num.natAbs ∧ (-y).den = y.den := ⟨by rw [Rat.neg_num, Int.natAbs_neg], Rat.neg_den y⟩
theorem ratNeg_some {l : Bs} {y : Rat} (h : ratV l = some y) : ratNeg l = (ratT (-y), 0) ∧ ratV (ratT (-y)) = some (-y) ∧ (ratT (-y)).length ≤ 802 := by
  obtain ⟨h1, h2, h3, h4⟩ := ratV_some h
  obtain ⟨e1, e2⟩ := neg_parts y
  have k1 : (decT (-y).num.natAbs).length ≤ 400 := by rw [e1]; exact h2
  have k2 : (decT (-y).den).length ≤ 400 := by rw [e2]; exact h3
  refine ⟨?_, ratV_T k1 k2, ?_⟩
  · unfold ratNeg ratSub ratOp
    rw [ratV_zero, h]
    show limR (0 - y) = _
    rw [Rat.sub_eq_add_neg, Rat.zero_add]
    unfold limR
    rw [if_neg (by omega)]
  · unfold ratT
    rw [List.length_append, List.length_append]
    have a1 : (if (-y).num < 0 then [45] else ([] : Bs)).length ≤ 1 := by split <;> simp
    have a2 : (if (-y).den = 1 then ([] : Bs) else 47 :: decT (-y).den).length ≤ 401 := by split <;> simp; omega
    omega
set_option maxHeartbeats 2000000 in
set_option maxRecDepth 100000 in
theorem psub_any (a b : ByteArray) (w : World) (ha : a.size ≤ 100000) (hb : b.size ≤ 100000) :
    Calls Tryz.prog 28 #[.string a, .string b] w (TxtPost w (ratSub a.data.toList b.data.toList)) := by
  have hn := pneg_any b w hb
  have hv := fun W => pvalid_any a W ha
  cases hv2 : ratV b.data.toList with
  | none =>
    have e1 : ratNeg b.data.toList = ([], 1) := by unfold ratNeg ratSub ratOp; rw [ratV_zero, hv2]
    have HK : Hid (ratSub a.data.toList b.data.toList = ([], 1)) := by unfold Hid ratSub ratOp; rw [hv2]; cases ratV a.data.toList <;> rfl
    rw [e1] at hn
    unfold TxtPost at hn
    clear e1 hv2
    go_enter Tryz.func28, Tryz.ntmps28
    go_wp2_with (go_at_call 20; refine hn.mono ?_; rintro e w1 ⟨rfl, b1⟩)
    go_returns
    unfold TxtPost
    rw [HK.out]
    exact ⟨rfl, b1⟩
  | some y =>
    obtain ⟨e1, e2, e3⟩ := ratNeg_some hv2
    rw [e1] at hn
    unfold TxtPost at hn
    obtain ⟨C, hC⟩ : ∃ C : ByteArray, (⟨(ratT (-y)).toArray⟩ : ByteArray) = C := ⟨_, rfl⟩
    have hCd : C.data.toList = ratT (-y) := by rw [← hC]
    have sC : C.size ≤ 100000 := by rw [Lib.size_eq, hCd]; omega
    simp only [hC] at hn
    have pa := fun W => padd_any a C W ha sC
    rw [hCd] at pa
    cases hu : ratV a.data.toList with
    | none =>
      have HK : Hid (ratSub a.data.toList b.data.toList = ([], 1)) := by unfold Hid ratSub ratOp; rw [hu]
      rw [hu] at hv
      clear e1 e2 e3 hC hCd hv2 hu pa
      go_enter Tryz.func28, Tryz.ntmps28
      go_wp2_with (first
        | (go_at_call 20; refine hn.mono ?_; rintro e w1 ⟨rfl, b1⟩)
        | (go_at_call 60; refine (hv _).mono ?_; rintro e w2 ⟨rfl, b2⟩; have hA2 := bstep b1 b2))
      go_returns
      unfold TxtPost
      rw [HK.out]
      exact ⟨rfl, hA2⟩
    | some x =>
      have HK : Hid (ratSub a.data.toList b.data.toList = ratAdd a.data.toList (ratT (-y))) := by
        unfold Hid ratSub ratAdd ratOp; rw [hu, hv2, e2]; show limR (x - y) = limR (x + -y); rw [Rat.sub_eq_add_neg]
      rw [← HK.out] at pa
      rw [hu] at hv
      unfold TxtPost at pa
      clear e1 e2 e3 hC hCd hv2 hu
      go_enter Tryz.func28, Tryz.ntmps28
      go_wp2_with (first
        | (go_at_call 20; refine hn.mono ?_; rintro e w1 ⟨rfl, b1⟩)
        | (go_at_call 60; refine (hv _).mono ?_; rintro e w2 ⟨rfl, b2⟩; have hA2 := bstep b1 b2)
        | (go_at_call 27; refine (pa _).mono ?_; rintro e w3 ⟨rfl, b3⟩; have hA3 := bstep hA2 b3))
      go_returns
      unfold TxtPost
      exact ⟨rfl, hA3⟩
end Go.Proofs.YtfgmjdhoeilhcaaGreatDoor
