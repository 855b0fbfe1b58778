/- Walks of the reference of rat: Cmp, Add, Sub, Mul, Div. -/
import Derived.Test.YtfgmjdhoeilhcaaGreatDoorPc
namespace Go.Proofs.YtfgmjdhoeilhcaaGreatDoor
open Go.RowKit
set_option linter.unusedVariables false

/-- what the walks of two numbers share -/
theorem decLen {F : ByteArray} {n : Nat} (h : F.data.toList = decT n) : (decT n).length = F.size := by rw [← h, Lib.size_eq]

set_option maxHeartbeats 2000000 in
set_option maxRecDepth 100000 in
theorem padd_any (a b : ByteArray) (w : World) (ha : a.size ≤ 100000) (hb : b.size ≤ 100000) :
    Calls Tryz.prog 27 #[.string a, .string b] w (TxtPost w (ratAdd a.data.toList b.data.toList)) := by
  cases hu : ratV a.data.toList with
  | none =>
    refine (padd_bad a b w ha hb (Or.inl hu)).mono ?_
    rintro e w' ⟨rfl, h⟩
    unfold TxtPost ratAdd ratOp
    rw [hu]
    exact ⟨rfl, h⟩
  | some x =>
    cases hv : ratV b.data.toList with
    | none =>
      refine (padd_bad a b w ha hb (Or.inr hv)).mono ?_
      rintro e w' ⟨rfl, h⟩
      unfold TxtPost ratAdd ratOp
      rw [hu, hv]
      exact ⟨rfl, h⟩
    | some y =>
      obtain ⟨A, D, hpA, hNA⟩ := num_of hu
      obtain ⟨B, E, hpB, hNB⟩ := num_of hv
      have HK : Hid (ratAdd a.data.toList b.data.toList = limR (x + y)) := by unfold Hid ratAdd ratOp; rw [hu, hv]
      rw [← mkT_add] at HK
      have pa := fun W => pparts_yes a A D _ W ha hpA
      have pb := fun W => pparts_yes b B E _ W hb hpB
      obtain ⟨F, hF⟩ : ∃ F : ByteArray, (⟨(decT (x.num.natAbs * y.den)).toArray⟩ : ByteArray) = F := ⟨_, rfl⟩
      obtain ⟨G, hG⟩ : ∃ G : ByteArray, (⟨(decT (y.num.natAbs * x.den)).toArray⟩ : ByteArray) = G := ⟨_, rfl⟩
      obtain ⟨H, hH⟩ : ∃ G : ByteArray, (⟨(decT (x.den * y.den)).toArray⟩ : ByteArray) = G := ⟨_, rfl⟩
      have m1 := ptimes_any A E _ _ F hF hNA.a hNB.d hNA.sa hNB.sd
      have m2 := ptimes_any B D _ _ G hG hNB.a hNA.d hNB.sa hNA.sd
      have m3 := ptimes_any D E _ _ H hH hNA.d hNB.d hNA.sd hNB.sd
      obtain ⟨hFd, sF⟩ := mulSize A E _ _ F hF hNA.a hNB.d hNA.sa hNB.sd
      obtain ⟨hGd, sG⟩ := mulSize B D _ _ G hG hNB.a hNA.d hNB.sa hNA.sd
      obtain ⟨hHd, sH⟩ := mulSize D E _ _ H hH hNA.d hNB.d hNA.sd hNB.sd
      have hal := addLen hFd hGd sF sG
      have hpl := fun W => psum_any (decide (x.num < 0)) (decide (y.num < 0)) F G _ _ W hFd hGd (by omega) (by omega) (by omega)
      have hle := decT_mono (addS_le (decide (x.num < 0)) (x.num.natAbs * y.den) (decide (y.num < 0)) (y.num.natAbs * x.den))
      have hdz := Nat.mul_ne_zero x.den_nz y.den_nz
      generalize (addS (decide (x.num < 0)) (x.num.natAbs * y.den) (decide (y.num < 0)) (y.num.natAbs * x.den)).1 = sg at *
      generalize (addS (decide (x.num < 0)) (x.num.natAbs * y.den) (decide (y.num < 0)) (y.num.natAbs * x.den)).2 = N at *
      obtain ⟨S, hS0⟩ : ∃ S : ByteArray, (⟨(decT N).toArray⟩ : ByteArray) = S := ⟨_, rfl⟩
      have hSd : S.data.toList = decT N := by rw [← hS0]
      have sS : S.size ≤ 1000 := by rw [← decLen hSd]; omega
      simp only [hS0] at hpl
      have pm := fun W => pmake_any sg S H _ _ W hSd hHd sS (by omega) hdz
      generalize x.den * y.den = Dn at *
      generalize decide (x.num < 0) = p at *
      generalize decide (y.num < 0) = q at *
      clear hu hv hpA hNA hpB hNB hF hG hH hFd hGd hHd hal hle hS0 hSd hdz
      go_enter Tryz.func27, Tryz.ntmps27
      go_wp2_with fail
      refine (pa _).mono ?_
      rintro e w1 ⟨rfl, b1⟩
      go_wp2_with fail
      refine (pb _).mono ?_
      rintro e w2 ⟨rfl, b2⟩
      have hA2 := bstep b1 b2
      go_wp2_with fail
      refine (m1 _).mono ?_
      rintro e w3 ⟨rfl, b3⟩
      have hA3 := bstep hA2 b3
      go_wp2_with fail
      refine (m2 _).mono ?_
      rintro e w4 ⟨rfl, b4⟩
      have hA4 := bstep hA3 b4
      go_wp2_with fail
      refine (hpl _).mono ?_
      rintro e w5 ⟨rfl, b5⟩
      have hA5 := bstep hA4 b5
      go_wp2_with fail
      refine (m3 _).mono ?_
      rintro e w6 ⟨rfl, b6⟩
      have hA6 := bstep hA5 b6
      go_wp2_with fail
      refine (pm _).mono ?_
      rintro e w7 ⟨rfl, b7⟩
      have hA7 := bstep hA6 b7
      go_wp2_with fail
      go_returns
      unfold TxtPost
      rw [HK.out]
      exact ⟨rfl, hA7⟩
set_option maxHeartbeats 2000000 in
set_option maxRecDepth 100000 in
theorem pcmp_any (a b : ByteArray) (w : World) (ha : a.size ≤ 100000) (hb : b.size ≤ 100000) :
    Calls Tryz.prog 22 #[.string a, .string b] w fun e w' => e = .returned (.int .i64 (ratCmp a.data.toList b.data.toList)) ∧ Below w.heap.size w w' := by
  cases hu : ratV a.data.toList with
  | none =>
    refine (pcmp_bad a b w ha hb (Or.inl hu)).mono ?_
    rintro e w' ⟨rfl, h⟩
    unfold ratCmp
    rw [hu]
    exact ⟨rfl, h⟩
  | some x =>
    cases hv : ratV b.data.toList with
    | none =>
      refine (pcmp_bad a b w ha hb (Or.inr hv)).mono ?_
      rintro e w' ⟨rfl, h⟩
      unfold ratCmp
      rw [hu, hv]
      exact ⟨rfl, h⟩
    | some y =>
      obtain ⟨A, D, hpA, hNA⟩ := num_of hu
      obtain ⟨B, E, hpB, hNB⟩ := num_of hv
      have pa := fun W => pparts_yes a A D _ W ha hpA
      have pb := fun W => pparts_yes b B E _ W hb hpB
      obtain ⟨F, hF⟩ : ∃ F : ByteArray, (⟨(decT (x.num.natAbs * y.den)).toArray⟩ : ByteArray) = F := ⟨_, rfl⟩
      obtain ⟨G, hG⟩ : ∃ G : ByteArray, (⟨(decT (y.num.natAbs * x.den)).toArray⟩ : ByteArray) = G := ⟨_, rfl⟩
      have m1 := ptimes_any A E _ _ F hF hNA.a hNB.d hNA.sa hNB.sd
      have m2 := ptimes_any B D _ _ G hG hNB.a hNA.d hNB.sa hNA.sd
      obtain ⟨hFd, sF⟩ := mulSize A E _ _ F hF hNA.a hNB.d hNA.sa hNB.sd
      obtain ⟨hGd, sG⟩ := mulSize B D _ _ G hG hNB.a hNA.d hNB.sa hNA.sd
      have hal := addLen hFd hGd sF sG
      have hpl := fun W => psum_any (decide (x.num < 0)) (!decide (y.num < 0)) F G _ _ W hFd hGd (by omega) (by omega) (by omega)
      have hcr := cmp_rat x y _ _ (addS_eq (decide (x.num < 0)) (!decide (y.num < 0)) (x.num.natAbs * y.den) (y.num.natAbs * x.den))
      have HK : Hid (ratCmp a.data.toList b.data.toList = if x = y then (0 : Int) else if x < y then -1 else 1) := by unfold Hid ratCmp; rw [hu, hv]
      rw [hcr] at HK
      generalize (addS (decide (x.num < 0)) (x.num.natAbs * y.den) (!decide (y.num < 0)) (y.num.natAbs * x.den)).1 = sg at *
      generalize (addS (decide (x.num < 0)) (x.num.natAbs * y.den) (!decide (y.num < 0)) (y.num.natAbs * x.den)).2 = N at *
      obtain ⟨S, hS0⟩ : ∃ S : ByteArray, (⟨(decT N).toArray⟩ : ByteArray) = S := ⟨_, rfl⟩
      have hS48 : (S.toList == [48]) = decide (N = 0) := str_is48 (by rw [← hS0])
      simp only [hS0] at hpl
      generalize decide (x.num < 0) = p at *
      generalize decide (y.num < 0) = q at *
      clear hu hv hpA hNA hpB hNB hF hG hFd hGd hal hcr hS0
      go_enter Tryz.func22, Tryz.ntmps22
      go_wp2_with fail
      refine (pa _).mono ?_
      rintro e w1 ⟨rfl, b1⟩
      go_wp2_with fail
      refine (pb _).mono ?_
      rintro e w2 ⟨rfl, b2⟩
      have hA2 := bstep b1 b2
      go_wp2_with fail
      refine (m1 _).mono ?_
      rintro e w3 ⟨rfl, b3⟩
      have hA3 := bstep hA2 b3
      go_wp2_with fail
      refine (m2 _).mono ?_
      rintro e w4 ⟨rfl, b4⟩
      have hA4 := bstep hA3 b4
      go_wp2_with fail
      refine (hpl _).mono ?_
      rintro e w5 ⟨rfl, b5⟩
      have hA5 := bstep hA4 b5
      by_cases hN : N = 0
      · rw [decide_eq_true hN] at hS48
        rw [if_pos hN] at HK
        clear hN
        go_wp2_with fail
        go_returns
        exact ⟨by rw [HK.out]; rfl, hA5⟩
      · rw [decide_eq_false hN] at hS48
        rw [if_neg hN] at HK
        clear hN
        cases sg with
        | true =>
          go_wp2_with fail
          go_returns
          exact ⟨by rw [HK.out]; rfl, hA5⟩
        | false =>
          go_wp2_with fail
          go_returns
          exact ⟨by rw [HK.out]; rfl, hA5⟩
set_option maxHeartbeats 2000000 in
set_option maxRecDepth 100000 in
theorem pmul_any (a b : ByteArray) (w : World) (ha : a.size ≤ 100000) (hb : b.size ≤ 100000) :
    Calls Tryz.prog 29 #[.string a, .string b] w (TxtPost w (ratMul a.data.toList b.data.toList)) := by
  cases hu : ratV a.data.toList with
  | none =>
    refine (pmul_bad a b w ha hb (Or.inl hu)).mono ?_
    rintro e w' ⟨rfl, h⟩
    unfold TxtPost ratMul ratOp
    rw [hu]
    exact ⟨rfl, h⟩
  | some x =>
    cases hv : ratV b.data.toList with
    | none =>
      refine (pmul_bad a b w ha hb (Or.inr hv)).mono ?_
      rintro e w' ⟨rfl, h⟩
      unfold TxtPost ratMul ratOp
      rw [hu, hv]
      exact ⟨rfl, h⟩
    | some y =>
      obtain ⟨A, D, hpA, hNA⟩ := num_of hu
      obtain ⟨B, E, hpB, hNB⟩ := num_of hv
      have HK : Hid (ratMul a.data.toList b.data.toList = limR (x * y)) := by unfold Hid ratMul ratOp; rw [hu, hv]
      rw [← mkT_mul] at HK
      have pa := fun W => pparts_yes a A D _ W ha hpA
      have pb := fun W => pparts_yes b B E _ W hb hpB
      obtain ⟨F, hF⟩ : ∃ F : ByteArray, (⟨(decT (x.num.natAbs * y.num.natAbs)).toArray⟩ : ByteArray) = F := ⟨_, rfl⟩
      obtain ⟨G, hG⟩ : ∃ G : ByteArray, (⟨(decT (x.den * y.den)).toArray⟩ : ByteArray) = G := ⟨_, rfl⟩
      have m1 := ptimes_any A B _ _ F hF hNA.a hNB.a hNA.sa hNB.sa
      have m2 := ptimes_any D E _ _ G hG hNA.d hNB.d hNA.sd hNB.sd
      obtain ⟨hFd, sF⟩ := mulSize A B _ _ F hF hNA.a hNB.a hNA.sa hNB.sa
      obtain ⟨hGd, sG⟩ := mulSize D E _ _ G hG hNA.d hNB.d hNA.sd hNB.sd
      have pm := fun W => pmake_any (!decide (x.num < 0) == decide (y.num < 0)) F G _ _ W hFd hGd (by omega) (by omega) (Nat.mul_ne_zero x.den_nz y.den_nz)
      have HK2 : Hid (ratMul a.data.toList b.data.toList = mkT (!decide (x.num < 0) == decide (y.num < 0)) (x.num.natAbs * y.num.natAbs) (x.den * y.den)) := HK.out
      generalize x.num.natAbs * y.num.natAbs = N at *
      generalize x.den * y.den = Dn at *
      generalize decide (x.num < 0) = p at *
      generalize decide (y.num < 0) = q at *
      clear hu hv hpA hNA hpB hNB hF hG hFd hGd HK
      go_enter Tryz.func29, Tryz.ntmps29
      go_wp2_with fail
      refine (pa _).mono ?_
      rintro e w1 ⟨rfl, b1⟩
      go_wp2_with fail
      refine (pb _).mono ?_
      rintro e w2 ⟨rfl, b2⟩
      have hA2 := bstep b1 b2
      go_wp2_with fail
      refine (m1 _).mono ?_
      rintro e w3 ⟨rfl, b3⟩
      have hA3 := bstep hA2 b3
      go_wp2_with fail
      refine (m2 _).mono ?_
      rintro e w4 ⟨rfl, b4⟩
      have hA4 := bstep hA3 b4
      go_wp2_with fail
      refine (pm _).mono ?_
      rintro e w7 ⟨rfl, b7⟩
      have hA7 := bstep hA4 b7
      go_wp2_with fail
      go_returns
      unfold TxtPost
      rw [HK2.out]
      exact ⟨rfl, hA7⟩
set_option maxHeartbeats 2000000 in
set_option maxRecDepth 100000 in
theorem pdiv_any (a b : ByteArray) (w : World) (ha : a.size ≤ 100000) (hb : b.size ≤ 100000) :
    Calls Tryz.prog 30 #[.string a, .string b] w (TxtPost w (ratDiv a.data.toList b.data.toList)) := by
  cases hu : ratV a.data.toList with
  | none =>
    refine (pdiv_bad a b w ha hb (Or.inl hu)).mono ?_
    rintro e w' ⟨rfl, h⟩
    unfold TxtPost ratDiv ratOp
    rw [hu]
    exact ⟨rfl, h⟩
  | some x =>
    cases hv : ratV b.data.toList with
    | none =>
      refine (pdiv_bad a b w ha hb (Or.inr hv)).mono ?_
      rintro e w' ⟨rfl, h⟩
      unfold TxtPost ratDiv ratOp
      rw [hu, hv]
      exact ⟨rfl, h⟩
    | some y =>
      obtain ⟨A, D, hpA, hNA⟩ := num_of hu
      obtain ⟨B, E, hpB, hNB⟩ := num_of hv
      have pa := fun W => pparts_yes a A D _ W ha hpA
      have pb := fun W => pparts_yes b B E _ W hb hpB
      have b48 := str_is48 hNB.a
      by_cases hy : y = 0
      · have HK : Hid (ratDiv a.data.toList b.data.toList = ([], 4)) := by
          unfold Hid ratDiv ratOp; rw [hu, hv]; exact if_pos hy
        rw [decide_eq_true (by rw [hy]; rfl)] at b48
        generalize decide (x.num < 0) = p at *
        generalize decide (y.num < 0) = q at *
        clear hu hv hpA hNA hpB hNB hy
        go_enter Tryz.func30, Tryz.ntmps30
        go_wp2_with fail
        refine (pa _).mono ?_
        rintro e w1 ⟨rfl, b1⟩
        go_wp2_with fail
        refine (pb _).mono ?_
        rintro e w2 ⟨rfl, b2⟩
        have hA2 := bstep b1 b2
        go_wp2_with fail
        go_returns
        unfold TxtPost
        rw [HK.out]
        exact ⟨rfl, hA2⟩
      · have hyn := num_ne hy
        have HK : Hid (ratDiv a.data.toList b.data.toList = limR (x / y)) := by
          unfold Hid ratDiv ratOp; rw [hu, hv]; exact if_neg hy
        rw [← mkT_div x y hy] at HK
        rw [decide_eq_false hyn] at b48
        obtain ⟨F, hF⟩ : ∃ F : ByteArray, (⟨(decT (x.num.natAbs * y.den)).toArray⟩ : ByteArray) = F := ⟨_, rfl⟩
        obtain ⟨G, hG⟩ : ∃ G : ByteArray, (⟨(decT (x.den * y.num.natAbs)).toArray⟩ : ByteArray) = G := ⟨_, rfl⟩
        have m1 := ptimes_any A E _ _ F hF hNA.a hNB.d hNA.sa hNB.sd
        have m2 := ptimes_any D B _ _ G hG hNA.d hNB.a hNA.sd hNB.sa
        obtain ⟨hFd, sF⟩ := mulSize A E _ _ F hF hNA.a hNB.d hNA.sa hNB.sd
        obtain ⟨hGd, sG⟩ := mulSize D B _ _ G hG hNA.d hNB.a hNA.sd hNB.sa
        have pm := fun W => pmake_any (!decide (x.num < 0) == decide (y.num < 0)) F G _ _ W hFd hGd (by omega) (by omega) (Nat.mul_ne_zero x.den_nz hyn)
        have HK2 : Hid (ratDiv a.data.toList b.data.toList = mkT (!decide (x.num < 0) == decide (y.num < 0)) (x.num.natAbs * y.den) (x.den * y.num.natAbs)) := HK.out
        generalize x.num.natAbs * y.den = N at *
        generalize x.den * y.num.natAbs = Dn at *
        generalize decide (x.num < 0) = p at *
        generalize decide (y.num < 0) = q at *
        clear hu hv hpA hNA hpB hNB hF hG hFd hGd HK hy hyn
        go_enter Tryz.func30, Tryz.ntmps30
        go_wp2_with fail
        refine (pa _).mono ?_
        rintro e w1 ⟨rfl, b1⟩
        go_wp2_with fail
        refine (pb _).mono ?_
        rintro e w2 ⟨rfl, b2⟩
        have hA2 := bstep b1 b2
        go_wp2_with fail
        refine (m1 _).mono ?_
        rintro e w3 ⟨rfl, b3⟩
        have hA3 := bstep hA2 b3
        go_wp2_with fail
        refine (m2 _).mono ?_
        rintro e w4 ⟨rfl, b4⟩
        have hA4 := bstep hA3 b4
        go_wp2_with fail
        refine (pm _).mono ?_
        rintro e w7 ⟨rfl, b7⟩
        have hA7 := bstep hA4 b7
        go_wp2_with fail
        go_returns
        unfold TxtPost
        rw [HK2.out]
        exact ⟨rfl, hA7⟩
end Go.Proofs.YtfgmjdhoeilhcaaGreatDoor
