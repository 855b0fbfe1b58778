/- Walks: Make and Cmp of rat. -/
import Derived.Test.YtfgmjdhoeilhcaaGreatDoorQk
namespace Go.Proofs.YtfgmjdhoeilhcaaGreatDoor
open Go.RowKit
set_option linter.unusedVariables false

set_option maxHeartbeats 2000000 in
set_option maxRecDepth 100000 in
theorem qmake_any (neg : Bool) (A D : ByteArray) (w : World) (hT : Tabs w) (hA : A.size ≤ 1000000) (hD : D.size ≤ 1000000) :
    Calls Tryz.prog 15 #[.bool neg, .string A, .string D] w (TxtPost w (ratMake neg A.data.toList D.data.toList)) := by
  have hmf : ∀ (fn : Fn) (first cap : Array Value) (w : World), (Instr.makeFunc fn first cap).run Tryz.prog w = .ok (.func fn first cap) w := fun _ _ _ _ => rfl
  have hb0 : Below w.heap.size w (((w.alloc (.cells #[.bool neg] 4)).alloc (.cells #[.string A] 9)).alloc (.cells #[.string D] 9)) := (((Below.refl _ w).alloc (Nat.le_refl _) _).alloc (by simp) _).alloc (by simp; omega) _
  have g1 : Below (w.alloc (.cells #[.bool neg] 4)).heap.size (w.alloc (.cells #[.bool neg] 4)) ((w.alloc (.cells #[.bool neg] 4)).alloc (.cells #[.string A] 9)) := (Below.refl _ _).alloc (Nat.le_refl _) _
  have g2 : Below ((w.alloc (.cells #[.bool neg] 4)).alloc (.cells #[.string A] 9)).heap.size ((w.alloc (.cells #[.bool neg] 4)).alloc (.cells #[.string A] 9)) (((w.alloc (.cells #[.bool neg] 4)).alloc (.cells #[.string A] 9)).alloc (.cells #[.string D] 9)) := (Below.refl _ _).alloc (Nat.le_refl _) _
  have d1 := ((Cel1.new w (.bool neg) 4).below g1).below g2
  have d2 := (Cel1.new (w.alloc (.cells #[.bool neg] 4)) (.string A) 9).below g2
  have d3 := Cel1.new ((w.alloc (.cells #[.bool neg] 4)).alloc (.cells #[.string A] 9)) (.string D) 9
  have e1 : (w.alloc (.cells #[.bool neg] 4)).heap.size = w.heap.size + 1 := by simp
  have e2 : ((w.alloc (.cells #[.bool neg] 4)).alloc (.cells #[.string A] 9)).heap.size = w.heap.size + 1 + 1 := by simp
  rw [e1] at d2
  rw [e2] at d3
  clear e1 e2 g1 g2
  have vA := fun W => nvalid_any A W (by omega)
  have vD := fun W => nvalid_any D W (by omega)
  cases h1 : okN A.data.toList with
  | false =>
    have HK : Hid (ratMake neg A.data.toList D.data.toList = ([], 1)) := by unfold Hid ratMake; rw [if_neg]; rw [h1]; simp
    rw [h1] at vA
    clear h1
    go_enter Tryz.func15, Tryz.ntmps15
    go_wp2_with (first | (go_at_call_of 37 (Value.string A); refine (vA _).mono ?_; rintro e w2 ⟨rfl, rfl⟩) | (go_at_call_of 37 (Value.string D); refine (vD _).mono ?_; rintro e w2 ⟨rfl, rfl⟩))
    go_returns
    unfold TxtPost
    rw [HK.out]
    exact ⟨rfl, hb0⟩
  | true =>
    rw [h1] at vA
    cases h2 : okN D.data.toList with
    | false =>
      have HK : Hid (ratMake neg A.data.toList D.data.toList = ([], 1)) := by unfold Hid ratMake; rw [if_neg]; rw [h2]; simp
      rw [h2] at vD
      clear h1 h2
      go_enter Tryz.func15, Tryz.ntmps15
      go_wp2_with (first | (go_at_call_of 37 (Value.string A); refine (vA _).mono ?_; rintro e w2 ⟨rfl, rfl⟩) | (go_at_call_of 37 (Value.string D); refine (vD _).mono ?_; rintro e w2 ⟨rfl, rfl⟩))
      go_returns
      unfold TxtPost
      rw [HK.out]
      exact ⟨rfl, hb0⟩
    | true =>
      rw [h2] at vD
      by_cases hz : D = ⟨#[48]⟩
      · have HK : Hid (ratMake neg A.data.toList D.data.toList = ([], 1)) := by unfold Hid ratMake; rw [if_neg]; rw [hz]; simp
        have hbeq : (D.toList == [48]) = true := by rw [hz, Lib.toList_data]; rfl
        clear h1 h2 hz
        go_enter Tryz.func15, Tryz.ntmps15
        go_wp2_with (first | (go_at_call_of 37 (Value.string A); refine (vA _).mono ?_; rintro e w2 ⟨rfl, rfl⟩) | (go_at_call_of 37 (Value.string D); refine (vD _).mono ?_; rintro e w2 ⟨rfl, rfl⟩))
        go_returns
        unfold TxtPost
        rw [HK.out]
        exact ⟨rfl, hb0⟩
      · have hz2 : D.data.toList ≠ [48] := fun e => hz (str48 e)
        have HK : Hid (ratMake neg A.data.toList D.data.toList = mkT neg (decV A.data.toList) (decV D.data.toList)) := by unfold Hid ratMake; rw [if_pos ⟨h1, h2, hz2⟩]
        have hbeq : (D.toList == [48]) = false := beq_eq_false_iff_ne.2 (fun e => hz2 (by rw [← Lib.toList_data]; exact e))
        have tA := decT_decV ((okN_iff _).1 h1).1
        have tD := decT_decV ((okN_iff _).1 h2).1
        have sA := okN_size h1
        have sD := okN_size h2
        have hn : decV D.data.toList ≠ 0 := fun e => hz2 ((okT_zero ((okN_iff _).1 h2).1).1 e)
        have hw := fun P1 P2 P3 W hf => written_make P1 P2 P3 neg (decV A.data.toList) (decV D.data.toList) W hn hf
        have hm1 := fun b1 b2 b3 W hTW k1 k2 k3 => make1_any b1 b2 b3 neg A D _ _ W hTW k1 k2 k3 tA.symm tD.symm sA sD hn
        generalize decV A.data.toList = mm at *
        generalize decV D.data.toList = nn at *
        clear h1 h2 hz hz2 tA tD hn
        go_enter Tryz.func15, Tryz.ntmps15
        go_wp2_with (first | (go_at_call_of 37 (Value.string A); refine (vA _).mono ?_; rintro e w2 ⟨rfl, rfl⟩) | (go_at_call_of 37 (Value.string D); refine (vD _).mono ?_; rintro e w2 ⟨rfl, rfl⟩))
        refine (hw _ _ _ _ (fun W hbW => hm1 w.heap.size (w.heap.size + 1) (w.heap.size + 1 + 1) W (hT.below (bstep hb0 hbW)) (d1.below hbW).c0 (d2.below hbW).c0 (d3.below hbW).c0)).mono ?_
        rintro e w4 ⟨rfl, b4⟩
        have hA4 := bstep hb0 b4
        go_wp2_with fail
        go_returns
        unfold TxtPost
        rw [HK.out]
        exact ⟨rfl, hA4⟩
theorem rat_eq_iff (x y : Rat) : x = y ↔ x.num * y.den = y.num * x.den := by
  rw [← Rat.mkRat_eq_iff x.den_nz y.den_nz, Rat.mkRat_self, Rat.mkRat_self]
/-- the order of two numbers by the difference that the program computes -/
theorem cmp_rat (x y : Rat) (sg : Bool) (N : Nat) (h : sgn sg N = sgn (decide (x.num < 0)) (x.num.natAbs * y.den) + sgn (!decide (y.num < 0)) (y.num.natAbs * x.den)) :
    (if x = y then (0 : Int) else if x < y then -1 else 1) = if N = 0 then 0 else if sg = true then -1 else 1 := by
  have e1 : sgn (decide (x.num < 0)) (x.num.natAbs * y.den) = x.num * y.den := by
    have := sgn_of x.num
    conv => rhs; rw [← this]
    unfold sgn; split <;> simp [Int.neg_mul]
  have e2 : sgn (!decide (y.num < 0)) (y.num.natAbs * x.den) = -(y.num * x.den) := by
    rw [sgn_not]
    have := sgn_of y.num
    conv => rhs; rw [← this]
    unfold sgn; split <;> simp [Int.neg_mul]
  rw [e1, e2] at h
  have h1 := rat_eq_iff x y
  have h2 := Rat.lt_iff x y
  generalize x.num * (y.den : Int) = u at *
  generalize y.num * (x.den : Int) = v at *
  have hN : N = 0 ↔ u = v := by
    unfold sgn at h
    split at h <;> omega
  by_cases hxy : x = y
  · rw [if_pos hxy, if_pos (hN.2 (h1.1 hxy))]
  · have hne : u ≠ v := fun e => hxy (h1.2 e)
    rw [if_neg hxy, if_neg (fun e => hne (hN.1 e))]
    by_cases hlt : x < y
    · rw [if_pos hlt, if_pos]
      have := h2.1 hlt
      unfold sgn at h
      cases sg with
      | true => rfl
      | false => simp at h; omega
    · rw [if_neg hlt, if_neg]
      intro e
      rw [e] at h
      unfold sgn at h
      simp at h
      apply hlt
      apply h2.2
      omega
theorem keepY {w w0 w1 : World} {bx by' : Nat} {p q : Bool} {A D B E : ByteArray} (hb : Below w0.heap.size w0 w1) (h : w0.cell? ⟨bx, 0, none⟩ = some (.bool p) ∧ w0.cell? ⟨bx, 1, none⟩ = some (.string A) ∧ w0.cell? ⟨bx, 2, none⟩ = some (.string D) ∧ w0.cell? ⟨by', 0, none⟩ = some (.bool q) ∧ w0.cell? ⟨by', 1, none⟩ = some (.string B) ∧ w0.cell? ⟨by', 2, none⟩ = some (.string E) ∧ Tabs w0 ∧ Below w.heap.size w w0) : w1.cell? ⟨bx, 0, none⟩ = some (.bool p) ∧ w1.cell? ⟨bx, 1, none⟩ = some (.string A) ∧ w1.cell? ⟨bx, 2, none⟩ = some (.string D) ∧ w1.cell? ⟨by', 0, none⟩ = some (.bool q) ∧ w1.cell? ⟨by', 1, none⟩ = some (.string B) ∧ w1.cell? ⟨by', 2, none⟩ = some (.string E) ∧ Tabs w1 ∧ Below w.heap.size w w1 := by
  obtain ⟨h1, h2, h3, h4, h5, h6, hT, hB⟩ := h
  exact ⟨(hb.cell (cell_lt h1)).trans h1, (hb.cell (cell_lt h2)).trans h2, (hb.cell (cell_lt h3)).trans h3, (hb.cell (cell_lt h4)).trans h4, (hb.cell (cell_lt h5)).trans h5, (hb.cell (cell_lt h6)).trans h6, hT.below hb, bstep hB hb⟩
theorem keepYD {w w0 : World} {bx by' : Nat} {p q : Bool} {A D B E : ByteArray} (h : w0.cell? ⟨bx, 0, none⟩ = some (.bool p) ∧ w0.cell? ⟨bx, 1, none⟩ = some (.string A) ∧ w0.cell? ⟨bx, 2, none⟩ = some (.string D) ∧ w0.cell? ⟨by', 0, none⟩ = some (.bool q) ∧ w0.cell? ⟨by', 1, none⟩ = some (.string B) ∧ w0.cell? ⟨by', 2, none⟩ = some (.string E) ∧ Tabs w0 ∧ Below w.heap.size w w0) : w0.drew.cell? ⟨bx, 0, none⟩ = some (.bool p) ∧ w0.drew.cell? ⟨bx, 1, none⟩ = some (.string A) ∧ w0.drew.cell? ⟨bx, 2, none⟩ = some (.string D) ∧ w0.drew.cell? ⟨by', 0, none⟩ = some (.bool q) ∧ w0.drew.cell? ⟨by', 1, none⟩ = some (.string B) ∧ w0.drew.cell? ⟨by', 2, none⟩ = some (.string E) ∧ Tabs w0.drew ∧ Below w.heap.size w w0.drew := keepY ((Below.refl _ _).drew) h
theorem keepYT {w w0 : World} {bx by' : Nat} {p q : Bool} {A D B E : ByteArray} (h : w0.cell? ⟨bx, 0, none⟩ = some (.bool p) ∧ w0.cell? ⟨bx, 1, none⟩ = some (.string A) ∧ w0.cell? ⟨bx, 2, none⟩ = some (.string D) ∧ w0.cell? ⟨by', 0, none⟩ = some (.bool q) ∧ w0.cell? ⟨by', 1, none⟩ = some (.string B) ∧ w0.cell? ⟨by', 2, none⟩ = some (.string E) ∧ Tabs w0 ∧ Below w.heap.size w w0) : Tabs w0 := h.2.2.2.2.2.2.1
theorem keepYB {w w0 : World} {bx by' : Nat} {p q : Bool} {A D B E : ByteArray} (h : w0.cell? ⟨bx, 0, none⟩ = some (.bool p) ∧ w0.cell? ⟨bx, 1, none⟩ = some (.string A) ∧ w0.cell? ⟨bx, 2, none⟩ = some (.string D) ∧ w0.cell? ⟨by', 0, none⟩ = some (.bool q) ∧ w0.cell? ⟨by', 1, none⟩ = some (.string B) ∧ w0.cell? ⟨by', 2, none⟩ = some (.string E) ∧ Tabs w0 ∧ Below w.heap.size w w0) : Below w.heap.size w w0 := h.2.2.2.2.2.2.2

set_option maxHeartbeats 4000000 in
set_option maxRecDepth 100000 in
theorem qcmp_any (a b : ByteArray) (w : World) (hT : Tabs w) (ha : a.size ≤ 1000000) (hb : b.size ≤ 1000000) :
    Calls Tryz.prog 21 #[.string a, .string b] w fun e w' => e = .returned (.int .i64 (ratCmp a.data.toList b.data.toList)) ∧ Below w.heap.size w w' := by
  cases hu : ratV a.data.toList with
  | none =>
    have HK : Hid (ratCmp a.data.toList b.data.toList = 0) := by unfold Hid ratCmp; rw [hu]
    have pa := fun W h => parse_no a W h ha hu
    have pb := fun W h => parse_any b W h hb
    obtain ⟨A, D, p, hpb⟩ : ∃ A D p, numV ((ratP b.data.toList).getD (false, [], [])) = .agg #[.bool p, .string A, .string D] := ⟨_, _, _, rfl⟩
    rw [hpb] at pb
    generalize (ratP b.data.toList).isSome = ok at *
    clear hu hpb
    go_enter Tryz.func21, Tryz.ntmps21
    go_wp2_with fail
    refine (pa _ hT).mono ?_
    rintro e w1 ⟨rfl, b1⟩
    go_wp2_with fail
    refine (pb _ (hT.below (b1.alloc b1.size _))).mono ?_
    rintro e w2 ⟨rfl, b2⟩
    have hA2 := bstep (b1.alloc b1.size _) b2
    go_wp2_with fail
    go_returns
    exact ⟨by rw [HK.out]; rfl, hA2.alloc hA2.size _⟩
  | some x =>
    obtain ⟨A, D, hpA, hNA⟩ := num_of hu
    have pa := fun W h => parse_yes a A D _ W h ha hpA
    cases hv : ratV b.data.toList with
    | none =>
      have HK : Hid (ratCmp a.data.toList b.data.toList = 0) := by unfold Hid ratCmp; rw [hu, hv]
      have pb := fun W h => parse_no b W h hb hv
      generalize decide (x.num < 0) = p at *
      clear hu hv hpA hNA
      go_enter Tryz.func21, Tryz.ntmps21
      go_wp2_with fail
      refine (pa _ hT).mono ?_
      rintro e w1 ⟨rfl, b1⟩
      go_wp2_with fail
      refine (pb _ (hT.below (b1.alloc b1.size _))).mono ?_
      rintro e w2 ⟨rfl, b2⟩
      have hA2 := bstep (b1.alloc b1.size _) b2
      go_wp2_with fail
      go_returns
      exact ⟨by rw [HK.out]; rfl, hA2.alloc hA2.size _⟩
    | some y =>
      obtain ⟨B, E, hpB, hNB⟩ := num_of hv
      have pb := fun W h => parse_yes b B E _ W h hb hpB
      obtain ⟨F, hF⟩ : ∃ F : ByteArray, (⟨(decT (x.num.natAbs * y.den)).toArray⟩ : ByteArray) = F := ⟨_, rfl⟩
      obtain ⟨G, hG⟩ : ∃ G : ByteArray, (⟨(decT (y.num.natAbs * x.den)).toArray⟩ : ByteArray) = G := ⟨_, rfl⟩
      have m1 := mulStr A E _ _ F hF hNA.a hNB.d hNA.sa hNB.sd
      have m2 := mulStr B D _ _ G hG hNB.a hNA.d hNB.sa hNA.sd
      obtain ⟨hFd, sF⟩ := mulSize A E _ _ F hF hNA.a hNB.d hNA.sa hNB.sd
      obtain ⟨hGd, sG⟩ := mulSize B D _ _ G hG hNB.a hNA.d hNB.sa hNA.sd
      have hal := addLen hFd hGd sF sG
      have hpl := fun W hT => rplus_any (decide (x.num < 0)) (!decide (y.num < 0)) F G _ _ W hT hFd hGd (by omega) (by omega) (by omega)
      have hcr := cmp_rat x y _ _ (addS_eq (decide (x.num < 0)) (!decide (y.num < 0)) (x.num.natAbs * y.den) (y.num.natAbs * x.den))
      have HK : Hid (ratCmp a.data.toList b.data.toList = if x = y then (0 : Int) else if x < y then -1 else 1) := by unfold Hid ratCmp; rw [hu, hv]
      rw [hcr] at HK
      generalize (addS (decide (x.num < 0)) (x.num.natAbs * y.den) (!decide (y.num < 0)) (y.num.natAbs * x.den)).1 = sg at *
      generalize (addS (decide (x.num < 0)) (x.num.natAbs * y.den) (!decide (y.num < 0)) (y.num.natAbs * x.den)).2 = N at *
      obtain ⟨S, hS0⟩ : ∃ S : ByteArray, (⟨(decT N).toArray⟩ : ByteArray) = S := ⟨_, rfl⟩
      have hS48 : (S.toList == [48]) = decide (N = 0) := str_is48 (by rw [← hS0])
      simp only [hS0] at hpl
      have hmF := fun W => must_ok F W
      have hmG := fun W => must_ok G W
      generalize decide (x.num < 0) = p at *
      generalize decide (y.num < 0) = q at *
      clear hu hv hpA hNA hpB hNB hF hG hFd hGd hal hcr hS0
      go_enter Tryz.func21, Tryz.ntmps21
      go_wp2_with fail
      refine (pa _ hT).mono ?_
      rintro e w1 ⟨rfl, b1⟩
      go_wp2_with fail
      refine (pb _ (hT.below (b1.alloc b1.size _))).mono ?_
      rintro e w2 ⟨rfl, b2⟩
      have hA2 := bstep (b1.alloc b1.size _) b2
      have g2 : Below w2.heap.size w2 (w2.alloc (.cells #[.bool q, .string B, .string E] 43)) := (Below.refl _ _).alloc (Nat.le_refl _) _
      have x3 := ((Cel3.new w1 (.bool p) (.string A) (.string D) 43).below b2).below g2
      have y3 := Cel3.new w2 (.bool q) (.string B) (.string E) 43
      have hA3 := bstep hA2 g2
      have hS' : (w2.alloc (.cells #[.bool q, .string B, .string E] 43)).cell? ⟨w1.heap.size, 0, none⟩ = some (.bool p) ∧ (w2.alloc (.cells #[.bool q, .string B, .string E] 43)).cell? ⟨w1.heap.size, 1, none⟩ = some (.string A) ∧ (w2.alloc (.cells #[.bool q, .string B, .string E] 43)).cell? ⟨w1.heap.size, 2, none⟩ = some (.string D) ∧ (w2.alloc (.cells #[.bool q, .string B, .string E] 43)).cell? ⟨w2.heap.size, 0, none⟩ = some (.bool q) ∧ (w2.alloc (.cells #[.bool q, .string B, .string E] 43)).cell? ⟨w2.heap.size, 1, none⟩ = some (.string B) ∧ (w2.alloc (.cells #[.bool q, .string B, .string E] 43)).cell? ⟨w2.heap.size, 2, none⟩ = some (.string E) ∧ Tabs (w2.alloc (.cells #[.bool q, .string B, .string E] 43)) ∧ Below w.heap.size w (w2.alloc (.cells #[.bool q, .string B, .string E] 43)) := ⟨x3.c0, x3.c1, x3.c2, y3.c0, y3.c1, y3.c2, hT.below hA3, hA3⟩
      clear x3 y3 hA3 g2
      go_wp2_with fail
      generalize w2.alloc (.cells #[.bool q, .string B, .string E] 43) = W0 at hS' ⊢
      go_region_held3 (fun w' => w'.cell? ⟨w1.heap.size, 0, none⟩ = some (.bool p) ∧ w'.cell? ⟨w1.heap.size, 1, none⟩ = some (.string A) ∧ w'.cell? ⟨w1.heap.size, 2, none⟩ = some (.string D) ∧ w'.cell? ⟨w2.heap.size, 0, none⟩ = some (.bool q) ∧ w'.cell? ⟨w2.heap.size, 1, none⟩ = some (.string B) ∧ w'.cell? ⟨w2.heap.size, 2, none⟩ = some (.string E) ∧ Tabs w' ∧ Below w.heap.size w w')
        (first | assumption | exact keepYD hS' | exact keepY hbx (by assumption))
        (first
          | (go_at_call_of 52 (Value.string A); refine (m1 _ (keepYT (by assumption))).mono ?_; rintro e wx ⟨rfl, hbx⟩)
          | (go_at_call_of 52 (Value.string B); refine (m2 _ (keepYT (by assumption))).mono ?_; rintro e wx ⟨rfl, hbx⟩)
          | (go_at_call_of 51 (Value.string F); refine (hmF _).mono ?_; rintro e wx ⟨rfl, rfl⟩)
          | (go_at_call_of 51 (Value.string G); refine (hmG _).mono ?_; rintro e wx ⟨rfl, rfl⟩)
          | (go_at_call 50; refine (hpl _ (keepYT (by assumption))).mono ?_; rintro e wx ⟨rfl, hbx⟩; have HBF := Lib.hid (bstep (keepYB (by assumption)) hbx)))
      have hBF := HBF.out
      by_cases hN : N = 0
      · rw [decide_eq_true hN] at hS48
        rw [if_pos hN] at HK
        clear hN
        go_wp2_with fail
        go_returns
        exact ⟨by rw [HK.out]; rfl, hBF⟩
      · rw [decide_eq_false hN] at hS48
        rw [if_neg hN] at HK
        clear hN
        cases sg with
        | true =>
          go_wp2_with fail
          go_returns
          exact ⟨by rw [HK.out]; rfl, hBF⟩
        | false =>
          go_wp2_with fail
          go_returns
          exact ⟨by rw [HK.out]; rfl, hBF⟩
end Go.Proofs.YtfgmjdhoeilhcaaGreatDoor
