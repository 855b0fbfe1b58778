/- Walks: compute. -/
import Derived.Test.YtfgmjdhoeilhcaaGreatDoorQi
namespace Go.Proofs.YtfgmjdhoeilhcaaGreatDoor
open Go.RowKit
set_option linter.unusedVariables false

theorem ratP_of_none {l : Bs} (h : ratV l = none) : ratP l = none := ratV_none.1 h
/-- parse of a text that is no number -/
theorem parse_no (s : ByteArray) (w : World) (hT : Tabs w) (hs : s.size ≤ 1000000) (h : ratV s.data.toList = none) :
    Calls Tryz.prog 33 #[.string s] w fun e w' => e = .returned (.tuple #[.agg #[.bool false, .string ⟨#[]⟩, .string ⟨#[]⟩], .bool false]) ∧ Below w.heap.size w w' := by
  have hp := parse_any s w hT hs
  rw [ratP_of_none h] at hp
  exact hp
/-- parse of a text that is a number -/
theorem parse_yes (s A D : ByteArray) (p : Bool) (w : World) (hT : Tabs w) (hs : s.size ≤ 1000000) (h : ratP s.data.toList = some (p, A.data.toList, D.data.toList)) :
    Calls Tryz.prog 33 #[.string s] w fun e w' => e = .returned (.tuple #[.agg #[.bool p, .string A, .string D], .bool true]) ∧ Below w.heap.size w w' := by
  have hp := parse_any s w hT hs
  rw [h] at hp
  have e1 : numV (p, A.data.toList, D.data.toList) = .agg #[.bool p, .string A, .string D] := by
    unfold numV
    rw [data_of (s := A) rfl, data_of (s := D) rfl]
  simp only [Option.getD_some, Option.isSome_some, e1] at hp
  exact hp

set_option maxHeartbeats 2000000 in
set_option maxRecDepth 100000 in
theorem compute_add (a b : ByteArray) (w : World) (hT : Tabs w) (ha : a.size ≤ 1000000) (hb : b.size ≤ 1000000)  :
    Calls Tryz.prog 55 #[.string a, .string b, .func (.func 56) #[] #[]] w (TxtPost w (ratAdd a.data.toList b.data.toList)) := by
  have hmf : ∀ (fn : Fn) (first cap : Array Value) (w : World), (Instr.makeFunc fn first cap).run Tryz.prog w = .ok (.func fn first cap) w := fun _ _ _ _ => rfl
  have hb0 : Below w.heap.size w (w.alloc (.cells #[.func (.func 56) #[] #[]] 64)) := (Below.refl _ w).alloc (Nat.le_refl _) _
  have d1 := Cel1.new w (.func (.func 56) #[] #[]) 64
  have hT0 := hT.below hb0
  cases hu : ratV a.data.toList with
  | none =>
    have HK : Hid (ratAdd a.data.toList b.data.toList = ([], 1)) := by unfold Hid ratAdd ratOp; rw [hu]
    have pa := fun W h => parse_no a W h ha hu
    have pb := fun W h => parse_any b W h hb
    obtain ⟨A, D, p, hpb⟩ : ∃ A D p, numV ((ratP b.data.toList).getD (false, [], [])) = .agg #[.bool p, .string A, .string D] := ⟨_, _, _, rfl⟩
    rw [hpb] at pb
    generalize (ratP b.data.toList).isSome = ok at *
    clear hu hpb
    go_enter Tryz.func55, Tryz.ntmps55
    go_wp2_with fail
    refine (pa _ hT0).mono ?_
    rintro e w1 ⟨rfl, b1⟩
    have hA1 := bstep hb0 b1
    go_wp2_with fail
    refine (pb _ (hT.below (hA1.alloc hA1.size _))).mono ?_
    rintro e w2 ⟨rfl, b2⟩
    have hA2 := bstep (hA1.alloc hA1.size _) b2
    go_wp2_with fail
    go_returns
    unfold TxtPost
    rw [HK.out]
    exact ⟨rfl, hA2.alloc hA2.size _⟩
  | some x =>
    obtain ⟨A, D, hpA, hNA⟩ := num_of hu
    have pa := fun W h => parse_yes a A D _ W h ha hpA
    cases hv : ratV b.data.toList with
    | none =>
      have HK : Hid (ratAdd a.data.toList b.data.toList = ([], 1)) := by unfold Hid ratAdd ratOp; rw [hu, hv]
      have pb := fun W h => parse_no b W h hb hv
      generalize decide (x.num < 0) = p at *
      clear hu hv hpA hNA
      go_enter Tryz.func55, Tryz.ntmps55
      go_wp2_with fail
      refine (pa _ hT0).mono ?_
      rintro e w1 ⟨rfl, b1⟩
      have hA1 := bstep hb0 b1
      go_wp2_with fail
      refine (pb _ (hT.below (hA1.alloc hA1.size _))).mono ?_
      rintro e w2 ⟨rfl, b2⟩
      have hA2 := bstep (hA1.alloc hA1.size _) b2
      go_wp2_with fail
      go_returns
      unfold TxtPost
      rw [HK.out]
      exact ⟨rfl, hA2.alloc hA2.size _⟩
    | some y =>
      obtain ⟨B, E, hpB, hNB⟩ := num_of hv
      have pb := fun W h => parse_yes b B E _ W h hb hpB
      have HK : Hid (ratAdd a.data.toList b.data.toList = mkT ((addS (decide (x.num < 0)) (x.num.natAbs * y.den) (decide (y.num < 0)) (y.num.natAbs * x.den)).1) ((addS (decide (x.num < 0)) (x.num.natAbs * y.den) (decide (y.num < 0)) (y.num.natAbs * x.den)).2) (x.den * y.den)) := by
        unfold Hid ratAdd ratOp
        rw [hu, hv]
        first
          | exact (mkT_add x y).symm
          | (show (if y = 0 then _ else _) = _; rw [if_neg (hyz x y hu hv)]; exact (mkT_add x y).symm)
      have hn : x.den * y.den ≠ 0 := Nat.mul_ne_zero x.den_nz y.den_nz
      have hc := fun W hT => cloAdd_any (decide (x.num < 0)) (decide (y.num < 0)) A D B E _ _ _ _ W hT hNA hNB 
      have hw := fun P1 P2 P3 W hf => written_compute P1 P2 P3 ((addS (decide (x.num < 0)) (x.num.natAbs * y.den) (decide (y.num < 0)) (y.num.natAbs * x.den)).1) ((addS (decide (x.num < 0)) (x.num.natAbs * y.den) (decide (y.num < 0)) (y.num.natAbs * x.den)).2) (x.den * y.den) W hn hf
      generalize (addS (decide (x.num < 0)) (x.num.natAbs * y.den) (decide (y.num < 0)) (y.num.natAbs * x.den)).1 = ng at *
      generalize (addS (decide (x.num < 0)) (x.num.natAbs * y.den) (decide (y.num < 0)) (y.num.natAbs * x.den)).2 = mm at *
      generalize x.den * y.den = nn at *
      generalize decide (x.num < 0) = p at *
      generalize decide (y.num < 0) = q at *
      clear hu hv hpA hNA hpB hNB hn
      go_enter Tryz.func55, Tryz.ntmps55
      go_wp2_with fail
      refine (pa _ hT0).mono ?_
      rintro e w1 ⟨rfl, b1⟩
      have hA1 := bstep hb0 b1
      go_wp2_with fail
      refine (pb _ (hT.below (hA1.alloc hA1.size _))).mono ?_
      rintro e w2 ⟨rfl, b2⟩
      have hA2 := bstep (hA1.alloc hA1.size _) b2
      have e1 := d1.below b1
      have g1 : Below w1.heap.size w1 (w1.alloc (.cells #[.bool p, .string A, .string D] 43)) := (Below.refl _ _).alloc (Nat.le_refl _) _
      have g2 : Below w2.heap.size w2 (w2.alloc (.cells #[.bool q, .string B, .string E] 43)) := (Below.refl _ _).alloc (Nat.le_refl _) _
      have e3 := ((e1.below g1).below b2).below g2
      have x3 := ((Cel3.new w1 (.bool p) (.string A) (.string D) 43).below b2).below g2
      have y3 := Cel3.new w2 (.bool q) (.string B) (.string E) 43
      have hA3 := bstep hA2 g2
      go_wp2_with fail
      refine (hw _ _ _ _ (fun W hbW => comp1_add w.heap.size w1.heap.size w2.heap.size _ _ _ _ _ _ _ _ _ W (e3.below hbW).c0 ⟨(x3.below hbW).c0, (x3.below hbW).c1, (x3.below hbW).c2⟩ ⟨(y3.below hbW).c0, (y3.below hbW).c1, (y3.below hbW).c2⟩ (fun W' hW' => hc W' (hT.below (bstep (bstep hA3 hbW) hW'))))).mono ?_
      rintro e w4 ⟨rfl, b4⟩
      have hA4 := bstep hA3 b4
      go_wp2_with fail
      go_returns
      unfold TxtPost
      rw [HK.out]
      exact ⟨rfl, hA4⟩
set_option maxHeartbeats 2000000 in
set_option maxRecDepth 100000 in
theorem compute_sub (a b : ByteArray) (w : World) (hT : Tabs w) (ha : a.size ≤ 1000000) (hb : b.size ≤ 1000000)  :
    Calls Tryz.prog 55 #[.string a, .string b, .func (.func 57) #[] #[]] w (TxtPost w (ratSub a.data.toList b.data.toList)) := by
  have hmf : ∀ (fn : Fn) (first cap : Array Value) (w : World), (Instr.makeFunc fn first cap).run Tryz.prog w = .ok (.func fn first cap) w := fun _ _ _ _ => rfl
  have hb0 : Below w.heap.size w (w.alloc (.cells #[.func (.func 57) #[] #[]] 64)) := (Below.refl _ w).alloc (Nat.le_refl _) _
  have d1 := Cel1.new w (.func (.func 57) #[] #[]) 64
  have hT0 := hT.below hb0
  cases hu : ratV a.data.toList with
  | none =>
    have HK : Hid (ratSub a.data.toList b.data.toList = ([], 1)) := by unfold Hid ratSub ratOp; rw [hu]
    have pa := fun W h => parse_no a W h ha hu
    have pb := fun W h => parse_any b W h hb
    obtain ⟨A, D, p, hpb⟩ : ∃ A D p, numV ((ratP b.data.toList).getD (false, [], [])) = .agg #[.bool p, .string A, .string D] := ⟨_, _, _, rfl⟩
    rw [hpb] at pb
    generalize (ratP b.data.toList).isSome = ok at *
    clear hu hpb
    go_enter Tryz.func55, Tryz.ntmps55
    go_wp2_with fail
    refine (pa _ hT0).mono ?_
    rintro e w1 ⟨rfl, b1⟩
    have hA1 := bstep hb0 b1
    go_wp2_with fail
    refine (pb _ (hT.below (hA1.alloc hA1.size _))).mono ?_
    rintro e w2 ⟨rfl, b2⟩
    have hA2 := bstep (hA1.alloc hA1.size _) b2
    go_wp2_with fail
    go_returns
    unfold TxtPost
    rw [HK.out]
    exact ⟨rfl, hA2.alloc hA2.size _⟩
  | some x =>
    obtain ⟨A, D, hpA, hNA⟩ := num_of hu
    have pa := fun W h => parse_yes a A D _ W h ha hpA
    cases hv : ratV b.data.toList with
    | none =>
      have HK : Hid (ratSub a.data.toList b.data.toList = ([], 1)) := by unfold Hid ratSub ratOp; rw [hu, hv]
      have pb := fun W h => parse_no b W h hb hv
      generalize decide (x.num < 0) = p at *
      clear hu hv hpA hNA
      go_enter Tryz.func55, Tryz.ntmps55
      go_wp2_with fail
      refine (pa _ hT0).mono ?_
      rintro e w1 ⟨rfl, b1⟩
      have hA1 := bstep hb0 b1
      go_wp2_with fail
      refine (pb _ (hT.below (hA1.alloc hA1.size _))).mono ?_
      rintro e w2 ⟨rfl, b2⟩
      have hA2 := bstep (hA1.alloc hA1.size _) b2
      go_wp2_with fail
      go_returns
      unfold TxtPost
      rw [HK.out]
      exact ⟨rfl, hA2.alloc hA2.size _⟩
    | some y =>
      obtain ⟨B, E, hpB, hNB⟩ := num_of hv
      have pb := fun W h => parse_yes b B E _ W h hb hpB
      have HK : Hid (ratSub a.data.toList b.data.toList = mkT ((addS (decide (x.num < 0)) (x.num.natAbs * y.den) (!decide (y.num < 0)) (y.num.natAbs * x.den)).1) ((addS (decide (x.num < 0)) (x.num.natAbs * y.den) (!decide (y.num < 0)) (y.num.natAbs * x.den)).2) (x.den * y.den)) := by
        unfold Hid ratSub ratOp
        rw [hu, hv]
        first
          | exact (mkT_sub x y).symm
          | (show (if y = 0 then _ else _) = _; rw [if_neg (hyz x y hu hv)]; exact (mkT_sub x y).symm)
      have hn : x.den * y.den ≠ 0 := Nat.mul_ne_zero x.den_nz y.den_nz
      have hc := fun W hT => cloSub_any (decide (x.num < 0)) (decide (y.num < 0)) A D B E _ _ _ _ W hT hNA hNB 
      have hw := fun P1 P2 P3 W hf => written_compute P1 P2 P3 ((addS (decide (x.num < 0)) (x.num.natAbs * y.den) (!decide (y.num < 0)) (y.num.natAbs * x.den)).1) ((addS (decide (x.num < 0)) (x.num.natAbs * y.den) (!decide (y.num < 0)) (y.num.natAbs * x.den)).2) (x.den * y.den) W hn hf
      generalize (addS (decide (x.num < 0)) (x.num.natAbs * y.den) (!decide (y.num < 0)) (y.num.natAbs * x.den)).1 = ng at *
      generalize (addS (decide (x.num < 0)) (x.num.natAbs * y.den) (!decide (y.num < 0)) (y.num.natAbs * x.den)).2 = mm at *
      generalize x.den * y.den = nn at *
      generalize decide (x.num < 0) = p at *
      generalize decide (y.num < 0) = q at *
      clear hu hv hpA hNA hpB hNB hn
      go_enter Tryz.func55, Tryz.ntmps55
      go_wp2_with fail
      refine (pa _ hT0).mono ?_
      rintro e w1 ⟨rfl, b1⟩
      have hA1 := bstep hb0 b1
      go_wp2_with fail
      refine (pb _ (hT.below (hA1.alloc hA1.size _))).mono ?_
      rintro e w2 ⟨rfl, b2⟩
      have hA2 := bstep (hA1.alloc hA1.size _) b2
      have e1 := d1.below b1
      have g1 : Below w1.heap.size w1 (w1.alloc (.cells #[.bool p, .string A, .string D] 43)) := (Below.refl _ _).alloc (Nat.le_refl _) _
      have g2 : Below w2.heap.size w2 (w2.alloc (.cells #[.bool q, .string B, .string E] 43)) := (Below.refl _ _).alloc (Nat.le_refl _) _
      have e3 := ((e1.below g1).below b2).below g2
      have x3 := ((Cel3.new w1 (.bool p) (.string A) (.string D) 43).below b2).below g2
      have y3 := Cel3.new w2 (.bool q) (.string B) (.string E) 43
      have hA3 := bstep hA2 g2
      go_wp2_with fail
      refine (hw _ _ _ _ (fun W hbW => comp1_sub w.heap.size w1.heap.size w2.heap.size _ _ _ _ _ _ _ _ _ W (e3.below hbW).c0 ⟨(x3.below hbW).c0, (x3.below hbW).c1, (x3.below hbW).c2⟩ ⟨(y3.below hbW).c0, (y3.below hbW).c1, (y3.below hbW).c2⟩ (fun W' hW' => hc W' (hT.below (bstep (bstep hA3 hbW) hW'))))).mono ?_
      rintro e w4 ⟨rfl, b4⟩
      have hA4 := bstep hA3 b4
      go_wp2_with fail
      go_returns
      unfold TxtPost
      rw [HK.out]
      exact ⟨rfl, hA4⟩
set_option maxHeartbeats 2000000 in
set_option maxRecDepth 100000 in
theorem compute_mul (a b : ByteArray) (w : World) (hT : Tabs w) (ha : a.size ≤ 1000000) (hb : b.size ≤ 1000000)  :
    Calls Tryz.prog 55 #[.string a, .string b, .func (.func 58) #[] #[]] w (TxtPost w (ratMul a.data.toList b.data.toList)) := by
  have hmf : ∀ (fn : Fn) (first cap : Array Value) (w : World), (Instr.makeFunc fn first cap).run Tryz.prog w = .ok (.func fn first cap) w := fun _ _ _ _ => rfl
  have hb0 : Below w.heap.size w (w.alloc (.cells #[.func (.func 58) #[] #[]] 64)) := (Below.refl _ w).alloc (Nat.le_refl _) _
  have d1 := Cel1.new w (.func (.func 58) #[] #[]) 64
  have hT0 := hT.below hb0
  cases hu : ratV a.data.toList with
  | none =>
    have HK : Hid (ratMul a.data.toList b.data.toList = ([], 1)) := by unfold Hid ratMul ratOp; rw [hu]
    have pa := fun W h => parse_no a W h ha hu
    have pb := fun W h => parse_any b W h hb
    obtain ⟨A, D, p, hpb⟩ : ∃ A D p, numV ((ratP b.data.toList).getD (false, [], [])) = .agg #[.bool p, .string A, .string D] := ⟨_, _, _, rfl⟩
    rw [hpb] at pb
    generalize (ratP b.data.toList).isSome = ok at *
    clear hu hpb
    go_enter Tryz.func55, Tryz.ntmps55
    go_wp2_with fail
    refine (pa _ hT0).mono ?_
    rintro e w1 ⟨rfl, b1⟩
    have hA1 := bstep hb0 b1
    go_wp2_with fail
    refine (pb _ (hT.below (hA1.alloc hA1.size _))).mono ?_
    rintro e w2 ⟨rfl, b2⟩
    have hA2 := bstep (hA1.alloc hA1.size _) b2
    go_wp2_with fail
    go_returns
    unfold TxtPost
    rw [HK.out]
    exact ⟨rfl, hA2.alloc hA2.size _⟩
  | some x =>
    obtain ⟨A, D, hpA, hNA⟩ := num_of hu
    have pa := fun W h => parse_yes a A D _ W h ha hpA
    cases hv : ratV b.data.toList with
    | none =>
      have HK : Hid (ratMul a.data.toList b.data.toList = ([], 1)) := by unfold Hid ratMul ratOp; rw [hu, hv]
      have pb := fun W h => parse_no b W h hb hv
      generalize decide (x.num < 0) = p at *
      clear hu hv hpA hNA
      go_enter Tryz.func55, Tryz.ntmps55
      go_wp2_with fail
      refine (pa _ hT0).mono ?_
      rintro e w1 ⟨rfl, b1⟩
      have hA1 := bstep hb0 b1
      go_wp2_with fail
      refine (pb _ (hT.below (hA1.alloc hA1.size _))).mono ?_
      rintro e w2 ⟨rfl, b2⟩
      have hA2 := bstep (hA1.alloc hA1.size _) b2
      go_wp2_with fail
      go_returns
      unfold TxtPost
      rw [HK.out]
      exact ⟨rfl, hA2.alloc hA2.size _⟩
    | some y =>
      obtain ⟨B, E, hpB, hNB⟩ := num_of hv
      have pb := fun W h => parse_yes b B E _ W h hb hpB
      have HK : Hid (ratMul a.data.toList b.data.toList = mkT ((decide (x.num < 0) != decide (y.num < 0))) (x.num.natAbs * y.num.natAbs) (x.den * y.den)) := by
        unfold Hid ratMul ratOp
        rw [hu, hv]
        first
          | exact (mkT_mul x y).symm
          | (show (if y = 0 then _ else _) = _; rw [if_neg (hyz x y hu hv)]; exact (mkT_mul x y).symm)
      have hn : x.den * y.den ≠ 0 := Nat.mul_ne_zero x.den_nz y.den_nz
      have hc := fun W hT => cloMul_any (decide (x.num < 0)) (decide (y.num < 0)) A D B E _ _ _ _ W hT hNA hNB 
      have hw := fun P1 P2 P3 W hf => written_compute P1 P2 P3 ((decide (x.num < 0) != decide (y.num < 0))) (x.num.natAbs * y.num.natAbs) (x.den * y.den) W hn hf
      generalize (decide (x.num < 0) != decide (y.num < 0)) = ng at *
      generalize x.num.natAbs * y.num.natAbs = mm at *
      generalize x.den * y.den = nn at *
      generalize decide (x.num < 0) = p at *
      generalize decide (y.num < 0) = q at *
      clear hu hv hpA hNA hpB hNB hn
      go_enter Tryz.func55, Tryz.ntmps55
      go_wp2_with fail
      refine (pa _ hT0).mono ?_
      rintro e w1 ⟨rfl, b1⟩
      have hA1 := bstep hb0 b1
      go_wp2_with fail
      refine (pb _ (hT.below (hA1.alloc hA1.size _))).mono ?_
      rintro e w2 ⟨rfl, b2⟩
      have hA2 := bstep (hA1.alloc hA1.size _) b2
      have e1 := d1.below b1
      have g1 : Below w1.heap.size w1 (w1.alloc (.cells #[.bool p, .string A, .string D] 43)) := (Below.refl _ _).alloc (Nat.le_refl _) _
      have g2 : Below w2.heap.size w2 (w2.alloc (.cells #[.bool q, .string B, .string E] 43)) := (Below.refl _ _).alloc (Nat.le_refl _) _
      have e3 := ((e1.below g1).below b2).below g2
      have x3 := ((Cel3.new w1 (.bool p) (.string A) (.string D) 43).below b2).below g2
      have y3 := Cel3.new w2 (.bool q) (.string B) (.string E) 43
      have hA3 := bstep hA2 g2
      go_wp2_with fail
      refine (hw _ _ _ _ (fun W hbW => comp1_mul w.heap.size w1.heap.size w2.heap.size _ _ _ _ _ _ _ _ _ W (e3.below hbW).c0 ⟨(x3.below hbW).c0, (x3.below hbW).c1, (x3.below hbW).c2⟩ ⟨(y3.below hbW).c0, (y3.below hbW).c1, (y3.below hbW).c2⟩ (fun W' hW' => hc W' (hT.below (bstep (bstep hA3 hbW) hW'))))).mono ?_
      rintro e w4 ⟨rfl, b4⟩
      have hA4 := bstep hA3 b4
      go_wp2_with fail
      go_returns
      unfold TxtPost
      rw [HK.out]
      exact ⟨rfl, hA4⟩
set_option maxHeartbeats 2000000 in
set_option maxRecDepth 100000 in
theorem compute_div (a b : ByteArray) (w : World) (hT : Tabs w) (ha : a.size ≤ 1000000) (hb : b.size ≤ 1000000) (hyz : ∀ x y, ratV a.data.toList = some x → ratV b.data.toList = some y → y ≠ 0) :
    Calls Tryz.prog 55 #[.string a, .string b, .func (.func 59) #[] #[]] w (TxtPost w (ratDiv a.data.toList b.data.toList)) := by
  have hmf : ∀ (fn : Fn) (first cap : Array Value) (w : World), (Instr.makeFunc fn first cap).run Tryz.prog w = .ok (.func fn first cap) w := fun _ _ _ _ => rfl
  have hb0 : Below w.heap.size w (w.alloc (.cells #[.func (.func 59) #[] #[]] 64)) := (Below.refl _ w).alloc (Nat.le_refl _) _
  have d1 := Cel1.new w (.func (.func 59) #[] #[]) 64
  have hT0 := hT.below hb0
  cases hu : ratV a.data.toList with
  | none =>
    have HK : Hid (ratDiv a.data.toList b.data.toList = ([], 1)) := by unfold Hid ratDiv ratOp; rw [hu]
    have pa := fun W h => parse_no a W h ha hu
    have pb := fun W h => parse_any b W h hb
    obtain ⟨A, D, p, hpb⟩ : ∃ A D p, numV ((ratP b.data.toList).getD (false, [], [])) = .agg #[.bool p, .string A, .string D] := ⟨_, _, _, rfl⟩
    rw [hpb] at pb
    generalize (ratP b.data.toList).isSome = ok at *
    clear hu hpb
    go_enter Tryz.func55, Tryz.ntmps55
    go_wp2_with fail
    refine (pa _ hT0).mono ?_
    rintro e w1 ⟨rfl, b1⟩
    have hA1 := bstep hb0 b1
    go_wp2_with fail
    refine (pb _ (hT.below (hA1.alloc hA1.size _))).mono ?_
    rintro e w2 ⟨rfl, b2⟩
    have hA2 := bstep (hA1.alloc hA1.size _) b2
    go_wp2_with fail
    go_returns
    unfold TxtPost
    rw [HK.out]
    exact ⟨rfl, hA2.alloc hA2.size _⟩
  | some x =>
    obtain ⟨A, D, hpA, hNA⟩ := num_of hu
    have pa := fun W h => parse_yes a A D _ W h ha hpA
    cases hv : ratV b.data.toList with
    | none =>
      have HK : Hid (ratDiv a.data.toList b.data.toList = ([], 1)) := by unfold Hid ratDiv ratOp; rw [hu, hv]
      have pb := fun W h => parse_no b W h hb hv
      generalize decide (x.num < 0) = p at *
      clear hu hv hpA hNA
      go_enter Tryz.func55, Tryz.ntmps55
      go_wp2_with fail
      refine (pa _ hT0).mono ?_
      rintro e w1 ⟨rfl, b1⟩
      have hA1 := bstep hb0 b1
      go_wp2_with fail
      refine (pb _ (hT.below (hA1.alloc hA1.size _))).mono ?_
      rintro e w2 ⟨rfl, b2⟩
      have hA2 := bstep (hA1.alloc hA1.size _) b2
      go_wp2_with fail
      go_returns
      unfold TxtPost
      rw [HK.out]
      exact ⟨rfl, hA2.alloc hA2.size _⟩
    | some y =>
      obtain ⟨B, E, hpB, hNB⟩ := num_of hv
      have pb := fun W h => parse_yes b B E _ W h hb hpB
      have HK : Hid (ratDiv a.data.toList b.data.toList = mkT ((decide (x.num < 0) != decide (y.num < 0))) (x.num.natAbs * y.den) (x.den * y.num.natAbs)) := by
        unfold Hid ratDiv ratOp
        rw [hu, hv]
        first
          | exact (mkT_div x y (hyz x y hu hv)).symm
          | (show (if y = 0 then _ else _) = _; rw [if_neg (hyz x y hu hv)]; exact (mkT_div x y (hyz x y hu hv)).symm)
      have hn : x.den * y.num.natAbs ≠ 0 := Nat.mul_ne_zero x.den_nz (num_ne (hyz x y hu hv))
      have hc := fun W hT => cloDiv_any (decide (x.num < 0)) (decide (y.num < 0)) A D B E _ _ _ _ W hT hNA hNB (num_ne (hyz x y hu hv))
      have hw := fun P1 P2 P3 W hf => written_compute P1 P2 P3 ((decide (x.num < 0) != decide (y.num < 0))) (x.num.natAbs * y.den) (x.den * y.num.natAbs) W hn hf
      generalize (decide (x.num < 0) != decide (y.num < 0)) = ng at *
      generalize x.num.natAbs * y.den = mm at *
      generalize x.den * y.num.natAbs = nn at *
      generalize decide (x.num < 0) = p at *
      generalize decide (y.num < 0) = q at *
      clear hu hv hpA hNA hpB hNB hn
      go_enter Tryz.func55, Tryz.ntmps55
      go_wp2_with fail
      refine (pa _ hT0).mono ?_
      rintro e w1 ⟨rfl, b1⟩
      have hA1 := bstep hb0 b1
      go_wp2_with fail
      refine (pb _ (hT.below (hA1.alloc hA1.size _))).mono ?_
      rintro e w2 ⟨rfl, b2⟩
      have hA2 := bstep (hA1.alloc hA1.size _) b2
      have e1 := d1.below b1
      have g1 : Below w1.heap.size w1 (w1.alloc (.cells #[.bool p, .string A, .string D] 43)) := (Below.refl _ _).alloc (Nat.le_refl _) _
      have g2 : Below w2.heap.size w2 (w2.alloc (.cells #[.bool q, .string B, .string E] 43)) := (Below.refl _ _).alloc (Nat.le_refl _) _
      have e3 := ((e1.below g1).below b2).below g2
      have x3 := ((Cel3.new w1 (.bool p) (.string A) (.string D) 43).below b2).below g2
      have y3 := Cel3.new w2 (.bool q) (.string B) (.string E) 43
      have hA3 := bstep hA2 g2
      go_wp2_with fail
      refine (hw _ _ _ _ (fun W hbW => comp1_div w.heap.size w1.heap.size w2.heap.size _ _ _ _ _ _ _ _ _ W (e3.below hbW).c0 ⟨(x3.below hbW).c0, (x3.below hbW).c1, (x3.below hbW).c2⟩ ⟨(y3.below hbW).c0, (y3.below hbW).c1, (y3.below hbW).c2⟩ (fun W' hW' => hc W' (hT.below (bstep (bstep hA3 hbW) hW'))))).mono ?_
      rintro e w4 ⟨rfl, b4⟩
      have hA4 := bstep hA3 b4
      go_wp2_with fail
      go_returns
      unfold TxtPost
      rw [HK.out]
      exact ⟨rfl, hA4⟩
end Go.Proofs.YtfgmjdhoeilhcaaGreatDoor
