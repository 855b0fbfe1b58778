/- Walks: Parse of rat. -/
import Derived.Test.YtfgmjdhoeilhcaaGreatDoorQm
namespace Go.Proofs.YtfgmjdhoeilhcaaGreatDoor
open Go.RowKit
set_option linter.unusedVariables false

def parF (len : Nat) (neg : Bool) (n d : Bs) : Bs × Nat := if digB n = true ∧ digB d = true ∧ natB d ≠ [48] then (if 900 < len then ([], 2) else ratMake neg (natB n) (natB d)) else ([], 3)
/-- what Parse answers -/
def parseR (l : Bs) : Bs × Nat :=
  match cutB 47 (ratS l).2 with
  | some p => parF l.length (ratS l).1 p.1 p.2
  | none => match cutB 46 (ratS l).2 with
    | some p => if digB p.1 = true ∧ digB p.2 = true then parF l.length (ratS l).1 (p.1 ++ p.2) (49 :: List.replicate p.2.length 48) else ([], 3)
    | none => parF l.length (ratS l).1 (ratS l).2 [49]
theorem is48 (s : ByteArray) : (s.toList == [48]) = decide (s.data.toList = [48]) := by
  rw [Lib.toList_data]
  by_cases h : s.data.toList = [48]
  · rw [h]; rfl
  · rw [beq_eq_false_iff_ne.2 h, decide_eq_false h]
theorem natB_len (l : Bs) : (natB l).length ≤ l.length + 1 := by
  unfold natB
  split
  · simp
  · have := (List.dropWhile_sublist (· == 48) (l := l)).length_le
    unfold Lib.trimLeftB
    omega
theorem cut_size {c : UInt8} {l a b : Bs} (h : cutB c l = some (a, b)) : a.length + b.length + 1 = l.length := by
  obtain ⟨h1, _⟩ := cutB_some.1 h
  rw [h1]; simp; omega

set_option maxHeartbeats 4000000 in
set_option maxRecDepth 100000 in
theorem qparse_any (s : ByteArray) (w : World) (hT : Tabs w) (hs : s.size ≤ 100000) :
    Calls Tryz.prog 17 #[.string s] w (TxtPost w (parseR s.data.toList)) := by
  have hcp := fun W => (Tryz.strings_CutPrefix s ⟨#[45]⟩ W).mono (fun e w' h => (⟨h.1, h.2.symm⟩ : _ ∧ W = w'))
  have e0 : ((⟨#[45]⟩ : ByteArray).data.toList) = [45] := rfl
  have e1 : Lib.hasPrefix s.data.toList [45] = (ratS s.data.toList).1 := by rw [ratS_pre]
  have e2 : Lib.trimPrefix s.data.toList [45] = (ratS s.data.toList).2 := by rw [ratS_pre]
  rw [e0, e1, e2] at hcp
  have hlen : (ratS s.data.toList).2.length ≤ s.size := by
    have := congrArg List.length (ratS_eq s.data.toList)
    rw [List.length_append, ← Lib.size_eq] at this
    omega
  have HP : Hid (parseR s.data.toList = match cutB 47 (ratS s.data.toList).2 with
      | some p => parF s.data.toList.length (ratS s.data.toList).1 p.1 p.2
      | none => match cutB 46 (ratS s.data.toList).2 with
        | some p => if digB p.1 = true ∧ digB p.2 = true then parF s.data.toList.length (ratS s.data.toList).1 (p.1 ++ p.2) (49 :: List.replicate p.2.length 48) else ([], 3)
        | none => parF s.data.toList.length (ratS s.data.toList).1 (ratS s.data.toList).2 [49]) := rfl
  obtain ⟨R, hR⟩ : ∃ R : ByteArray, (⟨(ratS s.data.toList).2.toArray⟩ : ByteArray) = R := ⟨_, rfl⟩
  have hRd : R.data.toList = (ratS s.data.toList).2 := by rw [← hR]
  have hRs : R.size ≤ 100000 := by rw [Lib.size_eq, hRd]; omega
  rw [hR] at hcp
  rw [← hRd] at HP
  rw [← Lib.size_eq] at HP
  have hct := fun (c : UInt8) W m hm => Tryz.strings_Cut R ⟨#[c]⟩ m W (by omega) hm
  have e3 : ∀ c : UInt8, ((⟨#[c]⟩ : ByteArray).data.toList) = [c] := fun _ => rfl
  simp only [cut_one] at hct
  clear hR hRd hlen e0 e1 e2 e3
  generalize (ratS s.data.toList).1 = neg at *
  obtain ⟨M, hM⟩ := hT.mx
  have hA : Below w.heap.size w w := Below.refl _ _
  have hRR : (⟨R.data.toList.toArray⟩ : ByteArray) = R := data_of rfl
  have ct47 := hct 47
  have ct46 := hct 46
  clear hct

  cases h47 : cutB 47 R.data.toList with
  | some p =>
    obtain ⟨A, hA1⟩ : ∃ A : ByteArray, (⟨p.1.toArray⟩ : ByteArray) = A := ⟨_, rfl⟩
    obtain ⟨B, hB1⟩ : ∃ A : ByteArray, (⟨p.2.toArray⟩ : ByteArray) = A := ⟨_, rfl⟩
    have hAd : p.1 = A.data.toList := by rw [← hA1]
    have hBd : p.2 = B.data.toList := by rw [← hB1]
    have hsz := cut_size (a := p.1) (b := p.2) h47
    rw [hAd, hBd, ← Lib.size_eq, ← Lib.size_eq, ← Lib.size_eq] at hsz
    rw [h47] at ct47 HP
    simp only [hA1, hB1] at ct47
    simp only [hAd, hBd] at HP
    clear h47 hA1 hB1 hAd hBd
    go_enter Tryz.func17, Tryz.ntmps17
    go_wp2_with (first
      | (go_at_call 43; refine (hcp _).mono ?_; rintro e w1 ⟨rfl, rfl⟩))
    refine (ct47 _ M hM).mono ?_
    rintro e w2 ⟨rfl, k, rfl⟩
    have hWk : Below w.heap.size w (w.drewN k) := ⟨hA.os, hA.tape, hA.output, hA.size, hA.block⟩
    have gN := fun W => qdigits_any A W (by omega)
    have gD := fun W => qdigits_any B W (by omega)
    have nN := fun W => qnatural_any A W
    have nD := fun W => qnatural_any B W
    have tN := natB_len (A).data.toList
    have tD := natB_len (B).data.toList
    rw [← Lib.size_eq] at tN tD
    obtain ⟨N1, hN1⟩ : ∃ F : ByteArray, (⟨(natB (A).data.toList).toArray⟩ : ByteArray) = F := ⟨_, rfl⟩
    obtain ⟨D1, hD1⟩ : ∃ F : ByteArray, (⟨(natB (B).data.toList).toArray⟩ : ByteArray) = F := ⟨_, rfl⟩
    have hN1d : natB (A).data.toList = N1.data.toList := by rw [← hN1]
    have hD1d : natB (B).data.toList = D1.data.toList := by rw [← hD1]
    rw [hN1d, ← Lib.size_eq] at tN
    rw [hD1d, ← Lib.size_eq] at tD
    rw [hN1] at nN
    rw [hD1] at nD
    unfold parF at HP
    rw [hN1d, hD1d] at HP
    clear hN1 hD1 hN1d hD1d
    have mk := fun W h => qmake_any neg N1 D1 W h (by omega) (by omega)
    unfold TxtPost at mk
    obtain ⟨r, hr⟩ : ∃ r, ratMake neg N1.data.toList D1.data.toList = r := ⟨_, rfl⟩
    rw [hr] at mk HP
    clear hr
    have z48 := is48 D1
    obtain ⟨b1, hb1⟩ : ∃ b, digB (A).data.toList = b := ⟨_, rfl⟩
    obtain ⟨b2, hb2⟩ : ∃ b, digB (B).data.toList = b := ⟨_, rfl⟩
    rw [hb1] at gN
    rw [hb2] at gD
    rw [hb1, hb2] at HP
    have hW := hWk
    cases b1 with
    | false =>
      rw [if_neg (by simp)] at HP
      go_wp2_with (first
        | (go_at_call_of 45 (Value.string (A)); refine (gN _).mono ?_; rintro e w4 ⟨rfl, b4⟩; have hW4 := bstep hW b4)
        | (go_at_call_of 45 (Value.string (B)); refine (gD _).mono ?_; rintro e w5 ⟨rfl, b5⟩; have hW5 := bstep hW4 b5)
        | (go_at_call_of 47 (Value.string (B)); refine (nD _).mono ?_; rintro e w6 ⟨rfl, rfl⟩)
        | (go_at_call_of 47 (Value.string (A)); refine (nN _).mono ?_; rintro e w6 ⟨rfl, rfl⟩)
        | (go_at_call 15; refine (mk _ (hT.below hW5)).mono ?_; rintro e w7 ⟨rfl, b7⟩; have hW7 := bstep hW5 b7))
      go_returns
      unfold TxtPost
      rw [HP.out]
      exact ⟨rfl, hW4⟩
    | true =>
      cases b2 with
      | false =>
        rw [if_neg (by simp)] at HP
        go_wp2_with (first
          | (go_at_call_of 45 (Value.string (A)); refine (gN _).mono ?_; rintro e w4 ⟨rfl, b4⟩; have hW4 := bstep hW b4)
          | (go_at_call_of 45 (Value.string (B)); refine (gD _).mono ?_; rintro e w5 ⟨rfl, b5⟩; have hW5 := bstep hW4 b5)
          | (go_at_call_of 47 (Value.string (B)); refine (nD _).mono ?_; rintro e w6 ⟨rfl, rfl⟩)
          | (go_at_call_of 47 (Value.string (A)); refine (nN _).mono ?_; rintro e w6 ⟨rfl, rfl⟩)
          | (go_at_call 15; refine (mk _ (hT.below hW5)).mono ?_; rintro e w7 ⟨rfl, b7⟩; have hW7 := bstep hW5 b7))
        go_returns
        unfold TxtPost
        rw [HP.out]
        exact ⟨rfl, hW5⟩
      | true =>
        by_cases hz : D1.data.toList = [48]
        · rw [if_neg (fun h => h.2.2 hz)] at HP
          rw [decide_eq_true hz] at z48
          clear hz
          go_wp2_with (first
            | (go_at_call_of 45 (Value.string (A)); refine (gN _).mono ?_; rintro e w4 ⟨rfl, b4⟩; have hW4 := bstep hW b4)
            | (go_at_call_of 45 (Value.string (B)); refine (gD _).mono ?_; rintro e w5 ⟨rfl, b5⟩; have hW5 := bstep hW4 b5)
            | (go_at_call_of 47 (Value.string (B)); refine (nD _).mono ?_; rintro e w6 ⟨rfl, rfl⟩)
            | (go_at_call_of 47 (Value.string (A)); refine (nN _).mono ?_; rintro e w6 ⟨rfl, rfl⟩)
            | (go_at_call 15; refine (mk _ (hT.below hW5)).mono ?_; rintro e w7 ⟨rfl, b7⟩; have hW7 := bstep hW5 b7))
          go_returns
          unfold TxtPost
          rw [HP.out]
          exact ⟨rfl, hW5⟩
        · rw [if_pos ⟨rfl, rfl, hz⟩] at HP
          rw [decide_eq_false hz] at z48
          clear hz
          rcases Nat.lt_or_ge 900 s.size with hl | hl
          · rw [if_pos hl] at HP
            have k1 : (900 : Int) < (s.size : Int) := by omega
            clear hl
            go_wp2_with (first
              | (go_at_call_of 45 (Value.string (A)); refine (gN _).mono ?_; rintro e w4 ⟨rfl, b4⟩; have hW4 := bstep hW b4)
              | (go_at_call_of 45 (Value.string (B)); refine (gD _).mono ?_; rintro e w5 ⟨rfl, b5⟩; have hW5 := bstep hW4 b5)
              | (go_at_call_of 47 (Value.string (B)); refine (nD _).mono ?_; rintro e w6 ⟨rfl, rfl⟩)
              | (go_at_call_of 47 (Value.string (A)); refine (nN _).mono ?_; rintro e w6 ⟨rfl, rfl⟩)
              | (go_at_call 15; refine (mk _ (hT.below hW5)).mono ?_; rintro e w7 ⟨rfl, b7⟩; have hW7 := bstep hW5 b7))
            go_returns
            unfold TxtPost
            rw [HP.out]
            exact ⟨rfl, hW5⟩
          · rw [if_neg (by omega)] at HP
            have k1 : decide ((900 : Int) < (s.size : Int)) = false := decide_eq_false (by omega)
            have k2 : (s.size : Int) ≤ 900 := by omega
            clear hl
            go_wp2_with (first
              | (go_at_call_of 45 (Value.string (A)); refine (gN _).mono ?_; rintro e w4 ⟨rfl, b4⟩; have hW4 := bstep hW b4)
              | (go_at_call_of 45 (Value.string (B)); refine (gD _).mono ?_; rintro e w5 ⟨rfl, b5⟩; have hW5 := bstep hW4 b5)
              | (go_at_call_of 47 (Value.string (B)); refine (nD _).mono ?_; rintro e w6 ⟨rfl, rfl⟩)
              | (go_at_call_of 47 (Value.string (A)); refine (nN _).mono ?_; rintro e w6 ⟨rfl, rfl⟩)
              | (go_at_call 15; refine (mk _ (hT.below hW5)).mono ?_; rintro e w7 ⟨rfl, b7⟩; have hW7 := bstep hW5 b7))
            go_returns
            unfold TxtPost
            rw [HP.out]
            exact ⟨rfl, hW7⟩
  | none =>
    rw [h47] at ct47 HP
    simp only [hRR] at ct47
    clear h47
    cases h46 : cutB 46 R.data.toList with
    | some p =>
      obtain ⟨A, hA1⟩ : ∃ A : ByteArray, (⟨p.1.toArray⟩ : ByteArray) = A := ⟨_, rfl⟩
      obtain ⟨B, hB1⟩ : ∃ A : ByteArray, (⟨p.2.toArray⟩ : ByteArray) = A := ⟨_, rfl⟩
      have hAd : p.1 = A.data.toList := by rw [← hA1]
      have hBd : p.2 = B.data.toList := by rw [← hB1]
      have hsz := cut_size (a := p.1) (b := p.2) h46
      rw [hAd, hBd, ← Lib.size_eq, ← Lib.size_eq, ← Lib.size_eq] at hsz
      rw [h46] at ct46 HP
      simp only [hA1, hB1] at ct46
      simp only [hAd, hBd] at HP
      clear h46 hA1 hB1 hAd hBd
      have gA := fun W => qdigits_any A W (by omega)
      have gB := fun W => qdigits_any B W (by omega)
      have hrep : ∀ W, Calls Tryz.prog 46 #[.string ⟨#[48]⟩, .int .i64 B.size] W fun e w' => e = .returned (.string ⟨(Lib.repeatL [48] B.size).toArray⟩) ∧ Below W.heap.size W w' := fun W => Tryz.strings_Repeat ⟨#[48]⟩ B.size W (by omega) (by show 1 * B.size ≤ _; omega)
      obtain ⟨Z, hZ⟩ : ∃ Z : ByteArray, (⟨(Lib.repeatL [48] B.size).toArray⟩ : ByteArray) = Z := ⟨_, rfl⟩
      have hZd : Z.data.toList = List.replicate B.size 48 := by rw [← hZ, ← repeat_zeros]
      have hZs : Z.size = B.size := by rw [Lib.size_eq, hZd, List.length_replicate]
      simp only [hZ] at hrep
      have hcN : (A ++ B).data.toList = A.data.toList ++ B.data.toList := Joins.data_append A B
      have hcD : ((⟨#[49]⟩ : ByteArray) ++ Z).data.toList = 49 :: List.replicate B.data.toList.length 48 := by rw [Joins.data_append, hZd, ← Lib.size_eq]; rfl
      have szN : (A ++ B).size = A.size + B.size := size_cat A B
      have szD : ((⟨#[49]⟩ : ByteArray) ++ Z).size = 1 + B.size := by rw [size_cat, hZs]; rfl
      have lim1 : ¬ 9223372036854775807 < A.size + B.size := by omega
      have s49 : (⟨#[49]⟩ : ByteArray).size = 1 := rfl
      have lim2 : ¬ 9223372036854775807 < 1 + Z.size := by omega
      rw [← hcN, ← hcD] at HP
      clear hZ hZd hcN hcD
      obtain ⟨a1, ha1⟩ : ∃ b, digB A.data.toList = b := ⟨_, rfl⟩
      obtain ⟨a2, ha2⟩ : ∃ b, digB B.data.toList = b := ⟨_, rfl⟩
      rw [ha1] at gA HP
      rw [ha2] at gB HP
      clear ha1 ha2
      cases a1 with
      | false =>
        rw [if_neg (by simp)] at HP
        go_enter Tryz.func17, Tryz.ntmps17
        go_wp2_with (first
          | (go_at_call 43; refine (hcp _).mono ?_; rintro e w1 ⟨rfl, rfl⟩))
        refine (ct47 _ M hM).mono ?_
        rintro e w2 ⟨rfl, k, rfl⟩
        have hWk : Below w.heap.size w (w.drewN k) := ⟨hA.os, hA.tape, hA.output, hA.size, hA.block⟩
        go_wp2_with (first
          | (go_at_call 44; refine (ct46 (w.drewN k) M hM).mono ?_; rintro e w3 ⟨rfl, k3, rfl⟩)
          | (go_at_call_of 45 (Value.string A); refine (gA _).mono ?_; rintro e w4 ⟨rfl, b4⟩))
        have hWj : Below w.heap.size w (w.drewN (k + k3)) := ⟨hA.os, hA.tape, hA.output, hA.size, hA.block⟩
        go_returns
        unfold TxtPost
        rw [HP.out]
        exact ⟨rfl, bstep hWj b4⟩
      | true =>
        cases a2 with
        | false =>
          rw [if_neg (by simp)] at HP
          go_enter Tryz.func17, Tryz.ntmps17
          go_wp2_with (first
            | (go_at_call 43; refine (hcp _).mono ?_; rintro e w1 ⟨rfl, rfl⟩))
          refine (ct47 _ M hM).mono ?_
          rintro e w2 ⟨rfl, k, rfl⟩
          have hWk : Below w.heap.size w (w.drewN k) := ⟨hA.os, hA.tape, hA.output, hA.size, hA.block⟩
          go_wp2_with (first
            | (go_at_call 44; refine (ct46 (w.drewN k) M hM).mono ?_; rintro e w3 ⟨rfl, k3, rfl⟩; have hWj : Below w.heap.size w (w.drewN (k + k3)) := ⟨hA.os, hA.tape, hA.output, hA.size, hA.block⟩)
            | (go_at_call_of 45 (Value.string A); refine (gA _).mono ?_; rintro e w4 ⟨rfl, b4⟩; have hj4 := bstep hWj b4)
            | (go_at_call_of 45 (Value.string B); refine (gB _).mono ?_; rintro e w5 ⟨rfl, b5⟩; have hj5 := bstep hj4 b5))
          go_returns
          unfold TxtPost
          rw [HP.out]
          exact ⟨rfl, hj5⟩
        | true =>
          rw [if_pos ⟨rfl, rfl⟩] at HP
          go_enter Tryz.func17, Tryz.ntmps17
          go_wp2_with (first
            | (go_at_call 43; refine (hcp _).mono ?_; rintro e w1 ⟨rfl, rfl⟩))
          refine (ct47 _ M hM).mono ?_
          rintro e w2 ⟨rfl, k, rfl⟩
          have hWk : Below w.heap.size w (w.drewN k) := ⟨hA.os, hA.tape, hA.output, hA.size, hA.block⟩
          go_wp2_with (first
            | (go_at_call 44; refine (ct46 (w.drewN k) M hM).mono ?_; rintro e w3 ⟨rfl, k3, rfl⟩; have hWj : Below w.heap.size w (w.drewN (k + k3)) := ⟨hA.os, hA.tape, hA.output, hA.size, hA.block⟩)
            | (go_at_call_of 45 (Value.string A); refine (gA _).mono ?_; rintro e w4 ⟨rfl, b4⟩; have hj4 := bstep hWj b4)
            | (go_at_call_of 45 (Value.string B); refine (gB _).mono ?_; rintro e w5 ⟨rfl, b5⟩; have hj5 := bstep hj4 b5))
          refine (hrep _).mono ?_
          rintro e w6 ⟨rfl, b6⟩
          have hj6 := bstep hj5 b6
          have gN := fun W => qdigits_any (A ++ B) W (by omega)
          have gD := fun W => qdigits_any ((⟨#[49]⟩ : ByteArray) ++ Z) W (by omega)
          have nN := fun W => qnatural_any (A ++ B) W
          have nD := fun W => qnatural_any ((⟨#[49]⟩ : ByteArray) ++ Z) W
          have tN := natB_len ((A ++ B)).data.toList
          have tD := natB_len (((⟨#[49]⟩ : ByteArray) ++ Z)).data.toList
          rw [← Lib.size_eq] at tN tD
          obtain ⟨N1, hN1⟩ : ∃ F : ByteArray, (⟨(natB ((A ++ B)).data.toList).toArray⟩ : ByteArray) = F := ⟨_, rfl⟩
          obtain ⟨D1, hD1⟩ : ∃ F : ByteArray, (⟨(natB (((⟨#[49]⟩ : ByteArray) ++ Z)).data.toList).toArray⟩ : ByteArray) = F := ⟨_, rfl⟩
          have hN1d : natB ((A ++ B)).data.toList = N1.data.toList := by rw [← hN1]
          have hD1d : natB (((⟨#[49]⟩ : ByteArray) ++ Z)).data.toList = D1.data.toList := by rw [← hD1]
          rw [hN1d, ← Lib.size_eq] at tN
          rw [hD1d, ← Lib.size_eq] at tD
          rw [hN1] at nN
          rw [hD1] at nD
          unfold parF at HP
          rw [hN1d, hD1d] at HP
          clear hN1 hD1 hN1d hD1d
          have mk := fun W h => qmake_any neg N1 D1 W h (by omega) (by omega)
          unfold TxtPost at mk
          obtain ⟨r, hr⟩ : ∃ r, ratMake neg N1.data.toList D1.data.toList = r := ⟨_, rfl⟩
          rw [hr] at mk HP
          clear hr
          have z48 := is48 D1
          obtain ⟨b1, hb1⟩ : ∃ b, digB ((A ++ B)).data.toList = b := ⟨_, rfl⟩
          obtain ⟨b2, hb2⟩ : ∃ b, digB (((⟨#[49]⟩ : ByteArray) ++ Z)).data.toList = b := ⟨_, rfl⟩
          rw [hb1] at gN
          rw [hb2] at gD
          rw [hb1, hb2] at HP
          have hW := hj6
          cases b1 with
          | false =>
            rw [if_neg (by simp)] at HP
            go_wp2_with (first
              | (go_at_call_of 45 (Value.string ((A ++ B))); refine (gN _).mono ?_; rintro e w4 ⟨rfl, b4⟩; have hW4 := bstep hW b4)
              | (go_at_call_of 45 (Value.string (((⟨#[49]⟩ : ByteArray) ++ Z))); refine (gD _).mono ?_; rintro e w5 ⟨rfl, b5⟩; have hW5 := bstep hW4 b5)
              | (go_at_call_of 47 (Value.string (((⟨#[49]⟩ : ByteArray) ++ Z))); refine (nD _).mono ?_; rintro e w6 ⟨rfl, rfl⟩)
              | (go_at_call_of 47 (Value.string ((A ++ B))); refine (nN _).mono ?_; rintro e w6 ⟨rfl, rfl⟩)
              | (go_at_call 15; refine (mk _ (hT.below hW5)).mono ?_; rintro e w7 ⟨rfl, b7⟩; have hW7 := bstep hW5 b7))
            go_returns
            unfold TxtPost
            rw [HP.out]
            exact ⟨rfl, hW4⟩
          | true =>
            cases b2 with
            | false =>
              rw [if_neg (by simp)] at HP
              go_wp2_with (first
                | (go_at_call_of 45 (Value.string ((A ++ B))); refine (gN _).mono ?_; rintro e w4 ⟨rfl, b4⟩; have hW4 := bstep hW b4)
                | (go_at_call_of 45 (Value.string (((⟨#[49]⟩ : ByteArray) ++ Z))); refine (gD _).mono ?_; rintro e w5 ⟨rfl, b5⟩; have hW5 := bstep hW4 b5)
                | (go_at_call_of 47 (Value.string (((⟨#[49]⟩ : ByteArray) ++ Z))); refine (nD _).mono ?_; rintro e w6 ⟨rfl, rfl⟩)
                | (go_at_call_of 47 (Value.string ((A ++ B))); refine (nN _).mono ?_; rintro e w6 ⟨rfl, rfl⟩)
                | (go_at_call 15; refine (mk _ (hT.below hW5)).mono ?_; rintro e w7 ⟨rfl, b7⟩; have hW7 := bstep hW5 b7))
              go_returns
              unfold TxtPost
              rw [HP.out]
              exact ⟨rfl, hW5⟩
            | true =>
              by_cases hz : D1.data.toList = [48]
              · rw [if_neg (fun h => h.2.2 hz)] at HP
                rw [decide_eq_true hz] at z48
                clear hz
                go_wp2_with (first
                  | (go_at_call_of 45 (Value.string ((A ++ B))); refine (gN _).mono ?_; rintro e w4 ⟨rfl, b4⟩; have hW4 := bstep hW b4)
                  | (go_at_call_of 45 (Value.string (((⟨#[49]⟩ : ByteArray) ++ Z))); refine (gD _).mono ?_; rintro e w5 ⟨rfl, b5⟩; have hW5 := bstep hW4 b5)
                  | (go_at_call_of 47 (Value.string (((⟨#[49]⟩ : ByteArray) ++ Z))); refine (nD _).mono ?_; rintro e w6 ⟨rfl, rfl⟩)
                  | (go_at_call_of 47 (Value.string ((A ++ B))); refine (nN _).mono ?_; rintro e w6 ⟨rfl, rfl⟩)
                  | (go_at_call 15; refine (mk _ (hT.below hW5)).mono ?_; rintro e w7 ⟨rfl, b7⟩; have hW7 := bstep hW5 b7))
                go_returns
                unfold TxtPost
                rw [HP.out]
                exact ⟨rfl, hW5⟩
              · rw [if_pos ⟨rfl, rfl, hz⟩] at HP
                rw [decide_eq_false hz] at z48
                clear hz
                rcases Nat.lt_or_ge 900 s.size with hl | hl
                · rw [if_pos hl] at HP
                  have k1 : (900 : Int) < (s.size : Int) := by omega
                  clear hl
                  go_wp2_with (first
                    | (go_at_call_of 45 (Value.string ((A ++ B))); refine (gN _).mono ?_; rintro e w4 ⟨rfl, b4⟩; have hW4 := bstep hW b4)
                    | (go_at_call_of 45 (Value.string (((⟨#[49]⟩ : ByteArray) ++ Z))); refine (gD _).mono ?_; rintro e w5 ⟨rfl, b5⟩; have hW5 := bstep hW4 b5)
                    | (go_at_call_of 47 (Value.string (((⟨#[49]⟩ : ByteArray) ++ Z))); refine (nD _).mono ?_; rintro e w6 ⟨rfl, rfl⟩)
                    | (go_at_call_of 47 (Value.string ((A ++ B))); refine (nN _).mono ?_; rintro e w6 ⟨rfl, rfl⟩)
                    | (go_at_call 15; refine (mk _ (hT.below hW5)).mono ?_; rintro e w7 ⟨rfl, b7⟩; have hW7 := bstep hW5 b7))
                  go_returns
                  unfold TxtPost
                  rw [HP.out]
                  exact ⟨rfl, hW5⟩
                · rw [if_neg (by omega)] at HP
                  have k1 : decide ((900 : Int) < (s.size : Int)) = false := decide_eq_false (by omega)
                  have k2 : (s.size : Int) ≤ 900 := by omega
                  clear hl
                  go_wp2_with (first
                    | (go_at_call_of 45 (Value.string ((A ++ B))); refine (gN _).mono ?_; rintro e w4 ⟨rfl, b4⟩; have hW4 := bstep hW b4)
                    | (go_at_call_of 45 (Value.string (((⟨#[49]⟩ : ByteArray) ++ Z))); refine (gD _).mono ?_; rintro e w5 ⟨rfl, b5⟩; have hW5 := bstep hW4 b5)
                    | (go_at_call_of 47 (Value.string (((⟨#[49]⟩ : ByteArray) ++ Z))); refine (nD _).mono ?_; rintro e w6 ⟨rfl, rfl⟩)
                    | (go_at_call_of 47 (Value.string ((A ++ B))); refine (nN _).mono ?_; rintro e w6 ⟨rfl, rfl⟩)
                    | (go_at_call 15; refine (mk _ (hT.below hW5)).mono ?_; rintro e w7 ⟨rfl, b7⟩; have hW7 := bstep hW5 b7))
                  go_returns
                  unfold TxtPost
                  rw [HP.out]
                  exact ⟨rfl, hW7⟩
    | none =>
      rw [h46] at ct46 HP
      simp only [hRR] at ct46
      clear h46
      have h491 : ((⟨#[49]⟩ : ByteArray).data.toList) = [49] := rfl
      have s49 : (⟨#[49]⟩ : ByteArray).size = 1 := rfl
      have HP' := HP.out
      rw [← h491] at HP'
      have HP := Lib.hid HP'
      clear HP' h491
      go_enter Tryz.func17, Tryz.ntmps17
      go_wp2_with (first
        | (go_at_call 43; refine (hcp _).mono ?_; rintro e w1 ⟨rfl, rfl⟩))
      refine (ct47 _ M hM).mono ?_
      rintro e w2 ⟨rfl, k, rfl⟩
      have hWk : Below w.heap.size w (w.drewN k) := ⟨hA.os, hA.tape, hA.output, hA.size, hA.block⟩
      go_wp2_with (first
        | (go_at_call 44; refine (ct46 (w.drewN k) M hM).mono ?_; rintro e w3 ⟨rfl, k3, rfl⟩))
      have hWj : Below w.heap.size w (w.drewN (k + k3)) := ⟨hA.os, hA.tape, hA.output, hA.size, hA.block⟩
      have gN := fun W => qdigits_any R W (by omega)
      have gD := fun W => qdigits_any (⟨#[49]⟩ : ByteArray) W (by omega)
      have nN := fun W => qnatural_any R W
      have nD := fun W => qnatural_any (⟨#[49]⟩ : ByteArray) W
      have tN := natB_len (R).data.toList
      have tD := natB_len ((⟨#[49]⟩ : ByteArray)).data.toList
      rw [← Lib.size_eq] at tN tD
      obtain ⟨N1, hN1⟩ : ∃ F : ByteArray, (⟨(natB (R).data.toList).toArray⟩ : ByteArray) = F := ⟨_, rfl⟩
      obtain ⟨D1, hD1⟩ : ∃ F : ByteArray, (⟨(natB ((⟨#[49]⟩ : ByteArray)).data.toList).toArray⟩ : ByteArray) = F := ⟨_, rfl⟩
      have hN1d : natB (R).data.toList = N1.data.toList := by rw [← hN1]
      have hD1d : natB ((⟨#[49]⟩ : ByteArray)).data.toList = D1.data.toList := by rw [← hD1]
      rw [hN1d, ← Lib.size_eq] at tN
      rw [hD1d, ← Lib.size_eq] at tD
      rw [hN1] at nN
      rw [hD1] at nD
      unfold parF at HP
      rw [hN1d, hD1d] at HP
      clear hN1 hD1 hN1d hD1d
      have mk := fun W h => qmake_any neg N1 D1 W h (by omega) (by omega)
      unfold TxtPost at mk
      obtain ⟨r, hr⟩ : ∃ r, ratMake neg N1.data.toList D1.data.toList = r := ⟨_, rfl⟩
      rw [hr] at mk HP
      clear hr
      have z48 := is48 D1
      obtain ⟨b1, hb1⟩ : ∃ b, digB (R).data.toList = b := ⟨_, rfl⟩
      obtain ⟨b2, hb2⟩ : ∃ b, digB ((⟨#[49]⟩ : ByteArray)).data.toList = b := ⟨_, rfl⟩
      rw [hb1] at gN
      rw [hb2] at gD
      rw [hb1, hb2] at HP
      have hW := hWj
      cases b1 with
      | false =>
        rw [if_neg (by simp)] at HP
        go_wp2_with (first
          | (go_at_call_of 45 (Value.string (R)); refine (gN _).mono ?_; rintro e w4 ⟨rfl, b4⟩; have hW4 := bstep hW b4)
          | (go_at_call_of 45 (Value.string ((⟨#[49]⟩ : ByteArray))); refine (gD _).mono ?_; rintro e w5 ⟨rfl, b5⟩; have hW5 := bstep hW4 b5)
          | (go_at_call_of 47 (Value.string ((⟨#[49]⟩ : ByteArray))); refine (nD _).mono ?_; rintro e w6 ⟨rfl, rfl⟩)
          | (go_at_call_of 47 (Value.string (R)); refine (nN _).mono ?_; rintro e w6 ⟨rfl, rfl⟩)
          | (go_at_call 15; refine (mk _ (hT.below hW5)).mono ?_; rintro e w7 ⟨rfl, b7⟩; have hW7 := bstep hW5 b7))
        go_returns
        unfold TxtPost
        rw [HP.out]
        exact ⟨rfl, hW4⟩
      | true =>
        cases b2 with
        | false =>
          rw [if_neg (by simp)] at HP
          go_wp2_with (first
            | (go_at_call_of 45 (Value.string (R)); refine (gN _).mono ?_; rintro e w4 ⟨rfl, b4⟩; have hW4 := bstep hW b4)
            | (go_at_call_of 45 (Value.string ((⟨#[49]⟩ : ByteArray))); refine (gD _).mono ?_; rintro e w5 ⟨rfl, b5⟩; have hW5 := bstep hW4 b5)
            | (go_at_call_of 47 (Value.string ((⟨#[49]⟩ : ByteArray))); refine (nD _).mono ?_; rintro e w6 ⟨rfl, rfl⟩)
            | (go_at_call_of 47 (Value.string (R)); refine (nN _).mono ?_; rintro e w6 ⟨rfl, rfl⟩)
            | (go_at_call 15; refine (mk _ (hT.below hW5)).mono ?_; rintro e w7 ⟨rfl, b7⟩; have hW7 := bstep hW5 b7))
          go_returns
          unfold TxtPost
          rw [HP.out]
          exact ⟨rfl, hW5⟩
        | true =>
          by_cases hz : D1.data.toList = [48]
          · rw [if_neg (fun h => h.2.2 hz)] at HP
            rw [decide_eq_true hz] at z48
            clear hz
            go_wp2_with (first
              | (go_at_call_of 45 (Value.string (R)); refine (gN _).mono ?_; rintro e w4 ⟨rfl, b4⟩; have hW4 := bstep hW b4)
              | (go_at_call_of 45 (Value.string ((⟨#[49]⟩ : ByteArray))); refine (gD _).mono ?_; rintro e w5 ⟨rfl, b5⟩; have hW5 := bstep hW4 b5)
              | (go_at_call_of 47 (Value.string ((⟨#[49]⟩ : ByteArray))); refine (nD _).mono ?_; rintro e w6 ⟨rfl, rfl⟩)
              | (go_at_call_of 47 (Value.string (R)); refine (nN _).mono ?_; rintro e w6 ⟨rfl, rfl⟩)
              | (go_at_call 15; refine (mk _ (hT.below hW5)).mono ?_; rintro e w7 ⟨rfl, b7⟩; have hW7 := bstep hW5 b7))
            go_returns
            unfold TxtPost
            rw [HP.out]
            exact ⟨rfl, hW5⟩
          · rw [if_pos ⟨rfl, rfl, hz⟩] at HP
            rw [decide_eq_false hz] at z48
            clear hz
            rcases Nat.lt_or_ge 900 s.size with hl | hl
            · rw [if_pos hl] at HP
              have k1 : (900 : Int) < (s.size : Int) := by omega
              clear hl
              go_wp2_with (first
                | (go_at_call_of 45 (Value.string (R)); refine (gN _).mono ?_; rintro e w4 ⟨rfl, b4⟩; have hW4 := bstep hW b4)
                | (go_at_call_of 45 (Value.string ((⟨#[49]⟩ : ByteArray))); refine (gD _).mono ?_; rintro e w5 ⟨rfl, b5⟩; have hW5 := bstep hW4 b5)
                | (go_at_call_of 47 (Value.string ((⟨#[49]⟩ : ByteArray))); refine (nD _).mono ?_; rintro e w6 ⟨rfl, rfl⟩)
                | (go_at_call_of 47 (Value.string (R)); refine (nN _).mono ?_; rintro e w6 ⟨rfl, rfl⟩)
                | (go_at_call 15; refine (mk _ (hT.below hW5)).mono ?_; rintro e w7 ⟨rfl, b7⟩; have hW7 := bstep hW5 b7))
              go_returns
              unfold TxtPost
              rw [HP.out]
              exact ⟨rfl, hW5⟩
            · rw [if_neg (by omega)] at HP
              have k1 : decide ((900 : Int) < (s.size : Int)) = false := decide_eq_false (by omega)
              have k2 : (s.size : Int) ≤ 900 := by omega
              clear hl
              go_wp2_with (first
                | (go_at_call_of 45 (Value.string (R)); refine (gN _).mono ?_; rintro e w4 ⟨rfl, b4⟩; have hW4 := bstep hW b4)
                | (go_at_call_of 45 (Value.string ((⟨#[49]⟩ : ByteArray))); refine (gD _).mono ?_; rintro e w5 ⟨rfl, b5⟩; have hW5 := bstep hW4 b5)
                | (go_at_call_of 47 (Value.string ((⟨#[49]⟩ : ByteArray))); refine (nD _).mono ?_; rintro e w6 ⟨rfl, rfl⟩)
                | (go_at_call_of 47 (Value.string (R)); refine (nN _).mono ?_; rintro e w6 ⟨rfl, rfl⟩)
                | (go_at_call 15; refine (mk _ (hT.below hW5)).mono ?_; rintro e w7 ⟨rfl, b7⟩; have hW7 := bstep hW5 b7))
              go_returns
              unfold TxtPost
              rw [HP.out]
              exact ⟨rfl, hW7⟩
end Go.Proofs.YtfgmjdhoeilhcaaGreatDoor
