/- fraction of the law of rat. -/
import Derived.Test.YtfgmjdhoeilhcaaGreatDoorKf
namespace Go.Proofs.YtfgmjdhoeilhcaaGreatDoor
open Go.RowKit
set_option linter.unusedVariables false

theorem below_drew {h : Nat} {w w' : World} {k : Nat} (hB : Below h w w') : Below h w (w'.drewN k) := ⟨hB.os, hB.tape, hB.output, hB.size, hB.block⟩

set_option maxHeartbeats 4000000 in
set_option maxRecDepth 100000 in
theorem fraction_nn (N D : Nat) (w : World) (hN : N < 5000000000000000000) (hD : D < 5000000000000000000) (hD0 : 0 < D) :
    Calls Tryz.prog 31 #[.int .i64 (N : Int), .int .i64 (D : Int)] w fun e w' => e = .returned (.string ⟨(decT (N / Nat.gcd N D) ++ (if D / Nat.gcd N D = 1 then [] else 47 :: decT (D / Nat.gcd N D))).toArray⟩) ∧ Below w.heap.size w w' := by
  have hA : Below w.heap.size w w := Below.refl _ _
  obtain ⟨R, hR⟩ : ∃ R : ByteArray, (⟨(decT (N / Nat.gcd N D) ++ (if D / Nat.gcd N D = 1 then [] else 47 :: decT (D / Nat.gcd N D))).toArray⟩ : ByteArray) = R := ⟨_, rfl⟩
  rw [hR]
  have HRR := Lib.hid hR
  clear hR
  have n0 : decide ((N : Int) < 0) = false := decide_eq_false (by omega)
  have gp : 0 < Nat.gcd N D := Nat.gcd_pos_of_pos_right _ hD0
  go_enter Tryz.func31, Tryz.ntmps31
  go_wp2_with fail
  go_loopw [5, 6] (fun av bv wr => ∃ (a b : Nat), av = .int .i64 a ∧ bv = .int .i64 b ∧ a < 5000000000000000000 ∧ b < 5000000000000000000 ∧ Hid (Nat.gcd a b = Nat.gcd N D) ∧ Below w.heap.size w wr) (fun _ bv _ => (intOf bv).toNat)
  case atStart => exact ⟨N, D, by simp, rfl, by omega, by omega, rfl, hA⟩
  case round =>
    obtain ⟨a, b, rfl, rfl, ha, hb, HG, hB⟩ := hrel
    by_cases hb0 : b = 0
    · subst hb0
      obtain rfl : a = Nat.gcd N D := by have := HG.out; rwa [Nat.gcd_zero_right] at this
      obtain ⟨g, hg⟩ : ∃ g, Nat.gcd N D = g := ⟨_, rfl⟩
      obtain ⟨P, hP⟩ : ∃ P, N / g = P := ⟨_, rfl⟩
      obtain ⟨Q, hQ⟩ : ∃ Q, D / g = Q := ⟨_, rfl⟩
      simp only [hg] at *
      have t1 : (N : Int).tdiv (g : Int) = (P : Int) := by rw [Int.tdiv_eq_ediv_of_nonneg (by omega), ← hP]; rfl
      have t2 : (D : Int).tdiv (g : Int) = (Q : Int) := by rw [Int.tdiv_eq_ediv_of_nonneg (by omega), ← hQ]; rfl
      have g0 : ¬ (g : Int) = 0 := by omega
      have g1 : ((g : Int) == 0) = false := beq_eq_false_iff_ne.2 (by omega)
      have lP : P < 5000000000000000000 := by rw [← hP]; exact Nat.lt_of_le_of_lt (Nat.div_le_self _ _) hN
      have lQ : Q < 5000000000000000000 := by rw [← hQ]; exact Nat.lt_of_le_of_lt (Nat.div_le_self _ _) hD
      have p1 := fun W => decimal_nn P W lP
      have p2 := fun W => decimal_nn Q W lQ
      have HR : Hid (∀ l, (⟨(decT (N / g) ++ l).toArray⟩ : ByteArray) = (⟨(decT P).toArray⟩ : ByteArray) ++ ⟨l.toArray⟩) := fun l => data_of (by rw [Joins.data_append, hP])
      have HQ := Lib.hid hQ
      have HP := Lib.hid hP
      clear hP hQ HG ha hb
      by_cases hQ1 : Q = 1
      · have q1 : ((Q : Int) == 1) = true := by rw [hQ1]; rfl
        have HE : Hid (R = (⟨(decT P).toArray⟩ : ByteArray)) := by
          rw [Hid, ← HRR.out, HQ.out, if_pos hQ1, List.append_nil, HP.out]
        clear hQ1
        go_wp2_with fail
        go_quiet (fail)
        go_wp2_with fail
        refine (p1 _).mono ?_
        rintro e wx ⟨rfl, bx⟩
        have hX := bstep (below_drew hB) bx
        go_wp2_with fail
        go_returns
        exact ⟨by rw [HE.out]; rfl, hX⟩
      · have q1 : ((Q : Int) == 1) = false := beq_eq_false_iff_ne.2 (by omega)
        have q2 : ¬ (Q : Int) = 1 := by omega
        have HE : Hid (R = (⟨(decT P).toArray⟩ : ByteArray) ++ (⟨#[47]⟩ : ByteArray) ++ ⟨(decT Q).toArray⟩) := by
          rw [Hid, ← HRR.out, HQ.out, if_neg hQ1, HR.out]; exact data_of (by simp only [Joins.data_append, List.append_assoc]; rfl)
        obtain ⟨S1, hS1⟩ : ∃ F : ByteArray, (⟨(decT P).toArray⟩ : ByteArray) = F := ⟨_, rfl⟩
        obtain ⟨S2, hS2⟩ : ∃ F : ByteArray, (⟨(decT Q).toArray⟩ : ByteArray) = F := ⟨_, rfl⟩
        have z1 : S1.size ≤ 20 := by have := (decT_length P 19 (by omega)).2 (Nat.lt_of_lt_of_le lP (by decide)); rw [← hS1, Lib.size_eq]; simp; omega
        have z2 : S2.size ≤ 20 := by have := (decT_length Q 19 (by omega)).2 (Nat.lt_of_lt_of_le lQ (by decide)); rw [← hS2, Lib.size_eq]; simp; omega
        simp only [hS1] at p1 HE
        simp only [hS2] at p2 HE
        have m1 : ¬ 9223372036854775807 < S1.size + 1 := by omega
        have m2 : ¬ 9223372036854775807 < S1.size + 1 + S2.size := by omega
        have z3 : (⟨#[47]⟩ : ByteArray).size = 1 := rfl
        clear hQ1 hS1 hS2
        go_wp2_with fail
        go_quiet (fail)
        go_wp2_with fail
        refine (p1 _).mono ?_
        rintro e wx ⟨rfl, bx⟩
        have hX := bstep (below_drew hB) bx
        go_wp2_with fail
        refine (p2 _).mono ?_
        rintro e wy ⟨rfl, bz⟩
        have hY := bstep hX bz
        go_wp2_with fail
        go_returns
        exact ⟨by rw [HE.out]; rfl, hY⟩
    · have b1 : ((b : Int) == 0) = false := beq_eq_false_iff_ne.2 (by omega)
      have b2 : ¬ (b : Int) = 0 := by omega
      have b3 : ((b : Int) != 0) = true := by simp [bne, b1]
      obtain ⟨r, hr⟩ : ∃ r, a % b = r := ⟨_, rfl⟩
      have hrb : r < b := by rw [← hr]; exact Nat.mod_lt _ (by omega)
      have t1 : (a : Int).tmod (b : Int) = (r : Int) := by rw [Int.tmod_eq_emod_of_nonneg (by omega), ← hr]; rfl
      have HG2 : Hid (Nat.gcd b r = Nat.gcd N D) := by rw [Hid, ← HG.out, ← hr, Nat.gcd_comm a b, Nat.gcd_rec b a, Nat.gcd_comm]
      clear hr
      go_wp2_with fail
      go_quiet (fail)
      go_roundw
      case rel => exact ⟨_, _, _, _, _, _, _, _, ⟨b, r, rfl, rfl, hb, by omega, HG2, below_drew hB⟩, rfl⟩
      case measure => simp [intOf]; omega
set_option maxHeartbeats 4000000 in
set_option maxRecDepth 100000 in
theorem fraction_neg (N D : Nat) (w : World) (hN : N < 5000000000000000000) (hD : D < 5000000000000000000) (hD0 : 0 < D) (h0 : 0 < N) :
    Calls Tryz.prog 31 #[.int .i64 (-(N : Int)), .int .i64 (D : Int)] w fun e w' => e = .returned (.string ⟨(45 :: decT (N / Nat.gcd N D) ++ (if D / Nat.gcd N D = 1 then [] else 47 :: decT (D / Nat.gcd N D))).toArray⟩) ∧ Below w.heap.size w w' := by
  have hA : Below w.heap.size w w := Below.refl _ _
  obtain ⟨R, hR⟩ : ∃ R : ByteArray, (⟨(45 :: decT (N / Nat.gcd N D) ++ (if D / Nat.gcd N D = 1 then [] else 47 :: decT (D / Nat.gcd N D))).toArray⟩ : ByteArray) = R := ⟨_, rfl⟩
  rw [hR]
  have HRR := Lib.hid hR
  clear hR
  have n0 : (-(N : Int)) < 0 := by omega
  have gp : 0 < Nat.gcd N D := Nat.gcd_pos_of_pos_right _ hD0
  go_enter Tryz.func31, Tryz.ntmps31
  go_wp2_with fail
  go_loopw [5, 6] (fun av bv wr => ∃ (a b : Nat), av = .int .i64 a ∧ bv = .int .i64 b ∧ a < 5000000000000000000 ∧ b < 5000000000000000000 ∧ Hid (Nat.gcd a b = Nat.gcd N D) ∧ Below w.heap.size w wr) (fun _ bv _ => (intOf bv).toNat)
  case atStart => exact ⟨N, D, by simp, rfl, by omega, by omega, rfl, hA⟩
  case round =>
    obtain ⟨a, b, rfl, rfl, ha, hb, HG, hB⟩ := hrel
    by_cases hb0 : b = 0
    · subst hb0
      obtain rfl : a = Nat.gcd N D := by have := HG.out; rwa [Nat.gcd_zero_right] at this
      obtain ⟨g, hg⟩ : ∃ g, Nat.gcd N D = g := ⟨_, rfl⟩
      have hP0 : 0 < N / g := by rw [← hg]; exact Nat.div_pos (Nat.le_of_dvd h0 (Nat.gcd_dvd_left N D)) gp
      obtain ⟨P, hP⟩ : ∃ P, N / g = P := ⟨_, rfl⟩
      obtain ⟨Q, hQ⟩ : ∃ Q, D / g = Q := ⟨_, rfl⟩
      simp only [hg] at *
      have t1 : (-(N : Int)).tdiv (g : Int) = (-(P : Int)) := by rw [Int.neg_tdiv]; congr 1; rw [Int.tdiv_eq_ediv_of_nonneg (by omega), ← hP]; rfl
      have t2 : (D : Int).tdiv (g : Int) = (Q : Int) := by rw [Int.tdiv_eq_ediv_of_nonneg (by omega), ← hQ]; rfl
      have g0 : ¬ (g : Int) = 0 := by omega
      have g1 : ((g : Int) == 0) = false := beq_eq_false_iff_ne.2 (by omega)
      have lP : P < 5000000000000000000 := by rw [← hP]; exact Nat.lt_of_le_of_lt (Nat.div_le_self _ _) hN
      have lQ : Q < 5000000000000000000 := by rw [← hQ]; exact Nat.lt_of_le_of_lt (Nat.div_le_self _ _) hD
      have p1 := fun W => decimal_neg P W lP (by rw [← hP]; exact hP0)
      have p2 := fun W => decimal_nn Q W lQ
      have HR : Hid (∀ l, (⟨(45 :: decT (N / g) ++ l).toArray⟩ : ByteArray) = (⟨(45 :: decT P).toArray⟩ : ByteArray) ++ ⟨l.toArray⟩) := fun l => data_of (by rw [Joins.data_append, hP])
      have HQ := Lib.hid hQ
      have HP := Lib.hid hP
      clear hP hQ HG ha hb
      by_cases hQ1 : Q = 1
      · have q1 : ((Q : Int) == 1) = true := by rw [hQ1]; rfl
        have HE : Hid (R = (⟨(45 :: decT P).toArray⟩ : ByteArray)) := by
          rw [Hid, ← HRR.out, HQ.out, if_pos hQ1, List.append_nil, HP.out]
        clear hQ1
        go_wp2_with fail
        go_quiet (fail)
        go_wp2_with fail
        refine (p1 _).mono ?_
        rintro e wx ⟨rfl, bx⟩
        have hX := bstep (below_drew hB) bx
        go_wp2_with fail
        go_returns
        exact ⟨by rw [HE.out]; rfl, hX⟩
      · have q1 : ((Q : Int) == 1) = false := beq_eq_false_iff_ne.2 (by omega)
        have q2 : ¬ (Q : Int) = 1 := by omega
        have HE : Hid (R = (⟨(45 :: decT P).toArray⟩ : ByteArray) ++ (⟨#[47]⟩ : ByteArray) ++ ⟨(decT Q).toArray⟩) := by
          rw [Hid, ← HRR.out, HQ.out, if_neg hQ1, HR.out]; exact data_of (by simp only [Joins.data_append, List.append_assoc]; rfl)
        obtain ⟨S1, hS1⟩ : ∃ F : ByteArray, (⟨(45 :: decT P).toArray⟩ : ByteArray) = F := ⟨_, rfl⟩
        obtain ⟨S2, hS2⟩ : ∃ F : ByteArray, (⟨(decT Q).toArray⟩ : ByteArray) = F := ⟨_, rfl⟩
        have z1 : S1.size ≤ 20 := by have := (decT_length P 19 (by omega)).2 (Nat.lt_of_lt_of_le lP (by decide)); rw [← hS1, Lib.size_eq]; simp; omega
        have z2 : S2.size ≤ 20 := by have := (decT_length Q 19 (by omega)).2 (Nat.lt_of_lt_of_le lQ (by decide)); rw [← hS2, Lib.size_eq]; simp; omega
        simp only [hS1] at p1 HE
        simp only [hS2] at p2 HE
        have m1 : ¬ 9223372036854775807 < S1.size + 1 := by omega
        have m2 : ¬ 9223372036854775807 < S1.size + 1 + S2.size := by omega
        have z3 : (⟨#[47]⟩ : ByteArray).size = 1 := rfl
        clear hQ1 hS1 hS2
        go_wp2_with fail
        go_quiet (fail)
        go_wp2_with fail
        refine (p1 _).mono ?_
        rintro e wx ⟨rfl, bx⟩
        have hX := bstep (below_drew hB) bx
        go_wp2_with fail
        refine (p2 _).mono ?_
        rintro e wy ⟨rfl, bz⟩
        have hY := bstep hX bz
        go_wp2_with fail
        go_returns
        exact ⟨by rw [HE.out]; rfl, hY⟩
    · have b1 : ((b : Int) == 0) = false := beq_eq_false_iff_ne.2 (by omega)
      have b2 : ¬ (b : Int) = 0 := by omega
      have b3 : ((b : Int) != 0) = true := by simp [bne, b1]
      obtain ⟨r, hr⟩ : ∃ r, a % b = r := ⟨_, rfl⟩
      have hrb : r < b := by rw [← hr]; exact Nat.mod_lt _ (by omega)
      have t1 : (a : Int).tmod (b : Int) = (r : Int) := by rw [Int.tmod_eq_emod_of_nonneg (by omega), ← hr]; rfl
      have HG2 : Hid (Nat.gcd b r = Nat.gcd N D) := by rw [Hid, ← HG.out, ← hr, Nat.gcd_comm a b, Nat.gcd_rec b a, Nat.gcd_comm]
      clear hr
      go_wp2_with fail
      go_quiet (fail)
      go_roundw
      case rel => exact ⟨_, _, _, _, _, _, _, _, ⟨b, r, rfl, rfl, hb, by omega, HG2, below_drew hB⟩, rfl⟩
      case measure => simp [intOf]; omega
theorem fraction_any (p : Int) (D : Nat) (w : World) (hp : p.natAbs < 5000000000000000000) (hD : D < 5000000000000000000) (hD0 : 0 < D) :
    Calls Tryz.prog 31 #[.int .i64 p, .int .i64 (D : Int)] w fun e w' => e = .returned (.string ⟨(ratT (mkRat p D)).toArray⟩) ∧ Below w.heap.size w w' := by
  have hd : D ≠ 0 := by omega
  have e : ratT (mkRat p D) = (if p < 0 then [45] else []) ++ (decT (p.natAbs / Nat.gcd p.natAbs D) ++ (if D / Nat.gcd p.natAbs D = 1 then [] else 47 :: decT (D / Nat.gcd p.natAbs D))) := by
    unfold ratT
    rw [mkRat_abs p hd, mkRat_den p hd]
    simp only [mkRat_neg p hd]
  rw [e]
  by_cases h : p < 0
  · have := fraction_neg p.natAbs D w hp hD hD0 (by omega)
    rw [show (-((p.natAbs : Nat) : Int)) = p from by omega] at this
    rw [if_pos h]
    exact this
  · have := fraction_nn p.natAbs D w hp hD hD0
    rw [show ((p.natAbs : Nat) : Int) = p from by omega] at this
    rw [if_neg h]
    exact this
end Go.Proofs.YtfgmjdhoeilhcaaGreatDoor
