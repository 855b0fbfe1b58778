/- RatNative: small fractions are computed as the machine's integers say. -/
import Derived.Test.YtfgmjdhoeilhcaaGreatDoorKh
namespace Go.Proofs.YtfgmjdhoeilhcaaGreatDoor
open Go.RowKit
set_option linter.unusedVariables false

theorem prod_le {a b : Int} {A B : Nat} (ha : a.natAbs ≤ A) (hb : b.natAbs ≤ B) : (a * b).natAbs ≤ A * B := by
  rw [Int.natAbs_mul]
  exact Nat.mul_le_mul ha hb
theorem size_rat {z : Rat} (h : Sm z) {F : ByteArray} (hF : (⟨(ratT z).toArray⟩ : ByteArray) = F) : F.size ≤ 100 := by
  have := sm_len h
  rw [← hF, Lib.size_eq]
  show (ratT z).length ≤ 100
  unfold ratT
  rw [List.length_append, List.length_append]
  have a1 : (if z.num < 0 then [45] else ([] : Bs)).length ≤ 1 := by split <;> simp
  have a2 : (if z.den = 1 then ([] : Bs) else 47 :: decT z.den).length ≤ 20 := by split <;> simp; omega
  omega
theorem data_rat {z : Rat} {F : ByteArray} (hF : (⟨(ratT z).toArray⟩ : ByteArray) = F) : F.data.toList = ratT z := by rw [← hF]
set_option maxHeartbeats 16000000 in
set_option maxRecDepth 100000 in
theorem ratNative_law (a b c d : Int) (w : World) (hT : Tabs w) (za : (Lit.int .i32 a).wf = true) (zb : (Lit.int .i32 b).wf = true) (zc : (Lit.int .u16 c).wf = true) (zd : (Lit.int .u16 d).wf = true) :
    Calls Tryz.prog 7 #[.int .i32 a, .int .i32 b, .int .u16 c, .int .u16 d] w fun e w' => e = .returned (.bool true) ∧ Below w.heap.size w w' := by
  have hA : Below w.heap.size w w := Below.refl _ _
  have e1 : IntKind.i32.min = -2147483648 := by decide
  have e2 : IntKind.i32.max = 2147483647 := by decide
  have e3 : IntKind.u16.min = 0 := by decide
  have e4 : IntKind.u16.max = 65535 := by decide
  simp only [Lit.wf, e1, e2, e3, e4, Bool.and_eq_true, decide_eq_true_eq] at za zb zc zd
  obtain ⟨za1, za2⟩ := za
  obtain ⟨zb1, zb2⟩ := zb
  obtain ⟨c0, rfl⟩ : ∃ k : Nat, c = k := ⟨c.toNat, by omega⟩
  obtain ⟨d0, rfl⟩ : ∃ k : Nat, d = k := ⟨d.toNat, by omega⟩
  obtain ⟨cm, hcm⟩ : ∃ x, c0 % 32768 = x := ⟨_, rfl⟩
  obtain ⟨dm, hdm⟩ : ∃ x, d0 % 32768 = x := ⟨_, rfl⟩
  have tc : (c0 : Int).tmod 32768 = (cm : Int) := by rw [Int.tmod_eq_emod_of_nonneg (by omega)]; omega
  have td : (d0 : Int).tmod 32768 = (dm : Int) := by rw [Int.tmod_eq_emod_of_nonneg (by omega)]; omega
  have lc : cm ≤ 32767 := by omega
  have ld : dm ≤ 32767 := by omega
  obtain ⟨m, hm⟩ : ∃ x, cm + 1 = x := ⟨_, rfl⟩
  obtain ⟨n, hn⟩ : ∃ x, dm + 1 = x := ⟨_, rfl⟩
  have mc : (cm : Int) + 1 = (m : Int) := by omega
  have nd : (dm : Int) + 1 = (n : Int) := by omega
  have m0 : m ≠ 0 := by omega
  have n0 : n ≠ 0 := by omega
  have m1 : m ≤ 32768 := by omega
  have n1 : n ≤ 32768 := by omega
  have A1 : a.natAbs ≤ 2147483648 := by omega
  have B1 : b.natAbs ≤ 2147483648 := by omega
  have b1 : (a * (n : Int)).natAbs ≤ 2147483648 * 32768 := prod_le A1 (by omega)
  have b2 : (b * (m : Int)).natAbs ≤ 2147483648 * 32768 := prod_le B1 (by omega)
  have b3 : (a * b).natAbs ≤ 2147483648 * 2147483648 := prod_le A1 B1
  have b4 : m * n ≤ 32768 * 32768 := Nat.mul_le_mul m1 n1
  have mn0 : m * n ≠ 0 := Nat.mul_ne_zero m0 n0
  have hx := sm_mk a m0 (by omega) (by omega)
  have hy := sm_mk b n0 (by omega) (by omega)
  have hs := sm_mk (a * n + b * m) mn0 (by omega) (by omega)
  have ht := sm_mk (a * n - b * m) mn0 (by omega) (by omega)
  have hu := sm_mk (a * b) mn0 (by omega) (by omega)
  obtain ⟨X, hX⟩ : ∃ F : ByteArray, (⟨(ratT (mkRat a m)).toArray⟩ : ByteArray) = F := ⟨_, rfl⟩
  obtain ⟨Y, hY⟩ : ∃ F : ByteArray, (⟨(ratT (mkRat b n)).toArray⟩ : ByteArray) = F := ⟨_, rfl⟩
  obtain ⟨S, hS⟩ : ∃ F : ByteArray, (⟨(ratT (mkRat (a * n + b * m) (m * n))).toArray⟩ : ByteArray) = F := ⟨_, rfl⟩
  obtain ⟨T, hTT⟩ : ∃ F : ByteArray, (⟨(ratT (mkRat (a * n - b * m) (m * n))).toArray⟩ : ByteArray) = F := ⟨_, rfl⟩
  obtain ⟨U, hU⟩ : ∃ F : ByteArray, (⟨(ratT (mkRat (a * b) (m * n))).toArray⟩ : ByteArray) = F := ⟨_, rfl⟩
  have sX := size_rat hx hX
  have sY := size_rat hy hY
  have dX := data_rat hX
  have dY := data_rat hY
  have f1 := fun W => fraction_any a m W (by omega) (by omega) (by omega)
  have f2 := fun W => fraction_any b n W (by omega) (by omega) (by omega)
  have f3 := fun W => fraction_any (a * n + b * m) (m * n) W (by omega) (by omega) (by omega)
  have f4 := fun W => fraction_any (a * n - b * m) (m * n) W (by omega) (by omega) (by omega)
  have f5 := fun W => fraction_any (a * b) (m * n) W (by omega) (by omega) (by omega)
  have g1 := fun W h => qadd_any X Y W h (by omega) (by omega)
  have g2 := fun W h => qsub_any X Y W h (by omega) (by omega)
  have g3 := fun W h => qmul_any X Y W h (by omega) (by omega)
  have g4 := fun W h => qdiv_any X Y W h (by omega) (by omega)
  have g5 := fun W h => qvalid_any X W h (by omega)
  have g6 := fun W h => qcmp_any X Y W h (by omega) (by omega)
  rw [dX, dY, nAdd m0 n0 hx hy hs] at g1
  rw [dX, dY, nSub m0 n0 hx hy ht] at g2
  rw [dX, dY, nMul hx hy hu] at g3
  rw [dX, dY] at g4
  rw [dX, sm_V hx] at g5
  rw [dX, dY, nCmp m0 n0 hx hy] at g6
  unfold TxtPost at g1 g2 g3 g4
  simp only [hX] at f1
  simp only [hY] at f2
  simp only [hS] at f3 g1
  simp only [hTT] at f4 g2
  simp only [hU] at f5 g3
  have i1 := fun W => is_any S S 0 W
  have i2 := fun W => is_any T T 0 W
  have i3 := fun W => is_any U U 0 W
  rw [decide_eq_true rfl, decide_eq_true rfl] at i1 i2 i3
  have hmn : (m : Int) * (n : Int) = ((m * n : Nat) : Int) := (Int.natCast_mul m n).symm
  have HD0 : Hid (b = 0 → ratDiv (ratT (mkRat a m)) (ratT (mkRat b n)) = ([], 4)) := fun h => by subst h; exact nDiv0 hx hy
  have HD1 : Hid (∀ (k : Nat) (p' : Int), k ≠ 0 → b ≠ 0 → p' * b * m = a * k * m → Sm (mkRat (p' * n) (m * k)) → ratDiv (ratT (mkRat a m)) (ratT (mkRat b n)) = (ratT (mkRat (p' * n) (m * k)), 0)) := fun k p' hk hb h hz => nDiv m0 n0 hk p' hb h hx hy hz
  obtain ⟨V, hV⟩ : ∃ V, ratDiv (ratT (mkRat a m)) (ratT (mkRat b n)) = V := ⟨_, rfl⟩
  rw [hV] at HD0 HD1 g4
  obtain ⟨VT, hVT⟩ : ∃ F : ByteArray, (⟨V.1.toArray⟩ : ByteArray) = F := ⟨_, rfl⟩
  obtain ⟨vc, hvc⟩ : ∃ k, V.2 = k := ⟨_, rfl⟩
  simp only [hVT, hvc] at g4
  have HE0 : Hid (b = 0 → VT = ⟨#[]⟩ ∧ vc = 4) := fun h => by
    have := HD0.out h
    exact ⟨by rw [← hVT, this], by rw [← hvc, this]⟩
  have HE1 : Hid (∀ (k : Nat) (p' : Int), k ≠ 0 → b ≠ 0 → p' * b * m = a * k * m → (p' * (n : Int)).natAbs < 5000000000000000000 → m * k < 5000000000000000000 → (⟨(ratT (mkRat (p' * n) (m * k))).toArray⟩ : ByteArray) = VT ∧ vc = 0) := fun k p' hk hb h l1 l2 => by
    have := HD1.out k p' hk hb h (sm_mk _ (Nat.mul_ne_zero m0 hk) l1 l2)
    exact ⟨by rw [← hVT, this], by rw [← hvc, this]⟩
  clear hX hY hS hTT hU dX dY sX sY hx hy hs ht hu hV hVT hvc HD0 HD1 e1 e2 e3 e4 hcm hdm hm hn mn0

  obtain ⟨M, hM⟩ : ∃ M, m * n = M := ⟨_, rfl⟩
  obtain ⟨X1, hX1⟩ : ∃ z, a * (n : Int) = z := ⟨_, rfl⟩
  obtain ⟨X2, hX2⟩ : ∃ z, b * (m : Int) = z := ⟨_, rfl⟩
  obtain ⟨X3, hX3⟩ : ∃ z, a * b = z := ⟨_, rfl⟩
  rw [hM] at b4 hmn
  simp only [hM, hX1, hX2, hX3] at f3 f4 f5 g6 b1 b2 b3
  have r1 : -100000000000000 ≤ X1 := by omega
  have r2 : X1 ≤ 100000000000000 := by omega
  have r3 : -100000000000000 ≤ X2 := by omega
  have r4 : X2 ≤ 100000000000000 := by omega
  have r5 : -4611686018427387904 ≤ X3 := by omega
  have r6 : X3 ≤ 4611686018427387904 := by omega
  have r7 : M ≤ 1073741824 := by omega
  clear b1 b2 b3 b4 hM
  go_enter Tryz.func7, Tryz.ntmps7
  go_wp2_with fail
  refine (f1 _).mono ?_
  rintro e w1 ⟨rfl, h1⟩
  have hB1 := bstep hA h1
  go_wp2_with fail
  refine (f2 _).mono ?_
  rintro e w2 ⟨rfl, h2⟩
  have hB2 := bstep hB1 h2
  go_wp2_with fail
  refine (g1 _ (hT.below hB2)).mono ?_
  rintro e w3 ⟨rfl, h3⟩
  have hB3 := bstep hB2 h3
  go_wp2_with fail
  refine (g2 _ (hT.below hB3)).mono ?_
  rintro e w4 ⟨rfl, h4⟩
  have hB4 := bstep hB3 h4
  go_wp2_with fail
  refine (g3 _ (hT.below hB4)).mono ?_
  rintro e w5 ⟨rfl, h5⟩
  have hB5 := bstep hB4 h5
  go_wp2_with fail
  refine (g4 _ (hT.below hB5)).mono ?_
  rintro e w6 ⟨rfl, h6⟩
  have hB6 := bstep hB5 h6
  go_wp2_with fail
  refine (g5 _ (hT.below hB6)).mono ?_
  rintro e w7 ⟨rfl, h7⟩
  have hB7 := bstep hB6 h7
  go_wp2_with fail
  refine (f3 _).mono ?_
  rintro e w8 ⟨rfl, h8⟩
  have hB8 := bstep hB7 h8
  go_wp2_with (go_at_call 32; refine (i1 _).mono ?_; rintro e wi ⟨rfl, rfl⟩)
  refine (f4 _).mono ?_
  rintro e w9 ⟨rfl, h9⟩
  have hB9 := bstep hB8 h9
  go_wp2_with (go_at_call 32; refine (i2 _).mono ?_; rintro e wi ⟨rfl, rfl⟩)
  refine (f5 _).mono ?_
  rintro e wa ⟨rfl, ha⟩
  have hBa := bstep hB9 ha
  clear hA hB1 hB2 hB3 hB4 hB5 hB6 hB7 hB8 hB9 h1 h2 h3 h4 h5 h6 h7 h8 h9 ha f1 f2 f3 f4 f5 g1 g2 g3 g4 g5
  rcases Int.lt_trichotomy X1 X2 with hs | hs | hs
  · rw [if_pos hs] at g6
    have s1 : decide (X1 < X2) = true := decide_eq_true hs
    have s2 : decide (X2 < X1) = false := decide_eq_false (by omega)
    have s3 : ¬ X2 < X1 := by omega
    go_wp2_with (go_at_call 32; refine (i3 _).mono ?_; rintro e wi ⟨rfl, rfl⟩)
    refine (g6 _ (hT.below hBa)).mono ?_
    rintro e wb ⟨rfl, hb⟩
    have hBb := bstep hBa hb
    clear hb hBa g6 i1 i2 i3
    rcases Int.lt_trichotomy b 0 with hb0 | hb0 | hb0
    · obtain ⟨k, hk⟩ : ∃ k : Nat, -b = k := ⟨b.natAbs, by omega⟩
      have lk : m * k ≤ 32768 * 2147483648 := Nat.mul_le_mul m1 (by omega)
      have e1 : -a * (n : Int) = -X1 := by rw [Int.neg_mul, hX1]
      obtain ⟨u1, rfl⟩ := HE1.out k (-a) (by omega) (by omega) (by rw [← hk, Int.neg_mul, Int.mul_neg]) (by rw [e1]; omega) (by omega)
      have f6 := fun W => fraction_any (-a * n) (m * k) W (by rw [e1]; omega) (by omega) (Nat.mul_pos (by omega) (by omega))
      simp only [u1] at f6
      have hK0 : ((m * k : Nat) : Int) = (m : Int) * -b := by rw [hk, Int.natCast_mul]
      obtain ⟨K, hK⟩ : ∃ K, m * k = K := ⟨_, rfl⟩
      rw [hK] at hK0 lk
      simp only [hK, e1] at f6
      have k1 : (m : Int) * -b = (K : Int) := hK0.symm
      have k2 : (m : Int) * b = -(K : Int) := by rw [Int.mul_neg] at hK0; omega
      have bz : (b == 0) = false := beq_eq_false_iff_ne.2 (by omega)
      have bz' : ¬ b = 0 := by omega
      have iv := fun W => is_any VT VT 0 W
      rw [decide_eq_true rfl, decide_eq_true rfl] at iv
      have lK : K ≤ 70368744177664 := by omega
      clear hK u1 HE0 HE1 lk hk hK0
      go_wp2_with fail
      refine (f6 _).mono ?_
      rintro e wc ⟨rfl, hc⟩
      have hBc := bstep hBb hc
      go_wp2_with (go_at_call 32; refine (iv _).mono ?_; rintro e wi ⟨rfl, rfl⟩)
      refine (awake_any _ (hT.below hBc)).mono ?_
      rintro e wk ⟨rfl, bk⟩
      go_wp2_with fail
      go_returns
      exact ⟨rfl, bstep hBc bk⟩
    · obtain ⟨rfl, rfl⟩ := HE0.out hb0
      have bz : (b == 0) = true := by rw [hb0]; rfl
      clear HE0 HE1 hb0
      go_wp2_with fail
      refine (awake_any _ (hT.below hBb)).mono ?_
      rintro e wk ⟨rfl, bk⟩
      go_wp2_with fail
      go_returns
      exact ⟨rfl, bstep hBb bk⟩
    · obtain ⟨k, hk⟩ : ∃ k : Nat, b = k := ⟨b.natAbs, by omega⟩
      have lk : m * k ≤ 32768 * 2147483648 := Nat.mul_le_mul m1 (by omega)
      obtain ⟨u1, rfl⟩ := HE1.out k a (by omega) (by omega) (by rw [← hk]) (by rw [hX1]; omega) (by omega)
      have f6 := fun W => fraction_any (a * n) (m * k) W (by rw [hX1]; omega) (by omega) (Nat.mul_pos (by omega) (by omega))
      simp only [u1] at f6
      have hK0 : ((m * k : Nat) : Int) = (m : Int) * b := by rw [hk, Int.natCast_mul]
      obtain ⟨K, hK⟩ : ∃ K, m * k = K := ⟨_, rfl⟩
      rw [hK] at hK0 lk
      simp only [hK, hX1] at f6
      have k1 : (m : Int) * b = (K : Int) := hK0.symm
      have bz : (b == 0) = false := beq_eq_false_iff_ne.2 (by omega)
      have bz' : ¬ b = 0 := by omega
      have bl : decide (b < 0) = false := decide_eq_false (by omega)
      have bl' : 0 ≤ b := by omega
      have iv := fun W => is_any VT VT 0 W
      rw [decide_eq_true rfl, decide_eq_true rfl] at iv
      have lK : K ≤ 70368744177664 := by omega
      clear hK u1 HE0 HE1 lk hk hK0
      go_wp2_with fail
      refine (f6 _).mono ?_
      rintro e wc ⟨rfl, hc⟩
      have hBc := bstep hBb hc
      go_wp2_with (go_at_call 32; refine (iv _).mono ?_; rintro e wi ⟨rfl, rfl⟩)
      refine (awake_any _ (hT.below hBc)).mono ?_
      rintro e wk ⟨rfl, bk⟩
      go_wp2_with fail
      go_returns
      exact ⟨rfl, bstep hBc bk⟩
  · rw [if_neg (by omega), if_neg (by omega)] at g6
    have s1 : decide (X1 < X2) = false := decide_eq_false (by omega)
    have s2 : decide (X2 < X1) = false := decide_eq_false (by omega)
    have s3 : ¬ X2 < X1 := by omega
    have s4 : ¬ X1 < X2 := by omega
    clear hs
    go_wp2_with (go_at_call 32; refine (i3 _).mono ?_; rintro e wi ⟨rfl, rfl⟩)
    refine (g6 _ (hT.below hBa)).mono ?_
    rintro e wb ⟨rfl, hb⟩
    have hBb := bstep hBa hb
    clear hb hBa g6 i1 i2 i3
    rcases Int.lt_trichotomy b 0 with hb0 | hb0 | hb0
    · obtain ⟨k, hk⟩ : ∃ k : Nat, -b = k := ⟨b.natAbs, by omega⟩
      have lk : m * k ≤ 32768 * 2147483648 := Nat.mul_le_mul m1 (by omega)
      have e1 : -a * (n : Int) = -X1 := by rw [Int.neg_mul, hX1]
      obtain ⟨u1, rfl⟩ := HE1.out k (-a) (by omega) (by omega) (by rw [← hk, Int.neg_mul, Int.mul_neg]) (by rw [e1]; omega) (by omega)
      have f6 := fun W => fraction_any (-a * n) (m * k) W (by rw [e1]; omega) (by omega) (Nat.mul_pos (by omega) (by omega))
      simp only [u1] at f6
      have hK0 : ((m * k : Nat) : Int) = (m : Int) * -b := by rw [hk, Int.natCast_mul]
      obtain ⟨K, hK⟩ : ∃ K, m * k = K := ⟨_, rfl⟩
      rw [hK] at hK0 lk
      simp only [hK, e1] at f6
      have k1 : (m : Int) * -b = (K : Int) := hK0.symm
      have k2 : (m : Int) * b = -(K : Int) := by rw [Int.mul_neg] at hK0; omega
      have bz : (b == 0) = false := beq_eq_false_iff_ne.2 (by omega)
      have bz' : ¬ b = 0 := by omega
      have iv := fun W => is_any VT VT 0 W
      rw [decide_eq_true rfl, decide_eq_true rfl] at iv
      have lK : K ≤ 70368744177664 := by omega
      clear hK u1 HE0 HE1 lk hk hK0
      go_wp2_with fail
      refine (f6 _).mono ?_
      rintro e wc ⟨rfl, hc⟩
      have hBc := bstep hBb hc
      go_wp2_with (go_at_call 32; refine (iv _).mono ?_; rintro e wi ⟨rfl, rfl⟩)
      refine (awake_any _ (hT.below hBc)).mono ?_
      rintro e wk ⟨rfl, bk⟩
      go_wp2_with fail
      go_returns
      exact ⟨rfl, bstep hBc bk⟩
    · obtain ⟨rfl, rfl⟩ := HE0.out hb0
      have bz : (b == 0) = true := by rw [hb0]; rfl
      clear HE0 HE1 hb0
      go_wp2_with fail
      refine (awake_any _ (hT.below hBb)).mono ?_
      rintro e wk ⟨rfl, bk⟩
      go_wp2_with fail
      go_returns
      exact ⟨rfl, bstep hBb bk⟩
    · obtain ⟨k, hk⟩ : ∃ k : Nat, b = k := ⟨b.natAbs, by omega⟩
      have lk : m * k ≤ 32768 * 2147483648 := Nat.mul_le_mul m1 (by omega)
      obtain ⟨u1, rfl⟩ := HE1.out k a (by omega) (by omega) (by rw [← hk]) (by rw [hX1]; omega) (by omega)
      have f6 := fun W => fraction_any (a * n) (m * k) W (by rw [hX1]; omega) (by omega) (Nat.mul_pos (by omega) (by omega))
      simp only [u1] at f6
      have hK0 : ((m * k : Nat) : Int) = (m : Int) * b := by rw [hk, Int.natCast_mul]
      obtain ⟨K, hK⟩ : ∃ K, m * k = K := ⟨_, rfl⟩
      rw [hK] at hK0 lk
      simp only [hK, hX1] at f6
      have k1 : (m : Int) * b = (K : Int) := hK0.symm
      have bz : (b == 0) = false := beq_eq_false_iff_ne.2 (by omega)
      have bz' : ¬ b = 0 := by omega
      have bl : decide (b < 0) = false := decide_eq_false (by omega)
      have bl' : 0 ≤ b := by omega
      have iv := fun W => is_any VT VT 0 W
      rw [decide_eq_true rfl, decide_eq_true rfl] at iv
      have lK : K ≤ 70368744177664 := by omega
      clear hK u1 HE0 HE1 lk hk hK0
      go_wp2_with fail
      refine (f6 _).mono ?_
      rintro e wc ⟨rfl, hc⟩
      have hBc := bstep hBb hc
      go_wp2_with (go_at_call 32; refine (iv _).mono ?_; rintro e wi ⟨rfl, rfl⟩)
      refine (awake_any _ (hT.below hBc)).mono ?_
      rintro e wk ⟨rfl, bk⟩
      go_wp2_with fail
      go_returns
      exact ⟨rfl, bstep hBc bk⟩
  · rw [if_neg (by omega), if_pos hs] at g6
    have s1 : decide (X1 < X2) = false := decide_eq_false (by omega)
    have s2 : decide (X2 < X1) = true := decide_eq_true hs
    have s4 : ¬ X1 < X2 := by omega
    go_wp2_with (go_at_call 32; refine (i3 _).mono ?_; rintro e wi ⟨rfl, rfl⟩)
    refine (g6 _ (hT.below hBa)).mono ?_
    rintro e wb ⟨rfl, hb⟩
    have hBb := bstep hBa hb
    clear hb hBa g6 i1 i2 i3
    rcases Int.lt_trichotomy b 0 with hb0 | hb0 | hb0
    · obtain ⟨k, hk⟩ : ∃ k : Nat, -b = k := ⟨b.natAbs, by omega⟩
      have lk : m * k ≤ 32768 * 2147483648 := Nat.mul_le_mul m1 (by omega)
      have e1 : -a * (n : Int) = -X1 := by rw [Int.neg_mul, hX1]
      obtain ⟨u1, rfl⟩ := HE1.out k (-a) (by omega) (by omega) (by rw [← hk, Int.neg_mul, Int.mul_neg]) (by rw [e1]; omega) (by omega)
      have f6 := fun W => fraction_any (-a * n) (m * k) W (by rw [e1]; omega) (by omega) (Nat.mul_pos (by omega) (by omega))
      simp only [u1] at f6
      have hK0 : ((m * k : Nat) : Int) = (m : Int) * -b := by rw [hk, Int.natCast_mul]
      obtain ⟨K, hK⟩ : ∃ K, m * k = K := ⟨_, rfl⟩
      rw [hK] at hK0 lk
      simp only [hK, e1] at f6
      have k1 : (m : Int) * -b = (K : Int) := hK0.symm
      have k2 : (m : Int) * b = -(K : Int) := by rw [Int.mul_neg] at hK0; omega
      have bz : (b == 0) = false := beq_eq_false_iff_ne.2 (by omega)
      have bz' : ¬ b = 0 := by omega
      have iv := fun W => is_any VT VT 0 W
      rw [decide_eq_true rfl, decide_eq_true rfl] at iv
      have lK : K ≤ 70368744177664 := by omega
      clear hK u1 HE0 HE1 lk hk hK0
      go_wp2_with fail
      refine (f6 _).mono ?_
      rintro e wc ⟨rfl, hc⟩
      have hBc := bstep hBb hc
      go_wp2_with (go_at_call 32; refine (iv _).mono ?_; rintro e wi ⟨rfl, rfl⟩)
      refine (awake_any _ (hT.below hBc)).mono ?_
      rintro e wk ⟨rfl, bk⟩
      go_wp2_with fail
      go_returns
      exact ⟨rfl, bstep hBc bk⟩
    · obtain ⟨rfl, rfl⟩ := HE0.out hb0
      have bz : (b == 0) = true := by rw [hb0]; rfl
      clear HE0 HE1 hb0
      go_wp2_with fail
      refine (awake_any _ (hT.below hBb)).mono ?_
      rintro e wk ⟨rfl, bk⟩
      go_wp2_with fail
      go_returns
      exact ⟨rfl, bstep hBb bk⟩
    · obtain ⟨k, hk⟩ : ∃ k : Nat, b = k := ⟨b.natAbs, by omega⟩
      have lk : m * k ≤ 32768 * 2147483648 := Nat.mul_le_mul m1 (by omega)
      obtain ⟨u1, rfl⟩ := HE1.out k a (by omega) (by omega) (by rw [← hk]) (by rw [hX1]; omega) (by omega)
      have f6 := fun W => fraction_any (a * n) (m * k) W (by rw [hX1]; omega) (by omega) (Nat.mul_pos (by omega) (by omega))
      simp only [u1] at f6
      have hK0 : ((m * k : Nat) : Int) = (m : Int) * b := by rw [hk, Int.natCast_mul]
      obtain ⟨K, hK⟩ : ∃ K, m * k = K := ⟨_, rfl⟩
      rw [hK] at hK0 lk
      simp only [hK, hX1] at f6
      have k1 : (m : Int) * b = (K : Int) := hK0.symm
      have bz : (b == 0) = false := beq_eq_false_iff_ne.2 (by omega)
      have bz' : ¬ b = 0 := by omega
      have bl : decide (b < 0) = false := decide_eq_false (by omega)
      have bl' : 0 ≤ b := by omega
      have iv := fun W => is_any VT VT 0 W
      rw [decide_eq_true rfl, decide_eq_true rfl] at iv
      have lK : K ≤ 70368744177664 := by omega
      clear hK u1 HE0 HE1 lk hk hK0
      go_wp2_with fail
      refine (f6 _).mono ?_
      rintro e wc ⟨rfl, hc⟩
      have hBc := bstep hBb hc
      go_wp2_with (go_at_call 32; refine (iv _).mono ?_; rintro e wi ⟨rfl, rfl⟩)
      refine (awake_any _ (hT.below hBc)).mono ?_
      rintro e wk ⟨rfl, bk⟩
      go_wp2_with fail
      go_returns
      exact ⟨rfl, bstep hBc bk⟩
end Go.Proofs.YtfgmjdhoeilhcaaGreatDoor
