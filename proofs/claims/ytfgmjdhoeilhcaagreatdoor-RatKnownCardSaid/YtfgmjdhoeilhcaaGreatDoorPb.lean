/- Walks of the reference of rat: Make, times, sum. -/
import Derived.Test.YtfgmjdhoeilhcaaGreatDoorPa
namespace Go.Proofs.YtfgmjdhoeilhcaaGreatDoor
open Go.RowKit
set_option linter.unusedVariables false

theorem gcd_ne {m n : Nat} (hn : n ≠ 0) : Nat.gcd m n ≠ 0 := Nat.ne_of_gt (Nat.gcd_pos_of_pos_right _ (Nat.pos_of_ne_zero hn))
theorem quo_zero {m n : Nat} (hn : n ≠ 0) : m / Nat.gcd m n = 0 ↔ m = 0 := by
  constructor
  · intro h
    have h1 := Nat.div_mul_cancel (Nat.gcd_dvd_left m n)
    rw [h] at h1
    omega
  · rintro rfl; simp
theorem numT_alt (nb : Bool) (a d : Bs) : numT nb a d = if d = [49] then (if nb = true then 45 :: a else a) else (if nb = true then 45 :: a else a) ++ ([47] ++ d) := by
  unfold numT
  by_cases h : d = [49] <;> cases nb <;> simp [h]
theorem ret_tuple2 {a b : ByteArray} {v : Value} (h : a.data.toList = b.data.toList) : Ending.returned (.tuple #[.string a, v]) = .returned (.tuple #[.string b, v]) := by
  have : a = b := by
    cases a; cases b; simp at h; rw [h]
  rw [this]
theorem divFst (a b : ByteArray) (m n : Nat) (ha : a.data.toList = decT m) (hb : b.data.toList = decT n) (sa : a.size ≤ 1000) (sb : b.size ≤ 1000) (hn : n ≠ 0) (W : World) :
    Calls Tryz.prog 42 #[.string a, .string b] W (Txt2Post W (decT (m / n), decT (m % n), 0)) := by
  have h := rdiv_any a b W (by omega) (by omega)
  rw [natDiv_dec ha hb (by rw [← Lib.size_eq]; exact sa) (by rw [← Lib.size_eq]; exact sb) hn] at h
  exact h
set_option maxHeartbeats 4000000 in
set_option maxRecDepth 100000 in
theorem pmake_any (neg : Bool) (A D : ByteArray) (m n : Nat) (w : World) (hA : A.data.toList = decT m) (hD : D.data.toList = decT n) (sA : A.size ≤ 1000) (sD : D.size ≤ 1000) (hn : n ≠ 0) :
    Calls Tryz.prog 16 #[.bool neg, .string A, .string D] w (TxtPost w (mkT neg m n)) := by
  have lA : A.data.toList.length ≤ 1000 := by rw [← Lib.size_eq]; exact sA
  have lD : D.data.toList.length ≤ 1000 := by rw [← Lib.size_eq]; exact sD
  have vA := fun W => rvalid_any A W (by omega)
  have vD := fun W => rvalid_any D W (by omega)
  rw [show okN A.data.toList = true from by rw [hA]; exact okN_dec (by rw [← hA]; exact lA)] at vA
  rw [show okN D.data.toList = true from by rw [hD]; exact okN_dec (by rw [← hD]; exact lD)] at vD
  have d48 := str_is48 hD
  rw [decide_eq_false hn] at d48
  have gG := fun W => rgcd_any A D W (by omega) (by omega)
  rw [natGcd_dec hA hD lA lD] at gG
  have hg0 := gcd_ne (m := m) hn
  have hgn : Nat.gcd m n ≤ n := Nat.gcd_le_right _ (Nat.pos_of_ne_zero hn)
  obtain ⟨G, hG⟩ : ∃ G : ByteArray, (⟨(decT (Nat.gcd m n)).toArray⟩ : ByteArray) = G := ⟨_, rfl⟩
  have hGd : G.data.toList = decT (Nat.gcd m n) := by rw [← hG]
  have sG : G.size ≤ 1000 := by
    rw [Lib.size_eq, hGd]
    refine Nat.le_trans (decT_mono hgn) ?_
    rw [← hD]; exact lD
  unfold TxtPost at gG
  simp only [hG] at gG
  have q1 := divFst A G m _ hA hGd sA sG hg0
  have q2 := divFst D G n _ hD hGd sD sG hg0
  unfold Txt2Post at q1 q2
  obtain ⟨F1, hF1⟩ : ∃ F : ByteArray, (⟨(decT (m / Nat.gcd m n)).toArray⟩ : ByteArray) = F := ⟨_, rfl⟩
  obtain ⟨F2, hF2⟩ : ∃ F : ByteArray, (⟨(decT (n / Nat.gcd m n)).toArray⟩ : ByteArray) = F := ⟨_, rfl⟩
  obtain ⟨R1, hR1⟩ : ∃ F : ByteArray, (⟨(decT (m % Nat.gcd m n)).toArray⟩ : ByteArray) = F := ⟨_, rfl⟩
  obtain ⟨R2, hR2⟩ : ∃ F : ByteArray, (⟨(decT (n % Nat.gcd m n)).toArray⟩ : ByteArray) = F := ⟨_, rfl⟩
  simp only [hF1, hR1] at q1
  simp only [hF2, hR2] at q2
  have hF1d : F1.data.toList = decT (m / Nat.gcd m n) := by rw [← hF1]
  have hF2d : F2.data.toList = decT (n / Nat.gcd m n) := by rw [← hF2]
  have l1 : (decT (m / Nat.gcd m n)).length = F1.size := by rw [← hF1d, Lib.size_eq]
  have l2 : (decT (n / Nat.gcd m n)).length = F2.size := by rw [← hF2d, Lib.size_eq]
  have f48 := str_is48 hF1d
  have f49 := is49 hF2d
  have HL : Hid (redLong m n = (decide (400 < F1.size) || decide (400 < F2.size))) := by unfold Hid redLong; rw [l1, l2]
  have HLong : Hid (redLong m n = true → mkT neg m n = ([], 2)) := fun h => mkT_long hn h
  have HS : Hid (¬ redLong m n = true → mkT neg m n = (numT (neg && decide (m ≠ 0)) F1.data.toList F2.data.toList, 0)) := fun h => by rw [hF1d, hF2d]; exact mkT_short hn h
  have HO : Hid (F2.data.toList = [49] ↔ n / Nat.gcd m n = 1) := by
    rw [Hid, hF2d]
    constructor
    · intro e; rw [← decV_decT (n / Nat.gcd m n), e]; rfl
    · intro e; rw [e]; rfl
  have c45 : (⟨#[45]⟩ : ByteArray).size = 1 := rfl
  have c47 : (⟨#[47]⟩ : ByteArray).size = 1 := rfl
  have hA0 : Below w.heap.size w w := Below.refl _ _
  have hqz := quo_zero (m := m) hn
  clear hA hD lA lD hn hgn hG hGd sG hF1 hF2 hR1 hR2 hF1d hF2d l1 l2 hg0
  rcases Nat.lt_or_ge 400 F1.size with hl1 | hl1
  · have k1 : (400 : Int) < (F1.size : Int) := by omega
    have HK : Hid (mkT neg m n = ([], 2)) := HLong.out (by rw [HL.out, decide_eq_true hl1]; rfl)
    clear hl1 f48 hqz
    go_enter Tryz.func16, Tryz.ntmps16
    go_wp2_with (first
      | (go_at_call_of 41 (Value.string A); refine (vA _).mono ?_; rintro e w2 ⟨rfl, rfl⟩)
      | (go_at_call_of 41 (Value.string D); refine (vD _).mono ?_; rintro e w2 ⟨rfl, rfl⟩)
      | (go_at_call 36; refine (gG _).mono ?_; rintro e w1 ⟨rfl, b1⟩)
      | (go_at_call_of 42 (Value.string A); refine (q1 _).mono ?_; rintro e w2 ⟨rfl, b2⟩; have hA2 := bstep b1 b2)
      | (go_at_call_of 42 (Value.string D); refine (q2 _).mono ?_; rintro e w3 ⟨rfl, b3⟩; have hA3 := bstep hA2 b3))
    go_returns
    unfold TxtPost
    rw [HK.out]
    exact ⟨rfl, hA3⟩
  · have k1 : decide ((400 : Int) < (F1.size : Int)) = false := decide_eq_false (by omega)
    have k1' : (F1.size : Int) ≤ 400 := by omega
    rcases Nat.lt_or_ge 400 F2.size with hl2 | hl2
    · have k2 : (400 : Int) < (F2.size : Int) := by omega
      have HK : Hid (mkT neg m n = ([], 2)) := HLong.out (by rw [HL.out, decide_eq_true hl2]; simp)
      clear hl1 hl2 f48 hqz
      go_enter Tryz.func16, Tryz.ntmps16
      go_wp2_with (first
        | (go_at_call_of 41 (Value.string A); refine (vA _).mono ?_; rintro e w2 ⟨rfl, rfl⟩)
        | (go_at_call_of 41 (Value.string D); refine (vD _).mono ?_; rintro e w2 ⟨rfl, rfl⟩)
        | (go_at_call 36; refine (gG _).mono ?_; rintro e w1 ⟨rfl, b1⟩)
        | (go_at_call_of 42 (Value.string A); refine (q1 _).mono ?_; rintro e w2 ⟨rfl, b2⟩; have hA2 := bstep b1 b2)
        | (go_at_call_of 42 (Value.string D); refine (q2 _).mono ?_; rintro e w3 ⟨rfl, b3⟩; have hA3 := bstep hA2 b3))
      go_returns
      unfold TxtPost
      rw [HK.out]
      exact ⟨rfl, hA3⟩
    · have k2 : decide ((400 : Int) < (F2.size : Int)) = false := decide_eq_false (by omega)
      have k2' : (F2.size : Int) ≤ 400 := by omega
      have HK := Lib.hid (HS.out (by rw [HL.out, decide_eq_false (by omega), decide_eq_false (by omega)]; simp))
      have z1 : ¬ 9223372036854775807 < 1 + F1.size := by omega
      have z2 : ¬ 9223372036854775807 < F1.size + 1 := by omega
      have z3 : ¬ 9223372036854775807 < F1.size + 1 + F2.size := by omega
      have z4 : ¬ 9223372036854775807 < 1 + F1.size + 1 := by omega
      have z5 : ¬ 9223372036854775807 < 1 + F1.size + 1 + F2.size := by omega
      have f48' : (F1.toList == [48]) = decide (m = 0) := by rw [f48]; exact decide_eq_decide.2 hqz
      rw [numT_alt] at HK
      clear hl1 hl2 f48 hqz
      by_cases h1 : n / Nat.gcd m n = 1
      · rw [decide_eq_true h1] at f49
        rw [if_pos (HO.out.2 h1)] at HK
        clear h1 HO
        cases neg with
        | false =>
          rw [if_neg (by simp)] at HK
          clear f48'
          go_enter Tryz.func16, Tryz.ntmps16
          go_wp2_with (first
            | (go_at_call_of 41 (Value.string A); refine (vA _).mono ?_; rintro e w2 ⟨rfl, rfl⟩)
            | (go_at_call_of 41 (Value.string D); refine (vD _).mono ?_; rintro e w2 ⟨rfl, rfl⟩)
            | (go_at_call 36; refine (gG _).mono ?_; rintro e w1 ⟨rfl, b1⟩)
            | (go_at_call_of 42 (Value.string A); refine (q1 _).mono ?_; rintro e w2 ⟨rfl, b2⟩; have hA2 := bstep b1 b2)
            | (go_at_call_of 42 (Value.string D); refine (q2 _).mono ?_; rintro e w3 ⟨rfl, b3⟩; have hA3 := bstep hA2 b3))
          go_returns
          unfold TxtPost
          rw [HK.out]
          exact ⟨ret_tuple2 (by simp), hA3⟩
        | true =>
          by_cases hm : m = 0
          · rw [decide_eq_true hm] at f48'
            rw [if_neg (by simp [hm])] at HK
            clear hm
            go_enter Tryz.func16, Tryz.ntmps16
            go_wp2_with (first
              | (go_at_call_of 41 (Value.string A); refine (vA _).mono ?_; rintro e w2 ⟨rfl, rfl⟩)
              | (go_at_call_of 41 (Value.string D); refine (vD _).mono ?_; rintro e w2 ⟨rfl, rfl⟩)
              | (go_at_call 36; refine (gG _).mono ?_; rintro e w1 ⟨rfl, b1⟩)
              | (go_at_call_of 42 (Value.string A); refine (q1 _).mono ?_; rintro e w2 ⟨rfl, b2⟩; have hA2 := bstep b1 b2)
              | (go_at_call_of 42 (Value.string D); refine (q2 _).mono ?_; rintro e w3 ⟨rfl, b3⟩; have hA3 := bstep hA2 b3))
            go_returns
            unfold TxtPost
            rw [HK.out]
            exact ⟨ret_tuple2 (by simp), hA3⟩
          · rw [decide_eq_false hm] at f48'
            rw [if_pos (by simp [hm])] at HK
            clear hm
            go_enter Tryz.func16, Tryz.ntmps16
            go_wp2_with (first
              | (go_at_call_of 41 (Value.string A); refine (vA _).mono ?_; rintro e w2 ⟨rfl, rfl⟩)
              | (go_at_call_of 41 (Value.string D); refine (vD _).mono ?_; rintro e w2 ⟨rfl, rfl⟩)
              | (go_at_call 36; refine (gG _).mono ?_; rintro e w1 ⟨rfl, b1⟩)
              | (go_at_call_of 42 (Value.string A); refine (q1 _).mono ?_; rintro e w2 ⟨rfl, b2⟩; have hA2 := bstep b1 b2)
              | (go_at_call_of 42 (Value.string D); refine (q2 _).mono ?_; rintro e w3 ⟨rfl, b3⟩; have hA3 := bstep hA2 b3))
            go_returns
            unfold TxtPost
            rw [HK.out]
            exact ⟨ret_tuple2 (by simp), hA3⟩
      · rw [decide_eq_false h1] at f49
        rw [if_neg (fun e => h1 (HO.out.1 e))] at HK
        clear h1 HO
        cases neg with
        | false =>
          rw [if_neg (by simp)] at HK
          clear f48'
          go_enter Tryz.func16, Tryz.ntmps16
          go_wp2_with (first
            | (go_at_call_of 41 (Value.string A); refine (vA _).mono ?_; rintro e w2 ⟨rfl, rfl⟩)
            | (go_at_call_of 41 (Value.string D); refine (vD _).mono ?_; rintro e w2 ⟨rfl, rfl⟩)
            | (go_at_call 36; refine (gG _).mono ?_; rintro e w1 ⟨rfl, b1⟩)
            | (go_at_call_of 42 (Value.string A); refine (q1 _).mono ?_; rintro e w2 ⟨rfl, b2⟩; have hA2 := bstep b1 b2)
            | (go_at_call_of 42 (Value.string D); refine (q2 _).mono ?_; rintro e w3 ⟨rfl, b3⟩; have hA3 := bstep hA2 b3))
          go_returns
          unfold TxtPost
          rw [HK.out]
          exact ⟨ret_tuple2 (by simp), hA3⟩
        | true =>
          by_cases hm : m = 0
          · rw [decide_eq_true hm] at f48'
            rw [if_neg (by simp [hm])] at HK
            clear hm
            go_enter Tryz.func16, Tryz.ntmps16
            go_wp2_with (first
              | (go_at_call_of 41 (Value.string A); refine (vA _).mono ?_; rintro e w2 ⟨rfl, rfl⟩)
              | (go_at_call_of 41 (Value.string D); refine (vD _).mono ?_; rintro e w2 ⟨rfl, rfl⟩)
              | (go_at_call 36; refine (gG _).mono ?_; rintro e w1 ⟨rfl, b1⟩)
              | (go_at_call_of 42 (Value.string A); refine (q1 _).mono ?_; rintro e w2 ⟨rfl, b2⟩; have hA2 := bstep b1 b2)
              | (go_at_call_of 42 (Value.string D); refine (q2 _).mono ?_; rintro e w3 ⟨rfl, b3⟩; have hA3 := bstep hA2 b3))
            go_returns
            unfold TxtPost
            rw [HK.out]
            exact ⟨ret_tuple2 (by simp), hA3⟩
          · rw [decide_eq_false hm] at f48'
            rw [if_pos (by simp [hm])] at HK
            clear hm
            go_enter Tryz.func16, Tryz.ntmps16
            go_wp2_with (first
              | (go_at_call_of 41 (Value.string A); refine (vA _).mono ?_; rintro e w2 ⟨rfl, rfl⟩)
              | (go_at_call_of 41 (Value.string D); refine (vD _).mono ?_; rintro e w2 ⟨rfl, rfl⟩)
              | (go_at_call 36; refine (gG _).mono ?_; rintro e w1 ⟨rfl, b1⟩)
              | (go_at_call_of 42 (Value.string A); refine (q1 _).mono ?_; rintro e w2 ⟨rfl, b2⟩; have hA2 := bstep b1 b2)
              | (go_at_call_of 42 (Value.string D); refine (q2 _).mono ?_; rintro e w3 ⟨rfl, b3⟩; have hA3 := bstep hA2 b3))
            go_returns
            unfold TxtPost
            rw [HK.out]
            exact ⟨ret_tuple2 (by simp), hA3⟩
/-- a product that is not too long -/
theorem ptimes_any (a b : ByteArray) (m n : Nat) (F : ByteArray) (hF : (⟨(decT (m * n)).toArray⟩ : ByteArray) = F) (ha : a.data.toList = decT m) (hb : b.data.toList = decT n) (sa : a.size ≤ 400) (sb : b.size ≤ 400) (w : World) :
    Calls Tryz.prog 54 #[.string a, .string b] w fun e w' => e = .returned (.string F) ∧ Below w.heap.size w w' := by
  have h := rmul_any a b w (by omega) (by omega)
  have l1 := Lib.size_eq a
  have l2 := Lib.size_eq b
  have h3 : (decT (m * n)).length ≤ 1000 := by
    have := decT_mul m n
    rw [← ha, ← hb] at this
    omega
  rw [natMul_dec ha hb (by omega) (by omega) h3] at h
  unfold TxtPost at h
  simp only [hF] at h
  clear ha hb hF h3 l1 l2
  go_enter Tryz.func54, Tryz.ntmps54
  go_wp2_with (go_at_call 89; refine h.mono ?_; rintro e w1 ⟨rfl, b1⟩)
  go_returns
  exact ⟨rfl, b1⟩
set_option maxHeartbeats 2000000 in
set_option maxRecDepth 100000 in
theorem psum_any (s t : Bool) (a b : ByteArray) (m n : Nat) (w : World) (ha : a.data.toList = decT m) (hb : b.data.toList = decT n) (sa : a.size ≤ 1000) (sb : b.size ≤ 1000) (hs : (decT (m + n)).length ≤ 1000) :
    Calls Tryz.prog 53 #[.bool s, .string a, .bool t, .string b] w fun e w' => e = .returned (.tuple #[.bool (addS s m t n).1, .string ⟨(decT (addS s m t n).2).toArray⟩]) ∧ Below w.heap.size w w' := by
  have la : a.data.toList.length ≤ 1000 := by rw [← Lib.size_eq]; exact sa
  have lb : b.data.toList.length ≤ 1000 := by rw [← Lib.size_eq]; exact sb
  by_cases hst : s = t
  · have hq := radd_any a b w (by omega) (by omega)
    rw [natAdd_dec ha hb la lb hs] at hq
    unfold TxtPost at hq
    have HA : Hid (addS s m t n = (s, m + n)) := by unfold Hid addS; rw [if_pos hst]
    obtain ⟨F, hF⟩ : ∃ F : ByteArray, (⟨(decT (m + n)).toArray⟩ : ByteArray) = F := ⟨_, rfl⟩
    simp only [hF] at hq
    have HF := Lib.hid hF
    subst hst
    clear hF la lb ha hb hs
    go_enter Tryz.func53, Tryz.ntmps53
    go_wp2_with (go_at_call 86; refine hq.mono ?_; rintro e w1 ⟨rfl, b1⟩)
    go_returns
    exact ⟨by rw [HA.out, HF.out]; rfl, b1⟩
  · have hst2 : (s == t) = false := beq_eq_false_iff_ne.2 hst
    have hc := rcmp_any a b w (by omega) (by omega)
    rw [natCmp_dec ha hb la lb] at hc
    rcases Nat.lt_or_ge m n with hlt | hge
    · rw [cmpI_lt hlt] at hc
      have HA : Hid (addS s m t n = (t, n - m)) := by unfold Hid addS; rw [if_neg hst, if_pos hlt]
      have hq := fun W => rsub_any b a W (by omega) (by omega)
      rw [natSub_dec hb ha lb la (by omega)] at hq
      unfold TxtPost at hq
      obtain ⟨F, hF⟩ : ∃ F : ByteArray, (⟨(decT (n - m)).toArray⟩ : ByteArray) = F := ⟨_, rfl⟩
      simp only [hF] at hq
      have HF := Lib.hid hF
      clear hF la lb ha hb hs hst
      go_enter Tryz.func53, Tryz.ntmps53
      go_wp2_with (first | (go_at_call 87; refine hc.mono ?_; rintro e w1 ⟨rfl, b1⟩) | (go_at_call 88; refine (hq _).mono ?_; rintro e w2 ⟨rfl, b2⟩; have hA2 := bstep b1 b2))
      go_returns
      exact ⟨by rw [HA.out, HF.out]; rfl, hA2⟩
    · have hcge : ¬ cmpI m n < 0 := by rw [cmpI_neg]; omega
      obtain ⟨cc, hcc⟩ : ∃ cc, cmpI m n = cc := ⟨_, rfl⟩
      rw [hcc] at hc hcge
      have HA : Hid (addS s m t n = (s, m - n)) := by unfold Hid addS; rw [if_neg hst, if_neg (by omega)]
      have hq := fun W => rsub_any a b W (by omega) (by omega)
      rw [natSub_dec ha hb la lb (by omega)] at hq
      unfold TxtPost at hq
      obtain ⟨F, hF⟩ : ∃ F : ByteArray, (⟨(decT (m - n)).toArray⟩ : ByteArray) = F := ⟨_, rfl⟩
      simp only [hF] at hq
      have HF := Lib.hid hF
      have hc0 : 0 ≤ cc := by omega
      clear hF la lb ha hb hs hst hcc hcge
      go_enter Tryz.func53, Tryz.ntmps53
      go_wp2_with (first | (go_at_call 87; refine hc.mono ?_; rintro e w1 ⟨rfl, b1⟩) | (go_at_call 88; refine (hq _).mono ?_; rintro e w2 ⟨rfl, b2⟩; have hA2 := bstep b1 b2))
      go_returns
      exact ⟨by rw [HA.out, HF.out]; rfl, hA2⟩
end Go.Proofs.YtfgmjdhoeilhcaaGreatDoor
