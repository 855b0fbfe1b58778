/- Walks of the reference of rat: Parse, no minus. -/
import Derived.Test.YtfgmjdhoeilhcaaGreatDoorPg
namespace Go.Proofs.YtfgmjdhoeilhcaaGreatDoor
open Go.RowKit
set_option linter.unusedVariables false

set_option maxHeartbeats 16000000 in
set_option maxRecDepth 100000 in
theorem pparse_plus (s : ByteArray) (w : World) (hs : s.size ≤ 100000) (hneg : ¬ s.data.toList.head? = some 45) :
    Calls Tryz.prog 18 #[.string s] w (TxtPost w (parseR s.data.toList)) := by
  have hA : Below w.heap.size w w := Below.refl _ _
  have la := Lib.size_eq s
  have hS : ratS s.data.toList = (false, s.data.toList.drop 0) := by unfold ratS; rw [if_neg hneg]; rfl
  by_cases h0 : 0 < s.size
  · have hb : ¬ s[0].toNat = 45 := by
      intro e
      apply hneg
      have e2 : s[0] = 45 := UInt8.toNat_inj.1 e
      rw [byte0 s h0] at e2
      cases hl : s.data.toList with
      | nil => rw [la, hl] at h0; simp at h0
      | cons x r => rw [hl] at e2; simp at e2; simp [e2]
    obtain ⟨x0, hx0⟩ : ∃ x, s[0].toNat = x := ⟨_, rfl⟩
    rw [hx0] at hb
    have hxb : ((x0 : Int) == 45) = false := beq_eq_false_iff_ne.2 (by omega)
    have i0 : (0 : Int) < (s.size : Int) := by omega
    clear hneg
    obtain ⟨R, hRd⟩ : ∃ R, s.data.toList.drop 0 = R := ⟨_, rfl⟩
    have hS' : ratS s.data.toList = (false, R) := by rw [hS, ← hRd]
    have HP : Hid (parseR s.data.toList = match tlD R with
      | [] => if hdD R = [] then ([], 3) else if 900 < s.size then ([], 2) else ratMake false (natB (hdD R)) [49]
      | c :: t =>
        if (c = 47 ∨ c = 46) ∧ hdD R ≠ [] ∧ t ≠ [] ∧ tlD t = [] then
          (if c = 47 then (if natB t = [48] then ([], 3) else if 900 < s.size then ([], 2) else ratMake false (natB (hdD R)) (natB t))
          else if 900 < s.size then ([], 2) else ratMake false (natB (hdD R ++ t)) (49 :: List.replicate t.length 48))
        else ([], 3)) := by rw [Hid, parse_ref]; unfold refR; rw [hS', la]; rfl
    have hRP := hd_tl R
    have pE : ∀ W, Calls Tryz.prog 48 #[.string s, .int .i64 0] W fun e w' => e = .returned (.int .i64 ((0 + (hdD (s.data.toList.drop 0)).length : Nat) : Int)) ∧ W = w' := fun W => pdig_any s 0 W (by omega) (by omega)
    rw [hRd] at pE
    have hRl : R.length = s.size - 0 := by rw [← hRd, List.length_drop, ← la]
    have hdr : s.data.toList.drop (0 + (hdD R).length) = tlD R := by
      rw [← List.drop_drop, hRd]
      exact drop_hd R
    have hPl : (hdD R).length + (tlD R).length = R.length := by
      have h := congrArg List.length hRP
      rw [List.length_append] at h
      exact h.symm
    have hN0 : (s.extract 0 (0 + (hdD R).length)).data.toList = hdD R := by
      rw [ext_data, Nat.add_sub_cancel_left, hRd]
      exact take_hd R
    obtain ⟨P, hP⟩ : ∃ P, hdD R = P := ⟨_, rfl⟩
    rw [hP] at HP pE hdr hPl hN0
    clear hS hS' hRP hRd hP
    obtain ⟨E, hE⟩ : ∃ E, 0 + P.length = E := ⟨_, rfl⟩
    rw [hE] at pE hdr hN0
    cases hTe : tlD R with
    | nil =>
      rw [hTe] at HP hdr hPl
      have hEl : E = s.size := by simp at hPl; omega
      have e1 : decide ((E : Int) < (s.size : Int)) = false := decide_eq_false (by omega)
      have e2 : (s.size : Int) ≤ (E : Int) := by omega
      have e3 : decide ((E : Int) < (E : Int)) = false := decide_eq_false (by omega)
      by_cases hP0 : P = []
      · have HP := Lib.hid (HP.out.trans (if_pos hP0))
        have hE0 : ((E : Int) == 0) = true := by rw [← hE, hP0]; rfl
        clear la hdr hPl hN0 hTe hE hP0 hRl hEl
        have HK : Hid (parseR s.data.toList = ([], 3)) := HP
        clear HP
        go_enter Tryz.func18, Tryz.ntmps18
        go_wp2_with fail
        refine (pE _).mono ?_
        rintro e wx ⟨rfl, rfl⟩
        go_wp2_with fail
        go_returns
        unfold TxtPost
        rw [HK.out]
        exact ⟨rfl, hA⟩
      · have hPp := List.length_pos_iff.2 hP0
        have HP := Lib.hid (HP.out.trans (if_neg hP0))
        have f1 : ((E : Int) == 0) = false := beq_eq_false_iff_ne.2 (by omega)
        have sN : (s.extract 0 E).size = P.length := by rw [Lib.size_eq, hN0]
        have nN := fun W => pplain_any (s.extract 0 E) W (by omega) (by rw [hN0]; exact hP0)
        rw [hN0] at nN
        have k0 : (0 : Int) ≤ (E : Int) := by omega
        have k1 : (E : Int) ≤ (s.size : Int) := by omega
        obtain ⟨N1, hN1⟩ : ∃ F : ByteArray, (⟨(natB P).toArray⟩ : ByteArray) = F := ⟨_, rfl⟩
        have dN1 : N1.data.toList = natB P := by rw [← hN1]
        have sN1 : N1.size ≤ 1000000 := by rw [Lib.size_eq, dN1]; have := natB_len P; omega
        rw [hN1] at nN
        have mk := fun W => pmakeR_any false N1 ⟨#[49]⟩ W (by omega) (by decide)
        rw [dN1] at mk
        unfold TxtPost at mk
        rcases Nat.lt_or_ge 900 s.size with hl | hl
        · have HP := Lib.hid (HP.out.trans (if_pos hl))
          have l1 : (900 : Int) < (s.size : Int) := by omega
          clear la hdr hPl hN0 hTe hE hP0 hRl hPp sN hN1 dN1 sN1 mk nN hl hEl
          have HK : Hid (parseR s.data.toList = ([], 2)) := HP
          clear HP
          go_enter Tryz.func18, Tryz.ntmps18
          go_wp2_with fail
          refine (pE _).mono ?_
          rintro e wx ⟨rfl, rfl⟩
          go_wp2_with fail
          go_returns
          unfold TxtPost
          rw [HK.out]
          exact ⟨rfl, hA⟩
        · have HP := Lib.hid (HP.out.trans (if_neg (by omega)))
          have l1 : decide ((900 : Int) < (s.size : Int)) = false := decide_eq_false (by omega)
          have l2 : (s.size : Int) ≤ 900 := by omega
          have HP : Hid (parseR s.data.toList = ratMake false (natB P) (⟨#[49]⟩ : ByteArray).data.toList) := HP.out
          obtain ⟨r, hr⟩ : ∃ r, ratMake false (natB P) (⟨#[49]⟩ : ByteArray).data.toList = r := ⟨_, rfl⟩
          rw [hr] at HP mk
          clear la hdr hPl hN0 hTe hE hP0 hRl hPp sN hN1 dN1 sN1 hl hr hEl
          go_enter Tryz.func18, Tryz.ntmps18
          go_wp2_with fail
          refine (pE _).mono ?_
          rintro e wx ⟨rfl, rfl⟩
          go_wp2_with fail
          refine (nN _).mono ?_
          rintro e wx ⟨rfl, rfl⟩
          go_wp2_with fail
          refine (mk _).mono ?_
          rintro e wx ⟨rfl, bm⟩
          go_wp2_with fail
          go_returns
          unfold TxtPost
          rw [HP.out]
          exact ⟨rfl, bm⟩
    | cons c t =>
      have hcd : isDig c = false := dw_head hTe
      rw [hTe] at HP hdr hPl
      have hlt : E < s.size := by simp at hPl; omega
      rw [drop_byte s E hlt] at hdr
      injection hdr with hc1 hc2
      have htl : t.length = s.size - (E + 1) := by rw [← hc2, List.length_drop, ← la]
      obtain ⟨x, hx⟩ : ∃ x, s[E].toNat = x := ⟨_, rfl⟩
      have hcx : c.toNat = x := by rw [← hc1, hx]
      have e1 : (E : Int) < (s.size : Int) := by omega
      have e0 : (0 : Int) ≤ (E : Int) := by omega
      have c47 : c = 47 ↔ x = 47 := by rw [← hcx]; exact ⟨fun h => by rw [h]; rfl, fun h => UInt8.toNat_inj.1 h⟩
      have c46 : c = 46 ↔ x = 46 := by rw [← hcx]; exact ⟨fun h => by rw [h]; rfl, fun h => UInt8.toNat_inj.1 h⟩
      by_cases hsep : c = 47 ∨ c = 46
      · have pL := fun W => pdig_any s (E + 1) W (by omega) (by omega)
        rw [hc2] at pL
        have hlen : (hdD t).length + (tlD t).length = t.length := by
          have h := congrArg List.length (hd_tl t)
          rw [List.length_append] at h
          exact h.symm
        obtain ⟨L, hL⟩ : ∃ L, E + 1 + (hdD t).length = L := ⟨_, rfl⟩
        rw [hL] at pL
        have hpLi : ∀ W, Calls Tryz.prog 48 #[.string s, .int .i64 ((E : Int) + 1)] W fun e w' => e = .returned (.int .i64 (L : Int)) ∧ W = w' := pL
        have q1 : (E : Int) < (L : Int) := by omega
        have hx2 : x = 47 ∨ x = 46 := by rcases hsep with h | h; exact Or.inl (c47.1 h); exact Or.inr (c46.1 h)
        by_cases hP0 : P = []
        · have HP := Lib.hid (HP.out.trans (if_neg (fun h => h.2.1 hP0)))
          have hE0 : ((E : Int) == 0) = true := by rw [← hE, hP0]; rfl
          clear la hPl hN0 hTe hE hP0 hRl hc1 hc2 hcx c47 c46 hsep hL hlen htl hcd pL
          rcases hx2 with rfl | rfl
          · skip
            have HK : Hid (parseR s.data.toList = ([], 3)) := HP
            clear HP
            go_enter Tryz.func18, Tryz.ntmps18
            go_wp2_with fail
            refine (pE _).mono ?_
            rintro e wx ⟨rfl, rfl⟩
            go_wp2_with fail
            refine (hpLi _).mono ?_
            rintro e wx ⟨rfl, rfl⟩
            go_wp2_with fail
            go_returns
            unfold TxtPost
            rw [HK.out]
            exact ⟨rfl, hA⟩
          · skip
            have HK : Hid (parseR s.data.toList = ([], 3)) := HP
            clear HP
            go_enter Tryz.func18, Tryz.ntmps18
            go_wp2_with fail
            refine (pE _).mono ?_
            rintro e wx ⟨rfl, rfl⟩
            go_wp2_with fail
            refine (hpLi _).mono ?_
            rintro e wx ⟨rfl, rfl⟩
            go_wp2_with fail
            go_returns
            unfold TxtPost
            rw [HK.out]
            exact ⟨rfl, hA⟩
        · have hPp := List.length_pos_iff.2 hP0
          have f1 : ((E : Int) == 0) = false := beq_eq_false_iff_ne.2 (by omega)
          by_cases htn : tlD t = []
          · have hLs : L = s.size := by rw [htn] at hlen; simp at hlen; omega
            have q2 : decide ((L : Int) < (s.size : Int)) = false := decide_eq_false (by omega)
            have q2' : (s.size : Int) ≤ (L : Int) := by omega
            by_cases ht0 : t = []
            · have HP := Lib.hid (HP.out.trans (if_neg (fun h => h.2.2.1 ht0)))
              have hLE : (L : Int) = (E : Int) + 1 := by rw [ht0] at hL; have : (hdD ([] : Bs)).length = 0 := rfl; omega
              have q3 : ((L : Int) == (E : Int) + 1) = true := by rw [hLE]; exact beq_self_eq_true _
              clear la hPl hN0 hTe hE hP0 hRl hc1 hc2 hcx c47 c46 hsep hL hlen htl hcd hPp htn ht0 hLs pL hLE
              rcases hx2 with rfl | rfl
              · skip
                have HK : Hid (parseR s.data.toList = ([], 3)) := HP
                clear HP
                go_enter Tryz.func18, Tryz.ntmps18
                go_wp2_with fail
                refine (pE _).mono ?_
                rintro e wx ⟨rfl, rfl⟩
                go_wp2_with fail
                refine (hpLi _).mono ?_
                rintro e wx ⟨rfl, rfl⟩
                go_wp2_with fail
                go_returns
                unfold TxtPost
                rw [HK.out]
                exact ⟨rfl, hA⟩
              · skip
                have HK : Hid (parseR s.data.toList = ([], 3)) := HP
                clear HP
                go_enter Tryz.func18, Tryz.ntmps18
                go_wp2_with fail
                refine (pE _).mono ?_
                rintro e wx ⟨rfl, rfl⟩
                go_wp2_with fail
                refine (hpLi _).mono ?_
                rintro e wx ⟨rfl, rfl⟩
                go_wp2_with fail
                go_returns
                unfold TxtPost
                rw [HK.out]
                exact ⟨rfl, hA⟩
            · have htp := List.length_pos_iff.2 ht0
              have q3 : ((L : Int) == (E : Int) + 1) = false := beq_eq_false_iff_ne.2 (by omega)
              have HP := Lib.hid (HP.out.trans (if_pos ⟨hsep, hP0, ht0, htn⟩))
              have sN : (s.extract 0 E).size = P.length := by rw [Lib.size_eq, hN0]
              have hD0 : (s.extract (E + 1) L).data.toList = t := by rw [ext_data, hc2, List.take_of_length_le (by omega)]
              have sD : (s.extract (E + 1) L).size = t.length := by rw [Lib.size_eq, hD0]
              have k0 : (0 : Int) ≤ (E : Int) := by omega
              have k1 : (E : Int) ≤ (s.size : Int) := by omega
              have k2 : (E : Int) + 1 ≤ (L : Int) := by omega
              have k3 : (L : Int) ≤ (s.size : Int) := by omega
              have k4 : (0 : Int) ≤ (E : Int) + 1 := by omega
              rcases hsep with hc | hc
              · have hx47 := c47.1 hc
                have HP := Lib.hid (HP.out.trans (if_pos hc))
                have nD := fun W => pplain_any (s.extract (E + 1) L) W (by omega) (by rw [hD0]; exact ht0)
                rw [hD0] at nD
                obtain ⟨D1, hD1⟩ : ∃ F : ByteArray, (⟨(natB t).toArray⟩ : ByteArray) = F := ⟨_, rfl⟩
                have dD1 : D1.data.toList = natB t := by rw [← hD1]
                have sD1 : D1.size ≤ 1000000 := by rw [Lib.size_eq, dD1]; have := natB_len t; omega
                rw [hD1] at nD
                have z48 := is48 D1
                rw [dD1] at z48
                by_cases hz : natB t = [48]
                · have HP := Lib.hid (HP.out.trans (if_pos hz))
                  rw [decide_eq_true hz] at z48
                  clear la hPl hN0 hTe hE hP0 hRl hc1 hc2 hcx c47 c46 hc hL hlen htl hcd hPp htn ht0 hLs pL htp sN hD0 sD hD1 dD1 sD1 hz hx2
                  subst hx47
                  have HK : Hid (parseR s.data.toList = ([], 3)) := HP
                  clear HP
                  go_enter Tryz.func18, Tryz.ntmps18
                  go_wp2_with fail
                  refine (pE _).mono ?_
                  rintro e wx ⟨rfl, rfl⟩
                  go_wp2_with fail
                  refine (hpLi _).mono ?_
                  rintro e wx ⟨rfl, rfl⟩
                  go_wp2_with fail
                  refine (nD _).mono ?_
                  rintro e wx ⟨rfl, rfl⟩
                  go_wp2_with fail
                  go_returns
                  unfold TxtPost
                  rw [HK.out]
                  exact ⟨rfl, hA⟩
                · have HP := Lib.hid (HP.out.trans (if_neg hz))
                  rw [decide_eq_false hz] at z48
                  rcases Nat.lt_or_ge 900 s.size with hl | hl
                  · have HP := Lib.hid (HP.out.trans (if_pos hl))
                    have l1 : (900 : Int) < (s.size : Int) := by omega
                    clear la hPl hN0 hTe hE hP0 hRl hc1 hc2 hcx c47 c46 hc hL hlen htl hcd hPp htn ht0 hLs pL htp sN hD0 sD hD1 dD1 sD1 hz hx2 hl
                    subst hx47
                    have HK : Hid (parseR s.data.toList = ([], 2)) := HP
                    clear HP
                    go_enter Tryz.func18, Tryz.ntmps18
                    go_wp2_with fail
                    refine (pE _).mono ?_
                    rintro e wx ⟨rfl, rfl⟩
                    go_wp2_with fail
                    refine (hpLi _).mono ?_
                    rintro e wx ⟨rfl, rfl⟩
                    go_wp2_with fail
                    refine (nD _).mono ?_
                    rintro e wx ⟨rfl, rfl⟩
                    go_wp2_with fail
                    go_returns
                    unfold TxtPost
                    rw [HK.out]
                    exact ⟨rfl, hA⟩
                  · have HP := Lib.hid (HP.out.trans (if_neg (by omega)))
                    have l1 : decide ((900 : Int) < (s.size : Int)) = false := decide_eq_false (by omega)
                    have l2 : (s.size : Int) ≤ 900 := by omega
                    have nN := fun W => pplain_any (s.extract 0 E) W (by omega) (by rw [hN0]; exact hP0)
                    rw [hN0] at nN
                    obtain ⟨N1, hN1⟩ : ∃ F : ByteArray, (⟨(natB P).toArray⟩ : ByteArray) = F := ⟨_, rfl⟩
                    have dN1 : N1.data.toList = natB P := by rw [← hN1]
                    have sN1 : N1.size ≤ 1000000 := by rw [Lib.size_eq, dN1]; have := natB_len P; omega
                    rw [hN1] at nN
                    have mk := fun W => pmakeR_any false N1 D1 W (by omega) (by omega)
                    rw [dN1, dD1] at mk
                    unfold TxtPost at mk
                    generalize ratMake false (natB P) (natB t) = r at *
                    clear la hPl hN0 hTe hE hP0 hRl hc1 hc2 hcx c47 c46 hc hL hlen htl hcd hPp htn ht0 hLs pL htp sN hD0 sD hD1 dD1 sD1 hz hx2 hl hN1 dN1 sN1
                    subst hx47
                    go_enter Tryz.func18, Tryz.ntmps18
                    go_wp2_with fail
                    refine (pE _).mono ?_
                    rintro e wx ⟨rfl, rfl⟩
                    go_wp2_with fail
                    refine (hpLi _).mono ?_
                    rintro e wx ⟨rfl, rfl⟩
                    go_wp2_with fail
                    refine (nD _).mono ?_
                    rintro e wx ⟨rfl, rfl⟩
                    go_wp2_with fail
                    refine (nN _).mono ?_
                    rintro e wx ⟨rfl, rfl⟩
                    go_wp2_with fail
                    refine (mk _).mono ?_
                    rintro e wx ⟨rfl, bm⟩
                    go_wp2_with fail
                    go_returns
                    unfold TxtPost
                    rw [HP.out]
                    exact ⟨rfl, bm⟩
              · have hx46 := c46.1 hc
                have HP := Lib.hid (HP.out.trans (if_neg (by rw [hc]; decide)))
                rcases Nat.lt_or_ge 900 s.size with hl | hl
                · have HP := Lib.hid (HP.out.trans (if_pos hl))
                  have l1 : (900 : Int) < (s.size : Int) := by omega
                  clear la hPl hN0 hTe hE hP0 hRl hc1 hc2 hcx c47 c46 hc hL hlen htl hcd hPp htn ht0 hLs pL htp sN hD0 sD hx2 hl
                  subst hx46
                  have HK : Hid (parseR s.data.toList = ([], 2)) := HP
                  clear HP
                  go_enter Tryz.func18, Tryz.ntmps18
                  go_wp2_with fail
                  refine (pE _).mono ?_
                  rintro e wx ⟨rfl, rfl⟩
                  go_wp2_with fail
                  refine (hpLi _).mono ?_
                  rintro e wx ⟨rfl, rfl⟩
                  go_wp2_with fail
                  go_returns
                  unfold TxtPost
                  rw [HK.out]
                  exact ⟨rfl, hA⟩
                · have HP := Lib.hid (HP.out.trans (if_neg (by omega)))
                  have l1 : decide ((900 : Int) < (s.size : Int)) = false := decide_eq_false (by omega)
                  have l2 : (s.size : Int) ≤ 900 := by omega
                  have hC : (s.extract 0 E ++ s.extract (E + 1) L).data.toList = P ++ t := by rw [Joins.data_append, hN0, hD0]
                  have sC : (s.extract 0 E ++ s.extract (E + 1) L).size = P.length + t.length := by rw [size_cat, sN, sD]
                  have nN := fun W => pplain_any (s.extract 0 E ++ s.extract (E + 1) L) W (by omega) (by rw [hC]; simp [hP0])
                  rw [hC] at nN
                  obtain ⟨N1, hN1⟩ : ∃ F : ByteArray, (⟨(natB (P ++ t)).toArray⟩ : ByteArray) = F := ⟨_, rfl⟩
                  have dN1 : N1.data.toList = natB (P ++ t) := by rw [← hN1]
                  have sN1 : N1.size ≤ 1000000 := by rw [Lib.size_eq, dN1]; have := natB_len (P ++ t); rw [List.length_append] at this; omega
                  rw [hN1] at nN
                  have mk := fun (Z : ByteArray) W (hz : Z.data.toList = 49 :: List.replicate t.length 48) => (show Calls Tryz.prog 16 #[.bool false, .string N1, .string Z] W (TxtPost W (ratMake false (natB (P ++ t)) (49 :: List.replicate t.length 48))) by
                    have h := pmakeR_any false N1 Z W (by omega) (by rw [Lib.size_eq, hz, List.length_cons, List.length_replicate]; omega)
                    rw [dN1, hz] at h
                    exact h)
                  unfold TxtPost at mk
                  generalize ratMake false (natB (P ++ t)) (49 :: List.replicate t.length 48) = r at *
                  have lim : ¬ 9223372036854775807 < (s.extract 0 E).size + (s.extract (E + 1) L).size := by rw [sN, sD]; omega
                  have hsE : (s.extract 0 E).size = min E s.size - 0 := by rw [ByteArray.size_extract]
                  obtain ⟨tn, htn2⟩ : ∃ tn, t.length = tn := ⟨_, rfl⟩
                  have HLt : Hid (L = E + 1 + tn) := by rw [Hid]; omega
                  rw [htn2] at mk
                  have s48 : (⟨#[48]⟩ : ByteArray).size = 1 := rfl
                  have ex1 : decide ((L : Int) < (L : Int)) = false := decide_eq_false (by omega)
                  clear la hPl hN0 hTe hE hP0 hRl hc1 hc2 hcx c47 c46 hc hL hlen htl hcd hPp htn ht0 hLs pL htp hD0 hx2 hl hN1 dN1 sN1 hC
                  subst hx46
                  have lim2 : ¬ 9223372036854775807 < min E s.size - 0 + (min L s.size - (E + 1)) := by omega
                  go_enter Tryz.func18, Tryz.ntmps18
                  go_wp2_with fail
                  refine (pE _).mono ?_
                  rintro e wx ⟨rfl, rfl⟩
                  go_wp2_with fail
                  refine (hpLi _).mono ?_
                  rintro e wx ⟨rfl, rfl⟩
                  go_wp2_with fail
                  go_loopw [8, 9] (fun dv iv wr => ∃ (j : Nat) (Z : ByteArray), dv = .string Z ∧ iv = .int .i64 ((E : Int) + 1 + (j : Int)) ∧ j ≤ tn ∧ Hid (Z.data.toList = 49 :: List.replicate j 48) ∧ w = wr) (fun _ iv _ => (L : Nat) - (intOf iv).toNat)
                  case atStart => exact ⟨0, ⟨#[49]⟩, rfl, by simp, by omega, rfl, rfl⟩
                  case round =>
                    obtain ⟨j, Z, rfl, rfl, hj, HZ, rfl⟩ := hrel
                    have sZ : Z.size = 1 + j := by rw [Lib.size_eq, HZ.out, List.length_cons, List.length_replicate]; omega
                    by_cases hjt : j < tn
                    · have j1 : (E : Int) + 1 + (j : Int) < (L : Int) := by have := HLt.out; omega
                      have HZ2 : Hid ((Z ++ (⟨#[48]⟩ : ByteArray)).data.toList = 49 :: List.replicate (j + 1) 48) := by
                        rw [Hid, Joins.data_append, HZ.out]
                        exact rep_more j
                      have lz : ¬ 9223372036854775807 < Z.size + 1 := by omega
                      clear sZ
                      go_wp2_with fail
                      go_roundw
                      case rel => exact ⟨j + 1, _, rfl, by go_num, by omega, HZ2, trivial⟩
                      case measure => simp [intOf]; omega
                    · obtain rfl : j = tn := by omega
                      have j1 : decide ((E : Int) + 1 + (j : Int) < (L : Int)) = false := decide_eq_false (by have := HLt.out; omega)
                      have j2 : (L : Int) ≤ (E : Int) + 1 + (j : Int) := by have := HLt.out; omega
                      have mz := fun W => mk Z W HZ.out
                      clear sZ
                      go_wp2_with fail
                      refine (nN _).mono ?_
                      rintro e wx ⟨rfl, rfl⟩
                      go_wp2_with fail
                      refine (mz _).mono ?_
                      rintro e wy ⟨rfl, bm⟩
                      go_wp2_with fail
                      go_returns
                      unfold TxtPost
                      rw [HP.out]
                      exact ⟨rfl, bm⟩
          · have hQ : L < s.size := by have := List.length_pos_iff.2 htn; omega
            have q2 : (L : Int) < (s.size : Int) := by omega
            have HP := Lib.hid (HP.out.trans (if_neg (fun h => htn h.2.2.2)))
            clear la hPl hN0 hTe hE hP0 hRl hc1 hc2 hcx c47 c46 hsep hL hlen htl hcd hPp htn pL hQ
            rcases hx2 with rfl | rfl
            · skip
              have HK : Hid (parseR s.data.toList = ([], 3)) := HP
              clear HP
              go_enter Tryz.func18, Tryz.ntmps18
              go_wp2_with fail
              refine (pE _).mono ?_
              rintro e wx ⟨rfl, rfl⟩
              go_wp2_with fail
              refine (hpLi _).mono ?_
              rintro e wx ⟨rfl, rfl⟩
              go_wp2_with fail
              go_returns
              unfold TxtPost
              rw [HK.out]
              exact ⟨rfl, hA⟩
            · skip
              have HK : Hid (parseR s.data.toList = ([], 3)) := HP
              clear HP
              go_enter Tryz.func18, Tryz.ntmps18
              go_wp2_with fail
              refine (pE _).mono ?_
              rintro e wx ⟨rfl, rfl⟩
              go_wp2_with fail
              refine (hpLi _).mono ?_
              rintro e wx ⟨rfl, rfl⟩
              go_wp2_with fail
              go_returns
              unfold TxtPost
              rw [HK.out]
              exact ⟨rfl, hA⟩
      · have HP := Lib.hid (HP.out.trans (if_neg (fun h => hsep h.1)))
        have x1 : ¬ x = 47 := fun h => hsep (Or.inl (c47.2 h))
        have x2 : ¬ x = 46 := fun h => hsep (Or.inr (c46.2 h))
        have x1b : ((x : Int) == 47) = false := beq_eq_false_iff_ne.2 (by omega)
        have x2b : ((x : Int) == 46) = false := beq_eq_false_iff_ne.2 (by omega)
        have e3 : decide ((E : Int) < (E : Int)) = false := decide_eq_false (by omega)
        by_cases hEI : E = 0
        · have fE : ((E : Int) == 0) = true := by rw [hEI]; rfl
          clear la hPl hN0 hTe hE hRl hc1 hc2 hcx c47 c46 hsep htl hcd hEI
          have HK : Hid (parseR s.data.toList = ([], 3)) := HP
          clear HP
          go_enter Tryz.func18, Tryz.ntmps18
          go_wp2_with fail
          refine (pE _).mono ?_
          rintro e wx ⟨rfl, rfl⟩
          go_wp2_with fail
          go_returns
          unfold TxtPost
          rw [HK.out]
          exact ⟨rfl, hA⟩
        · have f1 : ((E : Int) == 0) = false := beq_eq_false_iff_ne.2 (by omega)
          clear la hPl hN0 hTe hE hRl hc1 hc2 hcx c47 c46 hsep htl hcd
          have HK : Hid (parseR s.data.toList = ([], 3)) := HP
          clear HP
          go_enter Tryz.func18, Tryz.ntmps18
          go_wp2_with fail
          refine (pE _).mono ?_
          rintro e wx ⟨rfl, rfl⟩
          go_wp2_with fail
          go_returns
          unfold TxtPost
          rw [HK.out]
          exact ⟨rfl, hA⟩
  · have i0 : decide ((0 : Int) < (s.size : Int)) = false := decide_eq_false (by omega)
    have i1 : (s.size : Int) ≤ 0 := by omega
    have hz : s.size = 0 := by omega
    have pE : ∀ W, Calls Tryz.prog 48 #[.string s, .int .i64 0] W fun e w' => e = .returned (.int .i64 ((0 + (hdD (s.data.toList.drop 0)).length : Nat) : Int)) ∧ W = w' := fun W => pdig_any s 0 W (by omega) (by omega)
    rw [show (0 + (hdD (s.data.toList.drop 0)).length) = 0 from by rw [data_nil hz]; rfl] at pE
    have HK : Hid (parseR s.data.toList = ([], 3)) := by rw [Hid, data_nil hz]; rfl
    clear hS hneg la h0 hz
    go_enter Tryz.func18, Tryz.ntmps18
    go_wp2_with fail
    refine (pE _).mono ?_
    rintro e wx ⟨rfl, rfl⟩
    go_wp2_with fail
    go_returns
    unfold TxtPost
    rw [HK.out]
    exact ⟨rfl, hA⟩
end Go.Proofs.YtfgmjdhoeilhcaaGreatDoor
