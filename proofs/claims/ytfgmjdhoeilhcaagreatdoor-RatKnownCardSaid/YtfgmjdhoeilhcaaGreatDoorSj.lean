/- Walks of the reference of nat: Div. -/
import Derived.Test.YtfgmjdhoeilhcaaGreatDoorSz
import Derived.Test.YtfgmjdhoeilhcaaGreatDoorNz
import Derived.Test.YtfgmjdhoeilhcaaGreatDoorRl
namespace Go.Proofs.YtfgmjdhoeilhcaaGreatDoor
open Go.RowKit
set_option linter.unusedVariables false

/-- the number whose digits a string holds -/
def strDec : Value → Nat | .string s => decV s.data.toList | _ => 0
theorem okT_of {s : ByteArray} {n : Nat} (h : s.data.toList = decT n) : okT s.data.toList := by rw [h]; exact okT_decT n
theorem decV_of {s : ByteArray} {n : Nat} (h : s.data.toList = decT n) : decV s.data.toList = n := by rw [h, decV_decT]
theorem str_is48 {s : ByteArray} {n : Nat} (h : s.data.toList = decT n) : (s.toList == [48]) = decide (n = 0) := by
  rw [Lib.toList_data, h]
  by_cases h0 : n = 0
  · subst h0; rfl
  · have : decT n ≠ [48] := fun e => h0 (by rw [← decV_decT n, e]; rfl)
    rw [beq_eq_false_iff_ne.2 this]; simp [h0]
theorem len_of {s : ByteArray} {n k : Nat} (h : s.data.toList = decT n) (hn : n < 10 ^ k) (hk : 1 ≤ k) : s.size ≤ k := by rw [Lib.size_eq, h]; exact decT_small hn hk
theorem data_of {s : ByteArray} {l : Bs} (h : s.data.toList = l) : (⟨l.toArray⟩ : ByteArray) = s := by
  cases s with
  | mk d => cases d with
    | mk m => simp at h; rw [h]

set_option maxHeartbeats 4000000 in
set_option maxRecDepth 100000 in
theorem rdiv_any (a b : ByteArray) (w : World) (ha : a.size ≤ 9223372036854775807) (hb : b.size ≤ 9223372036854775807) :
    Calls Tryz.prog 42 #[.string a, .string b] w (Txt2Post w (natDiv a.data.toList b.data.toList)) := by
  by_cases hok : okN a.data.toList = true ∧ okN b.data.toList = true
  · obtain ⟨hoa, hob⟩ := hok
    obtain ⟨i0, hi, hz0, hz1, hz2⟩ := info_parts byteInfo
    have HK : Hid (natDiv a.data.toList b.data.toList = if decV b.data.toList = 0 then ([], [], 4) else (decT (decV a.data.toList / decV b.data.toList), decT (decV a.data.toList % decV b.data.toList), 0)) := by unfold Hid natDiv; rw [if_pos ⟨hoa, hob⟩]
    have va := fun W => rvalid_any a W ha
    have vb := fun W => rvalid_any b W hb
    rw [hoa] at va
    rw [hob] at vb
    have sa := okN_size hoa
    have sb := okN_size hob
    have ta := ((okN_iff _).1 hoa).1
    have tb := ((okN_iff _).1 hob).1
    have hz := str_zero hob
    have hA : Below w.heap.size w w := Below.refl _ _
    by_cases hn : decV b.data.toList = 0
    · have hbe := hz.1 hn
      subst hbe
      have HK2 : Hid (natDiv a.data.toList (⟨#[48]⟩ : ByteArray).data.toList = ([], [], 4)) := by rw [Hid, HK.out, if_pos hn]
      clear hz hn HK ta tb
      go_enter Tryz.func42, Tryz.ntmps42
      go_wp2_with (first | (go_at_call_of 41 (Value.string a); refine (va _).mono ?_; rintro e w2 ⟨rfl, rfl⟩) | (go_at_call_of 41 (Value.string ⟨#[48]⟩); refine (vb _).mono ?_; rintro e w2 ⟨rfl, rfl⟩))
      go_returns
      unfold Txt2Post
      rw [HK2.out]
      exact ⟨rfl, hA⟩
    · have hbne : ¬ b = ⟨#[48]⟩ := fun e => hn (hz.2 e)
      have hbeq : (b.toList == [48]) = false := beq_eq_false_iff_ne.2 (fun e => hbne (str48 (by rw [← Lib.toList_data]; exact e)))
      have hnb := decV_lt tb.2.1
      obtain ⟨LB, hLB⟩ : ∃ z, b.data.toList.length = z := ⟨_, rfl⟩
      have hLB1 : LB ≤ 1000 := by rw [← hLB, ← Lib.size_eq]; omega
      rw [hLB] at hnb
      have hylt := revD_lt tb.2.1
      have ybd : ∀ W, Calls Tryz.prog 69 #[.string b] W (DigPost W (revD b.data.toList)) := fun W => rdigits_any b W (okN_digs hob) (by omega)
      have HNB := Lib.hid hnb
      have HTB := Lib.hid tb
      have HTA := Lib.hid ta
      have HYL := Lib.hid hylt
      have HN0 := Lib.hid (Nat.pos_of_ne_zero hn)
      have hcm := fun (S : ByteArray) W h1 h2 => rcompare_any S b W h1 tb h2 (by omega)
      have HK2 : Hid (natDiv a.data.toList b.data.toList = (decT (decV a.data.toList / decV b.data.toList), decT (decV a.data.toList % decV b.data.toList), 0)) := by rw [Hid, HK.out, if_neg hn]
      have HLS := Lib.hid (fun (S : Bs) (h : okT S) hle => less_dec h tb hle)
      clear hz hn HK hnb hLB hylt ta tb hoa hob
      generalize decV b.data.toList = n at *
      go_enter Tryz.func42, Tryz.ntmps42
      go_wp2_with (first | (go_at_call_of 41 (Value.string a); refine (va _).mono ?_; rintro e w2 ⟨rfl, rfl⟩) | (go_at_call_of 41 (Value.string b); refine (vb _).mono ?_; rintro e w2 ⟨rfl, rfl⟩))
      clear va vb
      go_loopw [7, 8, 9] (fun qv rv i wr => ∃ (k0 : Nat) (Q : Bs) (R : ByteArray), i = .int .i64 k0 ∧ k0 ≤ a.size ∧ rv = .string R ∧ Hid (R.data.toList = decT (decV (a.data.toList.take k0) % n)) ∧ Own w.heap.size 5 qv (Lib.byteCells Q) wr ∧ Q.length = k0 ∧ Hid (∀ c ∈ Q, isDig c = true) ∧ Hid (decV Q = decV (a.data.toList.take k0) / n) ∧ Below w.heap.size w wr) (fun _ _ i _ => a.size - (intOf i).toNat)
      case atStart => exact ⟨0, [], ⟨#[48]⟩, rfl, by omega, rfl, by rw [Hid, List.take_zero, decV_nil, Nat.zero_mod]; rfl, Own.nil _ _ _, rfl, by simp [Hid], by rw [Hid, List.take_zero, decV_nil, Nat.zero_div], hA⟩
      case round =>
        obtain ⟨k0, Q, R, rfl, hk0, rfl, HR, hown, hQ, HQ, HQV, hbr⟩ := hrel
        by_cases hlt : k0 < a.size
        · have hdg := dig_bytes HTA.out.2.1 hlt
          have HP := Lib.hid (take_dec (l := a.data.toList) (k := k0) (by rw [← Lib.size_eq]; exact hlt))
          have hget : a.data.toList[k0]'(by rw [← Lib.size_eq]; exact hlt) = a[k0] := rfl
          rw [hget] at HP
          have hsub : (a.extract k0 (k0 + 1)).data.toList = [a[k0]] := by
            rw [ext_data, drop_byte a k0 hlt, Nat.add_sub_cancel_left]; rfl
          have HM := Lib.hid (rem_more (V := decV (a.data.toList.take k0) % n) hdg)
          have HDG := Lib.hid hdg
          have h48 := str_is48 HR.out
          have HSUB := Lib.hid hsub
          generalize a[k0] = c at *
          generalize decV (a.data.toList.take k0) = P0 at *
          clear hget hsub hdg
          have hT : 10 * (P0 % n) + dv c < 10 * n := by have := Nat.mod_lt P0 HN0.out; have := dv_lt HDG.out; omega
          have HTT : Hid (∀ x, x ≤ 10 * (P0 % n) + dv c → x < 10 ^ (LB + 1)) := fun x hx => by
            have h1 := HNB.out
            have h2 : (10 : Nat) ^ (LB + 1) = 10 * 10 ^ LB := by rw [Nat.pow_succ, Nat.mul_comm]
            rw [h2]; omega
          have HQD := Lib.hid (fun k R h1 h2 => quo_digit (P := P0) (k := k) (R := R) HN0.out (dv_lt HDG.out) h1 h2)
          have HQM := Lib.hid (fun k R h1 h2 => quo_more (P := P0) (x := dv c) (k := k) (R := R) HN0.out h1 h2)
          have ki1 : (k0 : Int) < (a.size : Int) := by omega
          have ki0 : (0 : Int) ≤ (k0 : Int) := by omega
          have ki2 : (k0 : Int) + 1 ≤ (a.size : Int) := by omega
          have ki3 : (k0 : Int) ≤ (k0 : Int) + 1 := by omega
          clear hT
          by_cases hz : P0 % n = 0
          · rw [hz, decide_eq_true rfl] at h48
            have HM2 : Hid ((a.extract k0 (k0 + 1)).data.toList = decT (10 * (P0 % n) + dv c)) := by rw [Hid, HSUB.out, ← HM.out, if_pos hz]
            clear hz
            go_wp2_with fail
            generalize (a.extract k0 (k0 + 1)) = R1 at HM2 ⊢
            obtain ⟨W, hW⟩ : ∃ W, W = wr := ⟨_, rfl⟩
            subst hW
            go_loopw [8, 10] (fun rv d wr' => ∃ (k Rw : Nat) (S : ByteArray), rv = .string S ∧ d = .int .u8 (48 + (k : Int)) ∧ k ≤ 9 ∧ Hid (S.data.toList = decT Rw) ∧ Hid (k * n + Rw = 10 * (P0 % n) + dv c) ∧ Below W.heap.size W wr') (fun rv _ _ => strDec rv)
            case atStart => exact ⟨0, _, R1, rfl, rfl, by omega, HM2, by simp [Hid], Below.refl _ _⟩
            case round =>
              obtain ⟨k, Rw, S, rfl, rfl, hk, HS, HE, hb⟩ := hrel
              have hSt := okT_of HS.out
              have hSv := decV_of HS.out
              have hSs : S.size ≤ 1001 := Nat.le_trans (len_of HS.out (HTT.out Rw (by have := HE.out; omega)) (by omega)) (by omega)
              have hc := fun W => hcm S W hSt (by omega)
              rw [hSv] at hc
              by_cases hge : n ≤ Rw
              · obtain ⟨cc, hcc⟩ : ∃ z, cmpI Rw n = z := ⟨_, rfl⟩
                have hc0 : 0 ≤ cc := by
                  rw [← hcc]; apply Int.not_lt.1; intro h; have := (cmpI_neg Rw n).1 h; omega
                rw [hcc] at hc
                have dS := fun W => rdigits_any S W hSt.2.1 (by omega)
                have hxl := revD_lt hSt.2.1
                have hxn : (revD S.data.toList).length ≤ 1001 := by rw [revD_len, ← Lib.size_eq]; omega
                obtain ⟨l1, l2, l3⟩ := HLS.out S.data.toList hSt (by rw [hSv]; exact hge)
                rw [hSv] at l1
                have hls := eachS_length lessF (revD S.data.toList) (revD b.data.toList) (revD S.data.toList).length
                have le := fun A B c d W h1 h2 => rless_any A B c d (revD S.data.toList) (revD b.data.toList) W hxl HYL.out h1 h2 (by omega)
                have HSV := Lib.hid hSv
                clear hSv hSt hcc
                generalize revD S.data.toList = x at *
                obtain ⟨y, hy⟩ : ∃ y, revD b.data.toList = y := ⟨_, rfl⟩
                have yb' := ybd
                rw [hy] at yb' l1 l2 l3 hls le
                clear hy
                obtain ⟨z, hz⟩ : ∃ z, (eachS lessF x y x.length).1 = z := ⟨_, rfl⟩
                rw [hz] at l1 l2 l3 hls le
                have hzn : z.length ≤ 1001 := by omega
                have tx := fun A c W h => rtext_any A c z W l2 h (by omega) l3
                rw [l1] at tx
                obtain ⟨F, hF⟩ : ∃ F : ByteArray, (⟨(decT (Rw - n)).toArray⟩ : ByteArray) = F := ⟨_, rfl⟩
                rw [hF] at tx
                have HF : Hid (F.data.toList = decT (Rw - n)) := by rw [Hid, ← hF]
                have HE2 : Hid ((k + 1) * n + (Rw - n) = 10 * (P0 % n) + dv c) := by
                  have := HE.out
                  rw [Hid, Nat.add_mul, Nat.one_mul]; omega
                have hk9 := HQD.out k Rw HE.out hge
                have HLT : Hid (Rw - n < Rw) := by have := HN0.out; unfold Hid; omega
                have w8 : IntKind.u8.wrap (48 + (k : Int) + 1) = 48 + (k : Int) + 1 := by rw [IntKind.wrap_u8]; omega
                clear hz hF l1 l2 l3 hls hxl hxn HE hge
                go_wp2_with (go_at_call 66; refine (hc _).mono ?_; rintro e w1 ⟨rfl, b1⟩; have hb1 := hb.trans (b1.mono hb.size))
                refine (dS _).mono ?_
                rintro e w2 ⟨A1, c1, rfl, h1, r1, b2⟩
                have hb2 := bstep hb1 b2
                go_wp2_with fail
                refine (yb' _).mono ?_
                rintro e w3 ⟨A2, c2, rfl, h2, r2, b3⟩
                have hb3 := bstep hb2 b3
                go_wp2_with fail
                refine (le _ _ _ _ _ (r1.below b3) r2).mono ?_
                rintro e w4 ⟨A3, c3, rfl, h3, r3, b4⟩
                have hb4 := bstep hb3 b4
                go_wp2_with fail
                refine (tx _ _ _ r3).mono ?_
                rintro e w5 ⟨rfl, b5⟩
                have hb5 := bstep hb4 b5
                go_wp2_with fail
                go_roundw
                case rel => exact ⟨k + 1, Rw - n, F, rfl, by go_num, by omega, HF, HE2, hb5⟩
                case measure =>
                  show decV F.data.toList < decV S.data.toList
                  rw [decV_of HF.out, HSV.out]
                  exact HLT.out
              · have hc0 : cmpI Rw n < 0 := (cmpI_neg Rw n).2 (by omega)
                obtain ⟨cc, hcc⟩ : ∃ z, cmpI Rw n = z := ⟨_, rfl⟩
                rw [hcc] at hc hc0
                obtain ⟨q1, q2⟩ := HQM.out k Rw HE.out (by omega)
                have HQ1 := Lib.hid q1
                have HQ2 := Lib.hid q2
                have hown2 := hown.below hb
                have hbr2 : Below w.heap.size w wr := bstep hbr hb
                have hml : (Lib.byteCells Q).length + 1 ≤ maxLen := by rw [Lib.byteCells_length]; unfold maxLen; omega
                have hmb : ((Lib.byteCells Q).length + 1) * 1 ≤ 140737488355328 := by rw [Lib.byteCells_length]; omega
                have HDK := Lib.hid (dc_toNat (d := k) (by omega))
                have HDK2 := Lib.hid (isDig_dc (d := k) (by omega))
                have HDK3 := Lib.hid (dv_dc (d := k) (by omega))
                clear q1 q2 hcc hSv hSt hown
                go_wp2_with (first | (go_at_call 66; refine (hc _).mono ?_; rintro e w1 ⟨rfl, b1⟩; have hb1 := hbr2.trans (b1.mono hbr2.size); have hown3 := hown2.below b1) | (at_builtin; refine wpList_app1 rfl (.tmp 54) (.tmp 56) 70 rfl w.heap.size i0 _ 1 Tryz.underlying70 hi hz0 hz1 hz2 rfl _ (Lib.byteCells Q) rfl hown3 1 rfl rfl hml hmb hb1.size ?_; intro v' w3 hown4 _ hb4))
                go_roundw
                case rel =>
                  refine ⟨k0 + 1, Q ++ [dc k], S, by go_num, by omega, rfl, ?_, ?_, by rw [List.length_append, hQ]; rfl, ?_, ?_, hb1.trans hb4⟩
                  · rw [Hid, HP.out, HQ2.out]; exact HS.out
                  · rw [← byteCells_snoc1, HDK.out]
                    have e : ((48 + k : Nat) : Int) = 48 + (k : Int) := by omega
                    rw [e]; exact hown4
                  · intro x hx
                    rcases List.mem_append.1 hx with hx | hx
                    · exact HQ.out x hx
                    · rw [List.mem_singleton.1 hx]; exact HDK2.out
                  · rw [Hid, decV_snoc, HP.out, HQ1.out, HQV.out, HDK3.out]
                case measure => simp [intOf]; omega
          · rw [decide_eq_false hz] at h48
            have hRs : R.size ≤ 1001 := Nat.le_trans (len_of HR.out (HTT.out (P0 % n) (by omega)) (by omega)) (by omega)
            have hcat : ¬ 9223372036854775807 < R.size + (min (k0 + 1) a.size - k0) := by omega
            have HM2 : Hid ((R ++ a.extract k0 (k0 + 1)).data.toList = decT (10 * (P0 % n) + dv c)) := by rw [Hid, Joins.data_append, HSUB.out, ← HM.out, if_neg hz, HR.out]
            clear hz
            go_wp2_with fail
            generalize (R ++ a.extract k0 (k0 + 1)) = R1 at HM2 ⊢
            obtain ⟨W, hW⟩ : ∃ W, W = wr := ⟨_, rfl⟩
            subst hW
            go_loopw [8, 10] (fun rv d wr' => ∃ (k Rw : Nat) (S : ByteArray), rv = .string S ∧ d = .int .u8 (48 + (k : Int)) ∧ k ≤ 9 ∧ Hid (S.data.toList = decT Rw) ∧ Hid (k * n + Rw = 10 * (P0 % n) + dv c) ∧ Below W.heap.size W wr') (fun rv _ _ => strDec rv)
            case atStart => exact ⟨0, _, R1, rfl, rfl, by omega, HM2, by simp [Hid], Below.refl _ _⟩
            case round =>
              obtain ⟨k, Rw, S, rfl, rfl, hk, HS, HE, hb⟩ := hrel
              have hSt := okT_of HS.out
              have hSv := decV_of HS.out
              have hSs : S.size ≤ 1001 := Nat.le_trans (len_of HS.out (HTT.out Rw (by have := HE.out; omega)) (by omega)) (by omega)
              have hc := fun W => hcm S W hSt (by omega)
              rw [hSv] at hc
              by_cases hge : n ≤ Rw
              · obtain ⟨cc, hcc⟩ : ∃ z, cmpI Rw n = z := ⟨_, rfl⟩
                have hc0 : 0 ≤ cc := by
                  rw [← hcc]; apply Int.not_lt.1; intro h; have := (cmpI_neg Rw n).1 h; omega
                rw [hcc] at hc
                have dS := fun W => rdigits_any S W hSt.2.1 (by omega)
                have hxl := revD_lt hSt.2.1
                have hxn : (revD S.data.toList).length ≤ 1001 := by rw [revD_len, ← Lib.size_eq]; omega
                obtain ⟨l1, l2, l3⟩ := HLS.out S.data.toList hSt (by rw [hSv]; exact hge)
                rw [hSv] at l1
                have hls := eachS_length lessF (revD S.data.toList) (revD b.data.toList) (revD S.data.toList).length
                have le := fun A B c d W h1 h2 => rless_any A B c d (revD S.data.toList) (revD b.data.toList) W hxl HYL.out h1 h2 (by omega)
                have HSV := Lib.hid hSv
                clear hSv hSt hcc
                generalize revD S.data.toList = x at *
                obtain ⟨y, hy⟩ : ∃ y, revD b.data.toList = y := ⟨_, rfl⟩
                have yb' := ybd
                rw [hy] at yb' l1 l2 l3 hls le
                clear hy
                obtain ⟨z, hz⟩ : ∃ z, (eachS lessF x y x.length).1 = z := ⟨_, rfl⟩
                rw [hz] at l1 l2 l3 hls le
                have hzn : z.length ≤ 1001 := by omega
                have tx := fun A c W h => rtext_any A c z W l2 h (by omega) l3
                rw [l1] at tx
                obtain ⟨F, hF⟩ : ∃ F : ByteArray, (⟨(decT (Rw - n)).toArray⟩ : ByteArray) = F := ⟨_, rfl⟩
                rw [hF] at tx
                have HF : Hid (F.data.toList = decT (Rw - n)) := by rw [Hid, ← hF]
                have HE2 : Hid ((k + 1) * n + (Rw - n) = 10 * (P0 % n) + dv c) := by
                  have := HE.out
                  rw [Hid, Nat.add_mul, Nat.one_mul]; omega
                have hk9 := HQD.out k Rw HE.out hge
                have HLT : Hid (Rw - n < Rw) := by have := HN0.out; unfold Hid; omega
                have w8 : IntKind.u8.wrap (48 + (k : Int) + 1) = 48 + (k : Int) + 1 := by rw [IntKind.wrap_u8]; omega
                clear hz hF l1 l2 l3 hls hxl hxn HE hge
                go_wp2_with (go_at_call 66; refine (hc _).mono ?_; rintro e w1 ⟨rfl, b1⟩; have hb1 := hb.trans (b1.mono hb.size))
                refine (dS _).mono ?_
                rintro e w2 ⟨A1, c1, rfl, h1, r1, b2⟩
                have hb2 := bstep hb1 b2
                go_wp2_with fail
                refine (yb' _).mono ?_
                rintro e w3 ⟨A2, c2, rfl, h2, r2, b3⟩
                have hb3 := bstep hb2 b3
                go_wp2_with fail
                refine (le _ _ _ _ _ (r1.below b3) r2).mono ?_
                rintro e w4 ⟨A3, c3, rfl, h3, r3, b4⟩
                have hb4 := bstep hb3 b4
                go_wp2_with fail
                refine (tx _ _ _ r3).mono ?_
                rintro e w5 ⟨rfl, b5⟩
                have hb5 := bstep hb4 b5
                go_wp2_with fail
                go_roundw
                case rel => exact ⟨k + 1, Rw - n, F, rfl, by go_num, by omega, HF, HE2, hb5⟩
                case measure =>
                  show decV F.data.toList < decV S.data.toList
                  rw [decV_of HF.out, HSV.out]
                  exact HLT.out
              · have hc0 : cmpI Rw n < 0 := (cmpI_neg Rw n).2 (by omega)
                obtain ⟨cc, hcc⟩ : ∃ z, cmpI Rw n = z := ⟨_, rfl⟩
                rw [hcc] at hc hc0
                obtain ⟨q1, q2⟩ := HQM.out k Rw HE.out (by omega)
                have HQ1 := Lib.hid q1
                have HQ2 := Lib.hid q2
                have hown2 := hown.below hb
                have hbr2 : Below w.heap.size w wr := bstep hbr hb
                have hml : (Lib.byteCells Q).length + 1 ≤ maxLen := by rw [Lib.byteCells_length]; unfold maxLen; omega
                have hmb : ((Lib.byteCells Q).length + 1) * 1 ≤ 140737488355328 := by rw [Lib.byteCells_length]; omega
                have HDK := Lib.hid (dc_toNat (d := k) (by omega))
                have HDK2 := Lib.hid (isDig_dc (d := k) (by omega))
                have HDK3 := Lib.hid (dv_dc (d := k) (by omega))
                clear q1 q2 hcc hSv hSt hown
                go_wp2_with (first | (go_at_call 66; refine (hc _).mono ?_; rintro e w1 ⟨rfl, b1⟩; have hb1 := hbr2.trans (b1.mono hbr2.size); have hown3 := hown2.below b1) | (at_builtin; refine wpList_app1 rfl (.tmp 54) (.tmp 56) 70 rfl w.heap.size i0 _ 1 Tryz.underlying70 hi hz0 hz1 hz2 rfl _ (Lib.byteCells Q) rfl hown3 1 rfl rfl hml hmb hb1.size ?_; intro v' w3 hown4 _ hb4))
                go_roundw
                case rel =>
                  refine ⟨k0 + 1, Q ++ [dc k], S, by go_num, by omega, rfl, ?_, ?_, by rw [List.length_append, hQ]; rfl, ?_, ?_, hb1.trans hb4⟩
                  · rw [Hid, HP.out, HQ2.out]; exact HS.out
                  · rw [← byteCells_snoc1, HDK.out]
                    have e : ((48 + k : Nat) : Int) = 48 + (k : Int) := by omega
                    rw [e]; exact hown4
                  · intro x hx
                    rcases List.mem_append.1 hx with hx | hx
                    · exact HQ.out x hx
                    · rw [List.mem_singleton.1 hx]; exact HDK2.out
                  · rw [Hid, decV_snoc, HP.out, HQ1.out, HQV.out, HDK3.out]
                case measure => simp [intOf]; omega
        · obtain rfl : k0 = a.size := by omega
          have hfull : a.data.toList.take a.size = a.data.toList := List.take_of_length_le (by rw [← Lib.size_eq]; omega)
          have hR1 := HR.out
          rw [hfull] at hR1
          have hQ1 := HQV.out
          rw [hfull] at hQ1
          have HR1 := Lib.hid hR1
          have HQ1 := Lib.hid hQ1
          have hapos : 0 < a.size := by rw [Lib.size_eq]; exact List.length_pos_iff.2 HTA.out.1
          obtain ⟨A', c', rfl, hc', hrow⟩ := hown.row.to (n := a.size) (by rw [Lib.byteCells_length, hQ])
          obtain ⟨g, o, rfl, hg, hcell⟩ := hrow (by intro e; have := congrArg List.length e; rw [Lib.byteCells_length, hQ, List.length_nil] at this; omega)
          have hcl : ∀ j (h : j < Q.length), wr.cell? ⟨g, o + j, none⟩ = some (.int .u8 (Q[j].toNat : Int)) := fun j h => hcell j _ (by simp [Lib.byteCells, h])
          have HCL := Lib.hid hcl
          obtain ⟨W, hW⟩ : ∃ W, W = wr := ⟨_, rfl⟩
          subst hW
          clear hcl hcell hrow hown hR1 hQ1 hfull HR HQV hcm ybd HLS
          go_wp2_with fail
          go_loopw [11] (fun i wr' => ∃ (k : Nat), i = .int .i64 k ∧ k < a.size ∧ W = wr' ∧ Hid (decV (Q.drop k) = decV Q)) (fun i _ => a.size - (intOf i).toNat)
          case atStart => exact ⟨0, rfl, hapos, rfl, by rw [Hid, List.drop_zero]⟩
          case round =>
            obtain ⟨k, rfl, hk, rfl, HD⟩ := hrel
            have hkQ : k < Q.length := by omega
            have hck := HCL.out k hkQ
            have HST := Lib.hid (strip_more hkQ)
            have HEN := Lib.hid (strip_end HQ.out hkQ)
            have k0i : (0 : Int) ≤ (k : Int) := by omega
            have k1i : (k : Int) < (a.size : Int) := by omega
            have k2i : (k : Int) ≤ (a.size : Int) := by omega
            have hconv := run_convert_bytes_back (P := Tryz.prog) W 70 9 5 ⟨g, o + k, none⟩ (c' - k) (Q.drop k) Tryz.underlying70 Tryz.underlying5 Tryz.underlying9 (fun j hj => by
              rw [List.getElem_drop]
              have e : (⟨g, o + k, none⟩ : Addr).add j = ⟨g, o + (k + j), none⟩ := by unfold Addr.add; split <;> simp_all [Nat.add_assoc]
              rw [e]
              exact HCL.out (k + j) (by rw [List.length_drop] at hj; omega))
            have hdl : (Q.drop k).length = a.size - k := by rw [List.length_drop, hQ]
            rw [hdl] at hconv
            by_cases hgo : k + 1 < a.size ∧ Q[k] = 48
            · obtain ⟨g1, g2⟩ := hgo
              have HD2 : Hid (decV (Q.drop (k + 1)) = decV Q) := by rw [Hid, HST.out g2, HD.out]
              have hc48 : W.cell? ⟨g, o + k, none⟩ = some (.int .u8 48) := by rw [hck, g2]; rfl
              have k3i : (k : Int) < (a.size : Int) - 1 := by omega
              clear hck g2 hconv
              go_wp2_with fail
              go_roundw
              case rel => exact ⟨k + 1, by go_num, by omega, trivial, HD2⟩
              case measure => simp [intOf]; omega
            · have HSE : Hid (Q.drop k = decT (decV a.data.toList / n)) := by
                rw [Hid, HEN.out ?_, HD.out, HQ1.out]
                by_cases h1 : k + 1 < a.size
                · right; intro e; exact hgo ⟨h1, e⟩
                · left; omega
              rcases Nat.lt_or_ge (k + 1) a.size with h1 | h1
              · have hx48 : ¬ Q[k] = 48 := fun e => hgo ⟨h1, e⟩
                have hx : ¬ Q[k].toNat = 48 := fun e => hx48 (UInt8.toNat_inj.1 e)
                obtain ⟨x, hxx⟩ : ∃ x, Q[k].toNat = x := ⟨_, rfl⟩
                rw [hxx] at hck hx
                have hxi : ((x : Int) == 48) = false := beq_eq_false_iff_ne.2 (by omega)
                have k3i : (k : Int) < (a.size : Int) - 1 := by omega
                clear hx48 hxx hgo
                go_wp2_with fail
                go_returns
                unfold Txt2Post
                rw [HK2.out]
                refine ⟨?_, hbr⟩
                show _ = Ending.returned (.tuple #[.string ⟨(decT (decV a.data.toList / n)).toArray⟩, .string ⟨(decT (decV a.data.toList % n)).toArray⟩, _])
                rw [← HSE.out, data_of HR1.out]
                rfl
              · have k3i : decide ((k : Int) < (a.size : Int) - 1) = false := decide_eq_false (by omega)
                have k4i : (a.size : Int) - 1 ≤ (k : Int) := by omega
                clear hgo
                go_wp2_with fail
                go_returns
                unfold Txt2Post
                rw [HK2.out]
                refine ⟨?_, hbr⟩
                show _ = Ending.returned (.tuple #[.string ⟨(decT (decV a.data.toList / n)).toArray⟩, .string ⟨(decT (decV a.data.toList % n)).toArray⟩, _])
                rw [← HSE.out, data_of HR1.out]
                rfl
  · refine (rdiv_bad a b w ha hb hok).mono ?_
    rintro e w' ⟨rfl, rfl⟩
    unfold Txt2Post natDiv
    rw [if_neg hok]
    exact ⟨rfl, Below.refl _ _⟩
end Go.Proofs.YtfgmjdhoeilhcaaGreatDoor
