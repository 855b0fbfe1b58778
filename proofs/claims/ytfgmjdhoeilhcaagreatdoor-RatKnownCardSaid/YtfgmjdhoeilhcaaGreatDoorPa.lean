/- Walks of the reference of rat: index, short, Parts, Valid. -/
import Derived.Test.YtfgmjdhoeilhcaaGreatDoorQn
namespace Go.Proofs.YtfgmjdhoeilhcaaGreatDoor
open Go.RowKit
set_option linter.unusedVariables false

/-- the place of the first byte c -/
def idxB (c : UInt8) (l : Bs) : Int := match cutB c l with
  | some p => (p.1.length : Int)
  | none => -1
/-- a number of at most 400 digits -/
def sh (l : Bs) : Bool := decide (l.length ≤ 400) && okN l
theorem ratOk_sh (neg frac : Bool) (n d : Bs) : ratOk neg frac n d = (sh n && sh d && !(neg && n == [48]) && !(frac && (d == [48] || d == [49])) && decide (Nat.gcd (decV n) (decV d) = 1)) := by
  unfold ratOk sh
  generalize okN n = a
  generalize okN d = b
  generalize decide (n.length ≤ 400) = c
  generalize decide (d.length ≤ 400) = e
  cases a <;> cases b <;> cases c <;> cases e <;> rfl

set_option maxHeartbeats 1000000 in
set_option maxRecDepth 100000 in
theorem pindex_any (s : ByteArray) (c : UInt8) (w : World) (hs : s.size ≤ 1000000) :
    Calls Tryz.prog 34 #[.string s, .int .u8 c.toNat] w fun e w' => e = .returned (.int .i64 (idxB c s.data.toList)) ∧ w = w' := by
  have la := Lib.size_eq s
  go_enter Tryz.func34, Tryz.ntmps34
  go_wp2_with fail
  go_loopw [4, 5] (fun r i wr => ∃ (k : Nat), r = .int .i64 0 ∧ i = .int .i64 k ∧ k ≤ s.size ∧ w = wr ∧ Hid (c ∉ s.data.toList.take k)) (fun _ i _ => s.size - (intOf i).toNat)
  case atStart => exact ⟨0, rfl, rfl, by omega, rfl, by simp [Hid]⟩
  case round =>
    obtain ⟨k, rfl, rfl, hk, rfl, HN⟩ := hrel
    by_cases hlt : k < s.size
    · have hd := drop_byte s k hlt
      have hta : s.data.toList = s.data.toList.take k ++ s[k] :: s.data.toList.drop (k + 1) := by rw [← hd, List.take_append_drop]
      by_cases hc : s[k] = c
      · have HI : Hid (idxB c s.data.toList = (k : Int)) := by
          unfold Hid idxB
          rw [cutB_some.2 ⟨by rw [hc] at hta; exact hta, HN.out⟩]
          simp [List.length_take, ← la]; omega
        obtain ⟨x, hx⟩ : ∃ x, s[k].toNat = x := ⟨_, rfl⟩
        have hcx : c.toNat = x := by rw [← hc, hx]
        rw [hcx]
        clear hta hd hc la
        go_wp2_with fail
        go_returns
        exact ⟨by rw [HI.out]; rfl, rfl⟩
      · have HN2 : Hid (c ∉ s.data.toList.take (k + 1)) := by
          rw [Hid, List.take_succ_eq_append_getElem (by rw [← la]; exact hlt)]
          intro hm
          rcases List.mem_append.1 hm with hm | hm
          · exact HN.out hm
          · exact hc (List.mem_singleton.1 hm).symm
        have hne : ¬ s[k].toNat = c.toNat := fun e => hc (UInt8.toNat_inj.1 e)
        obtain ⟨x, hx⟩ : ∃ x, s[k].toNat = x := ⟨_, rfl⟩
        obtain ⟨y, hy⟩ : ∃ x, c.toNat = x := ⟨_, rfl⟩
        rw [hx, hy] at hne
        have hnb : ((x : Int) == (y : Int)) = false := beq_eq_false_iff_ne.2 (by omega)
        rw [hy]
        clear hta hd hc la hy
        go_wp2_with fail
        go_roundw
        case rel => exact ⟨k + 1, rfl, by go_num, by omega, trivial, HN2⟩
        case measure => simp [intOf]; omega
    · obtain rfl : k = s.size := by omega
      have HI : Hid (idxB c s.data.toList = -1) := by
        unfold Hid idxB
        rw [cutB_none.2 ?_]
        have := HN.out
        rwa [List.take_of_length_le (by omega)] at this
      clear la
      go_wp2_with fail
      go_returns
      exact ⟨by rw [HI.out]; rfl, rfl⟩
set_option maxHeartbeats 1000000 in
set_option maxRecDepth 100000 in
theorem pshort_any (s : ByteArray) (w : World) (hs : s.size ≤ 1000000) :
    Calls Tryz.prog 35 #[.string s] w fun e w' => e = .returned (.bool (sh s.data.toList)) ∧ w = w' := by
  have hv := fun W => rvalid_any s W (by omega)
  have la := Lib.size_eq s
  by_cases h : s.size ≤ 400
  · have HK : Hid (sh s.data.toList = okN s.data.toList) := by unfold Hid sh; rw [decide_eq_true (by omega)]; rfl
    have hi : (s.size : Int) ≤ 400 := by omega
    generalize okN s.data.toList = ok at *
    clear la
    go_enter Tryz.func35, Tryz.ntmps35
    go_wp2_with (go_at_call 41; refine (hv _).mono ?_; rintro e w1 ⟨rfl, rfl⟩)
    go_returns
    exact ⟨by rw [HK.out]; rfl, rfl⟩
  · have HK : Hid (sh s.data.toList = false) := by unfold Hid sh; rw [decide_eq_false (by omega)]; rfl
    have hi : decide ((s.size : Int) ≤ 400) = false := decide_eq_false (by omega)
    have hi2 : (400 : Int) < (s.size : Int) := by omega
    clear la
    go_enter Tryz.func35, Tryz.ntmps35
    go_wp2_with fail
    go_returns
    exact ⟨by rw [HK.out]; rfl, rfl⟩
theorem sh_ok {l : Bs} (h : sh l = true) : okN l = true := by unfold sh at h; rw [Bool.and_eq_true] at h; exact h.2
theorem partV_no {l : Bs} (h : ratP l = none) : partV l = .tuple #[.bool false, .string ⟨#[]⟩, .string ⟨#[]⟩, .bool false] := by unfold partV; rw [h]; rfl
theorem partV_yes {l : Bs} {p : Bool} {A D : ByteArray} (h : ratP l = some (p, A.data.toList, D.data.toList)) : partV l = .tuple #[.bool p, .string A, .string D, .bool true] := by
  unfold partV
  rw [h]
  simp only [Option.getD_some, Option.isSome_some]
theorem ref_zero {n d : Bs} (hn : n = [48]) (hd : sh d = true) (h1 : ¬ d = [49]) : decide (Nat.gcd (decV n) (decV d) = 1) = false := by
  subst hn
  apply decide_eq_false
  intro e
  have e2 : Nat.gcd (decV [48]) (decV d) = decV d := by rw [show decV [48] = 0 from rfl, Nat.gcd_zero_left]
  rw [e2] at e
  exact h1 ((okT_one ((okN_iff _).1 (sh_ok hd)).1).1 e)

set_option maxHeartbeats 4000000 in
set_option maxRecDepth 100000 in
theorem pparts_any (s : ByteArray) (w : World) (hs : s.size ≤ 100000) :
    Calls Tryz.prog 13 #[.string s] w fun e w' => e = .returned (partV s.data.toList) ∧ Below w.heap.size w w' := by
  have HP : Hid (ratP s.data.toList = if ratOk (ratS s.data.toList).1 (ratF (ratS s.data.toList).2).1 (ratF (ratS s.data.toList).2).2.1 (ratF (ratS s.data.toList).2).2.2 = true then some ((ratS s.data.toList).1, (ratF (ratS s.data.toList).2).2.1, (ratF (ratS s.data.toList).2).2.2) else none) := rfl
  have hA : Below w.heap.size w w := Below.refl _ _
  have la := Lib.size_eq s
  by_cases hneg : s.data.toList.head? = some 45
  · have h0 : 0 < s.size := by
      rw [la]; cases hl : s.data.toList with
      | nil => rw [hl] at hneg; simp at hneg
      | cons => simp
    have hb : s[0] = 45 := by
      rw [byte0 s h0]
      cases hl : s.data.toList with
      | nil => rw [hl] at hneg; simp at hneg
      | cons x r => rw [hl] at hneg; simp at hneg; simp [hneg]
    have hS : ratS s.data.toList = (true, s.data.toList.tail) := by unfold ratS; rw [if_pos hneg]
    have hRd : (s.extract 1 s.size).data.toList = s.data.toList.tail := by
      rw [ext_data, List.take_of_length_le (by rw [List.length_drop, ← la]; omega), List.drop_one]
    have sR : (s.extract 1 s.size).size = s.size - 1 := by rw [Lib.size_eq, hRd, List.length_tail, ← la]
    rw [hS] at HP
    simp only [← hRd] at HP
    have h45 : s[0].toNat = 45 := by rw [hb]; rfl
    have i0 : (0 : Int) < (s.size : Int) := by omega
    have i1 : (1 : Int) ≤ (s.size : Int) := by omega
    clear hneg hS hRd hb
    generalize hRe : s.extract 1 s.size = R at *
    have sR2 : R.size ≤ 100000 := by omega
    clear sR
    have hix := fun W => pindex_any R 47 W (by omega)
    unfold idxB at hix
    unfold ratF at HP
    cases h47 : cutB 47 (R).data.toList with
    | some p =>
      obtain ⟨hcut, hnot⟩ := cutB_some.1 (show cutB 47 (R).data.toList = some (p.1, p.2) by rw [h47])
      have hsz := cut_size (a := p.1) (b := p.2) h47
      rw [← Lib.size_eq] at hsz
      rw [h47] at hix HP
      obtain ⟨k, hk⟩ : ∃ k, p.1.length = k := ⟨_, rfl⟩
      have hNd : ((R).extract 0 k).data.toList = p.1 := by rw [ext_data, List.drop_zero, hcut, ← hk]; simp
      have hDd : ((R).extract (k + 1) (R).size).data.toList = p.2 := by rw [ext_data, hcut, ← hk, List.take_of_length_le (by rw [List.length_drop, ← hcut, ← Lib.size_eq]; omega)]; simp
      simp only [hk] at hix
      rw [hk] at hsz
      simp only [← hNd, ← hDd] at HP
      have sN : ((R).extract 0 k).size ≤ 100000 := by rw [Lib.size_eq, hNd, hk]; omega
      have sD : ((R).extract (k + 1) (R).size).size ≤ 100000 := by rw [Lib.size_eq, hDd]; omega
      have k1 : (k : Int) ≤ ((R).size : Int) := by omega
      have k2 : (k : Int) + 1 ≤ ((R).size : Int) := by omega
      have k0 : (0 : Int) ≤ (k : Int) := by omega
      have kw : ((47 : UInt8).toNat : Int) = 47 := rfl
      clear h47 hcut hnot hNd hDd hk
      generalize hNe : (R).extract 0 k = N at *
      generalize hDe : (R).extract (k + 1) (R).size = D at *
      have gN := fun W => pshort_any N W (by omega)
      have gD := fun W => pshort_any D W (by omega)
      have q5 := is48 N
      have q6 := is48 D
      have q7 := isOne (D := D)
      rw [ratOk_sh] at HP
      have p5 : ((N).data.toList == [48]) = decide ((N).data.toList = [48]) := by rw [← q5, Lib.toList_data]
      have p6 : ((D).data.toList == [48]) = decide ((D).data.toList = [48]) := by rw [← q6, Lib.toList_data]
      have p7 : ((D).data.toList == [49]) = decide ((D).data.toList = [49]) := by rw [← q7, Lib.toList_data]
      rw [p5, p6, p7] at HP
      clear p5 p6 p7 la
      cases h1 : sh (N).data.toList with
      | false =>
        rw [h1] at HP gN
        have HK : Hid (partV s.data.toList = .tuple #[.bool false, .string ⟨#[]⟩, .string ⟨#[]⟩, .bool false]) := partV_no (by rw [HP.out]; first | rfl | simp)
        clear HP
        go_enter Tryz.func13, Tryz.ntmps13
        go_wp2_with (first
          | (go_at_call 34; refine (hix _).mono ?_; rintro e w1 ⟨rfl, rfl⟩)
          | (go_at_call_of 35 (Value.string N); refine (gN _).mono ?_; rintro e w1 ⟨rfl, rfl⟩)
          | (go_at_call_of 35 (Value.string D); refine (gD _).mono ?_; rintro e w1 ⟨rfl, rfl⟩)
          | (go_at_call 36; refine (gG _).mono ?_; rintro e w1 ⟨rfl, b1⟩))
        go_returns
        exact ⟨by rw [HK.out], hA⟩
      | true =>
        rw [h1] at HP gN
        cases h2 : sh (D).data.toList with
        | false =>
          rw [h2] at HP gD
          have HK : Hid (partV s.data.toList = .tuple #[.bool false, .string ⟨#[]⟩, .string ⟨#[]⟩, .bool false]) := partV_no (by rw [HP.out]; first | rfl | simp)
          clear HP
          go_enter Tryz.func13, Tryz.ntmps13
          go_wp2_with (first
            | (go_at_call 34; refine (hix _).mono ?_; rintro e w1 ⟨rfl, rfl⟩)
            | (go_at_call_of 35 (Value.string N); refine (gN _).mono ?_; rintro e w1 ⟨rfl, rfl⟩)
            | (go_at_call_of 35 (Value.string D); refine (gD _).mono ?_; rintro e w1 ⟨rfl, rfl⟩)
            | (go_at_call 36; refine (gG _).mono ?_; rintro e w1 ⟨rfl, b1⟩))
          go_returns
          exact ⟨by rw [HK.out], hA⟩
        | true =>
          rw [h2] at HP gD
          by_cases z6 : (D).data.toList = [48]
          · rw [decide_eq_true z6] at HP q6
            have HK : Hid (partV s.data.toList = .tuple #[.bool false, .string ⟨#[]⟩, .string ⟨#[]⟩, .bool false]) := partV_no (by rw [HP.out]; first | rfl | simp)
            clear HP
            go_enter Tryz.func13, Tryz.ntmps13
            go_wp2_with (first
              | (go_at_call 34; refine (hix _).mono ?_; rintro e w1 ⟨rfl, rfl⟩)
              | (go_at_call_of 35 (Value.string N); refine (gN _).mono ?_; rintro e w1 ⟨rfl, rfl⟩)
              | (go_at_call_of 35 (Value.string D); refine (gD _).mono ?_; rintro e w1 ⟨rfl, rfl⟩)
              | (go_at_call 36; refine (gG _).mono ?_; rintro e w1 ⟨rfl, b1⟩))
            go_returns
            exact ⟨by rw [HK.out], hA⟩
          · rw [decide_eq_false z6] at HP q6
            by_cases z5 : (N).data.toList = [48]
            · rw [decide_eq_true z5] at HP q5
              have HK : Hid (partV s.data.toList = .tuple #[.bool false, .string ⟨#[]⟩, .string ⟨#[]⟩, .bool false]) := partV_no (by rw [HP.out]; first | rfl | simp)
              clear HP
              go_enter Tryz.func13, Tryz.ntmps13
              go_wp2_with (first
                | (go_at_call 34; refine (hix _).mono ?_; rintro e w1 ⟨rfl, rfl⟩)
                | (go_at_call_of 35 (Value.string N); refine (gN _).mono ?_; rintro e w1 ⟨rfl, rfl⟩)
                | (go_at_call_of 35 (Value.string D); refine (gD _).mono ?_; rintro e w1 ⟨rfl, rfl⟩)
                | (go_at_call 36; refine (gG _).mono ?_; rintro e w1 ⟨rfl, b1⟩))
              go_returns
              exact ⟨by rw [HK.out], hA⟩
            · rw [decide_eq_false z5] at HP q5
              by_cases z7 : (D).data.toList = [49]
              · rw [decide_eq_true z7] at HP q7
                have HK : Hid (partV s.data.toList = .tuple #[.bool false, .string ⟨#[]⟩, .string ⟨#[]⟩, .bool false]) := partV_no (by rw [HP.out]; first | rfl | simp)
                clear HP
                go_enter Tryz.func13, Tryz.ntmps13
                go_wp2_with (first
                  | (go_at_call 34; refine (hix _).mono ?_; rintro e w1 ⟨rfl, rfl⟩)
                  | (go_at_call_of 35 (Value.string N); refine (gN _).mono ?_; rintro e w1 ⟨rfl, rfl⟩)
                  | (go_at_call_of 35 (Value.string D); refine (gD _).mono ?_; rintro e w1 ⟨rfl, rfl⟩)
                  | (go_at_call 36; refine (gG _).mono ?_; rintro e w1 ⟨rfl, b1⟩))
                go_returns
                exact ⟨by rw [HK.out], hA⟩
              · rw [decide_eq_false z7] at HP q7
                have gG := fun W => rgcd_any N D W (by omega) (by omega)
                rw [show natGcd (N).data.toList (D).data.toList = (decT (Nat.gcd (decV (N).data.toList) (decV (D).data.toList)), 0) from by unfold natGcd; rw [if_pos ⟨sh_ok h1, sh_ok h2⟩]] at gG
                unfold TxtPost at gG
                obtain ⟨G, hG⟩ : ∃ G : ByteArray, (⟨(decT (Nat.gcd (decV (N).data.toList) (decV (D).data.toList))).toArray⟩ : ByteArray) = G := ⟨_, rfl⟩
                have hGd : G.data.toList = decT (Nat.gcd (decV (N).data.toList) (decV (D).data.toList)) := by rw [← hG]
                have q8 := is49 hGd
                simp only [hG] at gG
                clear hG hGd
                by_cases z8 : Nat.gcd (decV (N).data.toList) (decV (D).data.toList) = 1
                · rw [decide_eq_true z8] at HP q8
                  have HK : Hid (partV s.data.toList = .tuple #[.bool true, .string N, .string D, .bool true]) := partV_yes (A := N) (D := D) (by rw [HP.out]; rfl)
                  clear HP
                  go_enter Tryz.func13, Tryz.ntmps13
                  go_wp2_with (first
                    | (go_at_call 34; refine (hix _).mono ?_; rintro e w1 ⟨rfl, rfl⟩)
                    | (go_at_call_of 35 (Value.string N); refine (gN _).mono ?_; rintro e w1 ⟨rfl, rfl⟩)
                    | (go_at_call_of 35 (Value.string D); refine (gD _).mono ?_; rintro e w1 ⟨rfl, rfl⟩)
                    | (go_at_call 36; refine (gG _).mono ?_; rintro e w1 ⟨rfl, b1⟩))
                  go_returns
                  exact ⟨by rw [HK.out], b1⟩
                · rw [decide_eq_false z8] at HP q8
                  have HK : Hid (partV s.data.toList = .tuple #[.bool false, .string ⟨#[]⟩, .string ⟨#[]⟩, .bool false]) := partV_no (by rw [HP.out]; first | rfl | simp)
                  clear HP
                  go_enter Tryz.func13, Tryz.ntmps13
                  go_wp2_with (first
                    | (go_at_call 34; refine (hix _).mono ?_; rintro e w1 ⟨rfl, rfl⟩)
                    | (go_at_call_of 35 (Value.string N); refine (gN _).mono ?_; rintro e w1 ⟨rfl, rfl⟩)
                    | (go_at_call_of 35 (Value.string D); refine (gD _).mono ?_; rintro e w1 ⟨rfl, rfl⟩)
                    | (go_at_call 36; refine (gG _).mono ?_; rintro e w1 ⟨rfl, b1⟩))
                  go_returns
                  exact ⟨by rw [HK.out], b1⟩
    | none =>
      rw [h47] at hix HP
      have kw : ((47 : UInt8).toNat : Int) = 47 := rfl
      have s49 : (⟨#[49]⟩ : ByteArray).size = 1 := rfl
      clear h47
      have HP' : Hid (ratP s.data.toList = if ratOk true false (R).data.toList (⟨#[49]⟩ : ByteArray).data.toList = true then some (true, (R).data.toList, (⟨#[49]⟩ : ByteArray).data.toList) else none) := HP.out
      clear HP
      have HP := HP'
      clear HP'
      have gN := fun W => pshort_any R W (by omega)
      have gD := fun W => pshort_any (⟨#[49]⟩ : ByteArray) W (by omega)
      have q5 := is48 R
      have q6 := is48 (⟨#[49]⟩ : ByteArray)
      have q7 := isOne (D := (⟨#[49]⟩ : ByteArray))
      rw [ratOk_sh] at HP
      have p5 : ((R).data.toList == [48]) = decide ((R).data.toList = [48]) := by rw [← q5, Lib.toList_data]
      have p6 : (((⟨#[49]⟩ : ByteArray)).data.toList == [48]) = decide (((⟨#[49]⟩ : ByteArray)).data.toList = [48]) := by rw [← q6, Lib.toList_data]
      have p7 : (((⟨#[49]⟩ : ByteArray)).data.toList == [49]) = decide (((⟨#[49]⟩ : ByteArray)).data.toList = [49]) := by rw [← q7, Lib.toList_data]
      rw [p5, p6, p7] at HP
      clear p5 p6 p7 la
      cases h1 : sh (R).data.toList with
      | false =>
        rw [h1] at HP gN
        have HK : Hid (partV s.data.toList = .tuple #[.bool false, .string ⟨#[]⟩, .string ⟨#[]⟩, .bool false]) := partV_no (by rw [HP.out]; first | rfl | simp)
        clear HP
        go_enter Tryz.func13, Tryz.ntmps13
        go_wp2_with (first
          | (go_at_call 34; refine (hix _).mono ?_; rintro e w1 ⟨rfl, rfl⟩)
          | (go_at_call_of 35 (Value.string R); refine (gN _).mono ?_; rintro e w1 ⟨rfl, rfl⟩)
          | (go_at_call_of 35 (Value.string (⟨#[49]⟩ : ByteArray)); refine (gD _).mono ?_; rintro e w1 ⟨rfl, rfl⟩)
          | (go_at_call 36; refine (gG _).mono ?_; rintro e w1 ⟨rfl, b1⟩))
        go_returns
        exact ⟨by rw [HK.out], hA⟩
      | true =>
        rw [h1] at HP gN
        cases h2 : sh ((⟨#[49]⟩ : ByteArray)).data.toList with
        | false =>
          rw [h2] at HP gD
          have HK : Hid (partV s.data.toList = .tuple #[.bool false, .string ⟨#[]⟩, .string ⟨#[]⟩, .bool false]) := partV_no (by rw [HP.out]; first | rfl | simp)
          clear HP
          go_enter Tryz.func13, Tryz.ntmps13
          go_wp2_with (first
            | (go_at_call 34; refine (hix _).mono ?_; rintro e w1 ⟨rfl, rfl⟩)
            | (go_at_call_of 35 (Value.string R); refine (gN _).mono ?_; rintro e w1 ⟨rfl, rfl⟩)
            | (go_at_call_of 35 (Value.string (⟨#[49]⟩ : ByteArray)); refine (gD _).mono ?_; rintro e w1 ⟨rfl, rfl⟩)
            | (go_at_call 36; refine (gG _).mono ?_; rintro e w1 ⟨rfl, b1⟩))
          go_returns
          exact ⟨by rw [HK.out], hA⟩
        | true =>
          rw [h2] at HP gD
          by_cases z6 : ((⟨#[49]⟩ : ByteArray)).data.toList = [48]
          · exact absurd z6 (by decide)
          · rw [decide_eq_false z6] at HP q6
            by_cases z5 : (R).data.toList = [48]
            · rw [decide_eq_true z5] at HP q5
              have HK : Hid (partV s.data.toList = .tuple #[.bool false, .string ⟨#[]⟩, .string ⟨#[]⟩, .bool false]) := partV_no (by rw [HP.out]; first | rfl | simp)
              clear HP
              go_enter Tryz.func13, Tryz.ntmps13
              go_wp2_with (first
                | (go_at_call 34; refine (hix _).mono ?_; rintro e w1 ⟨rfl, rfl⟩)
                | (go_at_call_of 35 (Value.string R); refine (gN _).mono ?_; rintro e w1 ⟨rfl, rfl⟩)
                | (go_at_call_of 35 (Value.string (⟨#[49]⟩ : ByteArray)); refine (gD _).mono ?_; rintro e w1 ⟨rfl, rfl⟩)
                | (go_at_call 36; refine (gG _).mono ?_; rintro e w1 ⟨rfl, b1⟩))
              go_returns
              exact ⟨by rw [HK.out], hA⟩
            · rw [decide_eq_false z5] at HP q5
              have gG := fun W => rgcd_any R (⟨#[49]⟩ : ByteArray) W (by omega) (by omega)
              rw [show natGcd (R).data.toList ((⟨#[49]⟩ : ByteArray)).data.toList = (decT (Nat.gcd (decV (R).data.toList) (decV ((⟨#[49]⟩ : ByteArray)).data.toList)), 0) from by unfold natGcd; rw [if_pos ⟨sh_ok h1, sh_ok h2⟩]] at gG
              unfold TxtPost at gG
              obtain ⟨G, hG⟩ : ∃ G : ByteArray, (⟨(decT (Nat.gcd (decV (R).data.toList) (decV ((⟨#[49]⟩ : ByteArray)).data.toList))).toArray⟩ : ByteArray) = G := ⟨_, rfl⟩
              have hGd : G.data.toList = decT (Nat.gcd (decV (R).data.toList) (decV ((⟨#[49]⟩ : ByteArray)).data.toList)) := by rw [← hG]
              have q8 := is49 hGd
              simp only [hG] at gG
              clear hG hGd
              by_cases z8 : Nat.gcd (decV (R).data.toList) (decV ((⟨#[49]⟩ : ByteArray)).data.toList) = 1
              · rw [decide_eq_true z8] at HP q8
                have HK : Hid (partV s.data.toList = .tuple #[.bool true, .string R, .string (⟨#[49]⟩ : ByteArray), .bool true]) := partV_yes (A := R) (D := (⟨#[49]⟩ : ByteArray)) (by rw [HP.out]; rfl)
                clear HP
                go_enter Tryz.func13, Tryz.ntmps13
                go_wp2_with (first
                  | (go_at_call 34; refine (hix _).mono ?_; rintro e w1 ⟨rfl, rfl⟩)
                  | (go_at_call_of 35 (Value.string R); refine (gN _).mono ?_; rintro e w1 ⟨rfl, rfl⟩)
                  | (go_at_call_of 35 (Value.string (⟨#[49]⟩ : ByteArray)); refine (gD _).mono ?_; rintro e w1 ⟨rfl, rfl⟩)
                  | (go_at_call 36; refine (gG _).mono ?_; rintro e w1 ⟨rfl, b1⟩))
                go_returns
                exact ⟨by rw [HK.out], b1⟩
              · exact absurd (show Nat.gcd (decV (R).data.toList) 1 = 1 from Nat.gcd_one_right _) z8
  · have hS : ratS s.data.toList = (false, s.data.toList) := by unfold ratS; rw [if_neg hneg]
    rw [hS] at HP
    by_cases h0 : 0 < s.size
    · have hb : ¬ s[0].toNat = 45 := by
        intro e
        apply hneg
        have e2 : s[0] = 45 := UInt8.toNat_inj.1 e
        rw [byte0 s h0] at e2
        cases hl : s.data.toList with
        | nil => rw [la, hl] at h0; simp at h0
        | cons x r => rw [hl] at e2; simp at e2; simp [e2]
      obtain ⟨x, hx⟩ : ∃ x, s[0].toNat = x := ⟨_, rfl⟩
      rw [hx] at hb
      have hxb : ((x : Int) == 45) = false := beq_eq_false_iff_ne.2 (by omega)
      have i0 : (0 : Int) < (s.size : Int) := by omega
      clear hneg hS
      have hix := fun W => pindex_any s 47 W (by omega)
      unfold idxB at hix
      unfold ratF at HP
      cases h47 : cutB 47 (s).data.toList with
      | some p =>
        obtain ⟨hcut, hnot⟩ := cutB_some.1 (show cutB 47 (s).data.toList = some (p.1, p.2) by rw [h47])
        have hsz := cut_size (a := p.1) (b := p.2) h47
        rw [← Lib.size_eq] at hsz
        rw [h47] at hix HP
        obtain ⟨k, hk⟩ : ∃ k, p.1.length = k := ⟨_, rfl⟩
        have hNd : ((s).extract 0 k).data.toList = p.1 := by rw [ext_data, List.drop_zero, hcut, ← hk]; simp
        have hDd : ((s).extract (k + 1) (s).size).data.toList = p.2 := by rw [ext_data, hcut, ← hk, List.take_of_length_le (by rw [List.length_drop, ← hcut, ← Lib.size_eq]; omega)]; simp
        simp only [hk] at hix
        rw [hk] at hsz
        simp only [← hNd, ← hDd] at HP
        have sN : ((s).extract 0 k).size ≤ 100000 := by rw [Lib.size_eq, hNd, hk]; omega
        have sD : ((s).extract (k + 1) (s).size).size ≤ 100000 := by rw [Lib.size_eq, hDd]; omega
        have k1 : (k : Int) ≤ ((s).size : Int) := by omega
        have k2 : (k : Int) + 1 ≤ ((s).size : Int) := by omega
        have k0 : (0 : Int) ≤ (k : Int) := by omega
        have kw : ((47 : UInt8).toNat : Int) = 47 := rfl
        clear h47 hcut hnot hNd hDd hk
        generalize hNe : (s).extract 0 k = N at *
        generalize hDe : (s).extract (k + 1) (s).size = D at *
        have gN := fun W => pshort_any N W (by omega)
        have gD := fun W => pshort_any D W (by omega)
        have q5 := is48 N
        have q6 := is48 D
        have q7 := isOne (D := D)
        rw [ratOk_sh] at HP
        have p5 : ((N).data.toList == [48]) = decide ((N).data.toList = [48]) := by rw [← q5, Lib.toList_data]
        have p6 : ((D).data.toList == [48]) = decide ((D).data.toList = [48]) := by rw [← q6, Lib.toList_data]
        have p7 : ((D).data.toList == [49]) = decide ((D).data.toList = [49]) := by rw [← q7, Lib.toList_data]
        rw [p5, p6, p7] at HP
        clear p5 p6 p7 la
        cases h1 : sh (N).data.toList with
        | false =>
          rw [h1] at HP gN
          have HK : Hid (partV s.data.toList = .tuple #[.bool false, .string ⟨#[]⟩, .string ⟨#[]⟩, .bool false]) := partV_no (by rw [HP.out]; first | rfl | simp)
          clear HP
          go_enter Tryz.func13, Tryz.ntmps13
          go_wp2_with (first
            | (go_at_call 34; refine (hix _).mono ?_; rintro e w1 ⟨rfl, rfl⟩)
            | (go_at_call_of 35 (Value.string N); refine (gN _).mono ?_; rintro e w1 ⟨rfl, rfl⟩)
            | (go_at_call_of 35 (Value.string D); refine (gD _).mono ?_; rintro e w1 ⟨rfl, rfl⟩)
            | (go_at_call 36; refine (gG _).mono ?_; rintro e w1 ⟨rfl, b1⟩))
          go_returns
          exact ⟨by rw [HK.out], hA⟩
        | true =>
          rw [h1] at HP gN
          cases h2 : sh (D).data.toList with
          | false =>
            rw [h2] at HP gD
            have HK : Hid (partV s.data.toList = .tuple #[.bool false, .string ⟨#[]⟩, .string ⟨#[]⟩, .bool false]) := partV_no (by rw [HP.out]; first | rfl | simp)
            clear HP
            go_enter Tryz.func13, Tryz.ntmps13
            go_wp2_with (first
              | (go_at_call 34; refine (hix _).mono ?_; rintro e w1 ⟨rfl, rfl⟩)
              | (go_at_call_of 35 (Value.string N); refine (gN _).mono ?_; rintro e w1 ⟨rfl, rfl⟩)
              | (go_at_call_of 35 (Value.string D); refine (gD _).mono ?_; rintro e w1 ⟨rfl, rfl⟩)
              | (go_at_call 36; refine (gG _).mono ?_; rintro e w1 ⟨rfl, b1⟩))
            go_returns
            exact ⟨by rw [HK.out], hA⟩
          | true =>
            rw [h2] at HP gD
            by_cases z6 : (D).data.toList = [48]
            · rw [decide_eq_true z6] at HP q6
              have HK : Hid (partV s.data.toList = .tuple #[.bool false, .string ⟨#[]⟩, .string ⟨#[]⟩, .bool false]) := partV_no (by rw [HP.out]; first | rfl | simp)
              clear HP
              go_enter Tryz.func13, Tryz.ntmps13
              go_wp2_with (first
                | (go_at_call 34; refine (hix _).mono ?_; rintro e w1 ⟨rfl, rfl⟩)
                | (go_at_call_of 35 (Value.string N); refine (gN _).mono ?_; rintro e w1 ⟨rfl, rfl⟩)
                | (go_at_call_of 35 (Value.string D); refine (gD _).mono ?_; rintro e w1 ⟨rfl, rfl⟩)
                | (go_at_call 36; refine (gG _).mono ?_; rintro e w1 ⟨rfl, b1⟩))
              go_returns
              exact ⟨by rw [HK.out], hA⟩
            · rw [decide_eq_false z6] at HP q6
              by_cases z5 : (N).data.toList = [48]
              · rw [decide_eq_true z5] at HP q5
                by_cases z7 : (D).data.toList = [49]
                · rw [decide_eq_true z7] at HP q7
                  have HK : Hid (partV s.data.toList = .tuple #[.bool false, .string ⟨#[]⟩, .string ⟨#[]⟩, .bool false]) := partV_no (by rw [HP.out]; first | rfl | simp)
                  clear HP
                  go_enter Tryz.func13, Tryz.ntmps13
                  go_wp2_with (first
                    | (go_at_call 34; refine (hix _).mono ?_; rintro e w1 ⟨rfl, rfl⟩)
                    | (go_at_call_of 35 (Value.string N); refine (gN _).mono ?_; rintro e w1 ⟨rfl, rfl⟩)
                    | (go_at_call_of 35 (Value.string D); refine (gD _).mono ?_; rintro e w1 ⟨rfl, rfl⟩)
                    | (go_at_call 36; refine (gG _).mono ?_; rintro e w1 ⟨rfl, b1⟩))
                  go_returns
                  exact ⟨by rw [HK.out], hA⟩
                · rw [decide_eq_false z7] at HP q7
                  rw [ref_zero z5 h2 z7] at HP
                  have HK : Hid (partV s.data.toList = .tuple #[.bool false, .string ⟨#[]⟩, .string ⟨#[]⟩, .bool false]) := partV_no (by rw [HP.out]; first | rfl | simp)
                  clear HP
                  go_enter Tryz.func13, Tryz.ntmps13
                  go_wp2_with (first
                    | (go_at_call 34; refine (hix _).mono ?_; rintro e w1 ⟨rfl, rfl⟩)
                    | (go_at_call_of 35 (Value.string N); refine (gN _).mono ?_; rintro e w1 ⟨rfl, rfl⟩)
                    | (go_at_call_of 35 (Value.string D); refine (gD _).mono ?_; rintro e w1 ⟨rfl, rfl⟩)
                    | (go_at_call 36; refine (gG _).mono ?_; rintro e w1 ⟨rfl, b1⟩))
                  go_returns
                  exact ⟨by rw [HK.out], hA⟩
              · rw [decide_eq_false z5] at HP q5
                by_cases z7 : (D).data.toList = [49]
                · rw [decide_eq_true z7] at HP q7
                  have HK : Hid (partV s.data.toList = .tuple #[.bool false, .string ⟨#[]⟩, .string ⟨#[]⟩, .bool false]) := partV_no (by rw [HP.out]; first | rfl | simp)
                  clear HP
                  go_enter Tryz.func13, Tryz.ntmps13
                  go_wp2_with (first
                    | (go_at_call 34; refine (hix _).mono ?_; rintro e w1 ⟨rfl, rfl⟩)
                    | (go_at_call_of 35 (Value.string N); refine (gN _).mono ?_; rintro e w1 ⟨rfl, rfl⟩)
                    | (go_at_call_of 35 (Value.string D); refine (gD _).mono ?_; rintro e w1 ⟨rfl, rfl⟩)
                    | (go_at_call 36; refine (gG _).mono ?_; rintro e w1 ⟨rfl, b1⟩))
                  go_returns
                  exact ⟨by rw [HK.out], hA⟩
                · rw [decide_eq_false z7] at HP q7
                  have gG := fun W => rgcd_any N D W (by omega) (by omega)
                  rw [show natGcd (N).data.toList (D).data.toList = (decT (Nat.gcd (decV (N).data.toList) (decV (D).data.toList)), 0) from by unfold natGcd; rw [if_pos ⟨sh_ok h1, sh_ok h2⟩]] at gG
                  unfold TxtPost at gG
                  obtain ⟨G, hG⟩ : ∃ G : ByteArray, (⟨(decT (Nat.gcd (decV (N).data.toList) (decV (D).data.toList))).toArray⟩ : ByteArray) = G := ⟨_, rfl⟩
                  have hGd : G.data.toList = decT (Nat.gcd (decV (N).data.toList) (decV (D).data.toList)) := by rw [← hG]
                  have q8 := is49 hGd
                  simp only [hG] at gG
                  clear hG hGd
                  by_cases z8 : Nat.gcd (decV (N).data.toList) (decV (D).data.toList) = 1
                  · rw [decide_eq_true z8] at HP q8
                    have HK : Hid (partV s.data.toList = .tuple #[.bool false, .string N, .string D, .bool true]) := partV_yes (A := N) (D := D) (by rw [HP.out]; rfl)
                    clear HP
                    go_enter Tryz.func13, Tryz.ntmps13
                    go_wp2_with (first
                      | (go_at_call 34; refine (hix _).mono ?_; rintro e w1 ⟨rfl, rfl⟩)
                      | (go_at_call_of 35 (Value.string N); refine (gN _).mono ?_; rintro e w1 ⟨rfl, rfl⟩)
                      | (go_at_call_of 35 (Value.string D); refine (gD _).mono ?_; rintro e w1 ⟨rfl, rfl⟩)
                      | (go_at_call 36; refine (gG _).mono ?_; rintro e w1 ⟨rfl, b1⟩))
                    go_returns
                    exact ⟨by rw [HK.out], b1⟩
                  · rw [decide_eq_false z8] at HP q8
                    have HK : Hid (partV s.data.toList = .tuple #[.bool false, .string ⟨#[]⟩, .string ⟨#[]⟩, .bool false]) := partV_no (by rw [HP.out]; first | rfl | simp)
                    clear HP
                    go_enter Tryz.func13, Tryz.ntmps13
                    go_wp2_with (first
                      | (go_at_call 34; refine (hix _).mono ?_; rintro e w1 ⟨rfl, rfl⟩)
                      | (go_at_call_of 35 (Value.string N); refine (gN _).mono ?_; rintro e w1 ⟨rfl, rfl⟩)
                      | (go_at_call_of 35 (Value.string D); refine (gD _).mono ?_; rintro e w1 ⟨rfl, rfl⟩)
                      | (go_at_call 36; refine (gG _).mono ?_; rintro e w1 ⟨rfl, b1⟩))
                    go_returns
                    exact ⟨by rw [HK.out], b1⟩
      | none =>
        rw [h47] at hix HP
        have kw : ((47 : UInt8).toNat : Int) = 47 := rfl
        have s49 : (⟨#[49]⟩ : ByteArray).size = 1 := rfl
        clear h47
        have HP' : Hid (ratP s.data.toList = if ratOk false false (s).data.toList (⟨#[49]⟩ : ByteArray).data.toList = true then some (false, (s).data.toList, (⟨#[49]⟩ : ByteArray).data.toList) else none) := HP.out
        clear HP
        have HP := HP'
        clear HP'
        have gN := fun W => pshort_any s W (by omega)
        have gD := fun W => pshort_any (⟨#[49]⟩ : ByteArray) W (by omega)
        have q5 := is48 s
        have q6 := is48 (⟨#[49]⟩ : ByteArray)
        have q7 := isOne (D := (⟨#[49]⟩ : ByteArray))
        rw [ratOk_sh] at HP
        have p5 : ((s).data.toList == [48]) = decide ((s).data.toList = [48]) := by rw [← q5, Lib.toList_data]
        have p6 : (((⟨#[49]⟩ : ByteArray)).data.toList == [48]) = decide (((⟨#[49]⟩ : ByteArray)).data.toList = [48]) := by rw [← q6, Lib.toList_data]
        have p7 : (((⟨#[49]⟩ : ByteArray)).data.toList == [49]) = decide (((⟨#[49]⟩ : ByteArray)).data.toList = [49]) := by rw [← q7, Lib.toList_data]
        rw [p5, p6, p7] at HP
        clear p5 p6 p7 la
        cases h1 : sh (s).data.toList with
        | false =>
          rw [h1] at HP gN
          have HK : Hid (partV s.data.toList = .tuple #[.bool false, .string ⟨#[]⟩, .string ⟨#[]⟩, .bool false]) := partV_no (by rw [HP.out]; first | rfl | simp)
          clear HP
          go_enter Tryz.func13, Tryz.ntmps13
          go_wp2_with (first
            | (go_at_call 34; refine (hix _).mono ?_; rintro e w1 ⟨rfl, rfl⟩)
            | (go_at_call_of 35 (Value.string s); refine (gN _).mono ?_; rintro e w1 ⟨rfl, rfl⟩)
            | (go_at_call_of 35 (Value.string (⟨#[49]⟩ : ByteArray)); refine (gD _).mono ?_; rintro e w1 ⟨rfl, rfl⟩)
            | (go_at_call 36; refine (gG _).mono ?_; rintro e w1 ⟨rfl, b1⟩))
          go_returns
          exact ⟨by rw [HK.out], hA⟩
        | true =>
          rw [h1] at HP gN
          cases h2 : sh ((⟨#[49]⟩ : ByteArray)).data.toList with
          | false =>
            rw [h2] at HP gD
            have HK : Hid (partV s.data.toList = .tuple #[.bool false, .string ⟨#[]⟩, .string ⟨#[]⟩, .bool false]) := partV_no (by rw [HP.out]; first | rfl | simp)
            clear HP
            go_enter Tryz.func13, Tryz.ntmps13
            go_wp2_with (first
              | (go_at_call 34; refine (hix _).mono ?_; rintro e w1 ⟨rfl, rfl⟩)
              | (go_at_call_of 35 (Value.string s); refine (gN _).mono ?_; rintro e w1 ⟨rfl, rfl⟩)
              | (go_at_call_of 35 (Value.string (⟨#[49]⟩ : ByteArray)); refine (gD _).mono ?_; rintro e w1 ⟨rfl, rfl⟩)
              | (go_at_call 36; refine (gG _).mono ?_; rintro e w1 ⟨rfl, b1⟩))
            go_returns
            exact ⟨by rw [HK.out], hA⟩
          | true =>
            rw [h2] at HP gD
            by_cases z6 : ((⟨#[49]⟩ : ByteArray)).data.toList = [48]
            · exact absurd z6 (by decide)
            · rw [decide_eq_false z6] at HP q6
              by_cases z5 : (s).data.toList = [48]
              · rw [decide_eq_true z5] at HP q5
                have gG := fun W => rgcd_any s (⟨#[49]⟩ : ByteArray) W (by omega) (by omega)
                rw [show natGcd (s).data.toList ((⟨#[49]⟩ : ByteArray)).data.toList = (decT (Nat.gcd (decV (s).data.toList) (decV ((⟨#[49]⟩ : ByteArray)).data.toList)), 0) from by unfold natGcd; rw [if_pos ⟨sh_ok h1, sh_ok h2⟩]] at gG
                unfold TxtPost at gG
                obtain ⟨G, hG⟩ : ∃ G : ByteArray, (⟨(decT (Nat.gcd (decV (s).data.toList) (decV ((⟨#[49]⟩ : ByteArray)).data.toList))).toArray⟩ : ByteArray) = G := ⟨_, rfl⟩
                have hGd : G.data.toList = decT (Nat.gcd (decV (s).data.toList) (decV ((⟨#[49]⟩ : ByteArray)).data.toList)) := by rw [← hG]
                have q8 := is49 hGd
                simp only [hG] at gG
                clear hG hGd
                by_cases z8 : Nat.gcd (decV (s).data.toList) (decV ((⟨#[49]⟩ : ByteArray)).data.toList) = 1
                · rw [decide_eq_true z8] at HP q8
                  have HK : Hid (partV s.data.toList = .tuple #[.bool false, .string s, .string (⟨#[49]⟩ : ByteArray), .bool true]) := partV_yes (A := s) (D := (⟨#[49]⟩ : ByteArray)) (by rw [HP.out]; rfl)
                  clear HP
                  go_enter Tryz.func13, Tryz.ntmps13
                  go_wp2_with (first
                    | (go_at_call 34; refine (hix _).mono ?_; rintro e w1 ⟨rfl, rfl⟩)
                    | (go_at_call_of 35 (Value.string s); refine (gN _).mono ?_; rintro e w1 ⟨rfl, rfl⟩)
                    | (go_at_call_of 35 (Value.string (⟨#[49]⟩ : ByteArray)); refine (gD _).mono ?_; rintro e w1 ⟨rfl, rfl⟩)
                    | (go_at_call 36; refine (gG _).mono ?_; rintro e w1 ⟨rfl, b1⟩))
                  go_returns
                  exact ⟨by rw [HK.out], b1⟩
                · exact absurd (show Nat.gcd (decV (s).data.toList) 1 = 1 from Nat.gcd_one_right _) z8
              · rw [decide_eq_false z5] at HP q5
                have gG := fun W => rgcd_any s (⟨#[49]⟩ : ByteArray) W (by omega) (by omega)
                rw [show natGcd (s).data.toList ((⟨#[49]⟩ : ByteArray)).data.toList = (decT (Nat.gcd (decV (s).data.toList) (decV ((⟨#[49]⟩ : ByteArray)).data.toList)), 0) from by unfold natGcd; rw [if_pos ⟨sh_ok h1, sh_ok h2⟩]] at gG
                unfold TxtPost at gG
                obtain ⟨G, hG⟩ : ∃ G : ByteArray, (⟨(decT (Nat.gcd (decV (s).data.toList) (decV ((⟨#[49]⟩ : ByteArray)).data.toList))).toArray⟩ : ByteArray) = G := ⟨_, rfl⟩
                have hGd : G.data.toList = decT (Nat.gcd (decV (s).data.toList) (decV ((⟨#[49]⟩ : ByteArray)).data.toList)) := by rw [← hG]
                have q8 := is49 hGd
                simp only [hG] at gG
                clear hG hGd
                by_cases z8 : Nat.gcd (decV (s).data.toList) (decV ((⟨#[49]⟩ : ByteArray)).data.toList) = 1
                · rw [decide_eq_true z8] at HP q8
                  have HK : Hid (partV s.data.toList = .tuple #[.bool false, .string s, .string (⟨#[49]⟩ : ByteArray), .bool true]) := partV_yes (A := s) (D := (⟨#[49]⟩ : ByteArray)) (by rw [HP.out]; rfl)
                  clear HP
                  go_enter Tryz.func13, Tryz.ntmps13
                  go_wp2_with (first
                    | (go_at_call 34; refine (hix _).mono ?_; rintro e w1 ⟨rfl, rfl⟩)
                    | (go_at_call_of 35 (Value.string s); refine (gN _).mono ?_; rintro e w1 ⟨rfl, rfl⟩)
                    | (go_at_call_of 35 (Value.string (⟨#[49]⟩ : ByteArray)); refine (gD _).mono ?_; rintro e w1 ⟨rfl, rfl⟩)
                    | (go_at_call 36; refine (gG _).mono ?_; rintro e w1 ⟨rfl, b1⟩))
                  go_returns
                  exact ⟨by rw [HK.out], b1⟩
                · exact absurd (show Nat.gcd (decV (s).data.toList) 1 = 1 from Nat.gcd_one_right _) z8
    · have i0 : decide ((0 : Int) < (s.size : Int)) = false := decide_eq_false (by omega)
      have i1 : (s.size : Int) ≤ 0 := by omega
      have hsh : sh s.data.toList = false := by
        have e : s.data.toList = [] := data_nil (by omega)
        rw [e]; rfl
      have hz : s.size = 0 := by omega
      have gN := fun W => pshort_any s W (by omega)
      rw [hsh] at gN
      have hix := fun W => pindex_any s 47 W (by omega)
      have e : idxB 47 s.data.toList = -1 := by rw [data_nil hz]; rfl
      rw [e] at hix
      have HK : Hid (partV s.data.toList = .tuple #[.bool false, .string ⟨#[]⟩, .string ⟨#[]⟩, .bool false]) := by rw [Hid, data_nil hz]; rfl
      clear HP hneg hS h0 hsh e la
      go_enter Tryz.func13, Tryz.ntmps13
      go_wp2_with (first
        | (go_at_call 34; refine (hix _).mono ?_; rintro e w1 ⟨rfl, rfl⟩)
        | (go_at_call_of 35 (Value.string s); refine (gN _).mono ?_; rintro e w1 ⟨rfl, rfl⟩))
      go_returns
      exact ⟨by rw [HK.out], hA⟩
set_option maxHeartbeats 1000000 in
set_option maxRecDepth 100000 in
theorem pvalid_any (s : ByteArray) (w : World) (hs : s.size ≤ 100000) :
    Calls Tryz.prog 60 #[.string s] w fun e w' => e = .returned (.bool (ratV s.data.toList).isSome) ∧ Below w.heap.size w w' := by
  have hc := pparts_any s w hs
  unfold partV at hc
  rw [ratV_isSome] at hc
  generalize (ratV s.data.toList).isSome = ok at *
  generalize ((ratP s.data.toList).getD (false, [], [])) = nv at *
  go_enter Tryz.func60, Tryz.ntmps60
  go_wp2_with (go_at_call 13; refine hc.mono ?_; rintro e w1 ⟨rfl, b1⟩)
  go_returns
  exact ⟨rfl, b1⟩
end Go.Proofs.YtfgmjdhoeilhcaaGreatDoor
