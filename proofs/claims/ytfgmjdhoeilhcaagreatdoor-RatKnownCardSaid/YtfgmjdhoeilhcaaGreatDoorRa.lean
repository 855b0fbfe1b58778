/- Walks: Add, Sub, Cmp of nat. -/
import Derived.Test.YtfgmjdhoeilhcaaGreatDoorRu
namespace Go.Proofs.YtfgmjdhoeilhcaaGreatDoor
open Go.RowKit
set_option linter.unusedVariables false

set_option maxHeartbeats 1000000 in
set_option maxRecDepth 100000 in
theorem nadd_any (a b : ByteArray) (w : World) (hT : Tabs w) (ha : a.size ≤ 9223372036854775807) (hb : b.size ≤ 9223372036854775807) :
    Calls Tryz.prog 80 #[.string a, .string b] w (TxtPost w (natAdd a.data.toList b.data.toList)) := by
  by_cases hok : okN a.data.toList = true ∧ okN b.data.toList = true
  · obtain ⟨hoa, hob⟩ := hok
    have HK : Hid (natAdd a.data.toList b.data.toList = limN (decV a.data.toList + decV b.data.toList)) := by unfold Hid natAdd; rw [if_pos ⟨hoa, hob⟩]
    have va := fun W => nvalid_any a W ha
    have vb := fun W => nvalid_any b W hb
    rw [hoa] at va
    rw [hob] at vb
    have ba := fun W => nblocks_any a W hoa
    have bb := fun W => nblocks_any b W hob
    have la := okN_blk hoa
    have lb := okN_blk hob
    generalize decV a.data.toList = m at *
    generalize decV b.data.toList = n at *
    clear hoa hob
    have hA : Below w.heap.size w w := Below.refl _ _
    go_enter Tryz.func80, Tryz.ntmps80
    go_wp2_with (first | (go_at_call_of 37 (Value.string a); refine (va _).mono ?_; rintro e w2 ⟨rfl, rfl⟩) | (go_at_call_of 37 (Value.string b); refine (vb _).mono ?_; rintro e w2 ⟨rfl, rfl⟩))
    refine (ba _).mono ?_
    rintro e w1 ⟨A1, c1, rfl, h1, r1, b1⟩
    have hA1 := bstep hA b1
    go_wp2_with fail
    refine (bb _).mono ?_
    rintro e w2 ⟨A2, c2, rfl, h2, r2, b2⟩
    have hA2 := bstep hA1 b2
    go_wp2_with fail
    refine (plusB_any A1 A2 c1 c2 m n _ (r1.below b2) r2 (by omega) (by omega)).mono ?_
    rintro e w3 ⟨A3, c3, rfl, h3, r3, b3⟩
    have hA3 := bstep hA2 b3
    have l3 := blk_len_add la lb
    go_wp2_with fail
    refine (limited_any A3 c3 (m + n) _ (hT.below hA3) r3 (by omega)).mono ?_
    rintro e w4 ⟨rfl, b4⟩
    have hA4 := bstep hA3 b4
    go_wp2_with fail
    go_returns
    unfold TxtPost
    rw [HK.out]
    exact ⟨rfl, hA4⟩
  · refine (nadd_bad a b w ha hb hok).mono ?_
    rintro e w' ⟨rfl, rfl⟩
    unfold TxtPost natAdd
    rw [if_neg hok]
    exact ⟨rfl, Below.refl _ _⟩
set_option maxHeartbeats 1000000 in
set_option maxRecDepth 100000 in
theorem ncmp_any (a b : ByteArray) (w : World) (ha : a.size ≤ 9223372036854775807) (hb : b.size ≤ 9223372036854775807) :
    Calls Tryz.prog 81 #[.string a, .string b] w fun e w' => e = .returned (.int .i64 (natCmp a.data.toList b.data.toList)) ∧ Below w.heap.size w w' := by
  by_cases hok : okN a.data.toList = true ∧ okN b.data.toList = true
  · obtain ⟨hoa, hob⟩ := hok
    have HK : Hid (natCmp a.data.toList b.data.toList = cmpI (decV a.data.toList) (decV b.data.toList)) := by unfold Hid natCmp; rw [if_pos ⟨hoa, hob⟩]
    have va := fun W => nvalid_any a W ha
    have vb := fun W => nvalid_any b W hb
    rw [hoa] at va
    rw [hob] at vb
    have ba := fun W => nblocks_any a W hoa
    have bb := fun W => nblocks_any b W hob
    have la := okN_blk hoa
    have lb := okN_blk hob
    generalize decV a.data.toList = m at *
    generalize decV b.data.toList = n at *
    clear hoa hob
    have hA : Below w.heap.size w w := Below.refl _ _
    go_enter Tryz.func81, Tryz.ntmps81
    go_wp2_with (first | (go_at_call_of 37 (Value.string a); refine (va _).mono ?_; rintro e w2 ⟨rfl, rfl⟩) | (go_at_call_of 37 (Value.string b); refine (vb _).mono ?_; rintro e w2 ⟨rfl, rfl⟩))
    refine (ba _).mono ?_
    rintro e w1 ⟨A1, c1, rfl, h1, r1, b1⟩
    have hA1 := bstep hA b1
    go_wp2_with fail
    refine (bb _).mono ?_
    rintro e w2 ⟨A2, c2, rfl, h2, r2, b2⟩
    have hA2 := bstep hA1 b2
    go_wp2_with fail
    refine (compare_any A1 A2 c1 c2 m n _ (r1.below b2) r2 (by omega) (by omega)).mono ?_
    rintro e w3 ⟨rfl, b3⟩
    have hA3 := bstep hA2 b3
    go_wp2_with fail
    go_returns
    exact ⟨by rw [HK.out]; rfl, hA3⟩
  · refine (ncmp_bad a b w ha hb hok).mono ?_
    rintro e w' ⟨rfl, rfl⟩
    unfold natCmp
    rw [if_neg hok]
    exact ⟨rfl, Below.refl _ _⟩
set_option maxHeartbeats 1000000 in
set_option maxRecDepth 100000 in
theorem nsub_any (a b : ByteArray) (w : World) (hT : Tabs w) (ha : a.size ≤ 9223372036854775807) (hb : b.size ≤ 9223372036854775807) :
    Calls Tryz.prog 82 #[.string a, .string b] w (TxtPost w (natSub a.data.toList b.data.toList)) := by
  by_cases hok : okN a.data.toList = true ∧ okN b.data.toList = true
  · obtain ⟨hoa, hob⟩ := hok
    have HK : Hid (natSub a.data.toList b.data.toList = if decV a.data.toList < decV b.data.toList then ([], 4) else (decT (decV a.data.toList - decV b.data.toList), 0)) := by unfold Hid natSub; rw [if_pos ⟨hoa, hob⟩]
    have va := fun W => nvalid_any a W ha
    have vb := fun W => nvalid_any b W hb
    rw [hoa] at va
    rw [hob] at vb
    have ba := fun W => nblocks_any a W hoa
    have bb := fun W => nblocks_any b W hob
    have la := okN_blk hoa
    have lb := okN_blk hob
    generalize decV a.data.toList = m at *
    generalize decV b.data.toList = n at *
    clear hoa hob
    have hA : Below w.heap.size w w := Below.refl _ _
    go_enter Tryz.func82, Tryz.ntmps82
    go_wp2_with (first | (go_at_call_of 37 (Value.string a); refine (va _).mono ?_; rintro e w2 ⟨rfl, rfl⟩) | (go_at_call_of 37 (Value.string b); refine (vb _).mono ?_; rintro e w2 ⟨rfl, rfl⟩))
    refine (ba _).mono ?_
    rintro e w1 ⟨A1, c1, rfl, h1, r1, b1⟩
    have hA1 := bstep hA b1
    go_wp2_with fail
    refine (bb _).mono ?_
    rintro e w2 ⟨A2, c2, rfl, h2, r2, b2⟩
    have hA2 := bstep hA1 b2
    go_wp2_with fail
    refine (compare_any A1 A2 c1 c2 m n _ (r1.below b2) r2 (by omega) (by omega)).mono ?_
    rintro e w3 ⟨rfl, b3⟩
    have hA3 := bstep hA2 b3
    by_cases hlt : m < n
    · have HK2 : Hid (natSub a.data.toList b.data.toList = ([], 4)) := by rw [Hid, HK.out, if_pos hlt]
      rw [cmpI_lt hlt]
      clear hlt HK
      go_wp2_with fail
      go_returns
      unfold TxtPost
      rw [HK2.out]
      exact ⟨rfl, hA3⟩
    · have HK2 : Hid (natSub a.data.toList b.data.toList = (decT (m - n), 0)) := by rw [Hid, HK.out, if_neg hlt]
      have hge : ¬ cmpI m n < 0 := by rw [cmpI_neg]; exact hlt
      obtain ⟨cc, hcc⟩ : ∃ cc, cmpI m n = cc := ⟨_, rfl⟩
      rw [hcc] at hge ⊢
      have hge0 : 0 ≤ cc := by omega
      have hmn : n ≤ m := by omega
      have l3 : (blk (m - n)).length ≤ 112 := Nat.le_trans (blk_len_mono (Nat.sub_le _ _)) la
      clear hlt HK hcc hge
      go_wp2_with fail
      refine (minusB_any A1 A2 c1 c2 m n _ hmn ((r1.below b2).below b3) (r2.below b3) (by omega) (by omega)).mono ?_
      rintro e w4 ⟨A4, c4, rfl, h4, r4, b4⟩
      have hA4 := bstep hA3 b4
      go_wp2_with fail
      refine (text_any A4 c4 (m - n) _ (hT.below hA4) r4 (by omega)).mono ?_
      rintro e w5 ⟨rfl, b5⟩
      have hA5 := bstep hA4 b5
      go_wp2_with fail
      go_returns
      unfold TxtPost
      rw [HK2.out]
      exact ⟨rfl, hA5⟩
  · refine (nsub_bad a b w ha hb hok).mono ?_
    rintro e w' ⟨rfl, rfl⟩
    unfold TxtPost natSub
    rw [if_neg hok]
    exact ⟨rfl, Below.refl _ _⟩
end Go.Proofs.YtfgmjdhoeilhcaaGreatDoor
