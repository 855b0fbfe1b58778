/- Walks of the reference of layer 1: Lower, Upper, Quote. -/
import Derived.Test.YtbpfbceagdikoaaDoorW7
namespace Go.Proofs.YtbpfbceagdikoaaDoor
open Go.RowKit
set_option linter.unusedVariables false

set_option maxHeartbeats 1000000 in
set_option maxRecDepth 100000 in
theorem rquote_any (s : ByteArray) (w : World) (hs : s.size ≤ 100000000) :
    Calls Tryd.prog 28 #[.string s] w fun e w' => e = .returned (.string ⟨(quoteL s.data.toList).toArray⟩) ∧ Below w.heap.size w w' := by
  obtain ⟨i0, hi, hz0, hz1, hz2⟩ := info_parts byteInfo
  by_cases he : s.size = 0
  · have hemp := isEmpty_of he
    have h0 : Hid (quoteL s.data.toList = [37, 48]) := by unfold Hid quoteL; rw [data_nil he]; rfl
    go_enter Tryd.func28, Tryd.ntmps28
    go_wp2
    go_returns
    exact ⟨by rw [h0.out]; rfl, Below.refl _ _⟩
  · have hemp := not_isEmpty_of he
    have h0 : Hid (quoteL s.data.toList = (pieces s.data.toList).flatMap unitP) := by unfold Hid quoteL; rw [if_neg (data_ne he)]; rfl
    have hpc := pieces_any s w (by omega)
    have hfl := Lib.hid (pieces_flat s.data.toList)
    have hne := pieces_ne s.data.toList
    have hpl := pieces_len s.data.toList
    have hsz := Lib.size_eq s
    have hpl2 : (pieces s.data.toList).length ≤ 100000000 := by omega
    clear hpl hsz
    generalize pieces s.data.toList = l at *
    have hfl2 : l.flatten.length ≤ 100000000 := by rw [hfl.out, ← Lib.size_eq]; exact hs
    go_enter Tryd.func28, Tryd.ntmps28
    go_wp2_with (first | (go_at_call 22; refine hpc.mono ?_; rintro e w1 ⟨A, cap, rfl, hcap, hrow, hb1⟩))
    go_loopw [3, 5] (fun v i wr => ∃ (k : Nat) (acc : Bs), i = .int .i64 k ∧ k ≤ l.length ∧ Below w1.heap.size w1 wr ∧ Own w1.heap.size 5 v (Lib.byteCells acc) wr ∧ acc.length ≤ 5 * offK l k ∧ Hid (acc = (l.take k).flatMap unitP)) (fun _ i _ => l.length - (intOf i).toNat)
    case atStart => exact ⟨0, [], rfl, by omega, Below.refl _ _, Own.nil _ _ _, by simp, by simp [Hid]⟩
    case round =>
      obtain ⟨k, acc, rfl, hk, hb, hown, hal, H⟩ := hrel
      by_cases hlt : k < l.length
      · obtain ⟨b, o, rfl, hbl, hcell⟩ := (hrow.below hb) (by intro e; rw [List.map_eq_nil_iff] at e; rw [e] at hlt; simp at hlt)
        have hc : wr.cell? ⟨b, o + k, none⟩ = some (.string ⟨l[k].toArray⟩) := hcell k _ (getS hlt)
        have hfk := offK_le l (k + 1)
        have hfk1 := offK_succ l k hlt
        have hlk : (⟨l[k].toArray⟩ : ByteArray).size = l[k].length := by rw [Lib.size_eq]
        have hlk0 : 0 < l[k].length := List.length_pos_iff.2 (hne _ (List.getElem_mem hlt))
        have hu := runit_any ⟨l[k].toArray⟩ wr (by rw [hlk]; omega) (by rw [hlk]; exact hlk0)
        have hul := unitP_len l[k]
        have HN : Hid ((l.take (k + 1)).flatMap unitP = (l.take k).flatMap unitP ++ unitP l[k]) := by unfold Hid; rw [List.take_succ_eq_append_getElem hlt, List.flatMap_append]; simp
        have hsu : (⟨(unitP l[k]).toArray⟩ : ByteArray).size = (unitP l[k]).length := by rw [Lib.size_eq]
        have hcv : acc.length + (⟨(unitP l[k]).toArray⟩ : ByteArray).size ≤ 140737488355328 := by rw [hsu]; omega
        have hac : (acc ++ unitP l[k]).length ≤ 5 * offK l (k + 1) := by rw [List.length_append]; omega
        have hu' : Calls Tryd.prog 50 #[.string ⟨l[k].toArray⟩] wr fun e w' => e = .returned (.string ⟨(unitP l[k]).toArray⟩) ∧ Below wr.heap.size wr w' := hu
        generalize unitP l[k] = U at *
        clear hcell hlk hsu hu hfk1
        go_wp2_with (first | (go_at_call 50; refine hu'.mono ?_; rintro e w2 ⟨rfl, hb2⟩; have hown2 := hown.below hb2; have hbA := bstep hb hb2) | (at_builtin; refine wpList_appS rfl (.tmp 16) (.tmp 21) 42 9 rfl w1.heap.size 5 i0 Tryd.underlying42 Tryd.underlying9 hi hz0 hz1 hz2 _ acc rfl hown2 rfl hcv hbA.size ?_; intro v' w3 hown4 hb4))
        go_roundw
        case rel => exact ⟨k + 1, acc ++ U, by go_num, by omega, hbA.trans hb4, hown4, hac, by unfold Hid; rw [HN.out, H.out]⟩
        case measure => simp [intOf]; omega
      · obtain rfl : k = l.length := by omega
        have hcv := own_string Tryd.underlying42 Tryd.underlying5 Tryd.underlying9 hown
        go_wp2_with fail
        go_returns
        exact ⟨by rw [h0.out, H.out, List.take_length]; rfl, bstep hb1 hb⟩

set_option maxHeartbeats 2000000 in
set_option maxRecDepth 100000 in
theorem rLower_any (s : ByteArray) (w : World) (hs : s.size ≤ 100000000) :
    Calls Tryd.prog 25 #[.string s] w fun e w' => e = .returned (.string ⟨(changeL lowR s.data.toList).toArray⟩) ∧ Below w.heap.size w w' := by
  obtain ⟨i0, hi, hz0, hz1, hz2⟩ := info_parts byteInfo
  have h0 : Hid (changeL lowR s.data.toList = (pieces s.data.toList).flatMap (changeP lowR)) := rfl
  have hpc := pieces_any s w (by omega)
  have hfl := Lib.hid (pieces_flat s.data.toList)
  have hne := pieces_ne s.data.toList
  have hpl := pieces_len s.data.toList
  have hsz := Lib.size_eq s
  have hpl2 : (pieces s.data.toList).length ≤ 100000000 := by omega
  clear hpl hsz
  generalize pieces s.data.toList = l at *
  have hfl2 : l.flatten.length ≤ 100000000 := by rw [hfl.out, ← Lib.size_eq]; exact hs
  go_enter Tryd.func25, Tryd.ntmps25
  go_wp2_with (first | (go_at_call 22; refine hpc.mono ?_; rintro e w1 ⟨A, cap, rfl, hcap, hrow, hb1⟩))
  go_loopw [3, 5] (fun v i wr => ∃ (k : Nat) (acc : Bs), i = .int .i64 k ∧ k ≤ l.length ∧ Below w1.heap.size w1 wr ∧ Own w1.heap.size 5 v (Lib.byteCells acc) wr ∧ acc.length ≤ 5 * offK l k ∧ Hid (acc = (l.take k).flatMap (changeP lowR))) (fun _ i _ => l.length - (intOf i).toNat)
  case atStart => exact ⟨0, [], rfl, by omega, Below.refl _ _, Own.nil _ _ _, by simp, by simp [Hid]⟩
  case round =>
    obtain ⟨k, acc, rfl, hk, hb, hown, hal, H⟩ := hrel
    by_cases hlt : k < l.length
    · obtain ⟨b, o, rfl, hbl, hcell⟩ := (hrow.below hb) (by intro e; rw [List.map_eq_nil_iff] at e; rw [e] at hlt; simp at hlt)
      obtain ⟨t, ht⟩ : ∃ t, l[k] = t := ⟨_, rfl⟩
      have hc : wr.cell? ⟨b, o + k, none⟩ = some (.string ⟨t.toArray⟩) := by rw [← ht]; exact hcell k _ (getS hlt)
      have hfk := offK_le l (k + 1)
      have hfk1 := offK_succ l k hlt
      have hlk0 : 0 < l[k].length := List.length_pos_iff.2 (hne _ (List.getElem_mem hlt))
      have HN : Hid ((l.take (k + 1)).flatMap (changeP lowR) = (l.take k).flatMap (changeP lowR) ++ changeP lowR t) := by unfold Hid; rw [List.take_succ_eq_append_getElem hlt, List.flatMap_append, ht]; simp
      rw [ht] at hfk1 hlk0
      clear ht hcell
      have hlk : (⟨t.toArray⟩ : ByteArray).size = t.length := by rw [Lib.size_eq]
      have hpt : ∀ W, Calls Tryd.prog 44 #[.string ⟨t.toArray⟩, .int .i64 0] W fun e w' => e = .returned (.tuple #[.int .i64 (point t 0).1, .int .i64 (point t 0).2]) ∧ W = w' := fun W => point_any ⟨t.toArray⟩ 0 W (by rw [hlk]; omega) (by omega)
      have hcl : ∀ W, Calls Tryd.prog 23 #[.string ⟨t.toArray⟩] W fun e w' => e = .returned (.int .i64 (classL t)) ∧ W = w' := fun W => rclass_any ⟨t.toArray⟩ W (by rw [hlk]; omega)
      have hul := changeP_len lowR t
      have hac : (acc ++ changeP lowR t).length ≤ 5 * offK l (k + 1) := by rw [List.length_append]; omega
      have hcv0 : acc.length + t.length ≤ 1000000000 := by omega
      have hac0 : acc.length ≤ 1000000000 := by omega
      have hoff : offK l k + t.length = offK l (k + 1) := by omega
      have HOFF := Lib.hid hoff
      clear hfk hfk1 hoff hul
      have hcc := change1_cases t
      unfold chg1 at hcc
      obtain ⟨P, hP⟩ : ∃ P, (((point t 0).1 : Nat) : Int) = P := ⟨_, rfl⟩
      obtain ⟨c, hcE⟩ : ∃ c, classL t = c := ⟨_, rfl⟩
      obtain ⟨m, hmE⟩ : ∃ m, (point t 0).2 = m := ⟨_, rfl⟩
      rw [hcE] at hcl
      rw [hP, hmE] at hpt
      simp only [hP, hcE] at hcc
      clear hP hcE hmE
      by_cases hq : c = 2
      · obtain ⟨hXe, ⟨hXb, hXc⟩, _⟩ := hcc.1 hq
        have hlat : ∀ W, Calls Tryd.prog 48 #[.int .i64 (lowRE P)] W fun e w' => e = .returned (.string (Utf8.encode (lowRE P))) ∧ Below W.heap.size W w' := fun W => latin_int _ (by unfold lowRE; omega) (by unfold lowRE; omega) W
        have henc := encode_le (lowRE P)
        obtain ⟨EE, hEG⟩ : ∃ EE, Utf8.encode (lowRE P) = EE := ⟨_, rfl⟩
        rw [hEG] at hXe henc
        simp only [hEG] at hlat
        have HN2 : Hid ((l.take (k + 1)).flatMap (changeP lowR) = (l.take k).flatMap (changeP lowR) ++ EE.data.toList) := by rw [Hid, HN.out, hXe]
        have hac2 : (acc ++ EE.data.toList).length ≤ 5 * offK l (k + 1) := by rw [← hXe]; exact hac
        have hcv : acc.length + EE.size ≤ 140737488355328 := by omega
        have HA := Lib.hid hac2
        clear hcc
        unfold lowRE at hlat
        clear hlk hXe hac hac2 hEG HN
        subst hq
        go_wp2_with (first | (go_at_call 44; refine (hpt _).mono ?_; rintro e w2 ⟨rfl, rfl⟩) | (go_at_call 23; refine (hcl _).mono ?_; rintro e w2 ⟨rfl, rfl⟩) | (go_at_call 48; refine (hlat _).mono ?_; rintro e w2 ⟨rfl, hb2⟩; have hown2 := hown.below hb2; have hbA := bstep hb hb2) | (at_builtin; refine wpList_appS rfl (.tmp 30) (.tmp 33) 42 9 rfl w1.heap.size 5 i0 Tryd.underlying42 Tryd.underlying9 hi hz0 hz1 hz2 _ acc rfl hown2 rfl hcv hbA.size ?_; intro v' w3 hown4 hb4))
        go_roundw
        case rel => exact ⟨k + 1, acc ++ EE.data.toList, by go_num, by omega, hbA.trans hb4, hown4, HA.out, by unfold Hid; rw [HN2.out, H.out]⟩
        case measure => simp [intOf]; omega
      · have hX := hcc.2 hq
        have HN2 : Hid ((l.take (k + 1)).flatMap (changeP lowR) = (l.take k).flatMap (changeP lowR) ++ t) := by rw [Hid, HN.out, hX]
        have hac2 : (acc ++ t).length ≤ 5 * offK l (k + 1) := by rw [← hX]; simpa using hac
        have hcv : acc.length + (⟨t.toArray⟩ : ByteArray).size ≤ 140737488355328 := by rw [hlk]; omega
        have HA := Lib.hid hac2
        clear hlk hX hac hac2 hcc HN
        have e2 : (c == 2) = false := by simp [hq]
        all_goals
          go_wp2_with (first | (go_at_call 44; refine (hpt _).mono ?_; rintro e w2 ⟨rfl, rfl⟩) | (go_at_call 23; refine (hcl _).mono ?_; rintro e w2 ⟨rfl, rfl⟩) | (at_builtin; refine wpList_appS rfl (.tmp 35) (.tmp 39) 42 9 rfl w1.heap.size 5 i0 Tryd.underlying42 Tryd.underlying9 hi hz0 hz1 hz2 _ acc rfl hown rfl hcv hb.size ?_; intro v' w3 hown4 hb4))
          go_roundw
          case rel => exact ⟨k + 1, acc ++ t, by go_num, by omega, hb.trans hb4, hown4, HA.out, by unfold Hid; rw [HN2.out, H.out]⟩
          case measure => simp [intOf]; omega
    · obtain rfl : k = l.length := by omega
      have hcv := own_string Tryd.underlying42 Tryd.underlying5 Tryd.underlying9 hown
      go_wp2_with fail
      go_returns
      exact ⟨by rw [h0.out, H.out, List.take_length]; rfl, bstep hb1 hb⟩
set_option maxHeartbeats 2000000 in
set_option maxRecDepth 100000 in
theorem rUpper_any (s : ByteArray) (w : World) (hs : s.size ≤ 100000000) :
    Calls Tryd.prog 27 #[.string s] w fun e w' => e = .returned (.string ⟨(changeL upR s.data.toList).toArray⟩) ∧ Below w.heap.size w w' := by
  obtain ⟨i0, hi, hz0, hz1, hz2⟩ := info_parts byteInfo
  have h0 : Hid (changeL upR s.data.toList = (pieces s.data.toList).flatMap (changeP upR)) := rfl
  have hpc := pieces_any s w (by omega)
  have hfl := Lib.hid (pieces_flat s.data.toList)
  have hne := pieces_ne s.data.toList
  have hpl := pieces_len s.data.toList
  have hsz := Lib.size_eq s
  have hpl2 : (pieces s.data.toList).length ≤ 100000000 := by omega
  clear hpl hsz
  generalize pieces s.data.toList = l at *
  have hfl2 : l.flatten.length ≤ 100000000 := by rw [hfl.out, ← Lib.size_eq]; exact hs
  go_enter Tryd.func27, Tryd.ntmps27
  go_wp2_with (first | (go_at_call 22; refine hpc.mono ?_; rintro e w1 ⟨A, cap, rfl, hcap, hrow, hb1⟩))
  go_loopw [3, 5] (fun v i wr => ∃ (k : Nat) (acc : Bs), i = .int .i64 k ∧ k ≤ l.length ∧ Below w1.heap.size w1 wr ∧ Own w1.heap.size 5 v (Lib.byteCells acc) wr ∧ acc.length ≤ 5 * offK l k ∧ Hid (acc = (l.take k).flatMap (changeP upR))) (fun _ i _ => l.length - (intOf i).toNat)
  case atStart => exact ⟨0, [], rfl, by omega, Below.refl _ _, Own.nil _ _ _, by simp, by simp [Hid]⟩
  case round =>
    obtain ⟨k, acc, rfl, hk, hb, hown, hal, H⟩ := hrel
    by_cases hlt : k < l.length
    · obtain ⟨b, o, rfl, hbl, hcell⟩ := (hrow.below hb) (by intro e; rw [List.map_eq_nil_iff] at e; rw [e] at hlt; simp at hlt)
      obtain ⟨t, ht⟩ : ∃ t, l[k] = t := ⟨_, rfl⟩
      have hc : wr.cell? ⟨b, o + k, none⟩ = some (.string ⟨t.toArray⟩) := by rw [← ht]; exact hcell k _ (getS hlt)
      have hfk := offK_le l (k + 1)
      have hfk1 := offK_succ l k hlt
      have hlk0 : 0 < l[k].length := List.length_pos_iff.2 (hne _ (List.getElem_mem hlt))
      have HN : Hid ((l.take (k + 1)).flatMap (changeP upR) = (l.take k).flatMap (changeP upR) ++ changeP upR t) := by unfold Hid; rw [List.take_succ_eq_append_getElem hlt, List.flatMap_append, ht]; simp
      rw [ht] at hfk1 hlk0
      clear ht hcell
      have hlk : (⟨t.toArray⟩ : ByteArray).size = t.length := by rw [Lib.size_eq]
      have hpt : ∀ W, Calls Tryd.prog 44 #[.string ⟨t.toArray⟩, .int .i64 0] W fun e w' => e = .returned (.tuple #[.int .i64 (point t 0).1, .int .i64 (point t 0).2]) ∧ W = w' := fun W => point_any ⟨t.toArray⟩ 0 W (by rw [hlk]; omega) (by omega)
      have hcl : ∀ W, Calls Tryd.prog 23 #[.string ⟨t.toArray⟩] W fun e w' => e = .returned (.int .i64 (classL t)) ∧ W = w' := fun W => rclass_any ⟨t.toArray⟩ W (by rw [hlk]; omega)
      have hul := changeP_len upR t
      have hac : (acc ++ changeP upR t).length ≤ 5 * offK l (k + 1) := by rw [List.length_append]; omega
      have hcv0 : acc.length + t.length ≤ 1000000000 := by omega
      have hac0 : acc.length ≤ 1000000000 := by omega
      have hoff : offK l k + t.length = offK l (k + 1) := by omega
      have HOFF := Lib.hid hoff
      clear hfk hfk1 hoff hul
      have hcc := change2_cases t
      unfold chg2 at hcc
      obtain ⟨P, hP⟩ : ∃ P, (((point t 0).1 : Nat) : Int) = P := ⟨_, rfl⟩
      obtain ⟨c, hcE⟩ : ∃ c, classL t = c := ⟨_, rfl⟩
      obtain ⟨m, hmE⟩ : ∃ m, (point t 0).2 = m := ⟨_, rfl⟩
      rw [hcE] at hcl
      rw [hP, hmE] at hpt
      simp only [hP, hcE] at hcc
      clear hP hcE hmE
      by_cases hq : c = 1 ∧ P ≠ 181 ∧ P ≠ 223 ∧ P ≠ 255
      · obtain ⟨hXe, ⟨hXb, hXc⟩, _⟩ := hcc.1 hq
        have hlat : ∀ W, Calls Tryd.prog 48 #[.int .i64 (upRE P)] W fun e w' => e = .returned (.string (Utf8.encode (upRE P))) ∧ Below W.heap.size W w' := fun W => latin_int _ (by unfold upRE; omega) (by unfold upRE; omega) W
        have henc := encode_le (upRE P)
        obtain ⟨EE, hEG⟩ : ∃ EE, Utf8.encode (upRE P) = EE := ⟨_, rfl⟩
        rw [hEG] at hXe henc
        simp only [hEG] at hlat
        have HN2 : Hid ((l.take (k + 1)).flatMap (changeP upR) = (l.take k).flatMap (changeP upR) ++ EE.data.toList) := by rw [Hid, HN.out, hXe]
        have hac2 : (acc ++ EE.data.toList).length ≤ 5 * offK l (k + 1) := by rw [← hXe]; exact hac
        have hcv : acc.length + EE.size ≤ 140737488355328 := by omega
        have HA := Lib.hid hac2
        clear hcc
        unfold upRE at hlat
        clear hlk hXe hac hac2 hEG HN
        obtain ⟨rfl, ha, hb', hc'⟩ := hq
        have ea : (P != 181) = true := by simp [ha]
        have eb : (P != 223) = true := by simp [hb']
        have ec : (P != 255) = true := by simp [hc']
        go_wp2_with (first | (go_at_call 44; refine (hpt _).mono ?_; rintro e w2 ⟨rfl, rfl⟩) | (go_at_call 23; refine (hcl _).mono ?_; rintro e w2 ⟨rfl, rfl⟩) | (go_at_call 48; refine (hlat _).mono ?_; rintro e w2 ⟨rfl, hb2⟩; have hown2 := hown.below hb2; have hbA := bstep hb hb2) | (at_builtin; refine wpList_appS rfl (.tmp 42) (.tmp 45) 42 9 rfl w1.heap.size 5 i0 Tryd.underlying42 Tryd.underlying9 hi hz0 hz1 hz2 _ acc rfl hown2 rfl hcv hbA.size ?_; intro v' w3 hown4 hb4))
        go_roundw
        case rel => exact ⟨k + 1, acc ++ EE.data.toList, by go_num, by omega, hbA.trans hb4, hown4, HA.out, by unfold Hid; rw [HN2.out, H.out]⟩
        case measure => simp [intOf]; omega
      · have hX := hcc.2 hq
        have HN2 : Hid ((l.take (k + 1)).flatMap (changeP upR) = (l.take k).flatMap (changeP upR) ++ t) := by rw [Hid, HN.out, hX]
        have hac2 : (acc ++ t).length ≤ 5 * offK l (k + 1) := by rw [← hX]; simpa using hac
        have hcv : acc.length + (⟨t.toArray⟩ : ByteArray).size ≤ 140737488355328 := by rw [hlk]; omega
        have HA := Lib.hid hac2
        clear hlk hX hac hac2 hcc HN
        have hcase : (c == 1) = false ∨ c = 1 ∧ P = 181 ∨ c = 1 ∧ P = 223 ∨ c = 1 ∧ P = 255 := by simp; omega
        clear hq
        rcases hcase with e1 | ⟨rfl, rfl⟩ | ⟨rfl, rfl⟩ | ⟨rfl, rfl⟩
        all_goals
          go_wp2_with (first | (go_at_call 44; refine (hpt _).mono ?_; rintro e w2 ⟨rfl, rfl⟩) | (go_at_call 23; refine (hcl _).mono ?_; rintro e w2 ⟨rfl, rfl⟩) | (at_builtin; refine wpList_appS rfl (.tmp 47) (.tmp 51) 42 9 rfl w1.heap.size 5 i0 Tryd.underlying42 Tryd.underlying9 hi hz0 hz1 hz2 _ acc rfl hown rfl hcv hb.size ?_; intro v' w3 hown4 hb4))
          go_roundw
          case rel => exact ⟨k + 1, acc ++ t, by go_num, by omega, hb.trans hb4, hown4, HA.out, by unfold Hid; rw [HN2.out, H.out]⟩
          case measure => simp [intOf]; omega
    · obtain rfl : k = l.length := by omega
      have hcv := own_string Tryd.underlying42 Tryd.underlying5 Tryd.underlying9 hown
      go_wp2_with fail
      go_returns
      exact ⟨by rw [h0.out, H.out, List.take_length]; rfl, bstep hb1 hb⟩
end Go.Proofs.YtbpfbceagdikoaaDoor
