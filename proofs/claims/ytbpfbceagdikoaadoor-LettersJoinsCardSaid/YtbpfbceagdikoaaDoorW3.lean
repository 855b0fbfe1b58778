/- Walks of layer 1: the change of the case, letter by letter. -/
import Derived.Test.YtbpfbceagdikoaaDoorW2
namespace Go.Proofs.YtbpfbceagdikoaaDoor
open Go.RowKit
set_option linter.unusedVariables false

set_option maxHeartbeats 400000 in
theorem Lower1_any (r : Int) (w : World) (hT : Tabs w) (h0 : 0 ≤ r) (h1 : r ≤ 1114111) :
    Calls Tryd.prog 47 #[.int .i32 r] w fun e w' => e = .returned (.int .i32 (lowR r)) ∧ Below w.heap.size w w' := by
  obtain ⟨v, hv⟩ : ∃ v, clsOf r = v := ⟨_, rfl⟩
  have hof := fun w h => of_any r w h
  rw [hv] at hof
  by_cases h2 : v = 2
  · subst h2
    have HQ : Hid (lowR r = r + 32) := by unfold Hid lowR; rw [hv]; simp [lowRC, lowRD, lowRE]
    clear hv
    go_enter Tryd.func47, Tryd.ntmps47
    go_wp2_with (first | (go_at_call 35; refine (hof _ hT).mono ?_; rintro e w1 ⟨rfl, hb⟩))
    go_returns
    exact ⟨ret_int HQ.out.symm, hb⟩
  · have HQ : Hid (lowR r = r) := by unfold Hid lowR; rw [hv]; simp [lowRC, h2]
    clear hv
    go_enter Tryd.func47, Tryd.ntmps47
    go_wp2_with (first | (go_at_call 35; refine (hof _ hT).mono ?_; rintro e w1 ⟨rfl, hb⟩))
    go_returns
    exact ⟨ret_int HQ.out.symm, hb⟩
set_option maxHeartbeats 400000 in
theorem Upper1_any (r : Int) (w : World) (hT : Tabs w) (h0 : 0 ≤ r) (h1 : r ≤ 1114111) :
    Calls Tryd.prog 49 #[.int .i32 r] w fun e w' => e = .returned (.int .i32 (upR r)) ∧ Below w.heap.size w w' := by
  obtain ⟨v, hv⟩ : ∃ v, clsOf r = v := ⟨_, rfl⟩
  have hof := fun w h => of_any r w h
  rw [hv] at hof
  by_cases h2 : v = 1 ∧ r ≠ 181 ∧ r ≠ 223 ∧ r ≠ 255
  · have HQ : Hid (upR r = r - 32) := by unfold Hid upR; rw [hv]; simp [upRC, upRD, upRE, h2]
    obtain ⟨rfl, ha, hb, hc⟩ := h2
    have ea : (r != 181) = true := by simp [ha]
    have eb : (r != 223) = true := by simp [hb]
    have ec : (r != 255) = true := by simp [hc]
    clear hv
    go_enter Tryd.func49, Tryd.ntmps49
    go_wp2_with (first | (go_at_call 35; refine (hof _ hT).mono ?_; rintro e w1 ⟨rfl, hb⟩))
    go_returns
    exact ⟨ret_int HQ.out.symm, hb⟩
  · have HQ : Hid (upR r = r) := by unfold Hid upR upRC upRD; rw [hv, if_neg h2]
    clear hv
    have hcase : v ≠ 1 ∨ v = 1 ∧ r = 181 ∨ v = 1 ∧ r = 223 ∨ v = 1 ∧ r = 255 := by omega
    clear h2
    rcases hcase with h2 | ⟨rfl, rfl⟩ | ⟨rfl, rfl⟩ | ⟨rfl, rfl⟩
    · have e1 : (v == 1) = false := by simp [h2]
      go_enter Tryd.func49, Tryd.ntmps49
      go_wp2_with (first | (go_at_call 35; refine (hof _ hT).mono ?_; rintro e w1 ⟨rfl, hb⟩))
      go_returns
      exact ⟨ret_int HQ.out.symm, hb⟩
    all_goals
      go_enter Tryd.func49, Tryd.ntmps49
      go_wp2_with (first | (go_at_call 35; refine (hof _ hT).mono ?_; rintro e w1 ⟨rfl, hb⟩))
      go_returns
      exact ⟨ret_int HQ.out.symm, hb⟩

set_option maxHeartbeats 1000000 in
theorem change1_Lower (t : ByteArray) (r : Int) (ok : Bool) (B b c : Nat) (l : Bs) (w : World) (hT : Tabs w) (hB : 9 ≤ B) (hBw : B ≤ w.heap.size)
    (h : Bld B b l w) (hc : w.cell? ⟨c, 0, none⟩ = some (.func (.func 47) #[] #[])) (hlen : l.length + t.size + 4 ≤ 140737488355328) (h0 : 0 ≤ r) (h1 : r ≤ 1114111) :
    Calls Tryd.prog 59 #[.string t, .int .i32 r, .bool ok, .pointer (some ⟨c, 0, none⟩), .pointer (some ⟨b, 0, none⟩)] w fun e w' => e = .returned (.tuple #[]) ∧ Bld B b (l ++ if ok = true then (Utf8.encode (lowR r)).data.toList else t.data.toList) w' ∧ Below B w w' := by
  have hA : Below w.heap.size w w := Below.refl _ _
  cases ok
  · go_enter Tryd.func59, Tryd.ntmps59
    go_wp2_with (first | (go_at_call 40; refine (WriteString_any B b l _ _ (h.below hA) (by omega) (Nat.le_trans hBw hA.size)).mono ?_; rintro e w2 ⟨rfl, h2, hb2⟩))
    go_returns
    exact ⟨rfl, h2, (hA.mono hBw).trans hb2⟩
  · have he : (Utf8.encode (lowR r)).size ≤ 4 := encode_le _
    have hL := fun w h => Lower1_any r w h h0 h1
    generalize lowR r = R at he hL
    go_enter Tryd.func59, Tryd.ntmps59
    go_wp2_with (first | (go_at_call 47; refine (hL _ (hT.below hA)).mono ?_; rintro e w1 ⟨rfl, hb⟩; replace hA := bstep hA hb; clear hb) | (go_at_call 40; refine (WriteString_any B b l _ _ (h.below hA) (by omega) (Nat.le_trans hBw hA.size)).mono ?_; rintro e w2 ⟨rfl, h2, hb2⟩))
    go_returns
    exact ⟨rfl, h2, (hA.mono hBw).trans hb2⟩

set_option maxHeartbeats 1000000 in
theorem each_Lower (s : ByteArray) (B b c : Nat) (l : Bs) (w : World) (hT : Tabs w) (hB : 9 ≤ B) (hBw : B ≤ w.heap.size) (h : Bld B b l w) (hcB : c < B) (hc : w.cell? ⟨c, 0, none⟩ = some (.func (.func 47) #[] #[])) (hlen : l.length + 5 * s.size ≤ 140737488355320) :
    Calls Tryd.prog 36 #[.string s, .func (.func 59) #[] #[.pointer (some ⟨c, 0, none⟩), .pointer (some ⟨b, 0, none⟩)]] w fun e w' => e = .returned (.tuple #[]) ∧ Bld B b (l ++ changeL lowR s.data.toList) w' ∧ Below B w w' := by
  go_enter Tryd.func36, Tryd.ntmps36
  go_wp2_with fail
  go_loopw [0] (fun v wr => ∃ (s' : ByteArray) (done : Bs), v = .string s' ∧ Bld B b (l ++ done) wr ∧ Below B w wr ∧ done.length + 5 * s'.size ≤ 5 * s.size ∧ Hid (changeL lowR s.data.toList = done ++ changeL lowR s'.data.toList)) (fun v _ => strLen v)
  case atStart => exact ⟨s, [], rfl, by simpa using h, Below.refl _ _, by simp, rfl⟩
  case round =>
    obtain ⟨s', done, rfl, hbl, hb, hl, H⟩ := hrel
    by_cases he : s'.size = 0
    · have hemp := isEmpty_of he
      have h0 : Hid (changeL lowR s'.data.toList = []) := by unfold Hid changeL; rw [data_nil he]; rfl
      go_wp2
      go_returns
      exact ⟨rfl, by rw [H.out, h0.out, List.append_nil]; exact hbl, hb⟩
    · have hemp := not_isEmpty_of he
      have hpc := piece_any s' wr (hT.belowB hB hb)
      have hst := Lib.hid (change_step lowR s' he)
      have hn1 := dec_bd s' he
      have hrb := dec_rune s'
      obtain ⟨r, hr⟩ : ∃ r, (Lib.decodeGo s').1 = r := ⟨_, rfl⟩
      obtain ⟨n, hn⟩ : ∃ n, (Lib.decodeGo s').2 = n := ⟨_, rfl⟩
      obtain ⟨k, hk⟩ : ∃ k, okL s'.data.toList = k := ⟨_, rfl⟩
      rw [hr, hn, hk] at hpc hst
      rw [hn] at hn1
      rw [hr] at hrb
      clear hr hn hk
      obtain ⟨hna, hnb⟩ := hn1
      have hts2 : (s'.extract 0 n).size ≤ n := by rw [Lib.size_eq, ext_data]; simp; omega
      have hrs : (s'.extract n s'.size).size = s'.size - n := by rw [Lib.size_eq, ext_data]; simp
      have hu1 : (if k = true then (Utf8.encode (lowR r)).data.toList else (s'.extract 0 n).data.toList).length ≤ 4 + n := by
        split
        · have := encode_le (lowR r); rw [Lib.size_eq] at this; omega
        · rw [← Lib.size_eq]; omega
      have hch := change1_Lower (s'.extract 0 n) r k B b c (l ++ done)
      generalize hXe : (if k = true then (Utf8.encode (lowR r)).data.toList else (s'.extract 0 n).data.toList) = X at hu1 hch hst
      clear hXe
      have Hrs := Lib.hid hrs
      clear hrs
      have Hch := Lib.hid hch
      clear hch
      have Hc := Lib.hid hc
      clear hc
      go_wp2_with (first | (go_at_call 34; refine hpc.mono ?_; rintro e w1 ⟨rfl, hb1⟩; have hA := hb.trans (hb1.mono (Nat.le_trans hBw hb.size))) | (go_at_call 59; refine (Hch.out _ (hT.belowB hB hA) hB (Nat.le_trans hBw hA.size) (hbl.below hb1) ((hA.cell hcB).trans Hc.out) (by rw [List.length_append]; omega) (by omega) (by omega)).mono ?_; rintro e w2 ⟨rfl, hbl2, hb2⟩))
      go_roundw
      case rel => exact ⟨s'.extract n s'.size, done ++ X, rfl, by rw [← List.append_assoc]; exact hbl2, hA.trans hb2, by rw [List.length_append, Hrs.out]; omega, by unfold Hid; rw [H.out, hst.out, List.append_assoc]⟩
      case measure => simp only [strLen]; rw [Hrs.out]; omega
set_option maxHeartbeats 1000000 in
theorem change_Lower (s : ByteArray) (w : World) (hT : Tabs w) (hlen : 5 * s.size ≤ 140737488355320) :
    Calls Tryd.prog 24 #[.string s] w fun e w' => e = .returned (.string ⟨(changeL lowR s.data.toList).toArray⟩) ∧ Below w.heap.size w w' := by
  have hX := hT.lt
  have h0 : Calls Tryd.prog 46 #[.string s, .func (.func 47) #[] #[]] w fun e w' => e = .returned (.string ⟨(changeL lowR s.data.toList).toArray⟩) ∧ Below w.heap.size w w' := by
    have hb0 : Below w.heap.size w ((w.alloc (.cells #[.func (.func 47) #[] #[]] 60)).alloc (.cells #[.pointer none, .slice none 0 0] 44)) := by go_grown
    have h1 := Bld.new (w.alloc (.cells #[.func (.func 47) #[] #[]] 60))
    have h2 := hT.below hb0
    have hc : ((w.alloc (.cells #[.func (.func 47) #[] #[]] 60)).alloc (.cells #[.pointer none, .slice none 0 0] 44)).cell? ⟨w.heap.size, 0, none⟩ = some (.func (.func 47) #[] #[]) := by simp [go_sem]
    simp only [World.size_alloc] at h1
    have hE := each_Lower s (w.heap.size + 1) (w.heap.size + 1) w.heap.size [] _ h2 (by omega) (by simp) h1 (by omega) hc (by simpa using hlen)
    clear h2 hc
    go_enter Tryd.func46, Tryd.ntmps46
    go_wp2_with (first | (go_at_call 36; refine hE.mono ?_; rintro e w1 ⟨rfl, h3, hb1⟩) | (go_at_call 41; refine (String_any _ _ _ _ h3 (Nat.le_trans (by simp) hb1.size)).mono ?_; rintro e w2 ⟨rfl, hb2⟩))
    go_returns
    exact ⟨rfl, (hb0.trans (hb1.mono (by omega))).trans (hb2.mono (by omega))⟩
  go_enter Tryd.func24, Tryd.ntmps24
  go_wp2_with (go_at_call 46; refine h0.mono ?_; rintro e w1 ⟨rfl, hb⟩)
  go_returns
  exact ⟨rfl, hb⟩
set_option maxHeartbeats 1000000 in
theorem change1_Upper (t : ByteArray) (r : Int) (ok : Bool) (B b c : Nat) (l : Bs) (w : World) (hT : Tabs w) (hB : 9 ≤ B) (hBw : B ≤ w.heap.size)
    (h : Bld B b l w) (hc : w.cell? ⟨c, 0, none⟩ = some (.func (.func 49) #[] #[])) (hlen : l.length + t.size + 4 ≤ 140737488355328) (h0 : 0 ≤ r) (h1 : r ≤ 1114111) :
    Calls Tryd.prog 59 #[.string t, .int .i32 r, .bool ok, .pointer (some ⟨c, 0, none⟩), .pointer (some ⟨b, 0, none⟩)] w fun e w' => e = .returned (.tuple #[]) ∧ Bld B b (l ++ if ok = true then (Utf8.encode (upR r)).data.toList else t.data.toList) w' ∧ Below B w w' := by
  have hA : Below w.heap.size w w := Below.refl _ _
  cases ok
  · go_enter Tryd.func59, Tryd.ntmps59
    go_wp2_with (first | (go_at_call 40; refine (WriteString_any B b l _ _ (h.below hA) (by omega) (Nat.le_trans hBw hA.size)).mono ?_; rintro e w2 ⟨rfl, h2, hb2⟩))
    go_returns
    exact ⟨rfl, h2, (hA.mono hBw).trans hb2⟩
  · have he : (Utf8.encode (upR r)).size ≤ 4 := encode_le _
    have hL := fun w h => Upper1_any r w h h0 h1
    generalize upR r = R at he hL
    go_enter Tryd.func59, Tryd.ntmps59
    go_wp2_with (first | (go_at_call 49; refine (hL _ (hT.below hA)).mono ?_; rintro e w1 ⟨rfl, hb⟩; replace hA := bstep hA hb; clear hb) | (go_at_call 40; refine (WriteString_any B b l _ _ (h.below hA) (by omega) (Nat.le_trans hBw hA.size)).mono ?_; rintro e w2 ⟨rfl, h2, hb2⟩))
    go_returns
    exact ⟨rfl, h2, (hA.mono hBw).trans hb2⟩

set_option maxHeartbeats 1000000 in
theorem each_Upper (s : ByteArray) (B b c : Nat) (l : Bs) (w : World) (hT : Tabs w) (hB : 9 ≤ B) (hBw : B ≤ w.heap.size) (h : Bld B b l w) (hcB : c < B) (hc : w.cell? ⟨c, 0, none⟩ = some (.func (.func 49) #[] #[])) (hlen : l.length + 5 * s.size ≤ 140737488355320) :
    Calls Tryd.prog 36 #[.string s, .func (.func 59) #[] #[.pointer (some ⟨c, 0, none⟩), .pointer (some ⟨b, 0, none⟩)]] w fun e w' => e = .returned (.tuple #[]) ∧ Bld B b (l ++ changeL upR s.data.toList) w' ∧ Below B w w' := by
  go_enter Tryd.func36, Tryd.ntmps36
  go_wp2_with fail
  go_loopw [0] (fun v wr => ∃ (s' : ByteArray) (done : Bs), v = .string s' ∧ Bld B b (l ++ done) wr ∧ Below B w wr ∧ done.length + 5 * s'.size ≤ 5 * s.size ∧ Hid (changeL upR s.data.toList = done ++ changeL upR s'.data.toList)) (fun v _ => strLen v)
  case atStart => exact ⟨s, [], rfl, by simpa using h, Below.refl _ _, by simp, rfl⟩
  case round =>
    obtain ⟨s', done, rfl, hbl, hb, hl, H⟩ := hrel
    by_cases he : s'.size = 0
    · have hemp := isEmpty_of he
      have h0 : Hid (changeL upR s'.data.toList = []) := by unfold Hid changeL; rw [data_nil he]; rfl
      go_wp2
      go_returns
      exact ⟨rfl, by rw [H.out, h0.out, List.append_nil]; exact hbl, hb⟩
    · have hemp := not_isEmpty_of he
      have hpc := piece_any s' wr (hT.belowB hB hb)
      have hst := Lib.hid (change_step upR s' he)
      have hn1 := dec_bd s' he
      have hrb := dec_rune s'
      obtain ⟨r, hr⟩ : ∃ r, (Lib.decodeGo s').1 = r := ⟨_, rfl⟩
      obtain ⟨n, hn⟩ : ∃ n, (Lib.decodeGo s').2 = n := ⟨_, rfl⟩
      obtain ⟨k, hk⟩ : ∃ k, okL s'.data.toList = k := ⟨_, rfl⟩
      rw [hr, hn, hk] at hpc hst
      rw [hn] at hn1
      rw [hr] at hrb
      clear hr hn hk
      obtain ⟨hna, hnb⟩ := hn1
      have hts2 : (s'.extract 0 n).size ≤ n := by rw [Lib.size_eq, ext_data]; simp; omega
      have hrs : (s'.extract n s'.size).size = s'.size - n := by rw [Lib.size_eq, ext_data]; simp
      have hu1 : (if k = true then (Utf8.encode (upR r)).data.toList else (s'.extract 0 n).data.toList).length ≤ 4 + n := by
        split
        · have := encode_le (upR r); rw [Lib.size_eq] at this; omega
        · rw [← Lib.size_eq]; omega
      have hch := change1_Upper (s'.extract 0 n) r k B b c (l ++ done)
      generalize hXe : (if k = true then (Utf8.encode (upR r)).data.toList else (s'.extract 0 n).data.toList) = X at hu1 hch hst
      clear hXe
      have Hrs := Lib.hid hrs
      clear hrs
      have Hch := Lib.hid hch
      clear hch
      have Hc := Lib.hid hc
      clear hc
      go_wp2_with (first | (go_at_call 34; refine hpc.mono ?_; rintro e w1 ⟨rfl, hb1⟩; have hA := hb.trans (hb1.mono (Nat.le_trans hBw hb.size))) | (go_at_call 59; refine (Hch.out _ (hT.belowB hB hA) hB (Nat.le_trans hBw hA.size) (hbl.below hb1) ((hA.cell hcB).trans Hc.out) (by rw [List.length_append]; omega) (by omega) (by omega)).mono ?_; rintro e w2 ⟨rfl, hbl2, hb2⟩))
      go_roundw
      case rel => exact ⟨s'.extract n s'.size, done ++ X, rfl, by rw [← List.append_assoc]; exact hbl2, hA.trans hb2, by rw [List.length_append, Hrs.out]; omega, by unfold Hid; rw [H.out, hst.out, List.append_assoc]⟩
      case measure => simp only [strLen]; rw [Hrs.out]; omega
set_option maxHeartbeats 1000000 in
theorem change_Upper (s : ByteArray) (w : World) (hT : Tabs w) (hlen : 5 * s.size ≤ 140737488355320) :
    Calls Tryd.prog 26 #[.string s] w fun e w' => e = .returned (.string ⟨(changeL upR s.data.toList).toArray⟩) ∧ Below w.heap.size w w' := by
  have hX := hT.lt
  have h0 : Calls Tryd.prog 46 #[.string s, .func (.func 49) #[] #[]] w fun e w' => e = .returned (.string ⟨(changeL upR s.data.toList).toArray⟩) ∧ Below w.heap.size w w' := by
    have hb0 : Below w.heap.size w ((w.alloc (.cells #[.func (.func 49) #[] #[]] 60)).alloc (.cells #[.pointer none, .slice none 0 0] 44)) := by go_grown
    have h1 := Bld.new (w.alloc (.cells #[.func (.func 49) #[] #[]] 60))
    have h2 := hT.below hb0
    have hc : ((w.alloc (.cells #[.func (.func 49) #[] #[]] 60)).alloc (.cells #[.pointer none, .slice none 0 0] 44)).cell? ⟨w.heap.size, 0, none⟩ = some (.func (.func 49) #[] #[]) := by simp [go_sem]
    simp only [World.size_alloc] at h1
    have hE := each_Upper s (w.heap.size + 1) (w.heap.size + 1) w.heap.size [] _ h2 (by omega) (by simp) h1 (by omega) hc (by simpa using hlen)
    clear h2 hc
    go_enter Tryd.func46, Tryd.ntmps46
    go_wp2_with (first | (go_at_call 36; refine hE.mono ?_; rintro e w1 ⟨rfl, h3, hb1⟩) | (go_at_call 41; refine (String_any _ _ _ _ h3 (Nat.le_trans (by simp) hb1.size)).mono ?_; rintro e w2 ⟨rfl, hb2⟩))
    go_returns
    exact ⟨rfl, (hb0.trans (hb1.mono (by omega))).trans (hb2.mono (by omega))⟩
  go_enter Tryd.func26, Tryd.ntmps26
  go_wp2_with (go_at_call 46; refine h0.mono ?_; rintro e w1 ⟨rfl, hb⟩)
  go_returns
  exact ⟨rfl, hb⟩
end Go.Proofs.YtbpfbceagdikoaaDoor
