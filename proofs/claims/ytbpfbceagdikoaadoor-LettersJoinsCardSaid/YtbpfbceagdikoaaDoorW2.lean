/- Walks of layer 1: what is written into a strings.Builder, piece by piece. -/
import Derived.Test.YtbpfbceagdikoaaDoorW1
namespace Go.Proofs.YtbpfbceagdikoaaDoor
open Go.RowKit

/-- (*Builder).WriteString out of the laying of strings.Join (whose closure bears it) -/
theorem WriteString_any (B b : Nat) (l : Bs) (s : ByteArray) (w : World) (h : Bld B b l w) (hlen : l.length + s.size ≤ 140737488355328) (hBw : B ≤ w.heap.size) :
    Calls Tryd.prog 40 #[.pointer (some ⟨b, 0, none⟩), .string s] w fun e w' => e = .returned (.tuple #[.int .i64 s.size, .nilIface]) ∧ Bld B b (l ++ s.data.toList) w' ∧ Below B w w' := by
  refine (Any.Builder_WriteString_k { Tryd.lays156 with } Tryd.Builder_Extra_156 B b (Lib.byteCells l) s w h (by rw [Lib.byteCells_length]; exact hlen) hBw).mono ?_
  rintro e w' ⟨rfl, h1, h2, _⟩
  exact ⟨rfl, by unfold Bld; rw [Lib.byteCells_append, ← Lib.strCells_eq]; exact Or.inr h1, h2⟩
theorem String_any (B b : Nat) (l : Bs) (w : World) (h : Bld B b l w) (hBw : B ≤ w.heap.size) :
    Calls Tryd.prog 41 #[.pointer (some ⟨b, 0, none⟩)] w fun e w' => e = .returned (.string ⟨l.toArray⟩) ∧ Below B w w' :=
  (Tryd.Builder_String_any_f B b l w h hBw).mono fun _ _ h => ⟨h.1, h.2.2⟩

set_option maxHeartbeats 1000000 in
theorem quote1_any (t : ByteArray) (r : Int) (ok : Bool) (B b : Nat) (l : Bs) (w : World) (ht : 0 < t.size) (hT : Tabs w) (_hB : 9 ≤ B) (hBw : B ≤ w.heap.size)
    (h : Bld B b l w) (hlen : l.length + t.size + 4 ≤ 140737488355328) :
    Calls Tryd.prog 37 #[.string t, .int .i32 r, .bool ok, .pointer (some ⟨b, 0, none⟩)] w fun e w' => e = .returned (.tuple #[]) ∧ Bld B b (l ++ unitQ t.data.toList r ok) w' ∧ Below B w w' := by
  obtain ⟨c, hc⟩ : ∃ c, ctlB r = c := ⟨_, rfl⟩
  obtain ⟨v, hv⟩ : ∃ v, clsOf r = v := ⟨_, rfl⟩
  have hctl := fun w => control_any r w
  have hof := fun w h => of_any r w h
  rw [hc] at hctl
  rw [hv] at hof
  have hd := byte0 t ht
  by_cases h1 : ok = false ∨ c = true
  · have HQ : Hid (unitQ t.data.toList r ok = hexL t[0]) := by unfold Hid unitQ; rw [hc, if_pos h1, hd]
    clear hd hc hv hof
    have hx := hexadecimal_any t[0]
    have hl4 : (hexL t[0]).length = 4 := rfl
    generalize hexL t[0] = X at HQ hx hl4
    rcases h1 with rfl | rfl
    all_goals
      go_enter Tryd.func37, Tryd.ntmps37
      go_wp2_with (first | (go_at_call 38; refine (hctl _).mono ?_; rintro e w1 ⟨rfl, rfl⟩) | (go_at_call 39; refine (hx _).mono ?_; rintro e w1 ⟨rfl, hb1⟩) | (go_at_call 40; refine (WriteString_any B b l _ _ (h.below hb1) (by show l.length + X.length ≤ _; omega) (Nat.le_trans hBw hb1.size)).mono ?_; rintro e w2 ⟨rfl, h2, hb2⟩) | fail)
      all_goals go_returns
      all_goals exact ⟨rfl, by rw [HQ.out]; exact h2, (hb1.mono hBw).trans hb2⟩
  · obtain ⟨rfl, rfl⟩ : ok = true ∧ c = false := by simpa using h1
    have HQ : Hid (unitQ t.data.toList r true = if v = 4 ∨ v = 5 then 37 :: t.data.toList else t.data.toList) := by unfold Hid unitQ; rw [hc, hv]; simp
    clear hd hc hv h1
    have hA : Below w.heap.size w w := Below.refl _ _
    by_cases h4 : v = 4 ∨ v = 5
    · have HQ2 : Hid (unitQ t.data.toList r true = 37 :: t.data.toList) := by rw [Hid, HQ.out, if_pos h4]
      clear HQ
      rcases h4 with rfl | rfl
      all_goals
        go_enter Tryd.func37, Tryd.ntmps37
        go_wp2_with (first | (go_at_call 38; refine (hctl _).mono ?_; rintro e w1 ⟨rfl, rfl⟩) | (go_at_call 35; refine (hof _ (hT.below hA)).mono ?_; rintro e w1 ⟨rfl, hb⟩; replace hA := bstep hA hb; clear hb) | (go_at_call 40; refine (WriteString_any B b l _ _ (h.below hA) (by rw [size_cat]; show l.length + (1 + t.size) ≤ _; omega) (Nat.le_trans hBw hA.size)).mono ?_; rintro e w2 ⟨rfl, h2, hb2⟩))
        go_returns
        exact ⟨rfl, by rw [HQ2.out]; rw [Joins.data_append] at h2; exact h2, (hA.mono hBw).trans hb2⟩
    · have HQ2 : Hid (unitQ t.data.toList r true = t.data.toList) := by rw [Hid, HQ.out, if_neg h4]
      clear HQ
      have n4 : (v == 4) = false := by simp; omega
      have n5 : (v == 5) = false := by simp; omega
      clear h4
      go_enter Tryd.func37, Tryd.ntmps37
      go_wp2_with (first | (go_at_call 38; refine (hctl _).mono ?_; rintro e w1 ⟨rfl, rfl⟩) | (go_at_call 35; refine (hof _ (hT.below hA)).mono ?_; rintro e w1 ⟨rfl, hb⟩; replace hA := bstep hA hb; clear hb) | (go_at_call 40; refine (WriteString_any B b l _ _ (h.below hA) (by omega) (Nat.le_trans hBw hA.size)).mono ?_; rintro e w2 ⟨rfl, h2, hb2⟩))
      go_returns
      exact ⟨rfl, by rw [HQ2.out]; exact h2, (hA.mono hBw).trans hb2⟩

set_option maxHeartbeats 1000000 in
theorem each_quote (s : ByteArray) (B b : Nat) (l : Bs) (w : World) (hT : Tabs w) (hB : 9 ≤ B) (hBw : B ≤ w.heap.size) (h : Bld B b l w) (hlen : l.length + 5 * s.size ≤ 140737488355320) :
    Calls Tryd.prog 36 #[.string s, .func (.func 37) #[] #[.pointer (some ⟨b, 0, none⟩)]] w fun e w' => e = .returned (.tuple #[]) ∧ Bld B b (l ++ quoteP s.data.toList) w' ∧ Below B w w' := by
  go_enter Tryd.func36, Tryd.ntmps36
  go_wp2_with fail
  go_loopw [0] (fun v wr => ∃ (s' : ByteArray) (done : Bs), v = .string s' ∧ Bld B b (l ++ done) wr ∧ Below B w wr ∧ done.length + 5 * s'.size ≤ 5 * s.size ∧ Hid (quoteP s.data.toList = done ++ quoteP s'.data.toList)) (fun v _ => strLen v)
  case atStart => exact ⟨s, [], rfl, by simpa using h, Below.refl _ _, by simp, rfl⟩
  case round =>
    obtain ⟨s', done, rfl, hbl, hb, hl, H⟩ := hrel
    by_cases he : s'.size = 0
    · have hemp := isEmpty_of he
      have h0 : Hid (quoteP s'.data.toList = []) := by unfold Hid quoteP; rw [data_nil he]; rfl
      go_wp2
      go_returns
      exact ⟨rfl, by rw [H.out, h0.out, List.append_nil]; exact hbl, hb⟩
    · have hemp := not_isEmpty_of he
      have hpc := piece_any s' wr (hT.belowB hB hb)
      have hst := Lib.hid (quote_step s' he)
      have hn1 := dec_bd s' he
      have hul := fun t r k => unitQ_len t r k
      obtain ⟨r, hr⟩ : ∃ r, (Lib.decodeGo s').1 = r := ⟨_, rfl⟩
      obtain ⟨n, hn⟩ : ∃ n, (Lib.decodeGo s').2 = n := ⟨_, rfl⟩
      obtain ⟨k, hk⟩ : ∃ k, okL s'.data.toList = k := ⟨_, rfl⟩
      rw [hr, hn, hk] at hpc hst
      rw [hn] at hn1
      clear hr hn hk
      obtain ⟨hna, hnb⟩ := hn1
      have hts : 0 < (s'.extract 0 n).size := by rw [Lib.size_eq, ext_data]; simp; omega
      have hts2 : (s'.extract 0 n).size ≤ n := by rw [Lib.size_eq, ext_data]; simp; omega
      have hrs : (s'.extract n s'.size).size = s'.size - n := by rw [Lib.size_eq, ext_data]; simp
      have hu1 := hul (s'.extract 0 n).data.toList r k
      rw [← Lib.size_eq] at hu1
      clear hul
      have Hrs := Lib.hid hrs
      clear hrs
      go_wp2_with (first | (go_at_call 34; refine hpc.mono ?_; rintro e w1 ⟨rfl, hb1⟩; have hA := hb.trans (hb1.mono (Nat.le_trans hBw hb.size))) | (go_at_call 37; refine (quote1_any (s'.extract 0 n) r k B b (l ++ done) _ hts (hT.belowB hB hA) hB (Nat.le_trans hBw hA.size) (hbl.below hb1) (by rw [List.length_append]; omega)).mono ?_; rintro e w2 ⟨rfl, hbl2, hb2⟩))
      go_roundw
      case rel => exact ⟨s'.extract n s'.size, done ++ unitQ (s'.extract 0 n).data.toList r k, rfl, by rw [← List.append_assoc]; exact hbl2, hA.trans hb2, by rw [List.length_append, Hrs.out]; omega, by unfold Hid; rw [H.out, hst.out, List.append_assoc]⟩
      case measure => simp only [strLen]; rw [Hrs.out]; omega
set_option maxHeartbeats 1000000 in
theorem quote_any (s : ByteArray) (w : World) (hT : Tabs w) (hlen : 5 * s.size ≤ 140737488355320) :
    Calls Tryd.prog 14 #[.string s] w fun e w' => e = .returned (.string ⟨(quoteL s.data.toList).toArray⟩) ∧ Below w.heap.size w w' := by
  by_cases he : s.size = 0
  · have hemp := isEmpty_of he
    have h0 : Hid (quoteL s.data.toList = [37, 48]) := by unfold Hid quoteL; rw [data_nil he]; rfl
    go_enter Tryd.func14, Tryd.ntmps14
    go_wp2
    go_returns
    exact ⟨by rw [h0.out]; rfl, Below.refl _ _⟩
  · have hemp := not_isEmpty_of he
    have h0 : Hid (quoteL s.data.toList = quoteP s.data.toList) := by unfold Hid quoteL; rw [if_neg (data_ne he)]
    have hX := hT.lt
    have h1 : Bld w.heap.size w.heap.size [] (w.alloc (.cells #[.pointer none, .slice none 0 0] 44)) := Bld.new w
    have h2 : Tabs (w.alloc (.cells #[.pointer none, .slice none 0 0] 44)) := hT.below ((Below.refl _ _).alloc (Nat.le_refl _) _)
    go_enter Tryd.func14, Tryd.ntmps14
    go_wp2_with (first | (go_at_call 36; refine (each_quote s w.heap.size w.heap.size [] _ h2 hX (by simp) h1 (by simpa using hlen)).mono ?_; rintro e w1 ⟨rfl, h3, hb1⟩) | (go_at_call 41; refine (String_any _ _ _ _ h3 (Nat.le_trans (by simp) hb1.size)).mono ?_; rintro e w2 ⟨rfl, hb2⟩))
    go_returns
    exact ⟨by rw [h0.out]; rfl, (((Below.refl _ _).alloc (Nat.le_refl _) _).trans hb1).trans hb2⟩
end Go.Proofs.YtbpfbceagdikoaaDoor
